/- QueryTells: of any path whether it may be, of one that may its text; of any two whether they are one. Conditions: none but the row's own (the two tables of unicode/utf8 as the program lays them). -/
import Derived.Test.YtbpbfboaofkpaaaDoorQtQ5
import Derived.Test.YtbpbfboaofkpaaaDoorCards
import Derived.Test.YtbpbfboaofkpaaaDoorTie
import Derived.SevenTiedAt
import Derived.ChangeMaps5
section
namespace Go.Proofs.YtbpbfboaofkpaaaDoor.Print
open Go.RowKit Go.Proofs.YtbpbfboaofkpaaaDoorW.PrintWords Go.Proofs.YtbpbfboaofkpaaaDoorW.PrintLast Go.Proofs.YtbpbfboaofkpaaaDoorW.PrintMore
attribute [local go_sem] max2_int min2_int max_two min_two max_three min_three max_four min_four
set_option linter.unusedVariables false
set_option linter.unusedSimpArgs false
set_option maxHeartbeats 8000000 in
set_option maxRecDepth 100000 in
theorem triviumlaw12_QueryTells.calls (k : Nat) (a0_0 : Int) (a0_1 : ByteArray) (A0_2 : Option Addr) (c0_2 : Nat) (l0_2 : List ByteArray) (A0_3 : Option Addr) (c0_3 : Nat) (l0_3 : List (S37)) (a1_0 : Int) (a1_1 : ByteArray) (A1_2 : Option Addr) (c1_2 : Nat) (l1_2 : List ByteArray) (A1_3 : Option Addr) (c1_3 : Nat) (l1_3 : List (S37)) (r : Bool) (w : World) (hT : Tabs w) (hr0_2 : Kd.C Kd.string w A0_2 l0_2.length l0_2) (hc0_2 : l0_2.length ≤ c0_2) (hr0_3 : Kd.C k37 w A0_3 l0_3.length l0_3) (hc0_3 : l0_3.length ≤ c0_3) (hr1_2 : Kd.C Kd.string w A1_2 l1_2.length l1_2) (hc1_2 : l1_2.length ≤ c1_2) (hr1_3 : Kd.C k37 w A1_3 l1_3.length l1_3) (hc1_3 : l1_3.length ≤ c1_3) (h : triviumlaw12_QueryTells.f k a0_0 a0_1 l0_2 l0_3 a1_0 a1_1 l1_2 l1_3 = some r) :
  Calls Tryd.prog 11 #[.agg #[.int .i64 a0_0, .string a0_1, .slice A0_2 l0_2.length c0_2, .slice A0_3 l0_3.length c0_3], .agg #[.int .i64 a1_0, .string a1_1, .slice A1_2 l1_2.length c1_2, .slice A1_3 l1_3.length c1_3]] w fun e w' => e = .returned (.bool r) ∧ Below w.heap.size w w' := by
 have HT := Y0.mk hT
 clear hT
 have hu37 := Tryd.underlying37
 have HR0_2 := Y0.mk hr0_2
 have HC0_2 := Y0.mk hc0_2
 clear hr0_2 hc0_2
 have HR0_3 := Y0.mk hr0_3
 have HC0_3 := Y0.mk hc0_3
 clear hr0_3 hc0_3
 have HR1_2 := Y0.mk hr1_2
 have HC1_2 := Y0.mk hc1_2
 clear hr1_2 hc1_2
 have HR1_3 := Y0.mk hr1_3
 have HC1_3 := Y0.mk hc1_3
 clear hr1_3 hc1_3
 have HB := Y0.mk (Below.refl w.heap.size w)
 have H : ((Yn.f k a0_0 a0_1 l0_2 l0_3 0).bind fun t103 => (if t103 = true then (triviumlaw12_QueryTells.j0 k true a0_0 a0_1 l0_2 l0_3 a1_0 a1_1 l1_2 l1_3) else ((Yn.f k a1_0 a1_1 l1_2 l1_3 0).bind fun t104 => (triviumlaw12_QueryTells.j0 k t104 a0_0 a0_1 l0_2 l0_3 a1_0 a1_1 l1_2 l1_3)))) = some r := h
 clear h
 have HC3 := Y0.mk H
 clear H
 go_enter Tryd.func11, Tryd.ntmps11
 go_upto_region 1 with (first | ((with_reducible refine YF (N := 2) rfl ?_); refine YA ?hg (N := 2) ?hd (cs := #[.int .i64 a0_0, .string a0_1, .slice A0_2 l0_2.length c0_2, .slice A0_3 l0_3.length c0_3]) (t := 37) ?hr ?_; (case hd => rfl); (case hg => rfl); (case hr => exact Za); intro gb101 hg w4 hbox hb; have n_ := Y2x (Y6 QB hb) (hbox) ((by rw [hg]; exact (Ya QB) : w.heap.size ≤ gb101)) ((by rw [hg]; exact (Ya QB) : w.heap.size ≤ gb101)); clear HB; obtain ⟨HB, BK101, GW101, GE101⟩ := n_; clear hb hbox hg) | ((with_reducible refine YF (N := 3) rfl ?_); refine YA ?hg (N := 3) ?hd (cs := #[.int .i64 a1_0, .string a1_1, .slice A1_2 l1_2.length c1_2, .slice A1_3 l1_3.length c1_3]) (t := 37) ?hr ?_; (case hd => rfl); (case hg => rfl); (case hr => exact Za); intro gb102 hg w5 hbox hb; have n_ := Y5A (Yj (g := gb101) (o := .cells #[.int .i64 a0_0, .string a0_1, .slice A0_2 l0_2.length c0_2, .slice A0_3 l0_3.length c0_3] 37 (0, 0)) QQ hb) (Y6 QB hb) (hbox) ((by rw [hg]; exact (Ya QB) : w.heap.size ≤ gb102)) ((by rw [hg]; exact (Ya QB) : w.heap.size ≤ gb102)) ((by rw [hg]; exact Nat.ne_of_lt (Y1b (g := gb101) (o := .cells #[.int .i64 a0_0, .string a0_1, .slice A0_2 l0_2.length c0_2, .slice A0_3 l0_3.length c0_3] 37 (0, 0)) QQ) : gb101 ≠ gb102)) ((by rw [hg]; exact Nat.ne_of_gt (Y1b (g := gb101) (o := .cells #[.int .i64 a0_0, .string a0_1, .slice A0_2 l0_2.length c0_2, .slice A0_3 l0_3.length c0_3] 37 (0, 0)) QQ) : gb102 ≠ gb101)); clear BK101 HB; obtain ⟨BK101, HB, BK102, GW102, GE102, NB101_102, NB102_101⟩ := n_; clear hb hbox hg))
 (try simp only [Act.put, List.setIfInBounds_toArray, List.set_cons_zero, List.set_cons_succ])
 go_cut [10] (fun v10 wc => ∃ (kq : Nat) (x10_2 : Bool), v10 = .bool x10_2 ∧ Y0 (triviumlaw12_QueryTells.j0 kq x10_2 a0_0 a0_1 l0_2 l0_3 a1_0 a1_1 l1_2 l1_3 = some r) ∧ Y0 (kq ≤ k) ∧ Y0 (wc.heap[gb101]? = some (.cells #[.int .i64 a0_0, .string a0_1, (.slice A0_2 l0_2.length c0_2), (.slice A0_3 l0_3.length c0_3)] 37 (0, 0))) ∧ Y0 (wc.heap[gb102]? = some (.cells #[.int .i64 a1_0, .string a1_1, (.slice A1_2 l1_2.length c1_2), (.slice A1_3 l1_3.length c1_3)] 37 (0, 0))) ∧ Y0 (Below w.heap.size w wc))
 case first =>
  have H := HC3.out
  clear HC3
  replace H := Option.bind_eq_some_iff.mp H
  obtain ⟨t103, A60, H⟩ := H
  replace H : (if t103 = true then (triviumlaw12_QueryTells.j0 k true a0_0 a0_1 l0_2 l0_3 a1_0 a1_1 l1_2 l1_3) else ((Yn.f k a1_0 a1_1 l1_2 l1_3 0).bind fun t104 => (triviumlaw12_QueryTells.j0 k t104 a0_0 a0_1 l0_2 l0_3 a1_0 a1_1 l1_2 l1_3))) = some r := H
  have A6 := Y0.mk A60
  clear A60
  by_cases c7 : t103 = true
  ·subst c7
   have H1 : (triviumlaw12_QueryTells.j0 k true a0_0 a0_1 l0_2 l0_3 a1_0 a1_1 l1_2 l1_3) = some r := by rw [if_pos rfl] at H; exact H
   clear H
   have H := H1
   clear H1
   have H' := Y0.mk H
   clear H
   have hnb8 := NB101_102.out
   have hnc8 := NB102_101.out
   obtain ⟨hcz9_0, hcz9_1, hcz9_2, hcz9_3, hfz9_0, hfz9_1, hfz9_2, hfz9_3⟩ := YD BK101.out
   go_wp2_with (first | ((with_reducible refine Yw (f := 22) rfl ?_); refine YV (some 6) rfl rfl Tryd.func22 Z6 rfl #[.agg #[.int .i64 a0_0, .string a0_1, .slice A0_2 l0_2.length c0_2, .slice A0_3 l0_3.length c0_3], .int .i64 0] rfl Z0 ?_; (with_reducible refine (Yn.calls k a0_0 a0_1 _ _ l0_2 _ _ l0_3 0 true _ ?side1 ?side2 ?side3 ?side4 A6.out).mono ?_); (case side1 => exact Z5); (case side2 => exact Z10); (case side3 => exact Z7); (case side4 => exact Z13); rintro e w10 ⟨rfl, hb⟩; refine ⟨_, rfl, ?_⟩; have n_ := Y24 (Yj (g := gb101) (o := .cells #[.int .i64 a0_0, .string a0_1, .slice A0_2 l0_2.length c0_2, .slice A0_3 l0_3.length c0_3] 37 (0, 0)) QQ hb) (Yj (g := gb102) (o := .cells #[.int .i64 a1_0, .string a1_1, .slice A1_2 l1_2.length c1_2, .slice A1_3 l1_3.length c1_3] 37 (0, 0)) QQ hb) (Y6 QB hb); clear BK101 BK102 HB; obtain ⟨BK101, BK102, HB⟩ := n_; (try clear hb); (try clear hb2); (try clear hk); (try clear hi)))
   go_meet
   case rel => exact Z1I
  ·replace c7 := Bool.eq_false_iff.mpr c7
   subst c7
   have H1 : ((Yn.f k a1_0 a1_1 l1_2 l1_3 0).bind fun t104 => (triviumlaw12_QueryTells.j0 k t104 a0_0 a0_1 l0_2 l0_3 a1_0 a1_1 l1_2 l1_3)) = some r := by rw [if_neg (show ¬ (false = true) by decide)] at H; exact H
   clear H
   have H := H1
   clear H1
   replace H := Option.bind_eq_some_iff.mp H
   obtain ⟨t104, A110, H⟩ := H
   replace H : (triviumlaw12_QueryTells.j0 k t104 a0_0 a0_1 l0_2 l0_3 a1_0 a1_1 l1_2 l1_3) = some r := H
   have A11 := Y0.mk A110
   clear A110
   have H' := Y0.mk H
   clear H
   have hnb12 := NB101_102.out
   have hnc12 := NB102_101.out
   obtain ⟨hcz13_0, hcz13_1, hcz13_2, hcz13_3, hfz13_0, hfz13_1, hfz13_2, hfz13_3⟩ := YD BK101.out
   go_wp2_with (first | ((with_reducible refine Yw (f := 22) rfl ?_); refine YV (some 6) rfl rfl Tryd.func22 Z6 rfl #[.agg #[.int .i64 a0_0, .string a0_1, .slice A0_2 l0_2.length c0_2, .slice A0_3 l0_3.length c0_3], .int .i64 0] rfl Z0 ?_; (with_reducible refine (Yn.calls k a0_0 a0_1 _ _ l0_2 _ _ l0_3 0 false _ ?side1 ?side2 ?side3 ?side4 A6.out).mono ?_); (case side1 => exact Z5); (case side2 => exact Z10); (case side3 => exact Z7); (case side4 => exact Z13); rintro e w14 ⟨rfl, hb⟩; refine ⟨_, rfl, ?_⟩; have n_ := Y24 (Yj (g := gb101) (o := .cells #[.int .i64 a0_0, .string a0_1, .slice A0_2 l0_2.length c0_2, .slice A0_3 l0_3.length c0_3] 37 (0, 0)) QQ hb) (Yj (g := gb102) (o := .cells #[.int .i64 a1_0, .string a1_1, .slice A1_2 l1_2.length c1_2, .slice A1_3 l1_3.length c1_3] 37 (0, 0)) QQ hb) (Y6 QB hb); clear BK101 BK102 HB; obtain ⟨BK101, BK102, HB⟩ := n_; (try clear hb); (try clear hb2); (try clear hk); (try clear hi); obtain ⟨hcz15_0, hcz15_1, hcz15_2, hcz15_3, hfz15_0, hfz15_1, hfz15_2, hfz15_3⟩ := YD BK102.out) | (go_at_call 22; (with_reducible refine (Yn.calls k a1_0 a1_1 _ _ l1_2 _ _ l1_3 0 t104 _ ?side1 ?side2 ?side3 ?side4 A11.out).mono ?_); (case side1 => exact Zk); (case side2 => exact HC1_2.out); (case side3 => exact Zu); (case side4 => exact HC1_3.out); rintro e w16 ⟨rfl, hb⟩; have n_ := Y24 (Yj (g := gb101) (o := .cells #[.int .i64 a0_0, .string a0_1, .slice A0_2 l0_2.length c0_2, .slice A0_3 l0_3.length c0_3] 37 (0, 0)) QQ hb) (Yj (g := gb102) (o := .cells #[.int .i64 a1_0, .string a1_1, .slice A1_2 l1_2.length c1_2, .slice A1_3 l1_3.length c1_3] 37 (0, 0)) QQ hb) (Y6 QB hb); clear BK101 BK102 HB; obtain ⟨BK101, BK102, HB⟩ := n_; (try clear hb); (try clear hb2); (try clear hk); (try clear hi)))
   go_meet
   case rel => exact ⟨_, (t104), Z9, H', ⟨Zm⟩, ⟨Z4⟩, ⟨Ze⟩, ⟨QB⟩⟩
 case rest =>
  clear HC3
  try clear c1
  try clear c2
  try clear p2
  try clear c7
  try clear c8
  try clear c11
  try clear c12
  try clear hcz13_0 hcz13_1 hcz13_2 hcz13_3
  try clear hcz15_0 hcz15_1 hcz15_2 hcz15_3
  try clear hcz9_0 hcz9_1 hcz9_2 hcz9_3
  try clear hfz13_0
  try clear hfz13_1
  try clear hfz13_2
  try clear hfz13_3
  try clear hfz15_0
  try clear hfz15_1
  try clear hfz15_2
  try clear hfz15_3
  try clear hfz9_0
  try clear hfz9_1
  try clear hfz9_2
  try clear hfz9_3
  obtain ⟨kq, x10_2, rfl, HA, HJ2, BK101, BK102, HB⟩ := hcut
  cases kq with
  | zero => exact absurd HA.out (by simp [triviumlaw12_QueryTells.j0])
  | succ kj2 =>
   have H := HA.out
   clear HA
   simp only [triviumlaw12_QueryTells.j0] at H
   by_cases c17 : x10_2 = true
   ·subst c17
    have H1 : (some true) = some r := by rw [if_pos rfl] at H; exact H
    clear H
    have H := H1
    clear H1
    obtain rfl := Option.some.inj H
    go_wp2
    go_ret
    exact Z1F
   ·replace c17 := Bool.eq_false_iff.mpr c17
    subst c17
    have H1 : ((Y17.f kj2 a0_0 a0_1 l0_2 l0_3).bind fun t105 => ((YU.f kj2 a0_0 a0_1 l0_2 l0_3).bind fun t106 => (if (t105 != t106) = true then (triviumlaw12_QueryTells.j1 kj2 true a0_0 a0_1 l0_2 l0_3) else ((YH.f kj2 a0_0 a0_1 l0_2 l0_3 a1_0 a1_1 l1_2 l1_3).bind fun t107 => ((Y4.f kj2 a0_0 a0_1 l0_2 l0_3 a1_0 a1_1 l1_2 l1_3).bind fun t108 => (if (t107 != t108) = true then (triviumlaw12_QueryTells.j1 kj2 true a0_0 a0_1 l0_2 l0_3) else ((YH.f kj2 a0_0 a0_1 l0_2 l0_3 a0_0 a0_1 l0_2 l0_3).bind fun t109 => (triviumlaw12_QueryTells.j1 kj2 (!t109) a0_0 a0_1 l0_2 l0_3)))))))) = some r := by rw [if_neg (show ¬ (false = true) by decide)] at H; exact H
    clear H
    have H := H1
    clear H1
    have HC18 := Y0.mk H
    clear H
    go_upto_region 3 with (fail)
    go_cut [30] (fun v30 wc => ∃ (kq : Nat) (x30_17 : Bool), v30 = .bool x30_17 ∧ Y0 (triviumlaw12_QueryTells.j1 kq x30_17 a0_0 a0_1 l0_2 l0_3 = some r) ∧ Y0 (kq ≤ kj2) ∧ Y0 (wc.heap[gb101]? = some (.cells #[.int .i64 a0_0, .string a0_1, (.slice A0_2 l0_2.length c0_2), (.slice A0_3 l0_3.length c0_3)] 37 (0, 0))) ∧ Y0 (wc.heap[gb102]? = some (.cells #[.int .i64 a1_0, .string a1_1, (.slice A1_2 l1_2.length c1_2), (.slice A1_3 l1_3.length c1_3)] 37 (0, 0))) ∧ Y0 (Below w.heap.size w wc))
    case first =>
     have H := HC18.out
     clear HC18
     replace H := Option.bind_eq_some_iff.mp H
     obtain ⟨t105, A190, H⟩ := H
     replace H : ((YU.f kj2 a0_0 a0_1 l0_2 l0_3).bind fun t106 => (if (t105 != t106) = true then (triviumlaw12_QueryTells.j1 kj2 true a0_0 a0_1 l0_2 l0_3) else ((YH.f kj2 a0_0 a0_1 l0_2 l0_3 a1_0 a1_1 l1_2 l1_3).bind fun t107 => ((Y4.f kj2 a0_0 a0_1 l0_2 l0_3 a1_0 a1_1 l1_2 l1_3).bind fun t108 => (if (t107 != t108) = true then (triviumlaw12_QueryTells.j1 kj2 true a0_0 a0_1 l0_2 l0_3) else ((YH.f kj2 a0_0 a0_1 l0_2 l0_3 a0_0 a0_1 l0_2 l0_3).bind fun t109 => (triviumlaw12_QueryTells.j1 kj2 (!t109) a0_0 a0_1 l0_2 l0_3))))))) = some r := H
     have A19 := Y0.mk A190
     clear A190
     replace H := Option.bind_eq_some_iff.mp H
     obtain ⟨t106, A200, H⟩ := H
     replace H : (if (t105 != t106) = true then (triviumlaw12_QueryTells.j1 kj2 true a0_0 a0_1 l0_2 l0_3) else ((YH.f kj2 a0_0 a0_1 l0_2 l0_3 a1_0 a1_1 l1_2 l1_3).bind fun t107 => ((Y4.f kj2 a0_0 a0_1 l0_2 l0_3 a1_0 a1_1 l1_2 l1_3).bind fun t108 => (if (t107 != t108) = true then (triviumlaw12_QueryTells.j1 kj2 true a0_0 a0_1 l0_2 l0_3) else ((YH.f kj2 a0_0 a0_1 l0_2 l0_3 a0_0 a0_1 l0_2 l0_3).bind fun t109 => (triviumlaw12_QueryTells.j1 kj2 (!t109) a0_0 a0_1 l0_2 l0_3)))))) = some r := H
     have A20 := Y0.mk A200
     clear A200
     by_cases c21 : (t105 != t106) = true
     ·rw [if_pos c21] at H
      have c21b0 : (t105 != t106) = true := c21
      (try (have c21b1 : decide (t105 = t106) = false := by simpa using c21))
      (try (have c21b2 : (t105 == t106) = false := by simpa using c21))
      (try (have c21b3 : ¬ (t105 = t106) := by simpa using c21))
      clear c21
      (first | rw [c21b0] | (simp only [Y14, Y15]; rw [c21b0]) | skip)
      have H' := Y0.mk H
      clear H
      try go_wp2
      have n_ := Y24 (Yc BK101.out) (Yc BK102.out) (YL HB.out)
      clear BK101
      clear BK102
      clear HB
      obtain ⟨BK101, BK102, HB⟩ := n_
      refine Y1q (n := 20) (S := fun w' => w'.cell? ⟨gb101, 0, none⟩ = some (.int .i64 a0_0) ∧ w'.cell? ⟨gb101, 1, none⟩ = some (.string a0_1) ∧ w'.cell? ⟨gb101, 2, none⟩ = some (.slice A0_2 l0_2.length c0_2) ∧ w'.cell? ⟨gb101, 3, none⟩ = some (.slice A0_3 l0_3.length c0_3)) (ds := []) bz20_0 Z6 rfl rfl ⟨(Y1 BK101.out 0).trans rfl, (Y1 BK101.out 1).trans rfl, (Y1 BK101.out 2).trans rfl, (Y1 BK101.out 3).trans rfl⟩ (fun hHeld => ?_); refine YW triviumlaw12_QueryTells.tab3 triviumlaw12_QueryTells.bits3 (fun HT_ HW_ => ?_)
      generalize wc.drew = w22 at BK101 BK102 HB hHeld ⊢
      refine pT 0 11 bz20_1 ?_
      refine pT 2 13 bz20_5 ?_
      refine Y2b (i := 1) (N := some 12) bz20_7 rfl rfl (Y16 HT_.out Z6) (by decide) (fun K hK => ?_)
      refine Y1r Tryd.func31 Z6 rfl #[.agg #[.int .i64 a0_0, .string a0_1, .slice A0_2 l0_2.length c0_2, .slice A0_3 l0_3.length c0_3]] (by rfl) rfl rfl Z0 ?_
      with_reducible refine (Y17.calls kj2 a0_0 a0_1 _ _ l0_2 _ _ l0_3 t105 _ ?side1 ?side2 ?side3 ?side4 ?side5 A19.out).mono ?_
      (case side1 => exact Z3)
      (case side2 => exact Z5)
      (case side3 => exact Z10)
      (case side4 => exact Z7)
      (case side5 => exact Z13)
      rintro e w23 ⟨rfl, hb⟩
      refine ⟨_, rfl, ?_⟩
      have n_ := Y24 (Yj (g := gb101) (o := .cells #[.int .i64 a0_0, .string a0_1, .slice A0_2 l0_2.length c0_2, .slice A0_3 l0_3.length c0_3] 37 (0, 0)) QQ hb) (Yj (g := gb102) (o := .cells #[.int .i64 a1_0, .string a1_1, .slice A1_2 l1_2.length c1_2, .slice A1_3 l1_3.length c1_3] 37 (0, 0)) QQ hb) (Y6 QB hb)
      clear BK101
      clear BK102
      clear HB
      obtain ⟨BK101, BK102, HB⟩ := n_
      (try clear hb)
      (try clear hb2)
      (try clear hk)
      (try clear hi)
      refine hK.out _ _ ⟨(Y1 BK101.out 0).trans rfl, (Y1 BK101.out 1).trans rfl, (Y1 BK101.out 2).trans rfl, (Y1 BK101.out 3).trans rfl⟩ (fun hHeld => ?_)
      clear hK K
      refine Y1k (a' := ?_) ?_ ?_
      rotate_left
      ·show Act.put _ (some 12) _ = _
       simp only [Act.put, List.setIfInBounds_toArray, List.set_cons_zero, List.set_cons_succ, Y14, Y15]
       rfl
      refine Y2b (i := 3) (N := some 14) bz20_f rfl rfl (Y16 HT_.out Z6) (by decide) (fun K hK => ?_)
      refine Y1r Tryd.func23 Z6 rfl #[.agg #[.int .i64 a0_0, .string a0_1, .slice A0_2 l0_2.length c0_2, .slice A0_3 l0_3.length c0_3]] (by rfl) rfl rfl Z0 ?_
      with_reducible refine (YU.calls kj2 a0_0 a0_1 _ _ l0_2 _ _ l0_3 t106 _ ?side1 ?side2 ?side3 ?side4 ?side5 A20.out).mono ?_
      (case side1 => exact Z3)
      (case side2 => exact Z5)
      (case side3 => exact Z10)
      (case side4 => exact Z7)
      (case side5 => exact Z13)
      rintro e w24 ⟨rfl, hb⟩
      refine ⟨_, rfl, ?_⟩
      have n_ := Y24 (Yj (g := gb101) (o := .cells #[.int .i64 a0_0, .string a0_1, .slice A0_2 l0_2.length c0_2, .slice A0_3 l0_3.length c0_3] 37 (0, 0)) QQ hb) (Yj (g := gb102) (o := .cells #[.int .i64 a1_0, .string a1_1, .slice A1_2 l1_2.length c1_2, .slice A1_3 l1_3.length c1_3] 37 (0, 0)) QQ hb) (Y6 QB hb)
      clear BK101
      clear BK102
      clear HB
      obtain ⟨BK101, BK102, HB⟩ := n_
      (try clear hb)
      (try clear hb2)
      (try clear hk)
      (try clear hi)
      refine hK.out _ _ ⟨(Y1 BK101.out 0).trans rfl, (Y1 BK101.out 1).trans rfl, (Y1 BK101.out 2).trans rfl, (Y1 BK101.out 3).trans rfl⟩ (fun hHeld => ?_)
      clear hK K
      refine Y1k (a' := ?_) ?_ ?_
      rotate_left
      ·show Act.put _ (some 14) _ = _
       simp only [Act.put, List.setIfInBounds_toArray, List.set_cons_zero, List.set_cons_succ, Y14, Y15]
       rfl
      refine pY 4 15 Y5s ?_
      refine pY 5 16 Y5t ?_
      refine pU 6 17 Y5u ?_
      refine pU 7 18 Y5v ?_
      refine pU 8 19 bz20_1ff ?_
      refine pU 9 20 bz20_3ff ?_
      refine pU 10 21 Y4G ?_
      refine pU 11 22 Y4H ?_
      refine pU 12 23 Y3Y ?_
      refine pY 13 24 Y3Z ?_
      refine pY 14 25 Y40 ?_
      refine pU 15 26 Y41 ?_
      refine pU 16 27 Y3u ?_
      refine pU 17 28 Y3v ?_
      refine pU 18 29 Y3w ?_
      refine pY 19 30 Y3x ?_
      refine Y1O (Y1a HT_.out Z6) ?_
      try go_wp2
      go_meet
      case rel => exact ⟨_, (true), Z9, H', ⟨ZH⟩, ⟨Z4⟩, ⟨Ze⟩, ⟨QB⟩⟩
     ·rw [if_neg c21] at H
      have c21b0 : (t105 != t106) = false := by simpa using c21
      (try (have c21b1 : decide (t105 = t106) = true := by simpa using c21))
      (try (have c21b2 : (t105 == t106) = true := by simpa using c21))
      clear c21
      (first | rw [c21b0] | (simp only [Y14, Y15]; rw [c21b0]) | skip)
      replace H := Option.bind_eq_some_iff.mp H
      obtain ⟨t107, A250, H⟩ := H
      replace H : ((Y4.f kj2 a0_0 a0_1 l0_2 l0_3 a1_0 a1_1 l1_2 l1_3).bind fun t108 => (if (t107 != t108) = true then (triviumlaw12_QueryTells.j1 kj2 true a0_0 a0_1 l0_2 l0_3) else ((YH.f kj2 a0_0 a0_1 l0_2 l0_3 a0_0 a0_1 l0_2 l0_3).bind fun t109 => (triviumlaw12_QueryTells.j1 kj2 (!t109) a0_0 a0_1 l0_2 l0_3)))) = some r := H
      have A25 := Y0.mk A250
      clear A250
      replace H := Option.bind_eq_some_iff.mp H
      obtain ⟨t108, A260, H⟩ := H
      replace H : (if (t107 != t108) = true then (triviumlaw12_QueryTells.j1 kj2 true a0_0 a0_1 l0_2 l0_3) else ((YH.f kj2 a0_0 a0_1 l0_2 l0_3 a0_0 a0_1 l0_2 l0_3).bind fun t109 => (triviumlaw12_QueryTells.j1 kj2 (!t109) a0_0 a0_1 l0_2 l0_3))) = some r := H
      have A26 := Y0.mk A260
      clear A260
      by_cases c27 : (t107 != t108) = true
      ·rw [if_pos c27] at H
       have c27b0 : (t107 != t108) = true := c27
       (try (have c27b1 : decide (t107 = t108) = false := by simpa using c27))
       (try (have c27b2 : (t107 == t108) = false := by simpa using c27))
       (try (have c27b3 : ¬ (t107 = t108) := by simpa using c27))
       clear c27
       have H' := Y0.mk H
       clear H
       try go_wp2
       have n_ := Y24 (Yc BK101.out) (Yc BK102.out) (YL HB.out)
       clear BK101
       clear BK102
       clear HB
       obtain ⟨BK101, BK102, HB⟩ := n_
       refine Y1q (n := 20) (S := fun w' => w'.cell? ⟨gb101, 0, none⟩ = some (.int .i64 a0_0) ∧ w'.cell? ⟨gb101, 1, none⟩ = some (.string a0_1) ∧ w'.cell? ⟨gb101, 2, none⟩ = some (.slice A0_2 l0_2.length c0_2) ∧ w'.cell? ⟨gb101, 3, none⟩ = some (.slice A0_3 l0_3.length c0_3) ∧ w'.cell? ⟨gb102, 0, none⟩ = some (.int .i64 a1_0) ∧ w'.cell? ⟨gb102, 1, none⟩ = some (.string a1_1) ∧ w'.cell? ⟨gb102, 2, none⟩ = some (.slice A1_2 l1_2.length c1_2) ∧ w'.cell? ⟨gb102, 3, none⟩ = some (.slice A1_3 l1_3.length c1_3)) (ds := []) bz20_0 Z6 rfl rfl ⟨(Y1 BK101.out 0).trans rfl, (Y1 BK101.out 1).trans rfl, (Y1 BK101.out 2).trans rfl, (Y1 BK101.out 3).trans rfl, (Y1 BK102.out 0).trans rfl, (Y1 BK102.out 1).trans rfl, (Y1 BK102.out 2).trans rfl, (Y1 BK102.out 3).trans rfl⟩ (fun hHeld => ?_); refine YW triviumlaw12_QueryTells.tab3 triviumlaw12_QueryTells.bits3 (fun HT_ HW_ => ?_)
       generalize wc.drew = w28 at BK101 BK102 HB hHeld ⊢
       refine pT 0 11 bz20_1 ?_
       refine pT 2 13 bz20_5 ?_
       refine Y2b (i := 1) (N := some 12) bz20_7 rfl rfl (Y16 HT_.out Z6) (by decide) (fun K hK => ?_)
       refine Y1r Tryd.func31 Z6 rfl #[.agg #[.int .i64 a0_0, .string a0_1, .slice A0_2 l0_2.length c0_2, .slice A0_3 l0_3.length c0_3]] (by rfl) rfl rfl Z0 ?_
       with_reducible refine (Y17.calls kj2 a0_0 a0_1 _ _ l0_2 _ _ l0_3 t105 _ ?side1 ?side2 ?side3 ?side4 ?side5 A19.out).mono ?_
       (case side1 => exact Z3)
       (case side2 => exact Z5)
       (case side3 => exact Z10)
       (case side4 => exact Z7)
       (case side5 => exact Z13)
       rintro e w29 ⟨rfl, hb⟩
       refine ⟨_, rfl, ?_⟩
       have n_ := Y24 (Yj (g := gb101) (o := .cells #[.int .i64 a0_0, .string a0_1, .slice A0_2 l0_2.length c0_2, .slice A0_3 l0_3.length c0_3] 37 (0, 0)) QQ hb) (Yj (g := gb102) (o := .cells #[.int .i64 a1_0, .string a1_1, .slice A1_2 l1_2.length c1_2, .slice A1_3 l1_3.length c1_3] 37 (0, 0)) QQ hb) (Y6 QB hb)
       clear BK101
       clear BK102
       clear HB
       obtain ⟨BK101, BK102, HB⟩ := n_
       (try clear hb)
       (try clear hb2)
       (try clear hk)
       (try clear hi)
       refine hK.out _ _ ⟨(Y1 BK101.out 0).trans rfl, (Y1 BK101.out 1).trans rfl, (Y1 BK101.out 2).trans rfl, (Y1 BK101.out 3).trans rfl, (Y1 BK102.out 0).trans rfl, (Y1 BK102.out 1).trans rfl, (Y1 BK102.out 2).trans rfl, (Y1 BK102.out 3).trans rfl⟩ (fun hHeld => ?_)
       clear hK K
       refine Y1k (a' := ?_) ?_ ?_
       rotate_left
       ·show Act.put _ (some 12) _ = _
        simp only [Act.put, List.setIfInBounds_toArray, List.set_cons_zero, List.set_cons_succ, Y14, Y15]
        rfl
       refine Y2b (i := 3) (N := some 14) bz20_f rfl rfl (Y16 HT_.out Z6) (by decide) (fun K hK => ?_)
       refine Y1r Tryd.func23 Z6 rfl #[.agg #[.int .i64 a0_0, .string a0_1, .slice A0_2 l0_2.length c0_2, .slice A0_3 l0_3.length c0_3]] (by rfl) rfl rfl Z0 ?_
       with_reducible refine (YU.calls kj2 a0_0 a0_1 _ _ l0_2 _ _ l0_3 t106 _ ?side1 ?side2 ?side3 ?side4 ?side5 A20.out).mono ?_
       (case side1 => exact Z3)
       (case side2 => exact Z5)
       (case side3 => exact Z10)
       (case side4 => exact Z7)
       (case side5 => exact Z13)
       rintro e w30 ⟨rfl, hb⟩
       refine ⟨_, rfl, ?_⟩
       have n_ := Y24 (Yj (g := gb101) (o := .cells #[.int .i64 a0_0, .string a0_1, .slice A0_2 l0_2.length c0_2, .slice A0_3 l0_3.length c0_3] 37 (0, 0)) QQ hb) (Yj (g := gb102) (o := .cells #[.int .i64 a1_0, .string a1_1, .slice A1_2 l1_2.length c1_2, .slice A1_3 l1_3.length c1_3] 37 (0, 0)) QQ hb) (Y6 QB hb)
       clear BK101
       clear BK102
       clear HB
       obtain ⟨BK101, BK102, HB⟩ := n_
       (try clear hb)
       (try clear hb2)
       (try clear hk)
       (try clear hi)
       refine hK.out _ _ ⟨(Y1 BK101.out 0).trans rfl, (Y1 BK101.out 1).trans rfl, (Y1 BK101.out 2).trans rfl, (Y1 BK101.out 3).trans rfl, (Y1 BK102.out 0).trans rfl, (Y1 BK102.out 1).trans rfl, (Y1 BK102.out 2).trans rfl, (Y1 BK102.out 3).trans rfl⟩ (fun hHeld => ?_)
       clear hK K
       refine Y1k (a' := ?_) ?_ ?_
       rotate_left
       ·show Act.put _ (some 14) _ = _
        simp only [Act.put, List.setIfInBounds_toArray, List.set_cons_zero, List.set_cons_succ, Y14, Y15]
        rfl
       refine pY 4 15 Y5s ?_
       refine pY 5 16 Y5t ?_
       refine pT 6 17 Y5u ?_
       refine pT 7 18 Y5v ?_
       refine pT 9 20 Y5O ?_
       refine pT 10 21 Y5P ?_
       refine Y2b (i := 8) (N := some 19) Y4G rfl rfl (Y16 HT_.out Z6) (by decide) (fun K hK => ?_)
       refine Y1r Tryd.func30 Z6 rfl #[.agg #[.int .i64 a0_0, .string a0_1, .slice A0_2 l0_2.length c0_2, .slice A0_3 l0_3.length c0_3], .agg #[.int .i64 a1_0, .string a1_1, .slice A1_2 l1_2.length c1_2, .slice A1_3 l1_3.length c1_3]] (by rfl) rfl rfl Z0 ?_
       with_reducible refine (YH.calls kj2 a0_0 a0_1 _ _ l0_2 _ _ l0_3 a1_0 a1_1 _ _ l1_2 _ _ l1_3 t107 _ ?side1 ?side2 ?side3 ?side4 ?side5 ?side6 ?side7 ?side8 A25.out).mono ?_
       (case side1 => exact Z5)
       (case side2 => exact Z10)
       (case side3 => exact Z7)
       (case side4 => exact Z13)
       (case side5 => exact Zk)
       (case side6 => exact HC1_2.out)
       (case side7 => exact Zu)
       (case side8 => exact HC1_3.out)
       rintro e w31 ⟨rfl, hb⟩
       refine ⟨_, rfl, ?_⟩
       have n_ := Y24 (Yj (g := gb101) (o := .cells #[.int .i64 a0_0, .string a0_1, .slice A0_2 l0_2.length c0_2, .slice A0_3 l0_3.length c0_3] 37 (0, 0)) QQ hb) (Yj (g := gb102) (o := .cells #[.int .i64 a1_0, .string a1_1, .slice A1_2 l1_2.length c1_2, .slice A1_3 l1_3.length c1_3] 37 (0, 0)) QQ hb) (Y6 QB hb)
       clear BK101
       clear BK102
       clear HB
       obtain ⟨BK101, BK102, HB⟩ := n_
       (try clear hb)
       (try clear hb2)
       (try clear hk)
       (try clear hi)
       refine hK.out _ _ ⟨(Y1 BK101.out 0).trans rfl, (Y1 BK101.out 1).trans rfl, (Y1 BK101.out 2).trans rfl, (Y1 BK101.out 3).trans rfl, (Y1 BK102.out 0).trans rfl, (Y1 BK102.out 1).trans rfl, (Y1 BK102.out 2).trans rfl, (Y1 BK102.out 3).trans rfl⟩ (fun hHeld => ?_)
       clear hK K
       refine Y1k (a' := ?_) ?_ ?_
       rotate_left
       ·show Act.put _ (some 19) _ = _
        simp only [Act.put, List.setIfInBounds_toArray, List.set_cons_zero, List.set_cons_succ, Y14, Y15]
        rfl
       refine Y2b (i := 11) (N := some 22) Y4H rfl rfl (Y16 HT_.out Z6) (by decide) (fun K hK => ?_)
       refine Y1r Tryd.func28 Z6 rfl #[.agg #[.int .i64 a0_0, .string a0_1, .slice A0_2 l0_2.length c0_2, .slice A0_3 l0_3.length c0_3], .agg #[.int .i64 a1_0, .string a1_1, .slice A1_2 l1_2.length c1_2, .slice A1_3 l1_3.length c1_3]] (by rfl) rfl rfl Z0 ?_
       with_reducible refine (Y4.calls kj2 a0_0 a0_1 _ _ l0_2 _ _ l0_3 a1_0 a1_1 _ _ l1_2 _ _ l1_3 t108 _ ?side1 ?side2 ?side3 ?side4 ?side5 ?side6 ?side7 ?side8 A26.out).mono ?_
       (case side1 => exact Z5)
       (case side2 => exact Z10)
       (case side3 => exact Z7)
       (case side4 => exact Z13)
       (case side5 => exact Zk)
       (case side6 => exact HC1_2.out)
       (case side7 => exact Zu)
       (case side8 => exact HC1_3.out)
       rintro e w32 ⟨rfl, hb⟩
       refine ⟨_, rfl, ?_⟩
       have n_ := Y24 (Yj (g := gb101) (o := .cells #[.int .i64 a0_0, .string a0_1, .slice A0_2 l0_2.length c0_2, .slice A0_3 l0_3.length c0_3] 37 (0, 0)) QQ hb) (Yj (g := gb102) (o := .cells #[.int .i64 a1_0, .string a1_1, .slice A1_2 l1_2.length c1_2, .slice A1_3 l1_3.length c1_3] 37 (0, 0)) QQ hb) (Y6 QB hb)
       clear BK101
       clear BK102
       clear HB
       obtain ⟨BK101, BK102, HB⟩ := n_
       (try clear hb)
       (try clear hb2)
       (try clear hk)
       (try clear hi)
       refine hK.out _ _ ⟨(Y1 BK101.out 0).trans rfl, (Y1 BK101.out 1).trans rfl, (Y1 BK101.out 2).trans rfl, (Y1 BK101.out 3).trans rfl, (Y1 BK102.out 0).trans rfl, (Y1 BK102.out 1).trans rfl, (Y1 BK102.out 2).trans rfl, (Y1 BK102.out 3).trans rfl⟩ (fun hHeld => ?_)
       clear hK K
       refine Y1k (a' := ?_) ?_ ?_
       rotate_left
       ·show Act.put _ (some 22) _ = _
        simp only [Act.put, List.setIfInBounds_toArray, List.set_cons_zero, List.set_cons_succ, Y14, Y15]
        rfl
       refine pY 12 23 Y3Y ?_
       refine pY 13 24 Y3Z ?_
       refine pY 14 25 Y40 ?_
       refine pU 15 26 Y41 ?_
       refine pU 16 27 Y3u ?_
       refine pU 17 28 Y3v ?_
       refine pU 18 29 Y3w ?_
       refine pY 19 30 Y3x ?_
       refine Y1O (Y1a HT_.out Z6) ?_
       try go_wp2
       go_meet
       case rel => exact ⟨_, (true), Z9, H', ⟨ZH⟩, ⟨Z4⟩, ⟨Ze⟩, ⟨QB⟩⟩
      ·rw [if_neg c27] at H
       have c27b0 : (t107 != t108) = false := by simpa using c27
       (try (have c27b1 : decide (t107 = t108) = true := by simpa using c27))
       (try (have c27b2 : (t107 == t108) = true := by simpa using c27))
       clear c27
       replace H := Option.bind_eq_some_iff.mp H
       obtain ⟨t109, A330, H⟩ := H
       replace H : (triviumlaw12_QueryTells.j1 kj2 (!t109) a0_0 a0_1 l0_2 l0_3) = some r := H
       have A33 := Y0.mk A330
       clear A330
       have H' := Y0.mk H
       clear H
       try go_wp2
       have n_ := Y24 (Yc BK101.out) (Yc BK102.out) (YL HB.out)
       clear BK101
       clear BK102
       clear HB
       obtain ⟨BK101, BK102, HB⟩ := n_
       refine Y1q (n := 20) (S := fun w' => w'.cell? ⟨gb101, 0, none⟩ = some (.int .i64 a0_0) ∧ w'.cell? ⟨gb101, 1, none⟩ = some (.string a0_1) ∧ w'.cell? ⟨gb101, 2, none⟩ = some (.slice A0_2 l0_2.length c0_2) ∧ w'.cell? ⟨gb101, 3, none⟩ = some (.slice A0_3 l0_3.length c0_3) ∧ w'.cell? ⟨gb102, 0, none⟩ = some (.int .i64 a1_0) ∧ w'.cell? ⟨gb102, 1, none⟩ = some (.string a1_1) ∧ w'.cell? ⟨gb102, 2, none⟩ = some (.slice A1_2 l1_2.length c1_2) ∧ w'.cell? ⟨gb102, 3, none⟩ = some (.slice A1_3 l1_3.length c1_3)) (ds := []) bz20_0 Z6 rfl rfl ⟨(Y1 BK101.out 0).trans rfl, (Y1 BK101.out 1).trans rfl, (Y1 BK101.out 2).trans rfl, (Y1 BK101.out 3).trans rfl, (Y1 BK102.out 0).trans rfl, (Y1 BK102.out 1).trans rfl, (Y1 BK102.out 2).trans rfl, (Y1 BK102.out 3).trans rfl⟩ (fun hHeld => ?_); refine YW triviumlaw12_QueryTells.tab3 triviumlaw12_QueryTells.bits3 (fun HT_ HW_ => ?_)
       generalize wc.drew = w34 at BK101 BK102 HB hHeld ⊢
       refine pT 0 11 bz20_1 ?_
       refine pT 2 13 bz20_5 ?_
       refine Y2b (i := 1) (N := some 12) bz20_7 rfl rfl (Y16 HT_.out Z6) (by decide) (fun K hK => ?_)
       refine Y1r Tryd.func31 Z6 rfl #[.agg #[.int .i64 a0_0, .string a0_1, .slice A0_2 l0_2.length c0_2, .slice A0_3 l0_3.length c0_3]] (by rfl) rfl rfl Z0 ?_
       with_reducible refine (Y17.calls kj2 a0_0 a0_1 _ _ l0_2 _ _ l0_3 t105 _ ?side1 ?side2 ?side3 ?side4 ?side5 A19.out).mono ?_
       (case side1 => exact Z3)
       (case side2 => exact Z5)
       (case side3 => exact Z10)
       (case side4 => exact Z7)
       (case side5 => exact Z13)
       rintro e w35 ⟨rfl, hb⟩
       refine ⟨_, rfl, ?_⟩
       have n_ := Y24 (Yj (g := gb101) (o := .cells #[.int .i64 a0_0, .string a0_1, .slice A0_2 l0_2.length c0_2, .slice A0_3 l0_3.length c0_3] 37 (0, 0)) QQ hb) (Yj (g := gb102) (o := .cells #[.int .i64 a1_0, .string a1_1, .slice A1_2 l1_2.length c1_2, .slice A1_3 l1_3.length c1_3] 37 (0, 0)) QQ hb) (Y6 QB hb)
       clear BK101
       clear BK102
       clear HB
       obtain ⟨BK101, BK102, HB⟩ := n_
       (try clear hb)
       (try clear hb2)
       (try clear hk)
       (try clear hi)
       refine hK.out _ _ ⟨(Y1 BK101.out 0).trans rfl, (Y1 BK101.out 1).trans rfl, (Y1 BK101.out 2).trans rfl, (Y1 BK101.out 3).trans rfl, (Y1 BK102.out 0).trans rfl, (Y1 BK102.out 1).trans rfl, (Y1 BK102.out 2).trans rfl, (Y1 BK102.out 3).trans rfl⟩ (fun hHeld => ?_)
       clear hK K
       refine Y1k (a' := ?_) ?_ ?_
       rotate_left
       ·show Act.put _ (some 12) _ = _
        simp only [Act.put, List.setIfInBounds_toArray, List.set_cons_zero, List.set_cons_succ, Y14, Y15]
        rfl
       refine Y2b (i := 3) (N := some 14) bz20_f rfl rfl (Y16 HT_.out Z6) (by decide) (fun K hK => ?_)
       refine Y1r Tryd.func23 Z6 rfl #[.agg #[.int .i64 a0_0, .string a0_1, .slice A0_2 l0_2.length c0_2, .slice A0_3 l0_3.length c0_3]] (by rfl) rfl rfl Z0 ?_
       with_reducible refine (YU.calls kj2 a0_0 a0_1 _ _ l0_2 _ _ l0_3 t106 _ ?side1 ?side2 ?side3 ?side4 ?side5 A20.out).mono ?_
       (case side1 => exact Z3)
       (case side2 => exact Z5)
       (case side3 => exact Z10)
       (case side4 => exact Z7)
       (case side5 => exact Z13)
       rintro e w36 ⟨rfl, hb⟩
       refine ⟨_, rfl, ?_⟩
       have n_ := Y24 (Yj (g := gb101) (o := .cells #[.int .i64 a0_0, .string a0_1, .slice A0_2 l0_2.length c0_2, .slice A0_3 l0_3.length c0_3] 37 (0, 0)) QQ hb) (Yj (g := gb102) (o := .cells #[.int .i64 a1_0, .string a1_1, .slice A1_2 l1_2.length c1_2, .slice A1_3 l1_3.length c1_3] 37 (0, 0)) QQ hb) (Y6 QB hb)
       clear BK101
       clear BK102
       clear HB
       obtain ⟨BK101, BK102, HB⟩ := n_
       (try clear hb)
       (try clear hb2)
       (try clear hk)
       (try clear hi)
       refine hK.out _ _ ⟨(Y1 BK101.out 0).trans rfl, (Y1 BK101.out 1).trans rfl, (Y1 BK101.out 2).trans rfl, (Y1 BK101.out 3).trans rfl, (Y1 BK102.out 0).trans rfl, (Y1 BK102.out 1).trans rfl, (Y1 BK102.out 2).trans rfl, (Y1 BK102.out 3).trans rfl⟩ (fun hHeld => ?_)
       clear hK K
       refine Y1k (a' := ?_) ?_ ?_
       rotate_left
       ·show Act.put _ (some 14) _ = _
        simp only [Act.put, List.setIfInBounds_toArray, List.set_cons_zero, List.set_cons_succ, Y14, Y15]
        rfl
       refine pY 4 15 Y5s ?_
       refine pY 5 16 Y5t ?_
       refine pT 6 17 Y5u ?_
       refine pT 7 18 Y5v ?_
       refine pT 9 20 Y5O ?_
       refine pT 10 21 Y5P ?_
       refine Y2b (i := 8) (N := some 19) Y4G rfl rfl (Y16 HT_.out Z6) (by decide) (fun K hK => ?_)
       refine Y1r Tryd.func30 Z6 rfl #[.agg #[.int .i64 a0_0, .string a0_1, .slice A0_2 l0_2.length c0_2, .slice A0_3 l0_3.length c0_3], .agg #[.int .i64 a1_0, .string a1_1, .slice A1_2 l1_2.length c1_2, .slice A1_3 l1_3.length c1_3]] (by rfl) rfl rfl Z0 ?_
       with_reducible refine (YH.calls kj2 a0_0 a0_1 _ _ l0_2 _ _ l0_3 a1_0 a1_1 _ _ l1_2 _ _ l1_3 t107 _ ?side1 ?side2 ?side3 ?side4 ?side5 ?side6 ?side7 ?side8 A25.out).mono ?_
       (case side1 => exact Z5)
       (case side2 => exact Z10)
       (case side3 => exact Z7)
       (case side4 => exact Z13)
       (case side5 => exact Zk)
       (case side6 => exact HC1_2.out)
       (case side7 => exact Zu)
       (case side8 => exact HC1_3.out)
       rintro e w37 ⟨rfl, hb⟩
       refine ⟨_, rfl, ?_⟩
       have n_ := Y24 (Yj (g := gb101) (o := .cells #[.int .i64 a0_0, .string a0_1, .slice A0_2 l0_2.length c0_2, .slice A0_3 l0_3.length c0_3] 37 (0, 0)) QQ hb) (Yj (g := gb102) (o := .cells #[.int .i64 a1_0, .string a1_1, .slice A1_2 l1_2.length c1_2, .slice A1_3 l1_3.length c1_3] 37 (0, 0)) QQ hb) (Y6 QB hb)
       clear BK101
       clear BK102
       clear HB
       obtain ⟨BK101, BK102, HB⟩ := n_
       (try clear hb)
       (try clear hb2)
       (try clear hk)
       (try clear hi)
       refine hK.out _ _ ⟨(Y1 BK101.out 0).trans rfl, (Y1 BK101.out 1).trans rfl, (Y1 BK101.out 2).trans rfl, (Y1 BK101.out 3).trans rfl, (Y1 BK102.out 0).trans rfl, (Y1 BK102.out 1).trans rfl, (Y1 BK102.out 2).trans rfl, (Y1 BK102.out 3).trans rfl⟩ (fun hHeld => ?_)
       clear hK K
       refine Y1k (a' := ?_) ?_ ?_
       rotate_left
       ·show Act.put _ (some 19) _ = _
        simp only [Act.put, List.setIfInBounds_toArray, List.set_cons_zero, List.set_cons_succ, Y14, Y15]
        rfl
       refine Y2b (i := 11) (N := some 22) Y4H rfl rfl (Y16 HT_.out Z6) (by decide) (fun K hK => ?_)
       refine Y1r Tryd.func28 Z6 rfl #[.agg #[.int .i64 a0_0, .string a0_1, .slice A0_2 l0_2.length c0_2, .slice A0_3 l0_3.length c0_3], .agg #[.int .i64 a1_0, .string a1_1, .slice A1_2 l1_2.length c1_2, .slice A1_3 l1_3.length c1_3]] (by rfl) rfl rfl Z0 ?_
       with_reducible refine (Y4.calls kj2 a0_0 a0_1 _ _ l0_2 _ _ l0_3 a1_0 a1_1 _ _ l1_2 _ _ l1_3 t108 _ ?side1 ?side2 ?side3 ?side4 ?side5 ?side6 ?side7 ?side8 A26.out).mono ?_
       (case side1 => exact Z5)
       (case side2 => exact Z10)
       (case side3 => exact Z7)
       (case side4 => exact Z13)
       (case side5 => exact Zk)
       (case side6 => exact HC1_2.out)
       (case side7 => exact Zu)
       (case side8 => exact HC1_3.out)
       rintro e w38 ⟨rfl, hb⟩
       refine ⟨_, rfl, ?_⟩
       have n_ := Y24 (Yj (g := gb101) (o := .cells #[.int .i64 a0_0, .string a0_1, .slice A0_2 l0_2.length c0_2, .slice A0_3 l0_3.length c0_3] 37 (0, 0)) QQ hb) (Yj (g := gb102) (o := .cells #[.int .i64 a1_0, .string a1_1, .slice A1_2 l1_2.length c1_2, .slice A1_3 l1_3.length c1_3] 37 (0, 0)) QQ hb) (Y6 QB hb)
       clear BK101
       clear BK102
       clear HB
       obtain ⟨BK101, BK102, HB⟩ := n_
       (try clear hb)
       (try clear hb2)
       (try clear hk)
       (try clear hi)
       refine hK.out _ _ ⟨(Y1 BK101.out 0).trans rfl, (Y1 BK101.out 1).trans rfl, (Y1 BK101.out 2).trans rfl, (Y1 BK101.out 3).trans rfl, (Y1 BK102.out 0).trans rfl, (Y1 BK102.out 1).trans rfl, (Y1 BK102.out 2).trans rfl, (Y1 BK102.out 3).trans rfl⟩ (fun hHeld => ?_)
       clear hK K
       refine Y1k (a' := ?_) ?_ ?_
       rotate_left
       ·show Act.put _ (some 22) _ = _
        simp only [Act.put, List.setIfInBounds_toArray, List.set_cons_zero, List.set_cons_succ, Y14, Y15]
        rfl
       refine pY 12 23 Y3Y ?_
       refine pY 13 24 Y3Z ?_
       refine pY 14 25 Y40 ?_
       refine pT 15 26 Y41 ?_
       refine pT 16 27 Y3u ?_
       refine Y2b (i := 17) (N := some 28) Y3v rfl rfl (Y16 HT_.out Z6) (by decide) (fun K hK => ?_)
       refine Y1r Tryd.func30 Z6 rfl #[.agg #[.int .i64 a0_0, .string a0_1, .slice A0_2 l0_2.length c0_2, .slice A0_3 l0_3.length c0_3], .agg #[.int .i64 a0_0, .string a0_1, .slice A0_2 l0_2.length c0_2, .slice A0_3 l0_3.length c0_3]] (by rfl) rfl rfl Z0 ?_
       with_reducible refine (YH.calls kj2 a0_0 a0_1 _ _ l0_2 _ _ l0_3 a0_0 a0_1 _ _ l0_2 _ _ l0_3 t109 _ ?side1 ?side2 ?side3 ?side4 ?side5 ?side6 ?side7 ?side8 A33.out).mono ?_
       (case side1 => exact Z5)
       (case side2 => exact Z10)
       (case side3 => exact Z7)
       (case side4 => exact Z13)
       (case side5 => exact Z5)
       (case side6 => exact Z10)
       (case side7 => exact Z7)
       (case side8 => exact Z13)
       rintro e w39 ⟨rfl, hb⟩
       refine ⟨_, rfl, ?_⟩
       have n_ := Y24 (Yj (g := gb101) (o := .cells #[.int .i64 a0_0, .string a0_1, .slice A0_2 l0_2.length c0_2, .slice A0_3 l0_3.length c0_3] 37 (0, 0)) QQ hb) (Yj (g := gb102) (o := .cells #[.int .i64 a1_0, .string a1_1, .slice A1_2 l1_2.length c1_2, .slice A1_3 l1_3.length c1_3] 37 (0, 0)) QQ hb) (Y6 QB hb)
       clear BK101
       clear BK102
       clear HB
       obtain ⟨BK101, BK102, HB⟩ := n_
       (try clear hb)
       (try clear hb2)
       (try clear hk)
       (try clear hi)
       refine hK.out _ _ ⟨(Y1 BK101.out 0).trans rfl, (Y1 BK101.out 1).trans rfl, (Y1 BK101.out 2).trans rfl, (Y1 BK101.out 3).trans rfl, (Y1 BK102.out 0).trans rfl, (Y1 BK102.out 1).trans rfl, (Y1 BK102.out 2).trans rfl, (Y1 BK102.out 3).trans rfl⟩ (fun hHeld => ?_)
       clear hK K
       refine Y1k (a' := ?_) ?_ ?_
       rotate_left
       ·show Act.put _ (some 28) _ = _
        simp only [Act.put, List.setIfInBounds_toArray, List.set_cons_zero, List.set_cons_succ, Y14, Y15]
        rfl
       refine pY 18 29 Y3w ?_
       refine pY 19 30 Y3x ?_
       refine Y1O (Y1a HT_.out Z6) ?_
       try go_wp2
       go_meet
       case rel => exact ⟨_, (!t109), Z9, H', ⟨ZH⟩, ⟨Z4⟩, ⟨Ze⟩, ⟨QB⟩⟩
    case rest =>
     clear HC18
     try clear c1
     try clear c2
     try clear p2
     try clear c3
     try clear c21
     try clear c21b0
     try clear c21b1
     try clear c21b2
     try clear c23
     try clear c27
     try clear c27b0
     try clear c27b1
     try clear c27b2
     try clear c28
     try clear c30
     try clear c31
     obtain ⟨kq, x30_17, rfl, HA, HJ17, BK101, BK102, HB⟩ := hcut
     cases kq with
     | zero => exact absurd HA.out (by simp [triviumlaw12_QueryTells.j1])
     | succ kj17 =>
      have H := HA.out
      clear HA
      simp only [triviumlaw12_QueryTells.j1] at H
      by_cases c40 : x30_17 = true
      ·subst c40
       have H1 : (some false) = some r := by rw [if_pos rfl] at H; exact H
       clear H
       have H := H1
       clear H1
       obtain rfl := Option.some.inj H
       go_wp2
       go_ret
       exact Z1F
      ·replace c40 := Bool.eq_false_iff.mpr c40
       subst c40
       have H1 : ((YU.f kj17 a0_0 a0_1 l0_2 l0_3).bind fun t110 => (if t110 = true then ((YC.f kj17 a0_0 a0_1 l0_2 l0_3).bind fun t111 => ((Y7.f kj17 a0_0 a0_1 l0_2 l0_3).bind fun t112 => (if t111.toList = t112.toList then ((YO.f kj17).bind fun t113 => (some t113)) else (some false)))) else ((YO.f kj17).bind fun t114 => (some t114)))) = some r := by rw [if_neg (show ¬ (false = true) by decide)] at H; exact H
       clear H
       have H := H1
       clear H1
       replace H := Option.bind_eq_some_iff.mp H
       obtain ⟨t110, A410, H⟩ := H
       replace H : (if t110 = true then ((YC.f kj17 a0_0 a0_1 l0_2 l0_3).bind fun t111 => ((Y7.f kj17 a0_0 a0_1 l0_2 l0_3).bind fun t112 => (if t111.toList = t112.toList then ((YO.f kj17).bind fun t113 => (some t113)) else (some false)))) else ((YO.f kj17).bind fun t114 => (some t114))) = some r := H
       have A41 := Y0.mk A410
       clear A410
       by_cases c42 : t110 = true
       ·subst c42
        have H1 : ((YC.f kj17 a0_0 a0_1 l0_2 l0_3).bind fun t111 => ((Y7.f kj17 a0_0 a0_1 l0_2 l0_3).bind fun t112 => (if t111.toList = t112.toList then ((YO.f kj17).bind fun t113 => (some t113)) else (some false)))) = some r := by rw [if_pos rfl] at H; exact H
        clear H
        have H := H1
        clear H1
        replace H := Option.bind_eq_some_iff.mp H
        obtain ⟨t111, A430, H⟩ := H
        replace H : ((Y7.f kj17 a0_0 a0_1 l0_2 l0_3).bind fun t112 => (if t111.toList = t112.toList then ((YO.f kj17).bind fun t113 => (some t113)) else (some false))) = some r := H
        have A43 := Y0.mk A430
        clear A430
        replace H := Option.bind_eq_some_iff.mp H
        obtain ⟨t112, A440, H⟩ := H
        replace H : (if t111.toList = t112.toList then ((YO.f kj17).bind fun t113 => (some t113)) else (some false)) = some r := H
        have A44 := Y0.mk A440
        clear A440
        by_cases c45 : t111.toList = t112.toList
        ·rw [if_pos c45] at H
         have c45b0 : (t111.toList == t112.toList) = true := beq_iff_eq.mpr c45
         have c45b1 : (t111.toList != t112.toList) = false := bne_eq_false_iff_eq.mpr c45
         clear c45
         replace H := Option.bind_eq_some_iff.mp H
         obtain ⟨t113, A460, H⟩ := H
         replace H : (some t113) = some r := H
         have A46 := Y0.mk A460
         clear A460
         obtain rfl := Option.some.inj H
         try go_wp2
         have n_ := Y24 (Yc BK101.out) (Yc BK102.out) (YL HB.out)
         clear BK101
         clear BK102
         clear HB
         obtain ⟨BK101, BK102, HB⟩ := n_
         refine Y1q (n := 14) (S := fun w' => w'.cell? ⟨gb101, 0, none⟩ = some (.int .i64 a0_0) ∧ w'.cell? ⟨gb101, 1, none⟩ = some (.string a0_1) ∧ w'.cell? ⟨gb101, 2, none⟩ = some (.slice A0_2 l0_2.length c0_2) ∧ w'.cell? ⟨gb101, 3, none⟩ = some (.slice A0_3 l0_3.length c0_3)) (ds := []) bz14_0 Z6 rfl rfl ⟨(Y1 BK101.out 0).trans rfl, (Y1 BK101.out 1).trans rfl, (Y1 BK101.out 2).trans rfl, (Y1 BK101.out 3).trans rfl⟩ (fun hHeld => ?_); refine YW triviumlaw12_QueryTells.tab5 triviumlaw12_QueryTells.bits5 (fun HT_ HW_ => ?_)
         generalize wc.drew = w47 at BK101 BK102 HB hHeld ⊢
         refine pT 0 31 bz14_1 ?_
         refine Y2b (i := 1) (N := some 32) bz14_3 rfl rfl (Y16 HT_.out Z6) (by decide) (fun K hK => ?_)
         refine Y1r Tryd.func23 Z6 rfl #[.agg #[.int .i64 a0_0, .string a0_1, .slice A0_2 l0_2.length c0_2, .slice A0_3 l0_3.length c0_3]] (by rfl) rfl rfl Z0 ?_
         with_reducible refine (YU.calls kj17 a0_0 a0_1 _ _ l0_2 _ _ l0_3 true _ ?side1 ?side2 ?side3 ?side4 ?side5 A41.out).mono ?_
         (case side1 => exact Z3)
         (case side2 => exact Z5)
         (case side3 => exact Z10)
         (case side4 => exact Z7)
         (case side5 => exact Z13)
         rintro e w48 ⟨rfl, hb⟩
         refine ⟨_, rfl, ?_⟩
         have n_ := Y24 (Yj (g := gb101) (o := .cells #[.int .i64 a0_0, .string a0_1, .slice A0_2 l0_2.length c0_2, .slice A0_3 l0_3.length c0_3] 37 (0, 0)) QQ hb) (Yj (g := gb102) (o := .cells #[.int .i64 a1_0, .string a1_1, .slice A1_2 l1_2.length c1_2, .slice A1_3 l1_3.length c1_3] 37 (0, 0)) QQ hb) (Y6 QB hb)
         clear BK101
         clear BK102
         clear HB
         obtain ⟨BK101, BK102, HB⟩ := n_
         (try clear hb)
         (try clear hb2)
         (try clear hk)
         (try clear hi)
         refine hK.out _ _ ⟨(Y1 BK101.out 0).trans rfl, (Y1 BK101.out 1).trans rfl, (Y1 BK101.out 2).trans rfl, (Y1 BK101.out 3).trans rfl⟩ (fun hHeld => ?_)
         clear hK K
         refine Y1k (a' := ?_) ?_ ?_
         rotate_left
         ·show Act.put _ (some 32) _ = _
          simp only [Act.put, List.setIfInBounds_toArray, List.set_cons_zero, List.set_cons_succ, Y14, Y15]
          rfl
         refine pY 2 33 bz14_7 ?_
         refine pY 3 34 bz14_f ?_
         refine pT 4 35 Y5p ?_
         refine pT 6 37 bz14_5f ?_
         refine Y2b (i := 5) (N := some 36) Y5q rfl rfl (Y16 HT_.out Z6) (by decide) (fun K hK => ?_)
         refine Y1r Tryd.func24 Z6 rfl #[.agg #[.int .i64 a0_0, .string a0_1, .slice A0_2 l0_2.length c0_2, .slice A0_3 l0_3.length c0_3]] (by rfl) rfl rfl Z0 ?_
         with_reducible refine (YC.calls kj17 a0_0 a0_1 _ _ l0_2 _ _ l0_3 t111 _ ?side1 ?side2 ?side3 ?side4 A43.out).mono ?_
         (case side1 => exact Z5)
         (case side2 => exact Z10)
         (case side3 => exact Z7)
         (case side4 => exact Z13)
         rintro e w49 ⟨rfl, hb⟩
         refine ⟨_, rfl, ?_⟩
         have n_ := Y24 (Yj (g := gb101) (o := .cells #[.int .i64 a0_0, .string a0_1, .slice A0_2 l0_2.length c0_2, .slice A0_3 l0_3.length c0_3] 37 (0, 0)) QQ hb) (Yj (g := gb102) (o := .cells #[.int .i64 a1_0, .string a1_1, .slice A1_2 l1_2.length c1_2, .slice A1_3 l1_3.length c1_3] 37 (0, 0)) QQ hb) (Y6 QB hb)
         clear BK101
         clear BK102
         clear HB
         obtain ⟨BK101, BK102, HB⟩ := n_
         (try clear hb)
         (try clear hb2)
         (try clear hk)
         (try clear hi)
         refine hK.out _ _ ⟨(Y1 BK101.out 0).trans rfl, (Y1 BK101.out 1).trans rfl, (Y1 BK101.out 2).trans rfl, (Y1 BK101.out 3).trans rfl⟩ (fun hHeld => ?_)
         clear hK K
         refine Y1k (a' := ?_) ?_ ?_
         rotate_left
         ·show Act.put _ (some 36) _ = _
          simp only [Act.put, List.setIfInBounds_toArray, List.set_cons_zero, List.set_cons_succ, Y14, Y15]
          rfl
         refine Y2b (i := 7) (N := some 38) Y5r rfl rfl (Y16 HT_.out Z6) (by decide) (fun K hK => ?_)
         refine Y1r Tryd.func29 Z6 rfl #[.agg #[.int .i64 a0_0, .string a0_1, .slice A0_2 l0_2.length c0_2, .slice A0_3 l0_3.length c0_3]] (by rfl) rfl rfl Z0 ?_
         with_reducible refine (Y7.calls kj17 a0_0 a0_1 _ _ l0_2 _ _ l0_3 t112 _ ?side1 ?side2 ?side3 ?side4 A44.out).mono ?_
         (case side1 => exact Z5)
         (case side2 => exact Z10)
         (case side3 => exact Z7)
         (case side4 => exact Z13)
         rintro e w50 ⟨rfl, hb⟩
         refine ⟨_, rfl, ?_⟩
         have n_ := Y24 (Yj (g := gb101) (o := .cells #[.int .i64 a0_0, .string a0_1, .slice A0_2 l0_2.length c0_2, .slice A0_3 l0_3.length c0_3] 37 (0, 0)) QQ hb) (Yj (g := gb102) (o := .cells #[.int .i64 a1_0, .string a1_1, .slice A1_2 l1_2.length c1_2, .slice A1_3 l1_3.length c1_3] 37 (0, 0)) QQ hb) (Y6 QB hb)
         clear BK101
         clear BK102
         clear HB
         obtain ⟨BK101, BK102, HB⟩ := n_
         (try clear hb)
         (try clear hb2)
         (try clear hk)
         (try clear hi)
         refine hK.out _ _ ⟨(Y1 BK101.out 0).trans rfl, (Y1 BK101.out 1).trans rfl, (Y1 BK101.out 2).trans rfl, (Y1 BK101.out 3).trans rfl⟩ (fun hHeld => ?_)
         clear hK K
         refine Y1k (a' := ?_) ?_ ?_
         rotate_left
         ·show Act.put _ (some 38) _ = _
          simp only [Act.put, List.setIfInBounds_toArray, List.set_cons_zero, List.set_cons_succ, Y14, Y15]
          rfl
         refine pY 8 39 Y4C ?_
         refine pY 9 40 Y4D ?_
         refine pY 10 41 Y4E ?_
         refine Y2b (i := 11) (N := some 42) Y4F rfl rfl (Y16 HT_.out Z6) (by decide) (fun K hK => ?_)
         refine Y1r Tryd.func27 Z6 rfl #[] (by rfl) rfl rfl Z0 ?_
         with_reducible refine (YO.calls kj17  t113 _ ?side1 A46.out).mono ?_
         (case side1 => exact Z3)
         rintro e w51 ⟨rfl, hb⟩
         refine ⟨_, rfl, ?_⟩
         have n_ := Y24 (Yj (g := gb101) (o := .cells #[.int .i64 a0_0, .string a0_1, .slice A0_2 l0_2.length c0_2, .slice A0_3 l0_3.length c0_3] 37 (0, 0)) QQ hb) (Yj (g := gb102) (o := .cells #[.int .i64 a1_0, .string a1_1, .slice A1_2 l1_2.length c1_2, .slice A1_3 l1_3.length c1_3] 37 (0, 0)) QQ hb) (Y6 QB hb)
         clear BK101
         clear BK102
         clear HB
         obtain ⟨BK101, BK102, HB⟩ := n_
         (try clear hb)
         (try clear hb2)
         (try clear hk)
         (try clear hi)
         refine hK.out _ _ ⟨(Y1 BK101.out 0).trans rfl, (Y1 BK101.out 1).trans rfl, (Y1 BK101.out 2).trans rfl, (Y1 BK101.out 3).trans rfl⟩ (fun hHeld => ?_)
         clear hK K
         refine Y1k (a' := ?_) ?_ ?_
         rotate_left
         ·show Act.put _ (some 42) _ = _
          simp only [Act.put, List.setIfInBounds_toArray, List.set_cons_zero, List.set_cons_succ, Y14, Y15]
          rfl
         refine pY 12 43 Y3W ?_
         refine pY 13 4 Y3X ?_
         refine Y1O (Y1a HT_.out Z6) ?_
         try go_wp2
         go_ret
         exact Z1F
        ·rw [if_neg c45] at H
         have c45b0 : (t111.toList == t112.toList) = false := beq_eq_false_iff_ne.mpr c45
         have c45b1 : (t111.toList != t112.toList) = true := bne_iff_ne.mpr c45
         obtain rfl := Option.some.inj H
         try go_wp2
         have n_ := Y24 (Yc BK101.out) (Yc BK102.out) (YL HB.out)
         clear BK101
         clear BK102
         clear HB
         obtain ⟨BK101, BK102, HB⟩ := n_
         refine Y1q (n := 14) (S := fun w' => w'.cell? ⟨gb101, 0, none⟩ = some (.int .i64 a0_0) ∧ w'.cell? ⟨gb101, 1, none⟩ = some (.string a0_1) ∧ w'.cell? ⟨gb101, 2, none⟩ = some (.slice A0_2 l0_2.length c0_2) ∧ w'.cell? ⟨gb101, 3, none⟩ = some (.slice A0_3 l0_3.length c0_3)) (ds := []) bz14_0 Z6 rfl rfl ⟨(Y1 BK101.out 0).trans rfl, (Y1 BK101.out 1).trans rfl, (Y1 BK101.out 2).trans rfl, (Y1 BK101.out 3).trans rfl⟩ (fun hHeld => ?_); refine YW triviumlaw12_QueryTells.tab5 triviumlaw12_QueryTells.bits5 (fun HT_ HW_ => ?_)
         generalize wc.drew = w52 at BK101 BK102 HB hHeld ⊢
         refine pT 0 31 bz14_1 ?_
         refine Y2b (i := 1) (N := some 32) bz14_3 rfl rfl (Y16 HT_.out Z6) (by decide) (fun K hK => ?_)
         refine Y1r Tryd.func23 Z6 rfl #[.agg #[.int .i64 a0_0, .string a0_1, .slice A0_2 l0_2.length c0_2, .slice A0_3 l0_3.length c0_3]] (by rfl) rfl rfl Z0 ?_
         with_reducible refine (YU.calls kj17 a0_0 a0_1 _ _ l0_2 _ _ l0_3 true _ ?side1 ?side2 ?side3 ?side4 ?side5 A41.out).mono ?_
         (case side1 => exact Z3)
         (case side2 => exact Z5)
         (case side3 => exact Z10)
         (case side4 => exact Z7)
         (case side5 => exact Z13)
         rintro e w53 ⟨rfl, hb⟩
         refine ⟨_, rfl, ?_⟩
         have n_ := Y24 (Yj (g := gb101) (o := .cells #[.int .i64 a0_0, .string a0_1, .slice A0_2 l0_2.length c0_2, .slice A0_3 l0_3.length c0_3] 37 (0, 0)) QQ hb) (Yj (g := gb102) (o := .cells #[.int .i64 a1_0, .string a1_1, .slice A1_2 l1_2.length c1_2, .slice A1_3 l1_3.length c1_3] 37 (0, 0)) QQ hb) (Y6 QB hb)
         clear BK101
         clear BK102
         clear HB
         obtain ⟨BK101, BK102, HB⟩ := n_
         (try clear hb)
         (try clear hb2)
         (try clear hk)
         (try clear hi)
         refine hK.out _ _ ⟨(Y1 BK101.out 0).trans rfl, (Y1 BK101.out 1).trans rfl, (Y1 BK101.out 2).trans rfl, (Y1 BK101.out 3).trans rfl⟩ (fun hHeld => ?_)
         clear hK K
         refine Y1k (a' := ?_) ?_ ?_
         rotate_left
         ·show Act.put _ (some 32) _ = _
          simp only [Act.put, List.setIfInBounds_toArray, List.set_cons_zero, List.set_cons_succ, Y14, Y15]
          rfl
         refine pY 2 33 bz14_7 ?_
         refine pY 3 34 bz14_f ?_
         refine pT 4 35 Y5p ?_
         refine pT 6 37 bz14_5f ?_
         refine Y2b (i := 5) (N := some 36) Y5q rfl rfl (Y16 HT_.out Z6) (by decide) (fun K hK => ?_)
         refine Y1r Tryd.func24 Z6 rfl #[.agg #[.int .i64 a0_0, .string a0_1, .slice A0_2 l0_2.length c0_2, .slice A0_3 l0_3.length c0_3]] (by rfl) rfl rfl Z0 ?_
         with_reducible refine (YC.calls kj17 a0_0 a0_1 _ _ l0_2 _ _ l0_3 t111 _ ?side1 ?side2 ?side3 ?side4 A43.out).mono ?_
         (case side1 => exact Z5)
         (case side2 => exact Z10)
         (case side3 => exact Z7)
         (case side4 => exact Z13)
         rintro e w54 ⟨rfl, hb⟩
         refine ⟨_, rfl, ?_⟩
         have n_ := Y24 (Yj (g := gb101) (o := .cells #[.int .i64 a0_0, .string a0_1, .slice A0_2 l0_2.length c0_2, .slice A0_3 l0_3.length c0_3] 37 (0, 0)) QQ hb) (Yj (g := gb102) (o := .cells #[.int .i64 a1_0, .string a1_1, .slice A1_2 l1_2.length c1_2, .slice A1_3 l1_3.length c1_3] 37 (0, 0)) QQ hb) (Y6 QB hb)
         clear BK101
         clear BK102
         clear HB
         obtain ⟨BK101, BK102, HB⟩ := n_
         (try clear hb)
         (try clear hb2)
         (try clear hk)
         (try clear hi)
         refine hK.out _ _ ⟨(Y1 BK101.out 0).trans rfl, (Y1 BK101.out 1).trans rfl, (Y1 BK101.out 2).trans rfl, (Y1 BK101.out 3).trans rfl⟩ (fun hHeld => ?_)
         clear hK K
         refine Y1k (a' := ?_) ?_ ?_
         rotate_left
         ·show Act.put _ (some 36) _ = _
          simp only [Act.put, List.setIfInBounds_toArray, List.set_cons_zero, List.set_cons_succ, Y14, Y15]
          rfl
         refine Y2b (i := 7) (N := some 38) Y5r rfl rfl (Y16 HT_.out Z6) (by decide) (fun K hK => ?_)
         refine Y1r Tryd.func29 Z6 rfl #[.agg #[.int .i64 a0_0, .string a0_1, .slice A0_2 l0_2.length c0_2, .slice A0_3 l0_3.length c0_3]] (by rfl) rfl rfl Z0 ?_
         with_reducible refine (Y7.calls kj17 a0_0 a0_1 _ _ l0_2 _ _ l0_3 t112 _ ?side1 ?side2 ?side3 ?side4 A44.out).mono ?_
         (case side1 => exact Z5)
         (case side2 => exact Z10)
         (case side3 => exact Z7)
         (case side4 => exact Z13)
         rintro e w55 ⟨rfl, hb⟩
         refine ⟨_, rfl, ?_⟩
         have n_ := Y24 (Yj (g := gb101) (o := .cells #[.int .i64 a0_0, .string a0_1, .slice A0_2 l0_2.length c0_2, .slice A0_3 l0_3.length c0_3] 37 (0, 0)) QQ hb) (Yj (g := gb102) (o := .cells #[.int .i64 a1_0, .string a1_1, .slice A1_2 l1_2.length c1_2, .slice A1_3 l1_3.length c1_3] 37 (0, 0)) QQ hb) (Y6 QB hb)
         clear BK101
         clear BK102
         clear HB
         obtain ⟨BK101, BK102, HB⟩ := n_
         (try clear hb)
         (try clear hb2)
         (try clear hk)
         (try clear hi)
         refine hK.out _ _ ⟨(Y1 BK101.out 0).trans rfl, (Y1 BK101.out 1).trans rfl, (Y1 BK101.out 2).trans rfl, (Y1 BK101.out 3).trans rfl⟩ (fun hHeld => ?_)
         clear hK K
         refine Y1k (a' := ?_) ?_ ?_
         rotate_left
         ·show Act.put _ (some 38) _ = _
          simp only [Act.put, List.setIfInBounds_toArray, List.set_cons_zero, List.set_cons_succ, Y14, Y15]
          rfl
         refine pY 8 39 Y4C ?_
         refine pY 9 40 Y4D ?_
         refine pY 10 41 Y4E ?_
         refine pU 11 42 Y4F ?_
         refine pY 12 43 Y3W ?_
         refine pY 13 4 Y3X ?_
         refine Y1O (Y1a HT_.out Z6) ?_
         try go_wp2
         go_ret
         exact Z1F
       ·replace c42 := Bool.eq_false_iff.mpr c42
        subst c42
        have H1 : ((YO.f kj17).bind fun t114 => (some t114)) = some r := by rw [if_neg (show ¬ (false = true) by decide)] at H; exact H
        clear H
        have H := H1
        clear H1
        replace H := Option.bind_eq_some_iff.mp H
        obtain ⟨t114, A560, H⟩ := H
        replace H : (some t114) = some r := H
        have A56 := Y0.mk A560
        clear A560
        obtain rfl := Option.some.inj H
        try go_wp2
        have n_ := Y24 (Yc BK101.out) (Yc BK102.out) (YL HB.out)
        clear BK101
        clear BK102
        clear HB
        obtain ⟨BK101, BK102, HB⟩ := n_
        refine Y1q (n := 14) (S := fun w' => w'.cell? ⟨gb101, 0, none⟩ = some (.int .i64 a0_0) ∧ w'.cell? ⟨gb101, 1, none⟩ = some (.string a0_1) ∧ w'.cell? ⟨gb101, 2, none⟩ = some (.slice A0_2 l0_2.length c0_2) ∧ w'.cell? ⟨gb101, 3, none⟩ = some (.slice A0_3 l0_3.length c0_3)) (ds := []) bz14_0 Z6 rfl rfl ⟨(Y1 BK101.out 0).trans rfl, (Y1 BK101.out 1).trans rfl, (Y1 BK101.out 2).trans rfl, (Y1 BK101.out 3).trans rfl⟩ (fun hHeld => ?_); refine YW triviumlaw12_QueryTells.tab5 triviumlaw12_QueryTells.bits5 (fun HT_ HW_ => ?_)
        generalize wc.drew = w57 at BK101 BK102 HB hHeld ⊢
        refine pT 0 31 bz14_1 ?_
        refine Y2b (i := 1) (N := some 32) bz14_3 rfl rfl (Y16 HT_.out Z6) (by decide) (fun K hK => ?_)
        refine Y1r Tryd.func23 Z6 rfl #[.agg #[.int .i64 a0_0, .string a0_1, .slice A0_2 l0_2.length c0_2, .slice A0_3 l0_3.length c0_3]] (by rfl) rfl rfl Z0 ?_
        with_reducible refine (YU.calls kj17 a0_0 a0_1 _ _ l0_2 _ _ l0_3 false _ ?side1 ?side2 ?side3 ?side4 ?side5 A41.out).mono ?_
        (case side1 => exact Z3)
        (case side2 => exact Z5)
        (case side3 => exact Z10)
        (case side4 => exact Z7)
        (case side5 => exact Z13)
        rintro e w58 ⟨rfl, hb⟩
        refine ⟨_, rfl, ?_⟩
        have n_ := Y24 (Yj (g := gb101) (o := .cells #[.int .i64 a0_0, .string a0_1, .slice A0_2 l0_2.length c0_2, .slice A0_3 l0_3.length c0_3] 37 (0, 0)) QQ hb) (Yj (g := gb102) (o := .cells #[.int .i64 a1_0, .string a1_1, .slice A1_2 l1_2.length c1_2, .slice A1_3 l1_3.length c1_3] 37 (0, 0)) QQ hb) (Y6 QB hb)
        clear BK101
        clear BK102
        clear HB
        obtain ⟨BK101, BK102, HB⟩ := n_
        (try clear hb)
        (try clear hb2)
        (try clear hk)
        (try clear hi)
        refine hK.out _ _ ⟨(Y1 BK101.out 0).trans rfl, (Y1 BK101.out 1).trans rfl, (Y1 BK101.out 2).trans rfl, (Y1 BK101.out 3).trans rfl⟩ (fun hHeld => ?_)
        clear hK K
        refine Y1k (a' := ?_) ?_ ?_
        rotate_left
        ·show Act.put _ (some 32) _ = _
         simp only [Act.put, List.setIfInBounds_toArray, List.set_cons_zero, List.set_cons_succ, Y14, Y15]
         rfl
        refine pY 2 33 bz14_7 ?_
        refine pY 3 34 bz14_f ?_
        refine pU 4 35 Y5p ?_
        refine pU 5 36 bz14_3f ?_
        refine pU 6 37 Y5q ?_
        refine pU 7 38 Y5r ?_
        refine pU 8 39 Y4C ?_
        refine pY 9 40 Y4D ?_
        refine pY 10 41 Y4E ?_
        refine Y2b (i := 11) (N := some 42) Y4F rfl rfl (Y16 HT_.out Z6) (by decide) (fun K hK => ?_)
        refine Y1r Tryd.func27 Z6 rfl #[] (by rfl) rfl rfl Z0 ?_
        with_reducible refine (YO.calls kj17  t114 _ ?side1 A56.out).mono ?_
        (case side1 => exact Z3)
        rintro e w59 ⟨rfl, hb⟩
        refine ⟨_, rfl, ?_⟩
        have n_ := Y24 (Yj (g := gb101) (o := .cells #[.int .i64 a0_0, .string a0_1, .slice A0_2 l0_2.length c0_2, .slice A0_3 l0_3.length c0_3] 37 (0, 0)) QQ hb) (Yj (g := gb102) (o := .cells #[.int .i64 a1_0, .string a1_1, .slice A1_2 l1_2.length c1_2, .slice A1_3 l1_3.length c1_3] 37 (0, 0)) QQ hb) (Y6 QB hb)
        clear BK101
        clear BK102
        clear HB
        obtain ⟨BK101, BK102, HB⟩ := n_
        (try clear hb)
        (try clear hb2)
        (try clear hk)
        (try clear hi)
        refine hK.out _ _ ⟨(Y1 BK101.out 0).trans rfl, (Y1 BK101.out 1).trans rfl, (Y1 BK101.out 2).trans rfl, (Y1 BK101.out 3).trans rfl⟩ (fun hHeld => ?_)
        clear hK K
        refine Y1k (a' := ?_) ?_ ?_
        rotate_left
        ·show Act.put _ (some 42) _ = _
         simp only [Act.put, List.setIfInBounds_toArray, List.set_cons_zero, List.set_cons_succ, Y14, Y15]
         rfl
        refine pY 12 43 Y3W ?_
        refine pY 13 4 Y3X ?_
        refine Y1O (Y1a HT_.out Z6) ?_
        try go_wp2
        go_ret
        exact Z1F
def Y1B (w0 W : World) (g : Nat) (f0 : ByteArray) (f1 : Int) (f2 : Int) (f3 : Int) : Prop := W.heap[g]? = some (.cells #[.string f0, .int .i64 f1, .int .i64 f2, .int .i64 f3] 81 (0, 0)) ∧ w0.heap.size ≤ g
theorem Y1B.grown {w0 W : World} {g : Nat} {f0 : ByteArray} {f1 : Int} {f2 : Int} {f3 : Int} {W1 : World} {row : Option Nat} (h : Y1B w0 W g f0 f1 f2 f3) (hw : W.grownBy W1 row) (hne : some g ≠ row) : Y1B w0 W1 g f0 f1 f2 f3 := by
 obtain ⟨hb, hg⟩ := h
 exact ⟨Y3k hb hw hne, hg⟩
theorem Y1B.fresh {w0 W : World} {g : Nat} {f0 : ByteArray} {f1 : Int} {f2 : Int} {f3 : Int} (h : Y1B w0 W g f0 f1 f2 f3) : ∀ k, W.heap.size ≤ k → k ≠ g := by
 obtain ⟨hb, hg⟩ := h
 exact Kd.freshB hb
theorem Y1B.kept {w0 W : World} {g : Nat} {f0 : ByteArray} {f1 : Int} {f2 : Int} {f3 : Int} {W1 : World} {S : Nat → Prop} (h : Y1B w0 W g f0 f1 f2 f3) (hk : Y3j W W1 S) (hne : ¬ S g) : Y1B w0 W1 g f0 f1 f2 f3 := by
 obtain ⟨hb, hg⟩ := h
 exact ⟨Y5G hb hk hne, hg⟩
theorem Y1B.below {w0 W : World} {g : Nat} {f0 : ByteArray} {f1 : Int} {f2 : Int} {f3 : Int} {W1 : World} (h : Y1B w0 W g f0 f1 f2 f3) (hw : Below W.heap.size W W1) : Y1B w0 W1 g f0 f1 f2 f3 := h.grown (Y2N hw none) (by simp)
theorem Y1B.alloc {w0 W : World} {g : Nat} {f0 : ByteArray} {f1 : Int} {f2 : Int} {f3 : Int} (h : Y1B w0 W g f0 f1 f2 f3) (o : Obj) : Y1B w0 (W.alloc o) g f0 f1 f2 f3 := h.below (Y1D (Below.refl _ _) o)
theorem Y1B.drewN {w0 W : World} {g : Nat} {f0 : ByteArray} {f1 : Int} {f2 : Int} {f3 : Int} (h : Y1B w0 W g f0 f1 f2 f3) (m : Nat) : Y1B w0 (W.drewN m) g f0 f1 f2 f3 := h
theorem Y1B.drew {w0 W : World} {g : Nat} {f0 : ByteArray} {f1 : Int} {f2 : Int} {f3 : Int} (h : Y1B w0 W g f0 f1 f2 f3) : Y1B w0 W.drew g f0 f1 f2 f3 := h
theorem Y1B.at_ {w0 W : World} {g : Nat} {f0 : ByteArray} {f1 : Int} {f2 : Int} {f3 : Int} {w' : World} {m : Nat} (hq : W.drewN m = w') (h : Y1B w0 W g f0 f1 f2 f3) : Y1B w0 w' g f0 f1 f2 f3 := by subst hq; exact Y1B.drewN h m
theorem Y1B.apart {w0 W : World} {g : Nat} {f0 : ByteArray} {f1 : Int} {f2 : Int} {f3 : Int} {α : Type} {d : Kd α} {e : Nat} {base : Nat} {ok : Nat → Prop} {v : Value} {xs : List α} (h : Y1B w0 W g f0 f1 f2 f3) (ho : d.R e W base ok v xs) (ht : ∀ q, q ∈ e :: d.E → q ≠ 81) : d.R e W base (fun k => ok k ∧ k ≠ g) v xs := by
 obtain ⟨hb, hg⟩ := h
 exact Kd.R_types ho hb ht
theorem Y1B.Y58 {w0 W : World} {g : Nat} {f0 : ByteArray} {f1 : Int} {f2 : Int} {f3 : Int} {α : Type} {d : Kd α} {e : Nat} {base : Nat} {ok : Nat → Prop} {v : Value} {xs : List α} (h : Y1B w0 W g f0 f1 f2 f3) (ho : d.R e W base ok v xs) (ht : e ≠ 81) : some g ≠ v.ownBlock := by
 obtain ⟨hb, hg⟩ := h
 exact Kd.R_ne ho hb ht
theorem Y1B.lt {w0 W : World} {g : Nat} {f0 : ByteArray} {f1 : Int} {f2 : Int} {f3 : Int} (h : Y1B w0 W g f0 f1 f2 f3) : g < W.heap.size := by
 obtain ⟨hb, hg⟩ := h
 exact Y1b hb
theorem Y1B.ge {w0 W : World} {g : Nat} {f0 : ByteArray} {f1 : Int} {f2 : Int} {f3 : Int} (h : Y1B w0 W g f0 f1 f2 f3) : w0.heap.size ≤ g := by
 obtain ⟨hb, hg⟩ := h
 exact hg
theorem Y1B.far {w0 W : World} {g : Nat} {f0 : ByteArray} {f1 : Int} {f2 : Int} {f3 : Int} {p : Addr} (h : Y1B w0 W g f0 f1 f2 f3) (hne : g ≠ p.block) (u : Value) : Y1B w0 (W.setCell p u) g f0 f1 f2 f3 := by
 obtain ⟨hb, hg⟩ := h
 exact ⟨Y18 hb hne u, hg⟩
theorem Y1B.set_0 {w0 W : World} {g : Nat} {f0 : ByteArray} {f1 : Int} {f2 : Int} {f3 : Int} (h : Y1B w0 W g f0 f1 f2 f3) (x : ByteArray) : Y1B w0 (W.setCell ⟨g, 0, none⟩ (.string x)) g x f1 f2 f3 := by
 obtain ⟨hb, hg⟩ := h
 exact ⟨by simpa using Y2Q hb 0 (.string x), hg⟩
theorem Y1B.set_1 {w0 W : World} {g : Nat} {f0 : ByteArray} {f1 : Int} {f2 : Int} {f3 : Int} (h : Y1B w0 W g f0 f1 f2 f3) (x : Int) : Y1B w0 (W.setCell ⟨g, 1, none⟩ (.int .i64 x)) g f0 x f2 f3 := by
 obtain ⟨hb, hg⟩ := h
 exact ⟨by simpa using Y2Q hb 1 (.int .i64 x), hg⟩
theorem Y1B.set_2 {w0 W : World} {g : Nat} {f0 : ByteArray} {f1 : Int} {f2 : Int} {f3 : Int} (h : Y1B w0 W g f0 f1 f2 f3) (x : Int) : Y1B w0 (W.setCell ⟨g, 2, none⟩ (.int .i64 x)) g f0 f1 x f3 := by
 obtain ⟨hb, hg⟩ := h
 exact ⟨by simpa using Y2Q hb 2 (.int .i64 x), hg⟩
theorem Y1B.set_3 {w0 W : World} {g : Nat} {f0 : ByteArray} {f1 : Int} {f2 : Int} {f3 : Int} (h : Y1B w0 W g f0 f1 f2 f3) (x : Int) : Y1B w0 (W.setCell ⟨g, 3, none⟩ (.int .i64 x)) g f0 f1 f2 x := by
 obtain ⟨hb, hg⟩ := h
 exact ⟨by simpa using Y2Q hb 3 (.int .i64 x), hg⟩
def Yh.l0 : Nat → ByteArray → Int → Int → Int → Option (Int × ByteArray × Int × Int × Int)
 | 0, _, _, _, _ => none
 | k + 1, x1000, x1001, x1002, x1003 => if x1001 < (x1000.size : Int) then (if 0 ≤ x1001 then (if (bt x1000 x1001) = 32 then (Yh.l0 k x1000 (wrap64 (x1001 + 1)) x1002 x1003) else (if x1002 = 0 then (if x1001 ≥ (x1000.size : Int) then (some (0, x1000, x1001, x1002, x1003)) else (some (bt x1000 x1001, x1000, x1001, x1002, x1003))) else (some (0, x1000, x1001, x1002, x1003)))) else (none)) else (if x1002 = 0 then (if x1001 ≥ (x1000.size : Int) then (some (0, x1000, x1001, x1002, x1003)) else (if 0 ≤ x1001 then (none) else (none))) else (some (0, x1000, x1001, x1002, x1003)))
def Yh.f (k : Nat) (s0_0 : ByteArray) (s0_1 : Int) (s0_2 : Int) (s0_3 : Int) : Option (Int × ByteArray × Int × Int × Int) := Yh.l0 k s0_0 s0_1 s0_2 s0_3
theorem Yh.mono_l : ∀ k, (∀ y0 y1 y2 y3, LeO (Yh.l0 k y0 y1 y2 y3) (Yh.l0 (k + 1) y0 y1 y2 y3))
 | 0 => fun _ _ _ _ r h => by simp [Yh.l0] at h
 | k + 1 => by
  have ih0 := Yh.mono_l k
  ·intro y0 y1 y2 y3
   unfold Yh.l0
   repeat' first
   | (with_reducible exact ih0 _ _ _ _)
   | (with_reducible exact LeO.refl _)
   | (with_reducible exact LeO.none _)
   | (with_reducible refine LeO.ite ?_ ?_)
   | (with_reducible refine LeO.bind ?_ (fun _ => ?_))
   | exact ih0 _ _ _ _
   | exact LeO.none _
   | refine LeO.ite ?_ ?_
   | refine LeO.bind ?_ (fun _ => ?_)
theorem Yh.mono : ∀ a0 a1 a2 a3 k, LeO (Yh.f k a0 a1 a2 a3) (Yh.f (k + 1) a0 a1 a2 a3) := by
 intro a0 a1 a2 a3 k
 have ih0 := Yh.mono_l k
 unfold Yh.f
 repeat' first
   | (with_reducible exact ih0 _ _ _ _)
   | (with_reducible exact LeO.refl _)
   | (with_reducible exact LeO.none _)
   | (with_reducible refine LeO.ite ?_ ?_)
   | (with_reducible refine LeO.bind ?_ (fun _ => ?_))
   | exact ih0 _ _ _ _
   | exact LeO.none _
   | refine LeO.ite ?_ ?_
   | refine LeO.bind ?_ (fun _ => ?_)
def Y1d.f (s0_0 : ByteArray) (s0_1 : Int) (s0_2 : Int) (s0_3 : Int) (a1 : Int) (a2 : Int) : Option (Int × ByteArray × List ByteArray × (List (S37)) × ByteArray × Int × Int × Int) := if s0_2 = 0 then (some (0, (⟨#[]⟩ : ByteArray), ([] : List ByteArray), ([] : List (S37)), s0_0, s0_1, a2, a1)) else (some (0, (⟨#[]⟩ : ByteArray), ([] : List ByteArray), ([] : List (S37)), s0_0, s0_1, s0_2, s0_3))
mutual
def Ye.j1 : Nat → Int → ByteArray → Int → Int → Int → Option (ByteArray × ByteArray × Int × Int × Int)
 | 0, _, _, _, _, _ => none
 | k + 1, x3, x1000, x1001, x1002, x1003 => if x3 ≥ (x1000.size : Int) then ((Y1d.f x1000 x1001 x1002 x1003 x1001 2).bind fun bt118 => (some ((⟨#[]⟩ : ByteArray), bt118.2.2.2.2.1, bt118.2.2.2.2.2.1, bt118.2.2.2.2.2.2.1, bt118.2.2.2.2.2.2.2))) else (if 0 ≤ (wrap64 (x1001 + 1)) then (if (wrap64 (x1001 + 1)) ≤ x3 then (if x3 ≤ (x1000.size : Int) then ((YX.f (x1000.extract ((wrap64 (x1001 + 1)) : Int).toNat (x3 : Int).toNat)).bind fun t130 => (if t130 = true then (some (x1000.extract ((wrap64 (x1001 + 1)) : Int).toNat (x3 : Int).toNat, x1000, wrap64 (x3 + 1), x1002, x1003)) else ((Y1d.f x1000 x1001 x1002 x1003 x1001 2).bind fun bt131 => (some ((⟨#[]⟩ : ByteArray), bt131.2.2.2.2.1, bt131.2.2.2.2.2.1, bt131.2.2.2.2.2.2.1, bt131.2.2.2.2.2.2.2))))) else (none)) else (none)) else (none))
def Ye.l0 : Nat → Int → ByteArray → Int → Int → Int → Option (ByteArray × ByteArray × Int × Int × Int)
 | 0, _, _, _, _, _ => none
 | k + 1, x3, x1000, x1001, x1002, x1003 => if x3 < (x1000.size : Int) then (if 0 ≤ x3 then (if (bt x1000 x3) = 62 then (Ye.j1 k x3 x1000 x1001 x1002 x1003) else (Ye.l0 k (wrap64 (x3 + 1)) x1000 x1001 x1002 x1003)) else (none)) else (Ye.j1 k x3 x1000 x1001 x1002 x1003)
end
def Ye.f (k : Nat) (s0_0 : ByteArray) (s0_1 : Int) (s0_2 : Int) (s0_3 : Int) : Option (ByteArray × ByteArray × Int × Int × Int) := (Yh.f k s0_0 s0_1 s0_2 s0_3).bind fun bt101 => (if bt101.1 = 60 then (Ye.l0 k (wrap64 (bt101.2.2.1 + 1)) bt101.2.1 bt101.2.2.1 bt101.2.2.2.1 bt101.2.2.2.2) else ((Y1d.f bt101.2.1 bt101.2.2.1 bt101.2.2.2.1 bt101.2.2.2.2 bt101.2.2.1 2).bind fun bt106 => (some ((⟨#[]⟩ : ByteArray), bt106.2.2.2.2.1, bt106.2.2.2.2.2.1, bt106.2.2.2.2.2.2.1, bt106.2.2.2.2.2.2.2))))
theorem Ye.mono_l : ∀ k, (∀ y0 y1 y2 y3 y4, LeO (Ye.j1 k y0 y1 y2 y3 y4) (Ye.j1 (k + 1) y0 y1 y2 y3 y4)) ∧ (∀ y0 y1 y2 y3 y4, LeO (Ye.l0 k y0 y1 y2 y3 y4) (Ye.l0 (k + 1) y0 y1 y2 y3 y4))
 | 0 => ⟨fun _ _ _ _ _ r h => by simp [Ye.j1] at h, fun _ _ _ _ _ r h => by simp [Ye.l0] at h⟩
 | k + 1 => by
  obtain ⟨ih0, ih1⟩ := Ye.mono_l k
  refine ⟨?_, ?_⟩
  ·intro y0 y1 y2 y3 y4
   unfold Ye.j1
   repeat' first
   | (with_reducible exact ih0 _ _ _ _ _)
   | (with_reducible exact ih1 _ _ _ _ _)
   | (with_reducible exact Yh.mono _ _ _ _ _)
   | (with_reducible exact LeO.refl _)
   | (with_reducible exact LeO.none _)
   | (with_reducible refine LeO.ite ?_ ?_)
   | (with_reducible refine LeO.bind ?_ (fun _ => ?_))
   | exact ih0 _ _ _ _ _
   | exact ih1 _ _ _ _ _
   | exact Yh.mono _ _ _ _ _
   | exact LeO.none _
   | refine LeO.ite ?_ ?_
   | refine LeO.bind ?_ (fun _ => ?_)
  ·intro y0 y1 y2 y3 y4
   unfold Ye.l0
   repeat' first
   | (with_reducible exact ih0 _ _ _ _ _)
   | (with_reducible exact ih1 _ _ _ _ _)
   | (with_reducible exact Yh.mono _ _ _ _ _)
   | (with_reducible exact LeO.refl _)
   | (with_reducible exact LeO.none _)
   | (with_reducible refine LeO.ite ?_ ?_)
   | (with_reducible refine LeO.bind ?_ (fun _ => ?_))
   | exact ih0 _ _ _ _ _
   | exact ih1 _ _ _ _ _
   | exact Yh.mono _ _ _ _ _
   | exact LeO.none _
   | refine LeO.ite ?_ ?_
   | refine LeO.bind ?_ (fun _ => ?_)
theorem Ye.mono : ∀ a0 a1 a2 a3 k, LeO (Ye.f k a0 a1 a2 a3) (Ye.f (k + 1) a0 a1 a2 a3) := by
 intro a0 a1 a2 a3 k
 obtain ⟨ih0, ih1⟩ := Ye.mono_l k
 unfold Ye.f
 repeat' first
   | (with_reducible exact ih0 _ _ _ _ _)
   | (with_reducible exact ih1 _ _ _ _ _)
   | (with_reducible exact Yh.mono _ _ _ _ _)
   | (with_reducible exact LeO.refl _)
   | (with_reducible exact LeO.none _)
   | (with_reducible refine LeO.ite ?_ ?_)
   | (with_reducible refine LeO.bind ?_ (fun _ => ?_))
   | exact ih0 _ _ _ _ _
   | exact ih1 _ _ _ _ _
   | exact Yh.mono _ _ _ _ _
   | exact LeO.none _
   | refine LeO.ite ?_ ?_
   | refine LeO.bind ?_ (fun _ => ?_)
def Yr.f (k : Nat) (s0_0 : ByteArray) (s0_1 : Int) (s0_2 : Int) (s0_3 : Int) (a1 : Int) : Option (Bool × ByteArray × Int × Int × Int) := (Yh.f k s0_0 s0_1 s0_2 s0_3).bind fun bt101 => (if bt101.1 = a1 then (some (true, bt101.2.1, wrap64 (bt101.2.2.1 + 1), bt101.2.2.2.1, bt101.2.2.2.2)) else (some (false, bt101.2.1, bt101.2.2.1, bt101.2.2.2.1, bt101.2.2.2.2)))
theorem Yr.mono : ∀ a0 a1 a2 a3 a4 k, LeO (Yr.f k a0 a1 a2 a3 a4) (Yr.f (k + 1) a0 a1 a2 a3 a4) := by
 intro a0 a1 a2 a3 a4 k
 unfold Yr.f
 repeat' first
   | (with_reducible exact Yh.mono _ _ _ _ _)
   | (with_reducible exact LeO.refl _)
   | (with_reducible exact LeO.none _)
   | (with_reducible refine LeO.ite ?_ ?_)
   | (with_reducible refine LeO.bind ?_ (fun _ => ?_))
   | exact Yh.mono _ _ _ _ _
   | exact LeO.none _
   | refine LeO.ite ?_ ?_
   | refine LeO.bind ?_ (fun _ => ?_)
mutual
def Yo.j0 : Nat → Bool → ByteArray → Int → Int → Int → Int → Option (Int × ByteArray × List ByteArray × (List (S37)) × ByteArray × Int × Int × Int)
 | 0, _, _, _, _, _, _ => none
 | k + 1, x26, x1000, x1001, x1002, x1003, x103000 => if x26 = true then ((Ye.f k x1000 (wrap64 (x1001 + 1)) x1002 x1003).bind fun bt103 => (Yo.l0 k bt103.2.1 bt103.2.2.1 bt103.2.2.2.1 bt103.2.2.2.2 x103000 (([bt103.1] : List ByteArray)))) else ((Ye.f k x1000 x1001 x1002 x1003).bind fun bt141 => (some (x103000, (⟨#[]⟩ : ByteArray), (([bt141.1] : List ByteArray)), ([] : List (S37)), bt141.2.1, bt141.2.2.1, bt141.2.2.2.1, bt141.2.2.2.2)))
def Yo.l0 : Nat → ByteArray → Int → Int → Int → Int → List ByteArray → Option (Int × ByteArray × List ByteArray × (List (S37)) × ByteArray × Int × Int × Int)
 | 0, _, _, _, _, _, _ => none
 | k + 1, x1000, x1001, x1002, x1003, x103000, x103002 => (Yr.f k x1000 x1001 x1002 x1003 124).bind fun bt111 => (if bt111.1 = true then ((Ye.f k bt111.2.1 bt111.2.2.1 bt111.2.2.2.1 bt111.2.2.2.2).bind fun bt116 => (if x103002.length < 8796093022208 then (Yo.l0 k bt116.2.1 bt116.2.2.1 bt116.2.2.2.1 bt116.2.2.2.2 x103000 (x103002 ++ [bt116.1])) else (none))) else ((Yr.f k bt111.2.1 bt111.2.2.1 bt111.2.2.2.1 bt111.2.2.2.2 41).bind fun bt124 => (if bt124.1 = true then (some (x103000, (⟨#[]⟩ : ByteArray), x103002, ([] : List (S37)), bt124.2.1, bt124.2.2.1, bt124.2.2.2.1, bt124.2.2.2.2)) else ((Y1d.f bt124.2.1 bt124.2.2.1 bt124.2.2.2.1 bt124.2.2.2.2 bt124.2.2.1 2).bind fun bt129 => (some (bt129.1, bt129.2.1, bt129.2.2.1, bt129.2.2.2.1, bt129.2.2.2.2.1, bt129.2.2.2.2.2.1, bt129.2.2.2.2.2.2.1, bt129.2.2.2.2.2.2.2))))))
end
def Yo.f (k : Nat) (s0_0 : ByteArray) (s0_1 : Int) (s0_2 : Int) (s0_3 : Int) : Option (Int × ByteArray × List ByteArray × (List (S37)) × ByteArray × Int × Int × Int) := if s0_1 < (s0_0.size : Int) then (if 0 ≤ s0_1 then (Yo.j0 k ((bt s0_0 s0_1) == 40) s0_0 s0_1 s0_2 s0_3 8) else (none)) else (Yo.j0 k false s0_0 s0_1 s0_2 s0_3 8)
theorem Yo.mono_l : ∀ k, (∀ y0 y1 y2 y3 y4 y5, LeO (Yo.j0 k y0 y1 y2 y3 y4 y5) (Yo.j0 (k + 1) y0 y1 y2 y3 y4 y5)) ∧ (∀ y0 y1 y2 y3 y4 y5, LeO (Yo.l0 k y0 y1 y2 y3 y4 y5) (Yo.l0 (k + 1) y0 y1 y2 y3 y4 y5))
 | 0 => ⟨fun _ _ _ _ _ _ r h => by simp [Yo.j0] at h, fun _ _ _ _ _ _ r h => by simp [Yo.l0] at h⟩
 | k + 1 => by
  obtain ⟨ih0, ih1⟩ := Yo.mono_l k
  refine ⟨?_, ?_⟩
  ·intro y0 y1 y2 y3 y4 y5
   unfold Yo.j0
   repeat' first
   | (with_reducible exact ih0 _ _ _ _ _ _)
   | (with_reducible exact ih1 _ _ _ _ _ _)
   | (with_reducible exact Ye.mono _ _ _ _ _)
   | (with_reducible exact Yr.mono _ _ _ _ _ _)
   | (with_reducible exact LeO.refl _)
   | (with_reducible exact LeO.none _)
   | (with_reducible refine LeO.ite ?_ ?_)
   | (with_reducible refine LeO.bind ?_ (fun _ => ?_))
   | exact ih0 _ _ _ _ _ _
   | exact ih1 _ _ _ _ _ _
   | exact Ye.mono _ _ _ _ _
   | exact Yr.mono _ _ _ _ _ _
   | exact LeO.none _
   | refine LeO.ite ?_ ?_
   | refine LeO.bind ?_ (fun _ => ?_)
  ·intro y0 y1 y2 y3 y4 y5
   unfold Yo.l0
   repeat' first
   | (with_reducible exact ih0 _ _ _ _ _ _)
   | (with_reducible exact ih1 _ _ _ _ _ _)
   | (with_reducible exact Ye.mono _ _ _ _ _)
   | (with_reducible exact Yr.mono _ _ _ _ _ _)
   | (with_reducible exact LeO.refl _)
   | (with_reducible exact LeO.none _)
   | (with_reducible refine LeO.ite ?_ ?_)
   | (with_reducible refine LeO.bind ?_ (fun _ => ?_))
   | exact ih0 _ _ _ _ _ _
   | exact ih1 _ _ _ _ _ _
   | exact Ye.mono _ _ _ _ _
   | exact Yr.mono _ _ _ _ _ _
   | exact LeO.none _
   | refine LeO.ite ?_ ?_
   | refine LeO.bind ?_ (fun _ => ?_)
theorem Yo.mono : ∀ a0 a1 a2 a3 k, LeO (Yo.f k a0 a1 a2 a3) (Yo.f (k + 1) a0 a1 a2 a3) := by
 intro a0 a1 a2 a3 k
 obtain ⟨ih0, ih1⟩ := Yo.mono_l k
 unfold Yo.f
 repeat' first
   | (with_reducible exact ih0 _ _ _ _ _ _)
   | (with_reducible exact ih1 _ _ _ _ _ _)
   | (with_reducible exact Ye.mono _ _ _ _ _)
   | (with_reducible exact Yr.mono _ _ _ _ _ _)
   | (with_reducible exact LeO.refl _)
   | (with_reducible exact LeO.none _)
   | (with_reducible refine LeO.ite ?_ ?_)
   | (with_reducible refine LeO.bind ?_ (fun _ => ?_))
   | exact ih0 _ _ _ _ _ _
   | exact ih1 _ _ _ _ _ _
   | exact Ye.mono _ _ _ _ _
   | exact Yr.mono _ _ _ _ _ _
   | exact LeO.none _
   | refine LeO.ite ?_ ?_
   | refine LeO.bind ?_ (fun _ => ?_)
mutual
def YP.l0 : Nat → Int → ByteArray → Int → Int → Int → Int → ByteArray → List ByteArray → List (S37) → Option (Int × ByteArray × List ByteArray × (List (S37)) × ByteArray × Int × Int × Int)
 | 0, _, _, _, _, _, _, _, _, _ => none
 | k + 1, x1, x1000, x1001, x1002, x1003, x115000, x115001, x115002, x115003 => (Yr.f k x1000 x1001 x1002 x1003 124).bind fun bt115 => (if bt115.1 = true then ((YS.f k bt115.2.1 bt115.2.2.1 bt115.2.2.2.1 bt115.2.2.2.2 x1).bind fun bt120 => (YP.l0 k x1 bt120.2.2.2.2.1 bt120.2.2.2.2.2.1 bt120.2.2.2.2.2.2.1 bt120.2.2.2.2.2.2.2 4 (⟨#[]⟩ : ByteArray) ([] : List ByteArray) (([(⟨x115000, x115001, x115002, x115003⟩ : S37), (⟨bt120.1, bt120.2.1, bt120.2.2.1, bt120.2.2.2.1⟩ : S37)] : List (S37))))) else (some (x115000, x115001, x115002, x115003, bt115.2.1, bt115.2.2.1, bt115.2.2.2.1, bt115.2.2.2.2)))
def YP.f : Nat → ByteArray → Int → Int → Int → Int → Option (Int × ByteArray × List ByteArray × (List (S37)) × ByteArray × Int × Int × Int)
 | 0, _, _, _, _, _ => none
 | k + 1, s0_0, s0_1, s0_2, s0_3, a1 => (YS.f k s0_0 s0_1 s0_2 s0_3 a1).bind fun bt102 => (YP.l0 k a1 bt102.2.2.2.2.1 bt102.2.2.2.2.2.1 bt102.2.2.2.2.2.2.1 bt102.2.2.2.2.2.2.2 bt102.1 bt102.2.1 bt102.2.2.1 bt102.2.2.2.1)
def YS.l0 : Nat → Int → ByteArray → Int → Int → Int → Int → ByteArray → List ByteArray → List (S37) → Option (Int × ByteArray × List ByteArray × (List (S37)) × ByteArray × Int × Int × Int)
 | 0, _, _, _, _, _, _, _, _, _ => none
 | k + 1, x1, x1000, x1001, x1002, x1003, x149000, x149001, x149002, x149003 => (Yr.f k x1000 x1001 x1002 x1003 47).bind fun bt149 => (if bt149.1 = true then ((YK.f k bt149.2.1 bt149.2.2.1 bt149.2.2.2.1 bt149.2.2.2.2 x1).bind fun bt154 => (YS.l0 k x1 bt154.2.2.2.2.1 bt154.2.2.2.2.2.1 bt154.2.2.2.2.2.2.1 bt154.2.2.2.2.2.2.2 3 (⟨#[]⟩ : ByteArray) ([] : List ByteArray) (([(⟨x149000, x149001, x149002, x149003⟩ : S37), (⟨bt154.1, bt154.2.1, bt154.2.2.1, bt154.2.2.2.1⟩ : S37)] : List (S37))))) else (some (x149000, x149001, x149002, x149003, bt149.2.1, bt149.2.2.1, bt149.2.2.2.1, bt149.2.2.2.2)))
def YS.f : Nat → ByteArray → Int → Int → Int → Int → Option (Int × ByteArray × List ByteArray × (List (S37)) × ByteArray × Int × Int × Int)
 | 0, _, _, _, _, _ => none
 | k + 1, s0_0, s0_1, s0_2, s0_3, a1 => (YK.f k s0_0 s0_1 s0_2 s0_3 a1).bind fun bt136 => (YS.l0 k a1 bt136.2.2.2.2.1 bt136.2.2.2.2.2.1 bt136.2.2.2.2.2.2.1 bt136.2.2.2.2.2.2.2 bt136.1 bt136.2.1 bt136.2.2.1 bt136.2.2.2.1)
def YK.l0 : Nat → ByteArray → Int → Int → Int → Int → ByteArray → List ByteArray → List (S37) → Option (Int × ByteArray × List ByteArray × (List (S37)) × ByteArray × Int × Int × Int)
 | 0, _, _, _, _, _, _, _, _ => none
 | k + 1, x1000, x1001, x1002, x1003, x183000, x183001, x183002, x183003 => (Yr.f k x1000 x1001 x1002 x1003 42).bind fun bt183 => (if bt183.1 = true then (YK.l0 k bt183.2.1 bt183.2.2.1 bt183.2.2.2.1 bt183.2.2.2.2 5 (⟨#[]⟩ : ByteArray) ([] : List ByteArray) (([(⟨x183000, x183001, x183002, x183003⟩ : S37)] : List (S37)))) else ((Yr.f k bt183.2.1 bt183.2.2.1 bt183.2.2.2.1 bt183.2.2.2.2 43).bind fun bt191 => (if bt191.1 = true then (YK.l0 k bt191.2.1 bt191.2.2.1 bt191.2.2.2.1 bt191.2.2.2.2 6 (⟨#[]⟩ : ByteArray) ([] : List ByteArray) (([(⟨x183000, x183001, x183002, x183003⟩ : S37)] : List (S37)))) else ((Yr.f k bt191.2.1 bt191.2.2.1 bt191.2.2.2.1 bt191.2.2.2.2 63).bind fun bt199 => (if bt199.1 = true then (YK.l0 k bt199.2.1 bt199.2.2.1 bt199.2.2.2.1 bt199.2.2.2.2 7 (⟨#[]⟩ : ByteArray) ([] : List ByteArray) (([(⟨x183000, x183001, x183002, x183003⟩ : S37)] : List (S37)))) else (some (x183000, x183001, x183002, x183003, bt199.2.1, bt199.2.2.1, bt199.2.2.2.1, bt199.2.2.2.2)))))))
def YK.f : Nat → ByteArray → Int → Int → Int → Int → Option (Int × ByteArray × List ByteArray × (List (S37)) × ByteArray × Int × Int × Int)
 | 0, _, _, _, _, _ => none
 | k + 1, s0_0, s0_1, s0_2, s0_3, a1 => (YR.f k s0_0 s0_1 s0_2 s0_3 a1).bind fun bt170 => (YK.l0 k bt170.2.2.2.2.1 bt170.2.2.2.2.2.1 bt170.2.2.2.2.2.2.1 bt170.2.2.2.2.2.2.2 bt170.1 bt170.2.1 bt170.2.2.1 bt170.2.2.2.1)
def YR.j0 : Nat → Int → Int → Int → Bool → ByteArray → Int → Int → Int → Option (Int × ByteArray × List ByteArray × (List (S37)) × ByteArray × Int × Int × Int)
 | 0, _, _, _, _, _, _, _, _ => none
 | k + 1, x1, x5, x9, x10, x1000, x1001, x1002, x1003 => if x10 = true then (if x1 ≥ 5 then ((Y1d.f x1000 x1001 x1002 x1003 x1001 3).bind fun bt213 => (some (bt213.1, bt213.2.1, bt213.2.2.1, bt213.2.2.2.1, bt213.2.2.2.2.1, bt213.2.2.2.2.2.1, bt213.2.2.2.2.2.2.1, bt213.2.2.2.2.2.2.2))) else (if x5 = 94 then ((YR.f k x1000 (wrap64 (x1001 + 1)) x1002 x1003 (wrap64 (x1 + 1))).bind fun bt225 => (some (2, (⟨#[]⟩ : ByteArray), ([] : List ByteArray), (([(⟨bt225.1, bt225.2.1, bt225.2.2.1, bt225.2.2.2.1⟩ : S37)] : List (S37))), bt225.2.2.2.2.1, bt225.2.2.2.2.2.1, bt225.2.2.2.2.2.2.1, bt225.2.2.2.2.2.2.2))) else ((YP.f k x1000 (wrap64 (x1001 + 1)) x1002 x1003 (wrap64 (x1 + 1))).bind fun bt240 => ((Yr.f k bt240.2.2.2.2.1 bt240.2.2.2.2.2.1 bt240.2.2.2.2.2.2.1 bt240.2.2.2.2.2.2.2 41).bind fun bt253 => (if bt253.1 = true then (some (bt240.1, bt240.2.1, bt240.2.2.1, bt240.2.2.2.1, bt253.2.1, bt253.2.2.1, bt253.2.2.2.1, bt253.2.2.2.2)) else ((Y1d.f bt253.2.1 bt253.2.2.1 bt253.2.2.2.1 bt253.2.2.2.2 bt253.2.2.1 2).bind fun bt258 => (some (bt258.1, bt258.2.1, bt258.2.2.1, bt258.2.2.2.1, bt258.2.2.2.2.1, bt258.2.2.2.2.2.1, bt258.2.2.2.2.2.2.1, bt258.2.2.2.2.2.2.2)))))))) else (if x9 = 33 then ((Yo.f k x1000 (wrap64 (x1001 + 1)) x1002 x1003).bind fun bt270 => (some (bt270.1, bt270.2.1, bt270.2.2.1, bt270.2.2.2.1, bt270.2.2.2.2.1, bt270.2.2.2.2.2.1, bt270.2.2.2.2.2.2.1, bt270.2.2.2.2.2.2.2))) else ((Ye.f k x1000 x1001 x1002 x1003).bind fun bt282 => (some (1, bt282.1, ([] : List ByteArray), ([] : List (S37)), bt282.2.1, bt282.2.2.1, bt282.2.2.2.1, bt282.2.2.2.2))))
def YR.f : Nat → ByteArray → Int → Int → Int → Int → Option (Int × ByteArray × List ByteArray × (List (S37)) × ByteArray × Int × Int × Int)
 | 0, _, _, _, _, _ => none
 | k + 1, s0_0, s0_1, s0_2, s0_3, a1 => (Yh.f k s0_0 s0_1 s0_2 s0_3).bind fun bt208 => (if bt208.1 = 94 then (YR.j0 k a1 bt208.1 bt208.1 (bt208.1 == 94) bt208.2.1 bt208.2.2.1 bt208.2.2.2.1 bt208.2.2.2.2) else (YR.j0 k a1 bt208.1 bt208.1 (bt208.1 == 40) bt208.2.1 bt208.2.2.1 bt208.2.2.2.1 bt208.2.2.2.2))
end
theorem YP.mono_j : ∀ k, (∀ y0 y1 y2 y3 y4, LeO (YP.f k y0 y1 y2 y3 y4) (YP.f (k + 1) y0 y1 y2 y3 y4)) ∧ (∀ y0 y1 y2 y3 y4 y5 y6 y7 y8, LeO (YP.l0 k y0 y1 y2 y3 y4 y5 y6 y7 y8) (YP.l0 (k + 1) y0 y1 y2 y3 y4 y5 y6 y7 y8)) ∧ (∀ y0 y1 y2 y3 y4, LeO (YS.f k y0 y1 y2 y3 y4) (YS.f (k + 1) y0 y1 y2 y3 y4)) ∧ (∀ y0 y1 y2 y3 y4 y5 y6 y7 y8, LeO (YS.l0 k y0 y1 y2 y3 y4 y5 y6 y7 y8) (YS.l0 (k + 1) y0 y1 y2 y3 y4 y5 y6 y7 y8)) ∧ (∀ y0 y1 y2 y3 y4, LeO (YK.f k y0 y1 y2 y3 y4) (YK.f (k + 1) y0 y1 y2 y3 y4)) ∧ (∀ y0 y1 y2 y3 y4 y5 y6 y7, LeO (YK.l0 k y0 y1 y2 y3 y4 y5 y6 y7) (YK.l0 (k + 1) y0 y1 y2 y3 y4 y5 y6 y7)) ∧ (∀ y0 y1 y2 y3 y4, LeO (YR.f k y0 y1 y2 y3 y4) (YR.f (k + 1) y0 y1 y2 y3 y4)) ∧ (∀ y0 y1 y2 y3 y4 y5 y6 y7, LeO (YR.j0 k y0 y1 y2 y3 y4 y5 y6 y7) (YR.j0 (k + 1) y0 y1 y2 y3 y4 y5 y6 y7))
 | 0 => ⟨fun _ _ _ _ _ r h => by simp [YP.f] at h, fun _ _ _ _ _ _ _ _ _ r h => by simp [YP.l0] at h, fun _ _ _ _ _ r h => by simp [YS.f] at h, fun _ _ _ _ _ _ _ _ _ r h => by simp [YS.l0] at h, fun _ _ _ _ _ r h => by simp [YK.f] at h, fun _ _ _ _ _ _ _ _ r h => by simp [YK.l0] at h, fun _ _ _ _ _ r h => by simp [YR.f] at h, fun _ _ _ _ _ _ _ _ r h => by simp [YR.j0] at h⟩
 | k + 1 => by
  obtain ⟨ih0, ih1, ih2, ih3, ih4, ih5, ih6, ih7⟩ := YP.mono_j k
  refine ⟨?_, ?_, ?_, ?_, ?_, ?_, ?_, ?_⟩
  ·intro y0 y1 y2 y3 y4
   unfold YP.f
   repeat' first
   | (with_reducible exact ih0 _ _ _ _ _)
   | (with_reducible exact ih1 _ _ _ _ _ _ _ _ _)
   | (with_reducible exact ih2 _ _ _ _ _)
   | (with_reducible exact ih3 _ _ _ _ _ _ _ _ _)
   | (with_reducible exact ih4 _ _ _ _ _)
   | (with_reducible exact ih5 _ _ _ _ _ _ _ _)
   | (with_reducible exact ih6 _ _ _ _ _)
   | (with_reducible exact ih7 _ _ _ _ _ _ _ _)
   | (with_reducible exact Ye.mono _ _ _ _ _)
   | (with_reducible exact Yh.mono _ _ _ _ _)
   | (with_reducible exact Yo.mono _ _ _ _ _)
   | (with_reducible exact Yr.mono _ _ _ _ _ _)
   | (with_reducible exact LeO.refl _)
   | (with_reducible exact LeO.none _)
   | (with_reducible refine LeO.ite ?_ ?_)
   | (with_reducible refine LeO.bind ?_ (fun _ => ?_))
   | exact ih0 _ _ _ _ _
   | exact ih1 _ _ _ _ _ _ _ _ _
   | exact ih2 _ _ _ _ _
   | exact ih3 _ _ _ _ _ _ _ _ _
   | exact ih4 _ _ _ _ _
   | exact ih5 _ _ _ _ _ _ _ _
   | exact ih6 _ _ _ _ _
   | exact ih7 _ _ _ _ _ _ _ _
   | exact Ye.mono _ _ _ _ _
   | exact Yh.mono _ _ _ _ _
   | exact Yo.mono _ _ _ _ _
   | exact Yr.mono _ _ _ _ _ _
   | exact LeO.none _
   | refine LeO.ite ?_ ?_
   | refine LeO.bind ?_ (fun _ => ?_)
  ·intro y0 y1 y2 y3 y4 y5 y6 y7 y8
   unfold YP.l0
   repeat' first
   | (with_reducible exact ih0 _ _ _ _ _)
   | (with_reducible exact ih1 _ _ _ _ _ _ _ _ _)
   | (with_reducible exact ih2 _ _ _ _ _)
   | (with_reducible exact ih3 _ _ _ _ _ _ _ _ _)
   | (with_reducible exact ih4 _ _ _ _ _)
   | (with_reducible exact ih5 _ _ _ _ _ _ _ _)
   | (with_reducible exact ih6 _ _ _ _ _)
   | (with_reducible exact ih7 _ _ _ _ _ _ _ _)
   | (with_reducible exact Ye.mono _ _ _ _ _)
   | (with_reducible exact Yh.mono _ _ _ _ _)
   | (with_reducible exact Yo.mono _ _ _ _ _)
   | (with_reducible exact Yr.mono _ _ _ _ _ _)
   | (with_reducible exact LeO.refl _)
   | (with_reducible exact LeO.none _)
   | (with_reducible refine LeO.ite ?_ ?_)
   | (with_reducible refine LeO.bind ?_ (fun _ => ?_))
   | exact ih0 _ _ _ _ _
   | exact ih1 _ _ _ _ _ _ _ _ _
   | exact ih2 _ _ _ _ _
   | exact ih3 _ _ _ _ _ _ _ _ _
   | exact ih4 _ _ _ _ _
   | exact ih5 _ _ _ _ _ _ _ _
   | exact ih6 _ _ _ _ _
   | exact ih7 _ _ _ _ _ _ _ _
   | exact Ye.mono _ _ _ _ _
   | exact Yh.mono _ _ _ _ _
   | exact Yo.mono _ _ _ _ _
   | exact Yr.mono _ _ _ _ _ _
   | exact LeO.none _
   | refine LeO.ite ?_ ?_
   | refine LeO.bind ?_ (fun _ => ?_)
  ·intro y0 y1 y2 y3 y4
   unfold YS.f
   repeat' first
   | (with_reducible exact ih0 _ _ _ _ _)
   | (with_reducible exact ih1 _ _ _ _ _ _ _ _ _)
   | (with_reducible exact ih2 _ _ _ _ _)
   | (with_reducible exact ih3 _ _ _ _ _ _ _ _ _)
   | (with_reducible exact ih4 _ _ _ _ _)
   | (with_reducible exact ih5 _ _ _ _ _ _ _ _)
   | (with_reducible exact ih6 _ _ _ _ _)
   | (with_reducible exact ih7 _ _ _ _ _ _ _ _)
   | (with_reducible exact Ye.mono _ _ _ _ _)
   | (with_reducible exact Yh.mono _ _ _ _ _)
   | (with_reducible exact Yo.mono _ _ _ _ _)
   | (with_reducible exact Yr.mono _ _ _ _ _ _)
   | (with_reducible exact LeO.refl _)
   | (with_reducible exact LeO.none _)
   | (with_reducible refine LeO.ite ?_ ?_)
   | (with_reducible refine LeO.bind ?_ (fun _ => ?_))
   | exact ih0 _ _ _ _ _
   | exact ih1 _ _ _ _ _ _ _ _ _
   | exact ih2 _ _ _ _ _
   | exact ih3 _ _ _ _ _ _ _ _ _
   | exact ih4 _ _ _ _ _
   | exact ih5 _ _ _ _ _ _ _ _
   | exact ih6 _ _ _ _ _
   | exact ih7 _ _ _ _ _ _ _ _
   | exact Ye.mono _ _ _ _ _
   | exact Yh.mono _ _ _ _ _
   | exact Yo.mono _ _ _ _ _
   | exact Yr.mono _ _ _ _ _ _
   | exact LeO.none _
   | refine LeO.ite ?_ ?_
   | refine LeO.bind ?_ (fun _ => ?_)
  ·intro y0 y1 y2 y3 y4 y5 y6 y7 y8
   unfold YS.l0
   repeat' first
   | (with_reducible exact ih0 _ _ _ _ _)
   | (with_reducible exact ih1 _ _ _ _ _ _ _ _ _)
   | (with_reducible exact ih2 _ _ _ _ _)
   | (with_reducible exact ih3 _ _ _ _ _ _ _ _ _)
   | (with_reducible exact ih4 _ _ _ _ _)
   | (with_reducible exact ih5 _ _ _ _ _ _ _ _)
   | (with_reducible exact ih6 _ _ _ _ _)
   | (with_reducible exact ih7 _ _ _ _ _ _ _ _)
   | (with_reducible exact Ye.mono _ _ _ _ _)
   | (with_reducible exact Yh.mono _ _ _ _ _)
   | (with_reducible exact Yo.mono _ _ _ _ _)
   | (with_reducible exact Yr.mono _ _ _ _ _ _)
   | (with_reducible exact LeO.refl _)
   | (with_reducible exact LeO.none _)
   | (with_reducible refine LeO.ite ?_ ?_)
   | (with_reducible refine LeO.bind ?_ (fun _ => ?_))
   | exact ih0 _ _ _ _ _
   | exact ih1 _ _ _ _ _ _ _ _ _
   | exact ih2 _ _ _ _ _
   | exact ih3 _ _ _ _ _ _ _ _ _
   | exact ih4 _ _ _ _ _
   | exact ih5 _ _ _ _ _ _ _ _
   | exact ih6 _ _ _ _ _
   | exact ih7 _ _ _ _ _ _ _ _
   | exact Ye.mono _ _ _ _ _
   | exact Yh.mono _ _ _ _ _
   | exact Yo.mono _ _ _ _ _
   | exact Yr.mono _ _ _ _ _ _
   | exact LeO.none _
   | refine LeO.ite ?_ ?_
   | refine LeO.bind ?_ (fun _ => ?_)
  ·intro y0 y1 y2 y3 y4
   unfold YK.f
   repeat' first
   | (with_reducible exact ih0 _ _ _ _ _)
   | (with_reducible exact ih1 _ _ _ _ _ _ _ _ _)
   | (with_reducible exact ih2 _ _ _ _ _)
   | (with_reducible exact ih3 _ _ _ _ _ _ _ _ _)
   | (with_reducible exact ih4 _ _ _ _ _)
   | (with_reducible exact ih5 _ _ _ _ _ _ _ _)
   | (with_reducible exact ih6 _ _ _ _ _)
   | (with_reducible exact ih7 _ _ _ _ _ _ _ _)
   | (with_reducible exact Ye.mono _ _ _ _ _)
   | (with_reducible exact Yh.mono _ _ _ _ _)
   | (with_reducible exact Yo.mono _ _ _ _ _)
   | (with_reducible exact Yr.mono _ _ _ _ _ _)
   | (with_reducible exact LeO.refl _)
   | (with_reducible exact LeO.none _)
   | (with_reducible refine LeO.ite ?_ ?_)
   | (with_reducible refine LeO.bind ?_ (fun _ => ?_))
   | exact ih0 _ _ _ _ _
   | exact ih1 _ _ _ _ _ _ _ _ _
   | exact ih2 _ _ _ _ _
   | exact ih3 _ _ _ _ _ _ _ _ _
   | exact ih4 _ _ _ _ _
   | exact ih5 _ _ _ _ _ _ _ _
   | exact ih6 _ _ _ _ _
   | exact ih7 _ _ _ _ _ _ _ _
   | exact Ye.mono _ _ _ _ _
   | exact Yh.mono _ _ _ _ _
   | exact Yo.mono _ _ _ _ _
   | exact Yr.mono _ _ _ _ _ _
   | exact LeO.none _
   | refine LeO.ite ?_ ?_
   | refine LeO.bind ?_ (fun _ => ?_)
  ·intro y0 y1 y2 y3 y4 y5 y6 y7
   unfold YK.l0
   repeat' first
   | (with_reducible exact ih0 _ _ _ _ _)
   | (with_reducible exact ih1 _ _ _ _ _ _ _ _ _)
   | (with_reducible exact ih2 _ _ _ _ _)
   | (with_reducible exact ih3 _ _ _ _ _ _ _ _ _)
   | (with_reducible exact ih4 _ _ _ _ _)
   | (with_reducible exact ih5 _ _ _ _ _ _ _ _)
   | (with_reducible exact ih6 _ _ _ _ _)
   | (with_reducible exact ih7 _ _ _ _ _ _ _ _)
   | (with_reducible exact Ye.mono _ _ _ _ _)
   | (with_reducible exact Yh.mono _ _ _ _ _)
   | (with_reducible exact Yo.mono _ _ _ _ _)
   | (with_reducible exact Yr.mono _ _ _ _ _ _)
   | (with_reducible exact LeO.refl _)
   | (with_reducible exact LeO.none _)
   | (with_reducible refine LeO.ite ?_ ?_)
   | (with_reducible refine LeO.bind ?_ (fun _ => ?_))
   | exact ih0 _ _ _ _ _
   | exact ih1 _ _ _ _ _ _ _ _ _
   | exact ih2 _ _ _ _ _
   | exact ih3 _ _ _ _ _ _ _ _ _
   | exact ih4 _ _ _ _ _
   | exact ih5 _ _ _ _ _ _ _ _
   | exact ih6 _ _ _ _ _
   | exact ih7 _ _ _ _ _ _ _ _
   | exact Ye.mono _ _ _ _ _
   | exact Yh.mono _ _ _ _ _
   | exact Yo.mono _ _ _ _ _
   | exact Yr.mono _ _ _ _ _ _
   | exact LeO.none _
   | refine LeO.ite ?_ ?_
   | refine LeO.bind ?_ (fun _ => ?_)
  ·intro y0 y1 y2 y3 y4
   unfold YR.f
   repeat' first
   | (with_reducible exact ih0 _ _ _ _ _)
   | (with_reducible exact ih1 _ _ _ _ _ _ _ _ _)
   | (with_reducible exact ih2 _ _ _ _ _)
   | (with_reducible exact ih3 _ _ _ _ _ _ _ _ _)
   | (with_reducible exact ih4 _ _ _ _ _)
   | (with_reducible exact ih5 _ _ _ _ _ _ _ _)
   | (with_reducible exact ih6 _ _ _ _ _)
   | (with_reducible exact ih7 _ _ _ _ _ _ _ _)
   | (with_reducible exact Ye.mono _ _ _ _ _)
   | (with_reducible exact Yh.mono _ _ _ _ _)
   | (with_reducible exact Yo.mono _ _ _ _ _)
   | (with_reducible exact Yr.mono _ _ _ _ _ _)
   | (with_reducible exact LeO.refl _)
   | (with_reducible exact LeO.none _)
   | (with_reducible refine LeO.ite ?_ ?_)
   | (with_reducible refine LeO.bind ?_ (fun _ => ?_))
   | exact ih0 _ _ _ _ _
   | exact ih1 _ _ _ _ _ _ _ _ _
   | exact ih2 _ _ _ _ _
   | exact ih3 _ _ _ _ _ _ _ _ _
   | exact ih4 _ _ _ _ _
   | exact ih5 _ _ _ _ _ _ _ _
   | exact ih6 _ _ _ _ _
   | exact ih7 _ _ _ _ _ _ _ _
   | exact Ye.mono _ _ _ _ _
   | exact Yh.mono _ _ _ _ _
   | exact Yo.mono _ _ _ _ _
   | exact Yr.mono _ _ _ _ _ _
   | exact LeO.none _
   | refine LeO.ite ?_ ?_
   | refine LeO.bind ?_ (fun _ => ?_)
  ·intro y0 y1 y2 y3 y4 y5 y6 y7
   unfold YR.j0
   repeat' first
   | (with_reducible exact ih0 _ _ _ _ _)
   | (with_reducible exact ih1 _ _ _ _ _ _ _ _ _)
   | (with_reducible exact ih2 _ _ _ _ _)
   | (with_reducible exact ih3 _ _ _ _ _ _ _ _ _)
   | (with_reducible exact ih4 _ _ _ _ _)
   | (with_reducible exact ih5 _ _ _ _ _ _ _ _)
   | (with_reducible exact ih6 _ _ _ _ _)
   | (with_reducible exact ih7 _ _ _ _ _ _ _ _)
   | (with_reducible exact Ye.mono _ _ _ _ _)
   | (with_reducible exact Yh.mono _ _ _ _ _)
   | (with_reducible exact Yo.mono _ _ _ _ _)
   | (with_reducible exact Yr.mono _ _ _ _ _ _)
   | (with_reducible exact LeO.refl _)
   | (with_reducible exact LeO.none _)
   | (with_reducible refine LeO.ite ?_ ?_)
   | (with_reducible refine LeO.bind ?_ (fun _ => ?_))
   | exact ih0 _ _ _ _ _
   | exact ih1 _ _ _ _ _ _ _ _ _
   | exact ih2 _ _ _ _ _
   | exact ih3 _ _ _ _ _ _ _ _ _
   | exact ih4 _ _ _ _ _
   | exact ih5 _ _ _ _ _ _ _ _
   | exact ih6 _ _ _ _ _
   | exact ih7 _ _ _ _ _ _ _ _
   | exact Ye.mono _ _ _ _ _
   | exact Yh.mono _ _ _ _ _
   | exact Yo.mono _ _ _ _ _
   | exact Yr.mono _ _ _ _ _ _
   | exact LeO.none _
   | refine LeO.ite ?_ ?_
   | refine LeO.bind ?_ (fun _ => ?_)
end Go.Proofs.YtbpbfboaofkpaaaDoor.Print
end
section
set_option linter.unusedVariables false
set_option linter.unusedSimpArgs false
namespace Go.Proofs.YtbpbfboaofkpaaaDoor.Print
open Go.RowKit Go.Shelf Go.Lib Go.Proofs.YtbpbfboaofkpaaaDoorW.PrintWords
def Suf (s : ByteArray) (l : List UInt8) : Prop := ∃ pre, s.data.toList = pre ++ l
def ps (s : ByteArray) (l : List UInt8) : Int := (s.size : Int) - (l.length : Int)
def hd : List UInt8 → Int
 | [] => 0
 | c :: _ => (c.toNat : Int)
def skip : List UInt8 → List UInt8
 | [] => []
 | c :: l => if c = 32 then skip l else c :: l
theorem Suf.tail {s : ByteArray} {c : UInt8} {l : List UInt8} (h : Suf s (c :: l)) : Suf s l := by
 obtain ⟨pre, h⟩ := h
 exact ⟨pre ++ [c], by simpa using h⟩
theorem Suf.skip {s : ByteArray} : ∀ {l : List UInt8}, Suf s l → Suf s (skip l)
 | [], h => h
 | c :: l, h => by
  unfold Print.skip
  by_cases e : c = 32
  ·rw [if_pos e]; exact Suf.skip h.tail
  ·rw [if_neg e]; exact h
theorem Suf.len {s : ByteArray} {l : List UInt8} (h : Suf s l) : l.length ≤ s.size := by
 obtain ⟨pre, h⟩ := h
 have := congrArg List.length h
 rw [Array.length_toList, List.length_append] at this
 have e : s.size = s.data.size := rfl
 omega
theorem Y4d (l : List UInt8) : (skip l).length ≤ l.length := by
 induction l with
 | nil => exact Nat.le_refl _
 | cons c l ih =>
  unfold skip
  split
  ·exact Nat.le_succ_of_le ih
  ·exact Nat.le_refl _
def upGt : List UInt8 → Option (List UInt8 × List UInt8)
 | [] => none
 | c :: l => if c = 62 then some ([], l) else (upGt l).map fun x => (c :: x.1, x.2)
theorem Y5j : ∀ {l t r}, upGt l = some (t, r) → l = t ++ 62 :: r ∧ ¬ (62 : UInt8) ∈ t
 | [], t, r, h => by simp [upGt] at h
 | c :: l, t, r, h => by
  unfold upGt at h
  by_cases e : c = 62
  ·rw [if_pos e] at h
   simp only [Option.some.injEq, Prod.mk.injEq] at h
   obtain ⟨rfl, rfl⟩ := h
   simp [e]
  ·rw [if_neg e] at h
   cases hu : upGt l with
   | none => rw [hu] at h; cases h
   | some x =>
    rw [hu] at h
    simp only [Option.map_some, Option.some.injEq, Prod.mk.injEq] at h
    obtain ⟨rfl, rfl⟩ := h
    obtain ⟨h1, h2⟩ := Y5j (t := x.1) (r := x.2) hu
    refine ⟨by rw [h1]; simp, ?_⟩
    simp only [List.mem_cons, not_or]
    exact ⟨fun q => e q.symm, h2⟩
theorem upGt_mk : ∀ (t r : List UInt8), ¬ (62 : UInt8) ∈ t → upGt (t ++ 62 :: r) = some (t, r)
 | [], r, h => by simp [upGt]
 | c :: t, r, h => by
  simp only [List.mem_cons, not_or] at h
  simp only [List.cons_append]
  unfold upGt
  rw [if_neg (fun q => h.1 q.symm), upGt_mk t r h.2]
  rfl
def Y67 (l : List UInt8) : Option (ByteArray × List UInt8) :=
 match skip l with
 | [] => none
 | c :: r => if c = 60 then
   match upGt r with
   | none => none
   | some (t, l1) => if Y30 ⟨t.toArray⟩ then some (⟨t.toArray⟩, l1) else none
  else none
theorem iriR_some {l : List UInt8} {t : ByteArray} {l1 : List UInt8} (h : Y67 l = some (t, l1)) : ∃ r, skip l = 60 :: r ∧ upGt r = some (t.data.toList, l1) ∧ Y30 t = true := by
 unfold Y67 at h
 cases hk : skip l with
 | nil => rw [hk] at h; cases h
 | cons c r =>
  rw [hk] at h
  simp only at h
  by_cases e : c = 60
  ·rw [if_pos e] at h
   cases hu : upGt r with
   | none => rw [hu] at h; cases h
   | some x =>
    rw [hu] at h
    simp only at h
    by_cases hi : Y30 ⟨x.1.toArray⟩ = true
    ·rw [if_pos hi] at h
     simp only [Option.some.injEq, Prod.mk.injEq] at h
     obtain ⟨rfl, rfl⟩ := h
     exact ⟨r, by rw [e], hu, hi⟩
    ·rw [if_neg hi] at h; cases h
  ·rw [if_neg e] at h; cases h
theorem ba_ext {a b : ByteArray} (h : a.data.toList = b.data.toList) : a = b := by
 cases a; cases b
 congr
 exact Array.toList_inj.mp h
theorem Y4X (a : ByteArray) : a.data.toList.length = a.size := by rw [Array.length_toList]; rfl
theorem Y4e : ∀ l, skip (skip l) = skip l
 | [] => rfl
 | c :: l => by
  by_cases e : c = 32
  ·have : skip (c :: l) = skip l := by conv => lhs; unfold skip; rw [if_pos e]
   rw [this]; exact Y4e l
  ·have : skip (c :: l) = c :: l := by conv => lhs; unfold skip; rw [if_neg e]
   rw [this, this]
theorem Ev.up {α : Type} {g : Nat → Option α} {r : α} (h : Ev (fun k => g (k + 1)) r) : Ev g r := Ev.step (fun _ => rfl) h
inductive Res where
 | ok (p : S37) (l : List UInt8)
 | bad (c : Int) (l : List UInt8)
inductive NT where
 | path | pathL (p : S37) | seq | seqL (p : S37) | step | stepL (p : S37) | back | nt | notL (ts : List ByteArray)
def pK (k : Int) (l : List S37) : S37 := ⟨k, ⟨#[]⟩, [], l⟩
def pIri (t : ByteArray) : S37 := ⟨1, t, [], []⟩
def pNot (l : List ByteArray) : S37 := ⟨8, ⟨#[]⟩, l, []⟩
def signK (n : Int) : Int := if n = 42 then 5 else if n = 43 then 6 else 7
inductive P : NT → Nat → List UInt8 → Res → Prop
 | path_ok {d l p l1 res} : P .seq d l (.ok p l1) → P (.pathL p) d l1 res → P .path d l res
 | path_bad {d l c lb} : P .seq d l (.bad c lb) → P .path d l (.bad c lb)
 | pathL_more {d p l r q l1 res} : skip l = 124 :: r → P .seq d r (.ok q l1) → P (.pathL (pK 4 [p, q])) d l1 res → P (.pathL p) d l res
 | pathL_bad {d p l r c lb} : skip l = 124 :: r → P .seq d r (.bad c lb) → P (.pathL p) d l (.bad c lb)
 | pathL_end {d p l} : hd (skip l) ≠ 124 → P (.pathL p) d l (.ok p (skip l))
 | seq_ok {d l p l1 res} : P .step d l (.ok p l1) → P (.seqL p) d l1 res → P .seq d l res
 | seq_bad {d l c lb} : P .step d l (.bad c lb) → P .seq d l (.bad c lb)
 | seqL_more {d p l r q l1 res} : skip l = 47 :: r → P .step d r (.ok q l1) → P (.seqL (pK 3 [p, q])) d l1 res → P (.seqL p) d l res
 | seqL_bad {d p l r c lb} : skip l = 47 :: r → P .step d r (.bad c lb) → P (.seqL p) d l (.bad c lb)
 | seqL_end {d p l} : hd (skip l) ≠ 47 → P (.seqL p) d l (.ok p (skip l))
 | step_ok {d l p l1 res} : P .back d l (.ok p l1) → P (.stepL p) d l1 res → P .step d l res
 | step_bad {d l c lb} : P .back d l (.bad c lb) → P .step d l (.bad c lb)
 | stepL_more {d p l c r res} : skip l = c :: r → (c = 42 ∨ c = 43 ∨ c = 63) → P (.stepL (pK (signK c.toNat) [p])) d r res → P (.stepL p) d l res
 | stepL_end {d p l} : hd (skip l) ≠ 42 → hd (skip l) ≠ 43 → hd (skip l) ≠ 63 → P (.stepL p) d l (.ok p (skip l))
 | up_ok {d l r p l1} : skip l = 94 :: r → d < 5 → P .back (d + 1) r (.ok p l1) → P .back d l (.ok (pK 2 [p]) l1)
 | up_bad {d l r c lb} : skip l = 94 :: r → d < 5 → P .back (d + 1) r (.bad c lb) → P .back d l (.bad c lb)
 | full {d l c r} : skip l = c :: r → (c = 94 ∨ c = 40) → 5 ≤ d → P .back d l (.bad 3 (skip l))
 | iri_ok {d l r t l1} : skip l = 60 :: r → Y67 l = some (t, l1) → P .back d l (.ok (pIri t) l1)
 | iri_bad {d l r} : skip l = 60 :: r → Y67 l = none → P .back d l (.bad 2 (skip l))
 | not_ {d l r res} : skip l = 33 :: r → P .nt d r res → P .back d l res
 | br_ok {d l r p l1 r1} : skip l = 40 :: r → d < 5 → P .path (d + 1) r (.ok p l1) → skip l1 = 41 :: r1 → P .back d l (.ok p r1)
 | br_bad {d l r c lb} : skip l = 40 :: r → d < 5 → P .path (d + 1) r (.bad c lb) → P .back d l (.bad c lb)
 | br_open {d l r p l1} : skip l = 40 :: r → d < 5 → P .path (d + 1) r (.ok p l1) → hd (skip l1) ≠ 41 → P .back d l (.bad 2 (skip l1))
 | other {d l} : hd (skip l) ≠ 94 → hd (skip l) ≠ 60 → hd (skip l) ≠ 33 → hd (skip l) ≠ 40 → P .back d l (.bad 2 (skip l))
 | nt_one {d l t l1} : hd l ≠ 40 → Y67 l = some (t, l1) → P .nt d l (.ok (pNot [t]) l1)
 | nt_one_bad {d l} : hd l ≠ 40 → Y67 l = none → P .nt d l (.bad 2 (skip l))
 | nt_br {d r t l1 res} : Y67 r = some (t, l1) → P (.notL [t]) d l1 res → P .nt d (40 :: r) res
 | nt_br_bad {d r} : Y67 r = none → P .nt d (40 :: r) (.bad 2 (skip r))
 | notL_more {d ts l r t l1 res} : skip l = 124 :: r → Y67 r = some (t, l1) → P (.notL (ts ++ [t])) d l1 res → P (.notL ts) d l res
 | notL_bad {d ts l r} : skip l = 124 :: r → Y67 r = none → P (.notL ts) d l (.bad 2 (skip r))
 | notL_end {d ts l r} : skip l = 41 :: r → P (.notL ts) d l (.ok (pNot ts) r)
 | notL_open {d ts l} : hd (skip l) ≠ 124 → hd (skip l) ≠ 41 → P (.notL ts) d l (.bad 2 (skip l))
theorem Y3A {l : List UInt8} {t : ByteArray} {l1 : List UInt8} (hi : Y67 l = some (t, l1)) : l1.length + 2 ≤ l.length := by
 obtain ⟨r, hk, hu, _⟩ := iriR_some hi
 have hle := Y4d l
 obtain ⟨hr, _⟩ := Y5j hu
 have := congrArg List.length hr
 rw [hk] at hle
 rw [List.length_append] at this
 simp only [List.length_cons] at this hle
 omega
theorem Y22 {l : List UInt8} {c : UInt8} {r : List UInt8} (h : skip l = c :: r) : r.length + 1 ≤ l.length := by
 have := Y4d l
 rw [h] at this
 simpa using this
def Le (l : List UInt8) : Res → Prop
 | .ok _ l1 => l1.length ≤ l.length
 | .bad _ _ => True
theorem Le.up {l l' : List UInt8} {res : Res} (h : Le l' res) (hl : l'.length ≤ l.length) : Le l res := by
 cases res
 ·exact Nat.le_trans h hl
 ·trivial
theorem P.le {m d l res} (h : P m d l res) : Le l res := by
 induction h with
 | path_ok _ _ ih1 ih2 => exact ih2.up ih1
 | seq_ok _ _ ih1 ih2 => exact ih2.up ih1
 | step_ok _ _ ih1 ih2 => exact ih2.up ih1
 | pathL_more hk _ _ ih1 ih2 => exact ih2.up (Nat.le_trans ih1 ZU)
 | seqL_more hk _ _ ih1 ih2 => exact ih2.up (Nat.le_trans ih1 ZU)
 | stepL_more hk _ _ ih1 => exact ih1.up ZU
 | not_ hk _ ih1 => exact ih1.up ZU
 | nt_br hi _ ih1 => exact ih1.up (by have := Y3A hi; simp only [List.length_cons]; omega)
 | notL_more hk hi _ ih1 => exact ih1.up (by have := Y3A hi; have := Y22 hk; omega)
 | up_ok hk _ _ ih1 => exact Nat.le_trans ih1 ZU
 | br_ok hk _ _ hk2 ih1 => exact Nat.le_trans (by have := Y22 hk2; omega) (Nat.le_trans ih1 ZU)
 | pathL_end _ => exact Y4d _
 | seqL_end _ => exact Y4d _
 | stepL_end _ _ _ => exact Y4d _
 | iri_ok _ hi => have := Y3A hi; show _ ≤ _; omega
 | nt_one _ hi => have := Y3A hi; show _ ≤ _; omega
 | notL_end hk => have := Y22 hk; show _ ≤ _; omega
 | _ => trivial
inductive Ans where
 | ok (p : S37)
 | bad (c at_ : Int)
inductive Whole (s : ByteArray) : Ans → Prop
 | long : s.size > 600 → Whole s (.bad 4 0)
 | ok {p l} : s.size ≤ 600 → P .path 0 s.data.toList (.ok p l) → skip l = [] → Whole s (.ok p)
 | bad {c lb} : s.size ≤ 600 → P .path 0 s.data.toList (.bad c lb) → Whole s (.bad c (ps s lb))
 | rest {p l} : s.size ≤ 600 → P .path 0 s.data.toList (.ok p l) → skip l ≠ [] → Whole s (.bad 2 (ps s (skip l)))
inductive Y5C : S37 → Prop
 | mk {a b c d} : c.length ≤ 1000000 → d.length ≤ 1000000 → (∀ q ∈ d, Y5C q) → Y5C ⟨a, b, c, d⟩
theorem Y36 {a b : ByteArray} : a.toList = b.toList ↔ a = b := by
 rw [Lib.toList_data, Lib.toList_data]
 exact ⟨ba_ext, fun h => by rw [h]⟩
theorem Y2P {i n : Nat} (h : i < n) (hn : n ≤ 1000000) : wrap64 ((i : Int) + 1) = ((i + 1 : Nat) : Int) := by unfold wrap64; omega
theorem Y2G {xs : List ByteArray} {i : Nat} (h : i < xs.length) : Y25 ByteArray.empty xs (i : Int) = xs[i] := by
 unfold Y25; simp [List.getD_eq_getElem?_getD, List.getElem?_eq_getElem h]
theorem Y2J {xs : List S37} {i : Nat} (h : i < xs.length) : Y2 xs (i : Int) = xs[i] := by
 unfold Y2; simp [List.getD_eq_getElem?_getD, List.getElem?_eq_getElem h]
theorem Y2M {α : Type} {xs ys : List α} {i : Nat} (h : i < xs.length) (h' : i < ys.length) : xs.drop i = ys.drop i ↔ xs[i] = ys[i] ∧ xs.drop (i + 1) = ys.drop (i + 1) := by
 rw [List.drop_eq_getElem_cons h, List.drop_eq_getElem_cons h', List.cons.injEq]
def Y4v {α : Type} (g : Nat → Option Bool) (a b : α) : Prop := (a = b → Ev g true) ∧ (a ≠ b → Ev g false)
theorem equal_l (xs ys : List ByteArray) (hl : xs.length = ys.length) (hn : xs.length ≤ 1000000) : ∀ d i : Nat, i + d = xs.length →
  Y4v (fun k => Yg.l0 k xs ys (xs.length : Int) (i : Int)) (xs.drop i) (ys.drop i)
 | 0, i, h => by
  refine ⟨fun _ => Ev.up ?_, fun q => absurd Z11 q⟩
  simp only [Yg.l0, if_neg (show ¬ (i : Int) < (xs.length : Int) by omega)]
  exact Z12
 | d + 1, i, h => by
  have h1 : i < xs.length := by omega
  have h2 : i < ys.length := by omega
  obtain ⟨t1, t2⟩ := equal_l xs ys hl hn d (i + 1) (by omega)
  by_cases e : xs[i] = ys[i]
  ·have st : ∀ r, Ev (fun k => Yg.l0 k xs ys (xs.length : Int) ((i + 1 : Nat) : Int)) r → Ev (fun k => Yg.l0 k xs ys (xs.length : Int) (i : Int)) r := by
    intro r hr
    refine Ev.up ?_
    simp only [Yg.l0, if_pos (show (i : Int) < (xs.length : Int) by omega), if_pos (show (0 : Int) ≤ (i : Int) by omega), if_pos (show (i : Int) < (ys.length : Int) by omega), Y2G h1, Y2G h2, if_pos (Y36.mpr e), Y2P h1 hn]
    exact hr
   exact Z1t
  ·refine ⟨fun q => absurd ((Y2M h1 h2).mp q).1 e, fun _ => Ev.up ?_⟩
   simp only [Yg.l0, if_pos (show (i : Int) < (xs.length : Int) by omega), if_pos (show (0 : Int) ≤ (i : Int) by omega), if_pos (show (i : Int) < (ys.length : Int) by omega), Y2G h1, Y2G h2, if_neg (fun w => e (Y36.mp w))]
   exact Z12
theorem equal_f (xs ys : List ByteArray) (hn : xs.length ≤ 1000000) : Y4v (fun k => Yg.f k xs ys) xs ys := by
 by_cases hl : xs.length = ys.length
 ·have := equal_l xs ys hl hn xs.length 0 (by omega)
  simp only [Yg.f, if_pos (show (xs.length : Int) = (ys.length : Int) by omega)]
  exact this
 ·simp only [Yg.f, if_neg (show ¬ (xs.length : Int) = (ys.length : Int) by omega)]
  exact ⟨fun q => absurd (by rw [q]) hl, fun _ => Ev.now _⟩
theorem s37_eq {p q : S37} : p = q ↔ p.f0 = q.f0 ∧ p.f1 = q.f1 ∧ p.f2 = q.f2 ∧ p.f3 = q.f3 := by
 cases p; cases q; simp
def sameI (p q : S37) (k : Nat) : Option Bool := YH.f k p.f0 p.f1 p.f2 p.f3 q.f0 q.f1 q.f2 q.f3
def Y5f (p q : S37) (k : Nat) : Option Bool := Y4.f k p.f0 p.f1 p.f2 p.f3 q.f0 q.f1 q.f2 q.f3
theorem kids_i (xs ys : List S37) (hl : xs.length = ys.length) (hn : xs.length ≤ 1000000) (ih : ∀ p ∈ xs, ∀ q, Y4v (sameI p q) p q) : ∀ d i : Nat, i + d = xs.length →
  Y4v (fun k => Y13.l0 k ys xs (xs.length : Int) (i : Int)) (xs.drop i) (ys.drop i)
 | 0, i, h => by
  refine ⟨fun _ => Ev.up ?_, fun q => absurd Z11 q⟩
  simp only [Y13.l0, if_neg (show ¬ (i : Int) < (xs.length : Int) by omega)]
  exact Z12
 | d + 1, i, h => by
  have h1 : i < xs.length := by omega
  have h2 : i < ys.length := by omega
  obtain ⟨t1, t2⟩ := kids_i xs ys hl hn ih d (i + 1) (by omega)
  obtain ⟨s1, s2⟩ := ih xs[i] (List.getElem_mem h1) ys[i]
  by_cases e : xs[i] = ys[i]
  ·have st : ∀ r, Ev (fun k => Y13.l0 k ys xs (xs.length : Int) ((i + 1 : Nat) : Int)) r → Ev (fun k => Y13.l0 k ys xs (xs.length : Int) (i : Int)) r := by
    intro r hr
    refine Ev.up ?_
    simp only [Y13.l0, if_pos (show (i : Int) < (xs.length : Int) by omega), if_pos (show (0 : Int) ≤ (i : Int) by omega), if_pos (show (i : Int) < (ys.length : Int) by omega), Y2J h1, Y2J h2]
    refine Ev.bind (s1 e) ?_
    simp only [if_true, Y2P h1 hn]
    exact hr
   exact Z1t
  ·refine ⟨fun q => absurd ((Y2M h1 h2).mp q).1 e, fun _ => Ev.up ?_⟩
   simp only [Y13.l0, if_pos (show (i : Int) < (xs.length : Int) by omega), if_pos (show (0 : Int) ≤ (i : Int) by omega), if_pos (show (i : Int) < (ys.length : Int) by omega), Y2J h1, Y2J h2]
   refine Ev.bind (s2 e) ?_
   simp only [Bool.false_eq_true, if_false]
   exact Z12
theorem same_i {p : S37} (hp : Y5C p) : ∀ q, Y4v (sameI p q) p q := by
 induction hp with
 | @mk a b c d hc hd _ ih =>
  intro q
  have kf : Y4v (fun k => Y13.f k d q.f3) d q.f3 := by
   by_cases hl : d.length = q.f3.length
   ·have := kids_i d q.f3 hl hd ih d.length 0 (by omega)
    refine ⟨fun w => Ev.up ?_, fun w => Ev.up ?_⟩
    ·simp only [Y13.f, if_pos (show (d.length : Int) = (q.f3.length : Int) by omega)]; exact this.1 w
    ·simp only [Y13.f, if_pos (show (d.length : Int) = (q.f3.length : Int) by omega)]; exact this.2 w
   ·refine ⟨fun w => absurd (by rw [w]) hl, fun _ => Ev.up ?_⟩
    simp only [Y13.f, if_neg (show ¬ (d.length : Int) = (q.f3.length : Int) by omega)]
    exact Z12
  have ef := equal_f c q.f2 hc
  constructor
  ·rintro rfl
   refine Ev.up ?_
   simp only [sameI, YH.f, if_true]
   refine Ev.bind (ef.1 rfl) ?_
   simp only [if_true]
   exact Ev.bind (kf.1 rfl) (Ev.now _)
  ·intro ne
   refine Ev.up ?_
   simp only [sameI, YH.f]
   by_cases h0 : a = q.f0
   ·by_cases h1 : b = q.f1
    ·simp only [if_pos h0, if_pos (Y36.mpr h1)]
     by_cases h2 : c = q.f2
     ·refine Ev.bind (ef.1 h2) ?_
      simp only [if_true]
      exact Ev.bind (kf.2 (fun h3 => ne (s37_eq.mpr ⟨h0, h1, h2, h3⟩))) (Ev.now _)
     ·refine Ev.bind (ef.2 h2) ?_
      simp only [Bool.false_eq_true, if_false]
      exact Z12
    ·simp only [if_pos h0, if_neg (fun w => h1 (Y36.mp w))]
     exact Z12
   ·simp only [if_neg h0]
    exact Z12
theorem texts_r (p q : S37) (hl : p.f2.length = q.f2.length) (hn : p.f2.length ≤ 1000000) {g : Nat → Option Bool} (hg : g = fun k => Y4.l1 k 0 p.f0 p.f1 p.f2 p.f3 q.f0 q.f1 q.f2 q.f3) : ∀ d i : Nat, i + d = p.f2.length →
  (p.f2.drop i = q.f2.drop i → ∀ r, Ev g r → Ev (fun k => Y4.l0 k (i : Int) p.f0 p.f1 p.f2 p.f3 q.f0 q.f1 q.f2 q.f3) r) ∧
  (p.f2.drop i ≠ q.f2.drop i → Ev (fun k => Y4.l0 k (i : Int) p.f0 p.f1 p.f2 p.f3 q.f0 q.f1 q.f2 q.f3) false)
 | 0, i, h => by
  refine ⟨fun _ r hr => Ev.up ?_, fun q => absurd Z11 q⟩
  simp only [Y4.l0, if_neg (show ¬ (i : Int) < (p.f2.length : Int) by omega)]
  rw [hg] at hr
  exact hr
 | d + 1, i, h => by
  have h1 : i < p.f2.length := by omega
  have h2 : i < q.f2.length := by omega
  obtain ⟨t1, t2⟩ := texts_r p q hl hn hg d (i + 1) (by omega)
  by_cases e : p.f2[i] = q.f2[i]
  ·have st : ∀ r, Ev (fun k => Y4.l0 k ((i + 1 : Nat) : Int) p.f0 p.f1 p.f2 p.f3 q.f0 q.f1 q.f2 q.f3) r → Ev (fun k => Y4.l0 k (i : Int) p.f0 p.f1 p.f2 p.f3 q.f0 q.f1 q.f2 q.f3) r := by
    intro r hr
    refine Ev.up ?_
    simp only [Y4.l0, if_pos (show (i : Int) < (p.f2.length : Int) by omega), if_pos (show (0 : Int) ≤ (i : Int) by omega), if_pos (show (i : Int) < (q.f2.length : Int) by omega), Y2G h1, Y2G h2, if_pos (Y36.mpr e), Y2P h1 hn]
    exact hr
   exact ⟨fun w r hr => st _ (t1 ((Y2M h1 h2).mp w).2 r hr), fun w => st _ (t2 (fun v => w ((Y2M h1 h2).mpr ⟨e, v⟩)))⟩
  ·refine ⟨fun w => absurd ((Y2M h1 h2).mp w).1 e, fun _ => Ev.up ?_⟩
   simp only [Y4.l0, if_pos (show (i : Int) < (p.f2.length : Int) by omega), if_pos (show (0 : Int) ≤ (i : Int) by omega), if_pos (show (i : Int) < (q.f2.length : Int) by omega), Y2G h1, Y2G h2, if_neg (fun w => e (Y36.mp w))]
   exact Z12
theorem kids_r (p q : S37) (hl : p.f3.length = q.f3.length) (hn : p.f3.length ≤ 1000000) (ih : ∀ a ∈ p.f3, ∀ b, Y4v (Y5f a b) a b) : ∀ d i : Nat, i + d = p.f3.length →
  Y4v (fun k => Y4.l1 k (i : Int) p.f0 p.f1 p.f2 p.f3 q.f0 q.f1 q.f2 q.f3) (p.f3.drop i) (q.f3.drop i)
 | 0, i, h => by
  refine ⟨fun _ => Ev.up ?_, fun q => absurd Z11 q⟩
  simp only [Y4.l1, if_neg (show ¬ (i : Int) < (p.f3.length : Int) by omega)]
  exact Z12
 | d + 1, i, h => by
  have h1 : i < p.f3.length := by omega
  have h2 : i < q.f3.length := by omega
  obtain ⟨t1, t2⟩ := kids_r p q hl hn ih d (i + 1) (by omega)
  obtain ⟨s1, s2⟩ := ih p.f3[i] (List.getElem_mem h1) q.f3[i]
  by_cases e : p.f3[i] = q.f3[i]
  ·have st : ∀ r, Ev (fun k => Y4.l1 k ((i + 1 : Nat) : Int) p.f0 p.f1 p.f2 p.f3 q.f0 q.f1 q.f2 q.f3) r → Ev (fun k => Y4.l1 k (i : Int) p.f0 p.f1 p.f2 p.f3 q.f0 q.f1 q.f2 q.f3) r := by
    intro r hr
    refine Ev.up ?_
    simp only [Y4.l1, if_pos (show (i : Int) < (p.f3.length : Int) by omega), if_pos (show (0 : Int) ≤ (i : Int) by omega), if_pos (show (i : Int) < (q.f3.length : Int) by omega), Y2J h1, Y2J h2]
    refine Ev.bind (s1 e) ?_
    simp only [if_true, Y2P h1 hn]
    exact hr
   exact ⟨fun w => st _ (t1 ((Y2M h1 h2).mp w).2), fun w => st _ (t2 (fun v => w ((Y2M h1 h2).mpr ⟨e, v⟩)))⟩
  ·refine ⟨fun w => absurd ((Y2M h1 h2).mp w).1 e, fun _ => Ev.up ?_⟩
   simp only [Y4.l1, if_pos (show (i : Int) < (p.f3.length : Int) by omega), if_pos (show (0 : Int) ≤ (i : Int) by omega), if_pos (show (i : Int) < (q.f3.length : Int) by omega), Y2J h1, Y2J h2]
   refine Ev.bind (s2 e) ?_
   simp only [Bool.false_eq_true, if_false]
   exact Z12
theorem same_r {p : S37} (hp : Y5C p) : ∀ q, Y4v (Y5f p q) p q := by
 induction hp with
 | @mk a b c d hc hd _ ih =>
  intro q
  have no : ∀ x : Int × ByteArray × List ByteArray × List S37, Ev (fun k => Y4.j0 k true a b c d q.f0 q.f1 q.f2 q.f3) false := fun _ => Ev.up (by simp only [Y4.j0, if_true]; exact Ev.now _)
  by_cases h0 : a = q.f0
  ·by_cases h1 : b = q.f1
   ·by_cases hl : c.length = q.f2.length
    ·by_cases hl3 : d.length = q.f3.length
     ·have st : ∀ r, Ev (fun k => Y4.l0 k 0 a b c d q.f0 q.f1 q.f2 q.f3) r → Ev (Y5f ⟨a, b, c, d⟩ q) r := by
       intro r hr
       refine Ev.up ?_
       simp only [Y5f, Y4.f, if_pos h0, if_pos (Y36.mpr h1), if_pos (show (c.length : Int) = (q.f2.length : Int) by omega)]
       rw [show ((d.length : Int) != (q.f3.length : Int)) = false from by rw [hl3]; simp]
       refine Ev.up ?_
       simp only [Y4.j0, Bool.false_eq_true, if_false]
       exact hr
      have tx := texts_r ⟨a, b, c, d⟩ q hl hc rfl c.length 0 (by simp)
      have kx := kids_r ⟨a, b, c, d⟩ q hl3 hd ih d.length 0 (by simp)
      constructor
      ·rintro rfl
       exact st _ (tx.1 rfl _ (kx.1 rfl))
      ·intro ne
       by_cases h2 : c = q.f2
       ·exact st _ (tx.1 (by simpa using h2) _ (kx.2 (fun w => ne (s37_eq.mpr ⟨h0, h1, h2, by simpa using w⟩))))
       ·exact st _ (tx.2 (by simpa using h2))
     ·refine ⟨fun w => absurd (by rw [← w]) hl3, fun _ => Ev.up ?_⟩
      simp only [Y5f, Y4.f, if_pos h0, if_pos (Y36.mpr h1), if_pos (show (c.length : Int) = (q.f2.length : Int) by omega)]
      rw [show ((d.length : Int) != (q.f3.length : Int)) = true from bne_iff_ne.mpr (by omega)]
      exact no ⟨a, b, c, d⟩
    ·refine ⟨fun w => absurd (by rw [← w]) hl, fun _ => Ev.up ?_⟩
     simp only [Y5f, Y4.f, if_pos h0, if_pos (Y36.mpr h1), if_neg (show ¬ (c.length : Int) = (q.f2.length : Int) by omega)]
     exact no ⟨a, b, c, d⟩
   ·refine ⟨fun w => absurd (by rw [← w]) h1, fun _ => Ev.up ?_⟩
    simp only [Y5f, Y4.f, if_pos h0, if_neg (fun w => h1 (Y36.mp w))]
    exact no ⟨a, b, c, d⟩
  ·refine ⟨fun w => absurd (by rw [← w]) h0, fun _ => Ev.up ?_⟩
   simp only [Y5f, Y4.f, if_neg h0]
   exact no ⟨a, b, c, d⟩
def FineN : NT → List UInt8 → Prop
 | .pathL p, _ => Y5C p
 | .seqL p, _ => Y5C p
 | .stepL p, _ => Y5C p
 | .notL ts, l => ts.length + l.length ≤ 1000000
 | _, _ => True
def FineR : Res → Prop
 | .ok p _ => Y5C p
 | .bad _ _ => True
theorem fine_k1 (k : Int) {p : S37} (h : Y5C p) : Y5C (pK k [p]) := .mk (by simp) (by simp) (by intro q hq; simp at hq; rw [hq]; exact h)
theorem fine_k2 (k : Int) {p q : S37} (h : Y5C p) (h2 : Y5C q) : Y5C (pK k [p, q]) := .mk (by simp) (by simp) (by
 intro x hx
 simp at hx
 rcases hx with rfl | rfl
 ·exact h
 ·exact h2)
theorem P.fine {m d l res} (h : P m d l res) : l.length ≤ 1000000 → FineN m l → FineR res := by
 induction h with
 | path_ok h1 _ ih1 ih2 => intro hl _; exact ih2 (Nat.le_trans h1.le hl) (ih1 hl trivial)
 | seq_ok h1 _ ih1 ih2 => intro hl _; exact ih2 (Nat.le_trans h1.le hl) (ih1 hl trivial)
 | step_ok h1 _ ih1 ih2 => intro hl _; exact ih2 (Nat.le_trans h1.le hl) (ih1 hl trivial)
 | @pathL_more d p l r0 q l1 res hk h1 _ ih1 ih2 =>
  intro hl hp
  have := Y22 hk
  have h2 : l1.length ≤ r0.length := h1.le
  exact ih2 (by omega) (fine_k2 4 hp (ih1 (by omega) trivial))
 | @seqL_more d p l r0 q l1 res hk h1 _ ih1 ih2 =>
  intro hl hp
  have := Y22 hk
  have h2 : l1.length ≤ r0.length := h1.le
  exact ih2 (by omega) (fine_k2 3 hp (ih1 (by omega) trivial))
 | stepL_more hk _ _ ih1 => intro hl hp; exact ih1 ZU (fine_k1 _ hp)
 | not_ hk _ ih1 => intro hl _; exact ih1 ZU trivial
 | nt_br hi _ ih1 => intro hl _; simp only [List.length_cons] at hl; have := Y3A hi; exact ih1 (by omega) (by simp only [FineN, List.length_cons, List.length_nil]; omega)
 | notL_more hk hi _ ih1 => intro hl hf; simp only [FineN] at hf; have := Y3A hi; have := Y22 hk; exact ih1 (by omega) (by simp only [FineN, List.length_append, List.length_cons, List.length_nil]; omega)
 | up_ok hk _ _ ih1 => intro hl _; exact fine_k1 _ (ih1 ZU trivial)
 | br_ok hk _ _ hk2 ih1 => intro hl _; exact ih1 ZU trivial
 | pathL_end _ => intro _ hp; exact hp
 | seqL_end _ => intro _ hp; exact hp
 | stepL_end _ _ _ => intro _ hp; exact hp
 | iri_ok _ _ => intro _ _; exact .mk (by simp) (by simp) (by simp)
 | nt_one _ _ => intro _ _; exact .mk (by simp) (by simp) (by simp)
 | notL_end hk => intro hl hf; simp only [FineN] at hf; exact .mk (by omega) (by simp) (by simp)
 | _ => intros; trivial
set_option maxRecDepth 100000 in
theorem known12 : Ev (fun k => YO.f k) true := Ev.of (fun k => YO.mono k) (k := 100) (by decide +kernel)
theorem S37.ind {M : S37 → Prop} (h : ∀ a b c d, (∀ q ∈ d, M q) → M ⟨a, b, c, d⟩) : ∀ p, M p
 | ⟨a, b, c, d⟩ => h a b c d (fun q hq => S37.ind h q)
termination_by p => SizeOf.sizeOf p
decreasing_by
 have := List.sizeOf_lt_of_mem hq
 simp
 omega
inductive Y3F : Nat → S37 → Prop
 | mk {m a b c d} : b.size ≤ 300 → c.length ≤ 20 → (∀ x ∈ c, x.size ≤ 300) → d.length ≤ 4 → (∀ q ∈ d, Y3F m q) → Y3F (m + 1) ⟨a, b, c, d⟩
def bigF (p : S37) (deep : Int) (k : Nat) : Option Bool := Yn.f k p.f0 p.f1 p.f2 p.f3 deep
theorem Y4Z (p : S37) (deep : Int) (hn : p.f2.length ≤ 20) {g : Nat → Option Bool} (hg : g = fun k => Yn.l1 k deep 0 p.f0 p.f1 p.f2 p.f3) (b : Bool) (he : Ev g b) : ∀ d i : Nat, i + d = p.f2.length →
  ∃ r, Ev (fun k => Yn.l0 k deep (i : Int) p.f0 p.f1 p.f2 p.f3) r ∧ (r = false → b = false ∧ ∀ x ∈ p.f2.drop i, x.size ≤ 300)
 | 0, i, h => by
  refine ⟨b, Ev.up ?_, fun hb => ⟨hb, Z1l⟩⟩
  simp only [Yn.l0, if_neg (show ¬ (i : Int) < (p.f2.length : Int) by omega)]
  rw [hg] at he
  exact he
 | d + 1, i, h => by
  have h1 : i < p.f2.length := by omega
  by_cases hx : p.f2[i].size > 300
  ·refine ⟨true, Ev.up ?_, fun q => by cases q⟩
   simp only [Yn.l0, if_pos (show (i : Int) < (p.f2.length : Int) by omega), if_pos (show (0 : Int) ≤ (i : Int) by omega), Y2G h1, if_pos (show ((p.f2[i].size : Nat) : Int) > 300 by omega)]
   exact Z12
  ·obtain ⟨r, h2, h3⟩ := Y4Z p deep hn hg b he d (i + 1) (by omega)
   refine ⟨r, Ev.up ?_, fun q => ⟨(h3 q).1, fun x hm => ?_⟩⟩
   ·simp only [Yn.l0, if_pos (show (i : Int) < (p.f2.length : Int) by omega), if_pos (show (0 : Int) ≤ (i : Int) by omega), Y2G h1, if_neg (show ¬ ((p.f2[i].size : Nat) : Int) > 300 by omega), Y2P h1 (by omega)]
    exact h2
   ·rw [List.drop_eq_getElem_cons h1, List.mem_cons] at hm
    rcases hm with rfl | hm
    ·omega
    ·exact (h3 q).2 x hm
theorem Y5F (p : S37) (deep : Nat) (hd : deep ≤ 12) (hn : p.f3.length ≤ 4) (ih : ∀ q ∈ p.f3, ∀ e : Nat, e ≤ 13 → ∃ r, Ev (bigF q (e : Int)) r ∧ (r = false → e ≤ 12 ∧ Y3F (13 - e) q)) : ∀ d i : Nat, i + d = p.f3.length →
  ∃ r, Ev (fun k => Yn.l1 k (deep : Int) (i : Int) p.f0 p.f1 p.f2 p.f3) r ∧ (r = false → ∀ q ∈ p.f3.drop i, deep + 1 ≤ 12 ∧ Y3F (13 - (deep + 1)) q)
 | 0, i, h => by
  refine ⟨false, Ev.up ?_, fun hb => by rw [List.drop_of_length_le (by omega)]; simp⟩
  simp only [Yn.l1, if_neg (show ¬ (i : Int) < (p.f3.length : Int) by omega)]
  exact Z12
 | d + 1, i, h => by
  have h1 : i < p.f3.length := by omega
  obtain ⟨r1, e1, h2⟩ := ih p.f3[i] (List.getElem_mem h1) (deep + 1) (by omega)
  have hw : wrap64 ((deep : Int) + 1) = ((deep + 1 : Nat) : Int) := Y2P (n := 1000) (by omega) (by omega)
  cases r1 with
  | true =>
   refine ⟨true, Ev.up ?_, fun q => by cases q⟩
   simp only [Yn.l1, if_pos (show (i : Int) < (p.f3.length : Int) by omega), if_pos (show (0 : Int) ≤ (i : Int) by omega), Y2J h1, hw]
   refine Ev.bind e1 ?_
   simp only [if_true]
   exact Z12
  | false =>
   obtain ⟨r, h3, h4⟩ := Y5F p deep hd hn ih d (i + 1) (by omega)
   refine ⟨r, Ev.up ?_, fun q x hm => ?_⟩
   ·simp only [Yn.l1, if_pos (show (i : Int) < (p.f3.length : Int) by omega), if_pos (show (0 : Int) ≤ (i : Int) by omega), Y2J h1, hw, Y2P h1 (show p.f3.length ≤ 1000000 by omega)]
    refine Ev.bind e1 ?_
    simp only [Bool.false_eq_true, if_false]
    exact h3
   ·rw [List.drop_eq_getElem_cons h1, List.mem_cons] at hm
    rcases hm with rfl | hm
    ·exact h2 rfl
    ·exact h4 q x hm
theorem big_all : ∀ p, ∀ deep : Nat, deep ≤ 13 → ∃ r, Ev (bigF p (deep : Int)) r ∧ (r = false → deep ≤ 12 ∧ Y3F (13 - deep) p) := by
 refine S37.ind fun a b c d ih deep hd => ?_
 have yes : ∀ x : Unit, Ev (fun k => Yn.j0 k (deep : Int) true a b c d) true := fun _ => Ev.up (by simp only [Yn.j0, if_true]; exact Ev.now _)
 by_cases h1 : deep > 12
 ·refine ⟨true, Ev.up ?_, fun q => by cases q⟩
  simp only [bigF, Yn.f, if_pos (show (deep : Int) > 12 by omega)]
  exact yes ()
 ·by_cases h2 : d.length > 4
  ·refine ⟨true, Ev.up ?_, fun q => by cases q⟩
   simp only [bigF, Yn.f, if_neg (show ¬ (deep : Int) > 12 by omega), if_pos (show (d.length : Int) > 4 by omega)]
   exact yes ()
  ·by_cases h3 : c.length > 20
   ·refine ⟨true, Ev.up ?_, fun q => by cases q⟩
    simp only [bigF, Yn.f, if_neg (show ¬ (deep : Int) > 12 by omega), if_neg (show ¬ (d.length : Int) > 4 by omega), if_pos (show (c.length : Int) > 20 by omega)]
    exact yes ()
   ·by_cases h4 : b.size > 300
    ·refine ⟨true, Ev.up ?_, fun q => by cases q⟩
     simp only [bigF, Yn.f, if_neg (show ¬ (deep : Int) > 12 by omega), if_neg (show ¬ (d.length : Int) > 4 by omega), if_neg (show ¬ (c.length : Int) > 20 by omega), decide_eq_true (show (b.size : Int) > 300 by omega)]
     exact yes ()
    ·obtain ⟨r1, e1, k1⟩ := Y5F ⟨a, b, c, d⟩ deep (by omega) (show d.length ≤ 4 by omega) (fun q hq e he => ih q hq e he) d.length 0 (by simp)
     obtain ⟨r, e2, k2⟩ := Y4Z ⟨a, b, c, d⟩ (deep : Int) (show c.length ≤ 20 by omega) rfl r1 e1 c.length 0 (by simp)
     refine ⟨r, Ev.up ?_, fun q => ⟨by omega, ?_⟩⟩
     ·simp only [bigF, Yn.f, if_neg (show ¬ (deep : Int) > 12 by omega), if_neg (show ¬ (d.length : Int) > 4 by omega), if_neg (show ¬ (c.length : Int) > 20 by omega), decide_eq_false (show ¬ (b.size : Int) > 300 by omega)]
      refine Ev.up ?_
      simp only [Yn.j0, Bool.false_eq_true, if_false]
      exact e2
     ·obtain ⟨q1, q2⟩ := k2 q
      have q3 := k1 q1
      obtain ⟨m, hm⟩ : ∃ m, 13 - deep = m + 1 := ⟨12 - deep, by omega⟩
      rw [hm]
      have hm2 : 13 - (deep + 1) = m := by omega
      rw [hm2] at q3
      exact .mk (by omega) (by omega) (by simpa using q2) (by omega) (fun x hx => (q3 x (by simpa using hx)).2)
theorem Y3F.fine {m : Nat} {p : S37} (h : Y3F m p) : Y5C p := by
 induction h with
 | mk h1 h2 h3 h4 _ ih => exact .mk (by omega) (by omega) ih
def Y2B (k : Int) : Int := if k = 1 ∨ k = 8 then 0 else if k = 3 ∨ k = 4 then 2 else if k = 2 ∨ k = 5 ∨ k = 6 ∨ k = 7 then 1 else -1
theorem kidsI (a : Int) : Ev (fun k => YE.f k a) (Y2B a) := by
 by_cases h1 : a = 1
 ·subst h1; exact Ev.of (fun k => YE.mono _ k) (k := 5) (by decide)
 by_cases h2 : a = 2
 ·subst h2; exact Ev.of (fun k => YE.mono _ k) (k := 5) (by decide)
 by_cases h3 : a = 3
 ·subst h3; exact Ev.of (fun k => YE.mono _ k) (k := 5) (by decide)
 by_cases h4 : a = 4
 ·subst h4; exact Ev.of (fun k => YE.mono _ k) (k := 5) (by decide)
 by_cases h5 : a = 5
 ·subst h5; exact Ev.of (fun k => YE.mono _ k) (k := 5) (by decide)
 by_cases h6 : a = 6
 ·subst h6; exact Ev.of (fun k => YE.mono _ k) (k := 5) (by decide)
 by_cases h7 : a = 7
 ·subst h7; exact Ev.of (fun k => YE.mono _ k) (k := 5) (by decide)
 by_cases h8 : a = 8
 ·subst h8; exact Ev.of (fun k => YE.mono _ k) (k := 5) (by decide)
 have e : Y2B a = -1 := by simp [Y2B, h1, h2, h3, h4, h5, h6, h7, h8]
 rw [e]
 refine Ev.of (fun k => YE.mono _ k) (k := 5) ?_
 have b : ∀ n : Int, ¬ a = n → (a == n) = false := fun n h => beq_eq_false_iff_ne.mpr h
 simp [YE.f, YE.j0, YE.j1, h1, h2, h3, h4, h5, h6, h7, b 8 h8, b 7 h7]
theorem kidsR (a : Int) : Ev (fun k => Yl.f k a) (Y2B a) := by
 by_cases h1 : a = 1
 ·subst h1; exact Ev.of (fun k => Yl.mono _ k) (k := 5) (by decide)
 by_cases h2 : a = 2
 ·subst h2; exact Ev.of (fun k => Yl.mono _ k) (k := 5) (by decide)
 by_cases h3 : a = 3
 ·subst h3; exact Ev.of (fun k => Yl.mono _ k) (k := 5) (by decide)
 by_cases h4 : a = 4
 ·subst h4; exact Ev.of (fun k => Yl.mono _ k) (k := 5) (by decide)
 by_cases h5 : a = 5
 ·subst h5; exact Ev.of (fun k => Yl.mono _ k) (k := 5) (by decide)
 by_cases h6 : a = 6
 ·subst h6; exact Ev.of (fun k => Yl.mono _ k) (k := 5) (by decide)
 by_cases h7 : a = 7
 ·subst h7; exact Ev.of (fun k => Yl.mono _ k) (k := 5) (by decide)
 by_cases h8 : a = 8
 ·subst h8; exact Ev.of (fun k => Yl.mono _ k) (k := 5) (by decide)
 have e : Y2B a = -1 := by simp [Y2B, h1, h2, h3, h4, h5, h6, h7, h8]
 rw [e]
 refine Ev.of (fun k => Yl.mono _ k) (k := 5) ?_
 have b : ∀ n : Int, ¬ a = n → (a == n) = false := fun n h => beq_eq_false_iff_ne.mpr h
 simp [Yl.f, Yl.j0, Yl.j1, h1, h2, h3, h4, h5, h6, h7, b 8 h8, b 4 h4]
def Top (deep : Nat) (p : S37) : Prop :=
 deep ≤ 5 ∧ Y2B p.f0 = (p.f3.length : Int) ∧ (p.f0 = 1 → Y30 p.f1 = true) ∧ (p.f0 ≠ 1 → p.f1 = ⟨#[]⟩) ∧ (p.f0 = 8 → 1 ≤ p.f2.length ∧ p.f2.length ≤ 4) ∧ (p.f0 ≠ 8 → p.f2 = []) ∧ ∀ x ∈ p.f2, Y30 x = true
inductive May : Nat → S37 → Prop
 | mk {deep p} : Top deep p → (∀ q ∈ p.f3, May (deep + 1) q) → May deep p
def cntI (p : S37) (deep : Int) (k : Nat) : Option Int := Yu.f k p.f0 p.f1 p.f2 p.f3 deep
def cntR (p : S37) (deep : Int) (k : Nat) : Option Int := Y3.f k p.f0 p.f1 p.f2 p.f3 deep
theorem Y4M {t : ByteArray} (h : Y30 t = true) : 0 < t.size ∧ t.size ≤ 60 := by
 unfold Y30 at h
 simp only [Bool.and_eq_true, decide_eq_true_eq] at h
 exact ⟨h.1.1.1, h.1.1.2⟩
theorem iri_nil : Y30 ⟨#[]⟩ = false := by
 cases h : Y30 ⟨#[]⟩ with
 | false => rfl
 | true => have := (Y4M h).1; exact absurd this (by decide)
theorem Y3z {t : ByteArray} : t.toList = ([] : List UInt8) ↔ t = ⟨#[]⟩ := by
 rw [← Y36]
 have : (⟨#[]⟩ : ByteArray).toList = [] := by rw [Lib.toList_data]
 rw [this]
theorem tI {t : ByteArray} (h : t.size ≤ 1000000) : Y1c.f t = some (Y30 t) := by
 unfold Y1c.f; rw [if_pos (by unfold Y4u; exact decide_eq_true (by omega))]
theorem tR {t : ByteArray} (h : t.size ≤ 1000000) : YX.f t = some (Y30 t) := by
 unfold YX.f; rw [if_pos (by unfold Y4u; exact decide_eq_true (by omega))]
theorem nI {t : ByteArray} (h : t.size ≤ 1000000) : Y1l.f t = some (!Y30 t) := by
 unfold Y1l.f; rw [tI h]; rfl
theorem cf_l (xs : List ByteArray) (hn : xs.length ≤ 20) (hx : ∀ x ∈ xs, x.size ≤ 300) : ∀ d i : Nat, i + d = xs.length →
  ((∀ x ∈ xs.drop i, Y30 x = true) → Ev (fun k => Yf.l0 k xs (xs.length : Int) (i : Int)) (-1)) ∧
  ((¬ ∀ x ∈ xs.drop i, Y30 x = true) → ∃ j : Nat, Ev (fun k => Yf.l0 k xs (xs.length : Int) (i : Int)) (j : Int))
 | 0, i, h => by
  refine ⟨fun _ => Ev.up ?_, fun q => absurd Z1l q⟩
  simp only [Yf.l0, if_neg (show ¬ (i : Int) < (xs.length : Int) by omega)]
  exact Z12
 | d + 1, i, h => by
  have h1 : i < xs.length := by omega
  have hs := nI (t := xs[i]) (by have := hx xs[i] (List.getElem_mem h1); omega)
  obtain ⟨t1, t2⟩ := cf_l xs hn hx d (i + 1) (by omega)
  rw [List.drop_eq_getElem_cons h1]
  by_cases e : Y30 xs[i] = true
  ·have st : ∀ r, Ev (fun k => Yf.l0 k xs (xs.length : Int) ((i + 1 : Nat) : Int)) r → Ev (fun k => Yf.l0 k xs (xs.length : Int) (i : Int)) r := by
    intro r hr
    refine Ev.up ?_
    simp only [Yf.l0, if_pos (show (i : Int) < (xs.length : Int) by omega), if_pos (show (0 : Int) ≤ (i : Int) by omega), Y2G h1, hs, e, Option.bind_some, Bool.not_true, Bool.false_eq_true, if_false, Y2P h1 (show xs.length ≤ 1000000 by omega)]
    exact hr
   exact ⟨fun q => st _ (t1 (fun x m => q x (List.mem_cons_of_mem _ m))), fun q => by
    obtain ⟨j, hj⟩ := t2 (fun w => q (fun x m => by
     rcases List.mem_cons.mp m with rfl | m
     ·exact e
     ·exact w x m))
    exact ⟨j, st _ hj⟩⟩
  ·refine ⟨fun q => absurd (q _ (List.mem_cons_self ..)) e, fun _ => ⟨i, Ev.up ?_⟩⟩
   have e2 : Y30 xs[i] = false := by simpa using e
   simp only [Yf.l0, if_pos (show (i : Int) < (xs.length : Int) by omega), if_pos (show (0 : Int) ≤ (i : Int) by omega), Y2G h1, hs, e2, Option.bind_some, Bool.not_false, if_true]
   exact Z12
theorem cf (xs : List ByteArray) (hn : xs.length ≤ 20) (hx : ∀ x ∈ xs, x.size ≤ 300) : ∃ b, Ev (fun k => Ys.f k xs) b ∧ (b = false ↔ ∀ x ∈ xs, Y30 x = true) := by
 obtain ⟨t1, t2⟩ := cf_l xs hn hx xs.length 0 (by omega)
 by_cases e : ∀ x ∈ xs, Y30 x = true
 ·exact ⟨false, Ev.bind (t1 e) (Ev.congr (fun k => by simp) (Ev.now _)), by simpa using e⟩
 ·obtain ⟨j, hj⟩ := t2 e
  refine ⟨true, Ev.bind hj (Ev.congr (fun k => by rw [decide_eq_true (show (j : Int) ≥ 0 by omega)]) (Ev.now _)), by simpa using e⟩
theorem count_top {m : Nat} (p : S37) (hp : Y3F m p) (deep : Nat) :
  (¬ Top deep p → Ev (cntI p (deep : Int)) (-1)) ∧ (Top deep p → ∀ r, Ev (fun k => Yu.l0 k (deep : Int) 1 p.f3 (p.f3.length : Int) 0) r → Ev (cntI p (deep : Int)) r) := by
 obtain ⟨hb, hc, hx, hd, _⟩ := hp
 rename_i m a b c d hk
 have hnb := nI (t := b) (by omega)
 obtain ⟨cb, ec, hcb⟩ := cf c hc hx
 constructor
 ·intro hn
  refine Ev.up ?_
  simp only [cntI, Yu.f]
  by_cases h5 : (deep : Int) > 5
  ·simp only [if_pos h5]; exact Ev.now _
  simp only [if_neg h5]
  refine Ev.bind (kidsI a) ?_
  by_cases hk2 : (d.length : Int) = Y2B a
  ·simp only [if_pos hk2]
   by_cases ht : ((a == 1) == (b.toList != ([] : List UInt8))) = true
   ·simp only [if_pos ht]
    by_cases ht2 : ((a == 8) == (decide ((c.length : Int) > 0))) = true
    ·simp only [if_pos ht2]
     by_cases h4 : (c.length : Int) > 4
     ·simp only [if_pos h4]; exact Ev.now _
     simp only [if_neg h4]
     simp only [beq_iff_eq] at ht ht2
     have h8 : (a = 8 → 1 ≤ c.length ∧ c.length ≤ 4) ∧ (a ≠ 8 → c = []) := by
      by_cases e8 : a = 8
      ·rw [beq_iff_eq.mpr e8] at ht2
       have := of_decide_eq_true ht2.symm
       exact ⟨fun _ => by omega, fun q => absurd e8 q⟩
      ·rw [beq_eq_false_iff_ne.mpr e8] at ht2
       have := of_decide_eq_false ht2.symm
       exact ⟨fun q => absurd q e8, fun _ => List.eq_nil_of_length_eq_zero (by omega)⟩
     by_cases hbe : b.toList = ([] : List UInt8)
     ·simp only [if_pos hbe]
      refine Ev.bind ec ?_
      cases cb with
      | true => simp only [if_true]; exact Ev.now _
      | false =>
       exfalso
       have a1 : a ≠ 1 := by
        intro e
        rw [beq_iff_eq.mpr e, hbe] at ht
        cases ht
       exact hn ⟨by omega, hk2.symm, fun q => absurd q a1, fun _ => Y3z.mp hbe, h8.1, h8.2, hcb.mp rfl⟩
     ·simp only [if_neg hbe, hnb, Option.bind_some]
      cases hi : Y30 b with
      | false => simp only [Bool.not_false, if_true]; exact Ev.now _
      | true =>
       simp only [Bool.not_true, Bool.false_eq_true, if_false]
       refine Ev.bind ec ?_
       cases cb with
       | true => simp only [if_true]; exact Ev.now _
       | false =>
        exfalso
        have a1 : a = 1 := by
         rw [bne_iff_ne.mpr hbe] at ht
         simpa using ht
        exact hn ⟨by omega, hk2.symm, fun _ => hi, fun q => absurd a1 q, h8.1, h8.2, hcb.mp rfl⟩
    ·simp only [if_neg ht2]; exact Ev.now _
   ·simp only [if_neg ht]; exact Ev.now _
  ·simp only [if_neg hk2]; exact Ev.now _
 ·rintro ⟨h5, hk2, hi, hb0, h8, h80, hall⟩ r hr
  simp only at h5 hk2 hi hb0 h8 h80 hall hr
  have hcb2 := hcb.mpr hall
  subst hcb2
  refine Ev.up ?_
  simp only [cntI, Yu.f, if_neg (show ¬ (deep : Int) > 5 by omega)]
  refine Ev.bind (kidsI a) ?_
  simp only [if_pos hk2.symm]
  have h4 : ¬ (c.length : Int) > 4 := by
   by_cases e8 : a = 8
   ·have := h8 e8; omega
   ·rw [h80 e8]; simp
  have ht2 : ((a == 8) == (decide ((c.length : Int) > 0))) = true := by
   by_cases e8 : a = 8
   ·have := h8 e8
    rw [beq_iff_eq.mpr e8, decide_eq_true (show (c.length : Int) > 0 by omega)]; rfl
   ·rw [beq_eq_false_iff_ne.mpr e8, h80 e8]; rfl
  by_cases a1 : a = 1
  ·have hb1 := hi a1
   have hbe : ¬ b.toList = ([] : List UInt8) := by
    intro e
    rw [Y3z.mp e, iri_nil] at hb1
    cases hb1
   have ht : ((a == 1) == (b.toList != ([] : List UInt8))) = true := by
    rw [beq_iff_eq.mpr a1, bne_iff_ne.mpr hbe]; rfl
   simp only [if_pos ht, if_pos ht2, if_neg h4, if_neg hbe, hnb, hb1, Option.bind_some, Bool.not_true, Bool.false_eq_true, if_false]
   refine Ev.bind ec ?_
   simp only [Bool.false_eq_true, if_false]
   exact hr
  ·have hbe : b.toList = ([] : List UInt8) := Y3z.mpr (hb0 a1)
   have ht : ((a == 1) == (b.toList != ([] : List UInt8))) = true := by
    rw [beq_eq_false_iff_ne.mpr a1, hbe]; rfl
   simp only [if_pos ht, if_pos ht2, if_neg h4, if_pos hbe]
   refine Ev.bind ec ?_
   simp only [Bool.false_eq_true, if_false]
   exact hr
theorem Y55 (p : S37) (deep : Int) (hn : p.f2.length ≤ 20) (hx : ∀ x ∈ p.f2, x.size ≤ 300) {g : Nat → Option Int} (hg : g = fun k => Y3.l1 k deep 1 0 p.f0 p.f1 p.f2 p.f3) : ∀ d i : Nat, i + d = p.f2.length →
  ((∀ x ∈ p.f2.drop i, Y30 x = true) → ∀ r, Ev g r → Ev (fun k => Y3.l0 k deep (i : Int) p.f0 p.f1 p.f2 p.f3) r) ∧
  ((¬ ∀ x ∈ p.f2.drop i, Y30 x = true) → Ev (fun k => Y3.l0 k deep (i : Int) p.f0 p.f1 p.f2 p.f3) (-1))
 | 0, i, h => by
  refine ⟨fun _ r hr => Ev.up ?_, fun q => absurd Z1l q⟩
  simp only [Y3.l0, if_neg (show ¬ (i : Int) < (p.f2.length : Int) by omega)]
  rw [hg] at hr
  exact hr
 | d + 1, i, h => by
  have h1 : i < p.f2.length := by omega
  have hs := tR (t := p.f2[i]) (by have := hx p.f2[i] (List.getElem_mem h1); omega)
  obtain ⟨t1, t2⟩ := Y55 p deep hn hx hg d (i + 1) (by omega)
  rw [List.drop_eq_getElem_cons h1]
  by_cases e : Y30 p.f2[i] = true
  ·have st : ∀ r, Ev (fun k => Y3.l0 k deep ((i + 1 : Nat) : Int) p.f0 p.f1 p.f2 p.f3) r → Ev (fun k => Y3.l0 k deep (i : Int) p.f0 p.f1 p.f2 p.f3) r := by
    intro r hr
    refine Ev.up ?_
    simp only [Y3.l0, if_pos (show (i : Int) < (p.f2.length : Int) by omega), if_pos (show (0 : Int) ≤ (i : Int) by omega), Y2G h1, hs, e, Option.bind_some, if_true, Y2P h1 (show p.f2.length ≤ 1000000 by omega)]
    exact hr
   exact ⟨fun q r hr => st _ (t1 (fun x m => q x (List.mem_cons_of_mem _ m)) r hr), fun q => st _ (t2 (fun w => q (fun x m => by
     rcases List.mem_cons.mp m with rfl | m
     ·exact e
     ·exact w x m)))⟩
  ·refine ⟨fun q => absurd (q _ (List.mem_cons_self ..)) e, fun _ => Ev.up ?_⟩
   have e2 : Y30 p.f2[i] = false := by simpa using e
   simp only [Y3.l0, if_pos (show (i : Int) < (p.f2.length : Int) by omega), if_pos (show (0 : Int) ≤ (i : Int) by omega), Y2G h1, hs, e2, Option.bind_some, Bool.false_eq_true, if_false]
   exact Z12
theorem may_top {m : Nat} (p : S37) (hp : Y3F m p) (deep : Nat) :
  (¬ Top deep p → Ev (cntR p (deep : Int)) (-1)) ∧ (Top deep p → ∀ r, Ev (fun k => Y3.l1 k (deep : Int) 1 0 p.f0 p.f1 p.f2 p.f3) r → Ev (cntR p (deep : Int)) r) := by
 obtain ⟨hb, hc, hx, hd, _⟩ := hp
 rename_i m a b c d hk
 have hnb := tR (t := b) (by omega)
 obtain ⟨x1, x2⟩ := Y55 ⟨a, b, c, d⟩ (deep : Int) hc hx rfl c.length 0 (by simp)
 simp only [List.drop_zero] at x1 x2
 have z0 : Ev (fun k => Y3.j0 k (deep : Int) true a b c d) (-1) := Ev.up (by simp only [Y3.j0, if_true]; exact Ev.now _)
 have z1 : Ev (fun k => Y3.j1 k (deep : Int) true a b c d) (-1) := Ev.up (by simp only [Y3.j1, if_true]; exact Ev.now _)
 have y1 : ∀ r, Ev (fun k => Y3.l0 k (deep : Int) 0 a b c d) r → Ev (fun k => Y3.j1 k (deep : Int) false a b c d) r := fun r h => Ev.up (by simp only [Y3.j1, Bool.false_eq_true, if_false]; exact h)
 have y0 : ∀ r, ((a = 1 → Y30 b = true) ∧ (a = 8 → 1 ≤ c.length ∧ c.length ≤ 4) → Ev (fun k => Y3.l0 k (deep : Int) 0 a b c d) r) → (¬ ((a = 1 → Y30 b = true) ∧ (a = 8 → 1 ≤ c.length ∧ c.length ≤ 4)) → r = -1) → Ev (fun k => Y3.j0 k (deep : Int) false a b c d) r := by
  intro r h1 h2
  refine Ev.up ?_
  simp only [Y3.j0, Bool.false_eq_true, if_false]
  by_cases a1 : a = 1
  ·have a8 : ¬ a = 8 := by omega
   simp only [if_pos a1, hnb, Option.bind_some]
   cases hi : Y30 b with
   | true =>
    simp only [if_true, if_neg a8]
    exact y1 _ (h1 ⟨fun _ => hi, fun q => absurd q a8⟩)
   | false =>
    simp only [Bool.false_eq_true, if_false]
    rw [h2 (fun q => by rw [hi] at q; exact absurd (q.1 a1) (by simp))]
    exact z1
  ·simp only [if_neg a1]
   by_cases a8 : a = 8
   ·simp only [if_pos a8]
    by_cases l1 : (c.length : Int) < 1
    ·simp only [if_pos l1]
     rw [h2 (fun q => by have := q.2 a8; omega)]
     exact z1
    ·by_cases l4 : (c.length : Int) > 4
     ·simp only [if_neg l1, decide_eq_true l4]
      rw [h2 (fun q => by have := q.2 a8; omega)]
      exact z1
     ·simp only [if_neg l1, decide_eq_false l4]
      exact y1 _ (h1 ⟨fun q => absurd q a1, fun _ => by omega⟩)
   ·simp only [if_neg a8]
    exact y1 _ (h1 ⟨fun q => absurd q a1, fun q => absurd q a8⟩)
 have key : ∀ r, (Top deep ⟨a, b, c, d⟩ → Ev (fun k => Y3.l1 k (deep : Int) 1 0 a b c d) r) → (¬ Top deep ⟨a, b, c, d⟩ → r = -1) → Ev (cntR ⟨a, b, c, d⟩ (deep : Int)) r := by
  intro r h1 h2
  refine Ev.up ?_
  simp only [cntR, Y3.f]
  refine Ev.bind (kidsR a) ?_
  by_cases hk2 : Y2B a = (d.length : Int)
  ·simp only [if_pos hk2]
   by_cases h5 : (deep : Int) > 5
   ·simp only [if_pos h5]
    rw [h2 (fun q => by have := q.1; omega)]
    exact z0
   ·simp only [if_neg h5]
    have main : (a ≠ 1 → b = ⟨#[]⟩) → (a ≠ 8 → c = []) → Ev (fun k => Y3.j0 k (deep : Int) false a b c d) r := by
     intro hb0 h80
     refine y0 r (fun q => ?_) (fun q => h2 (fun t => q ⟨t.2.2.1, t.2.2.2.2.1⟩))
     by_cases hall : ∀ x ∈ c, Y30 x = true
     ·exact x1 hall _ (h1 ⟨by omega, hk2, q.1, hb0, q.2, h80, hall⟩)
     ·rw [h2 (fun t => hall t.2.2.2.2.2.2)]
      exact x2 hall
    by_cases a1 : a = 1
    ·have a8 : ¬ a = 8 := by omega
     simp only [if_pos a1, if_neg a8]
     by_cases l0 : (c.length : Int) > 0
     ·simp only [decide_eq_true l0]
      rw [h2 (fun t => by have hc0 : c = [] := t.2.2.2.2.2.1 a8; rw [hc0] at l0; simp at l0)]
      exact z0
     ·simp only [decide_eq_false l0]
      exact main (fun q => absurd a1 q) (fun _ => List.eq_nil_of_length_eq_zero (by omega))
    ·simp only [if_neg a1]
     by_cases hbe : b.toList = ([] : List UInt8)
     ·simp only [if_pos hbe]
      by_cases a8 : a = 8
      ·simp only [if_pos a8]
       exact main (fun _ => Y3z.mp hbe) (fun q => absurd a8 q)
      ·simp only [if_neg a8]
       by_cases l0 : (c.length : Int) > 0
       ·simp only [decide_eq_true l0]
        rw [h2 (fun t => by have hc0 : c = [] := t.2.2.2.2.2.1 a8; rw [hc0] at l0; simp at l0)]
        exact z0
       ·simp only [decide_eq_false l0]
        exact main (fun _ => Y3z.mp hbe) (fun _ => List.eq_nil_of_length_eq_zero (by omega))
     ·simp only [if_neg hbe]
      rw [h2 (fun t => hbe (Y3z.mpr (t.2.2.2.1 a1)))]
      exact z0
  ·simp only [if_neg hk2]
   rw [h2 (fun q => hk2 q.2.1)]
   exact z0
 exact ⟨fun hn => key _ (fun t => absurd t hn) (fun _ => rfl), fun ht r hr => key r (fun _ => hr) (fun hn => absurd ht hn)⟩
theorem Y4p (p : S37) (deep : Nat) (hd : deep ≤ 12) (B : Nat) (hB : B ≤ 4398046511104) (hn : p.f3.length ≤ 4)
  (ih : ∀ q ∈ p.f3, ∃ v : Int, Ev (cntI q ((deep + 1 : Nat) : Int)) v ∧ Ev (cntR q ((deep + 1 : Nat) : Int)) v ∧ (v = -1 ∨ (1 ≤ v ∧ v ≤ B ∧ May (deep + 1) q))) : ∀ d i : Nat, i + d = p.f3.length → ∀ x : Nat, 1 ≤ x → x ≤ 1 + i * B →
  ∃ v : Int, Ev (fun k => Yu.l0 k (deep : Int) (x : Int) p.f3 (p.f3.length : Int) (i : Int)) v ∧ Ev (fun k => Y3.l1 k (deep : Int) (x : Int) (i : Int) p.f0 p.f1 p.f2 p.f3) v ∧ (v = -1 ∨ (1 ≤ v ∧ v ≤ 1 + p.f3.length * B ∧ ∀ q ∈ p.f3.drop i, May (deep + 1) q))
 | 0, i, h, x, hx1, hx => by
  have hx2 : ((x : Nat) : Int) ≤ 1 + (p.f3.length : Int) * (B : Int) := by
   have e : i = p.f3.length := by omega
   rw [← e]; exact_mod_cast hx
  refine ⟨x, Ev.up ?_, Ev.up ?_, Or.inr ⟨by omega, hx2, Z1l⟩⟩
  ·simp only [Yu.l0, if_neg (show ¬ (i : Int) < (p.f3.length : Int) by omega)]
   exact Z12
  ·simp only [Y3.l1, if_neg (show ¬ (i : Int) < (p.f3.length : Int) by omega)]
   exact Z12
 | d + 1, i, h, x, hx1, hx => by
  have h1 : i < p.f3.length := by omega
  obtain ⟨v, e1, e2, hv⟩ := ih p.f3[i] (List.getElem_mem h1)
  have hw : wrap64 ((deep : Int) + 1) = ((deep + 1 : Nat) : Int) := Y2P (n := 1000) (by omega) (by omega)
  have p1 := show (i : Int) < (p.f3.length : Int) by omega
  have p0 := show (0 : Int) ≤ (i : Int) by omega
  rcases hv with rfl | ⟨v1, v2, v3⟩
  ·refine ⟨-1, Ev.up ?_, Ev.up ?_, Or.inl rfl⟩
   ·simp only [Yu.l0, if_pos p1, if_pos p0, Y2J h1, hw]
    exact Ev.bind e1 (Ev.congr (fun k => by simp) (Ev.now _))
   ·simp only [Y3.l1, if_pos p1, if_pos p0, Y2J h1, hw]
    exact Ev.bind e2 (Ev.congr (fun k => by simp) (Ev.now _))
  ·obtain ⟨n, rfl⟩ := Int.eq_ofNat_of_zero_le (show 0 ≤ v by omega)
   have hi4 : i ≤ 4 := by omega
   have hnB : n ≤ B := by omega
   have hxB : x + n ≤ 1 + (i + 1) * B := by rw [Nat.add_mul]; omega
   have hiB : (i + 1) * B ≤ 5 * B := Nat.mul_le_mul_right B (by omega)
   have hw2 : wrap64 ((x : Int) + (n : Int)) = ((x + n : Nat) : Int) := by
    unfold wrap64
    omega
   obtain ⟨v, f1, f2, f3⟩ := Y4p p deep hd B hB hn ih d (i + 1) (by omega) (x + n) (Nat.le_trans hx1 (Nat.le_add_right _ _)) hxB
   refine ⟨v, Ev.up ?_, Ev.up ?_, ?_⟩
   ·simp only [Yu.l0, if_pos p1, if_pos p0, Y2J h1, hw]
    refine Ev.bind e1 ?_
    simp only [if_neg (show ¬ (n : Int) < 0 by omega), Y2P h1 (show p.f3.length ≤ 1000000 by omega)]
    rw [hw2]
    exact f1
   ·simp only [Y3.l1, if_pos p1, if_pos p0, Y2J h1, hw]
    refine Ev.bind e2 ?_
    simp only [if_neg (show ¬ (n : Int) < 0 by omega), Y2P h1 (show p.f3.length ≤ 1000000 by omega)]
    rw [hw2]
    exact f2
   ·rcases f3 with f3 | ⟨g1, g2, g3⟩
    ·exact Or.inl f3
    ·refine Or.inr ⟨g1, g2, fun q hq => ?_⟩
     rw [List.drop_eq_getElem_cons h1, List.mem_cons] at hq
     rcases hq with rfl | hq
     ·exact v3
     ·exact g3 q hq
theorem count_may {m : Nat} {p : S37} (hp : Y3F m p) : ∀ deep : Nat, deep + m ≤ 13 → ∃ v : Int, Ev (cntI p (deep : Int)) v ∧ Ev (cntR p (deep : Int)) v ∧ (v = -1 ∨ (1 ≤ v ∧ v ≤ ((8 ^ m : Nat) : Int) ∧ May deep p)) := by
 induction hp with
 | @mk m a b c d hb hc hx hd hk ih =>
  intro deep hm
  have hp : Y3F (m + 1) ⟨a, b, c, d⟩ := .mk hb hc hx hd hk
  obtain ⟨c1, c2⟩ := count_top _ hp deep
  obtain ⟨m1, m2⟩ := may_top _ hp deep
  by_cases ht : Top deep ⟨a, b, c, d⟩
  ·obtain ⟨v, e1, e2, e3⟩ := Y4p ⟨a, b, c, d⟩ deep (by omega) (8 ^ m) (Nat.le_trans (Nat.pow_le_pow_right (by omega) (show m ≤ 14 by omega)) (by decide)) hd (fun q hq => ih q hq (deep + 1) (by omega)) d.length 0 (by simp) 1 (by omega) (by omega)
   refine ⟨v, c2 ht _ e1, m2 ht _ e2, ?_⟩
   rcases e3 with e3 | ⟨g1, g2, g3⟩
   ·exact Or.inl e3
   ·refine Or.inr ⟨g1, ?_, .mk ht (by simpa using g3)⟩
    have : 1 ≤ 8 ^ m := Nat.pos_of_ne_zero (by simp)
    have h4 : d.length * 8 ^ m ≤ 4 * 8 ^ m := Nat.mul_le_mul_right _ hd
    have h5 : 1 + d.length * 8 ^ m ≤ 8 ^ (m + 1) := by rw [Nat.pow_succ]; omega
    refine Int.le_trans g2 ?_
    exact_mod_cast h5
  ·exact ⟨-1, c1 ht, m1 ht, Or.inl rfl⟩
def isI (p : S37) (k : Nat) : Option Bool := Y17.f k p.f0 p.f1 p.f2 p.f3
def isR (p : S37) (k : Nat) : Option Bool := YU.f k p.f0 p.f1 p.f2 p.f3
theorem is_path {p : S37} (hp : Y3F 13 p) : ∃ b, Ev (isI p) b ∧ Ev (isR p) b ∧ (b = true → May 0 p) := by
 obtain ⟨v, e1, e2, e3⟩ := count_may hp 0 (by omega)
 refine ⟨decide (1 ≤ v ∧ v ≤ 30), ?_, ?_, fun h => ?_⟩
 ·refine Ev.bind e1 (Ev.congr (fun k => ?_) (Ev.now _))
  by_cases h : v > 0
  ·rw [if_pos h]; congr 1; exact decide_eq_decide.2 (by omega)
  ·rw [if_neg h]; congr 1; exact (decide_eq_false (by omega)).symm
 ·refine Ev.bind e2 (Ev.congr (fun k => ?_) (Ev.now _))
  by_cases h : v ≥ 1
  ·rw [if_pos h]; congr 1; exact decide_eq_decide.2 (by omega)
  ·rw [if_neg h]; congr 1; exact (decide_eq_false (by omega)).symm
 ·have := of_decide_eq_true h
  rcases e3 with rfl | e3
  ·omega
  ·exact e3.2.2
theorem dec_cont (s : ByteArray) (i k : Nat) (h1 : 1 ≤ k) (h2 : k < (Utf8.decode s i).2) : (s.get! (i + k)).toNat / 64 = 2 := by
 unfold Utf8.decode at h2
 simp only at h2
 split at h2
 ·simp at h2; omega
 split at h2
 ·rename_i _ hc
  simp only [Bool.and_eq_true, beq_iff_eq, decide_eq_true_eq] at hc
  have e : k = 1 := by split at h2 <;> simp at h2 <;> omega
  rw [e]; exact hc.2.2
 split at h2
 ·rename_i _ _ hc
  simp only [Bool.and_eq_true, beq_iff_eq, decide_eq_true_eq] at hc
  have e : k = 1 ∨ k = 2 := by split at h2 <;> simp at h2 <;> omega
  rcases e with rfl | rfl
  ·exact hc.1.2.2
  ·exact hc.2.2
 split at h2
 ·rename_i _ _ _ hc
  simp only [Bool.and_eq_true, beq_iff_eq, decide_eq_true_eq] at hc
  have e : k = 1 ∨ k = 2 ∨ k = 3 := by split at h2 <;> simp at h2 <;> omega
  rcases e with rfl | rfl | rfl
  ·exact hc.1.1.2.2
  ·exact hc.1.2.2
  ·exact hc.2.2
 ·simp at h2; omega
theorem dec_pos (s : ByteArray) (i : Nat) : 1 ≤ (Utf8.decode s i).2 := by
 unfold Utf8.decode
 simp only
 repeat' split
 all_goals simp
theorem Y5Y (p : Nat → Bool) (s : ByteArray) : ∀ (b i j : Nat), i ≤ j → j < s.size → s.size - i ≤ b → (s.get! j).toNat < 128 → (Y2j s b i).all p = true → p (s.get! j).toNat = true
 | 0, i, j, h1, h2, h3, h4, h5 => by omega
 | b + 1, i, j, h1, h2, h3, h4, h5 => by
  unfold Y2j at h5
  rw [if_pos (by omega), List.all_cons, Bool.and_eq_true] at h5
  by_cases e : j = i
  ·subst e
   have : Utf8.decode s j = ((s.get! j).toNat, 1) := by
    unfold Utf8.decode
    simp only [Nat.add_zero]
    rw [if_pos h4]
   rw [this] at h5
   exact h5.1
  ·by_cases h6 : i + (Utf8.decode s i).2 ≤ j
   ·exact Y5Y p s b _ j h6 h2 (by have := dec_pos s i; omega) h4 h5.2
   ·have := dec_cont s i (j - i) (by omega) (by omega)
    rw [show i + (j - i) = j by omega] at this
    omega
theorem iri_no {t : ByteArray} (h : Y30 t = true) (c : UInt8) (hc : c.toNat < 128) (hp : Y1f c.toNat = false) : ¬ c ∈ t.data.toList := by
 intro hm
 obtain ⟨j, hj, he⟩ := List.getElem_of_mem hm
 rw [Y4X] at hj
 unfold Y30 at h
 simp only [Bool.and_eq_true, decide_eq_true_eq] at h
 have h2 := h.2
 rw [Y3U] at h2
 have hj2 : j < t.data.size := hj
 have hg : t.get! j = c := by
  rw [← he]
  show t.data[j]! = _
  rw [getElem!_pos t.data j hj2]
  simp
 have := Y5Y Y1f t t.size 0 j (by omega) hj (by omega) (by rw [hg]; exact hc) h2
 rw [hg, hp] at this
 cases this
def bl (n : Nat) : List UInt8 := List.replicate n 32
def Y6f (n : Nat) : List ByteArray → List UInt8
 | [] => 41 :: bl n
 | t :: ts => 124 :: (bl n ++ (60 :: (t.data.toList ++ 62 :: (bl n ++ Y6f n ts))))
def notI (n : Nat) (t : ByteArray) (ts : List ByteArray) : List UInt8 := 60 :: (t.data.toList ++ 62 :: (bl n ++ Y6f n ts))
inductive Rd : Bool → S37 → (Nat → List UInt8) → Prop
 | iri {t} : Y30 t = true → Rd false (pIri t) (fun n => 60 :: (t.data.toList ++ 62 :: bl n))
 | up {p f} : Rd true p f → Rd false (pK 2 [p]) (fun n => 94 :: (bl n ++ f n))
 | two {k c p q f g} : (k = 3 ∧ c = 47 ∨ k = 4 ∧ c = 124) → Rd true p f → Rd true q g → Rd false (pK k [p, q]) (fun n => f n ++ c :: (bl n ++ g n))
 | many {k c p f} : (k = 5 ∧ c = 42 ∨ k = 6 ∧ c = 43 ∨ k = 7 ∧ c = 63) → Rd true p f → Rd false (pK k [p]) (fun n => f n ++ c :: bl n)
 | not {t ts} : (∀ x ∈ t :: ts, Y30 x = true) → Rd false (pNot (t :: ts)) (fun n => 33 :: 40 :: (bl n ++ notI n t ts))
 | w_iri {t f} : Rd false (pIri t) f → Rd true (pIri t) f
 | w_br {p f} : p.f0 ≠ 1 → Rd false p f → Rd true p (fun n => 40 :: (bl n ++ (f n ++ 41 :: bl n)))
theorem Y21 : ∀ (m : Nat) (l : List UInt8), skip (bl m ++ l) = skip l
 | 0, l => rfl
 | m + 1, l => by
  show skip (32 :: (bl m ++ l)) = skip l
  conv => lhs; unfold skip
  rw [if_pos rfl]; exact Y21 m l
theorem Y2m {c : UInt8} (h : c ≠ 32) (l : List UInt8) : skip (c :: l) = c :: l := by
 conv => lhs; unfold skip
 rw [if_neg h]
theorem Y4K {t : ByteArray} (h : Y30 t = true) (m : Nat) (rest : List UInt8) : Y67 (bl m ++ (60 :: (t.data.toList ++ 62 :: rest))) = some (t, rest) := by
 unfold Y67
 rw [Y21, Y2m (by decide)]
 simp only [if_true]
 rw [upGt_mk _ _ (iri_no h 62 (by decide) (by decide))]
 have et : (⟨t.data.toList.toArray⟩ : ByteArray) = t := ba_ext (by simp)
 simp only [et, h, if_true]
def Endy (l : List UInt8) : Prop := hd (skip l) ≠ 42 ∧ hd (skip l) ≠ 43 ∧ hd (skip l) ≠ 63 ∧ hd (skip l) ≠ 47 ∧ hd (skip l) ≠ 124
theorem Endy.bl {l : List UInt8} (h : Endy l) (n : Nat) : Endy (bl n ++ l) := by unfold Endy at h ⊢; rw [Y21]; exact h
theorem Y2I {d : Nat} {l : List UInt8} {p : S37} {r : List UInt8} (h : P .step d l (.ok p (skip r))) (he : Endy r) : P .path d l (.ok p (skip r)) := by
 have e := Y4e r
 obtain ⟨h1, h2, h3, h4, h5⟩ := he
 have s1 : P (.seqL p) d (skip r) (.ok p (skip r)) := by have := P.seqL_end (d := d) (p := p) (l := skip r) (by rw [e]; exact h4); rw [e] at this; exact this
 have s2 : P (.pathL p) d (skip r) (.ok p (skip r)) := by have := P.pathL_end (d := d) (p := p) (l := skip r) (by rw [e]; exact h5); rw [e] at this; exact this
 exact .path_ok (.seq_ok h s1) s2
theorem Y2A {d : Nat} {l : List UInt8} {p : S37} {r : List UInt8} (h : P .back d l (.ok p r)) (h1 : hd (skip r) ≠ 42) (h2 : hd (skip r) ≠ 43) (h3 : hd (skip r) ≠ 63) : P .step d l (.ok p (skip r)) := .step_ok h (.stepL_end h1 h2 h3)
theorem Y2c {d : Nat} {l : List UInt8} {c : Int} {lb : List UInt8} (h : P .back d l (.bad c lb)) : P .path d l (.bad c lb) := .path_bad (.seq_bad (.step_bad h))
theorem Y4q (d n : Nat) (rest : List UInt8) : ∀ (ts us : List ByteArray), (∀ x ∈ ts, Y30 x = true) → P (.notL us) d (bl n ++ (Y6f n ts ++ rest)) (.ok (pNot (us ++ ts)) (bl n ++ rest))
 | [], us, _ => by
  rw [List.append_nil]
  refine .notL_end ?_
  rw [Y21]
  exact Y2m (by decide) _
 | t :: ts, us, h => by
  have ih := Y4q d n rest ts (us ++ [t]) (fun x m => h x (List.mem_cons_of_mem _ m))
  rw [List.append_assoc, List.singleton_append] at ih
  refine .notL_more (r := bl n ++ (60 :: (t.data.toList ++ 62 :: (bl n ++ (Y6f n ts ++ rest))))) (t := t) (l1 := bl n ++ (Y6f n ts ++ rest)) ?_ (Y4K (h t (List.mem_cons_self ..)) n _) ih
  rw [Y21]
  simp only [Y6f, List.cons_append, List.append_assoc]
  exact Y2m (by decide) _
def Back (p : S37) (f : Nat → List UInt8) : Prop :=
 ∃ g : Nat → List UInt8, (∀ n, f n = g n ++ bl n) ∧ ∀ d, (∀ n m rest, P .back d (bl m ++ (g n ++ rest)) (.ok p rest)) ∨ (∀ n m rest, ∃ lb, P .back d (bl m ++ (g n ++ rest)) (.bad 3 lb))
def Path (p : S37) (f : Nat → List UInt8) : Prop :=
 ∀ d, (∀ n m rest, Endy rest → P .path d (bl m ++ (f n ++ rest)) (.ok p (skip rest))) ∨ (∀ n m rest, Endy rest → ∃ lb, P .path d (bl m ++ (f n ++ rest)) (.bad 3 lb))
theorem Rd.reads {w p f} (h : Rd w p f) : (w = true → Back p f) ∧ (w = false → Path p f) := by
 induction h with
 | @iri t hi =>
  refine ⟨(fun e => by cases e), fun _ d => Or.inl fun n m rest he => ?_⟩
  have h1 := Y4K hi m (bl n ++ rest)
  have h2 : P .back d (bl m ++ (60 :: (t.data.toList ++ 62 :: (bl n ++ rest)))) (.ok (pIri t) (bl n ++ rest)) := .iri_ok (by rw [Y21]; exact Y2m (by decide) _) h1
  simp only [List.cons_append, List.append_assoc]
  have he2 := he.bl n
  have := Y2I (Y2A h2 he2.1 he2.2.1 he2.2.2.1) he2
  rw [Y21] at this
  exact this
 | @up p f _ ih =>
  refine ⟨(fun e => by cases e), fun _ d => ?_⟩
  obtain ⟨g, hg, hb⟩ := ih.1 rfl
  have sk : ∀ n m rest, skip (bl m ++ (94 :: (bl n ++ f n) ++ rest)) = 94 :: (bl n ++ (g n ++ (bl n ++ rest))) := by
   intro n m rest
   rw [Y21, List.cons_append, Y2m (by decide), hg n]
   simp [List.append_assoc]
  by_cases h5 : d < 5
  ·rcases hb (d + 1) with hb | hb
   ·refine Or.inl fun n m rest he => ?_
    have h2 : P .back d (bl m ++ (94 :: (bl n ++ f n) ++ rest)) (.ok (pK 2 [p]) (bl n ++ rest)) := .up_ok (sk n m rest) h5 (hb n n _)
    have he2 := he.bl n
    have := Y2I (Y2A h2 he2.1 he2.2.1 he2.2.2.1) he2
    rw [Y21] at this
    exact this
   ·refine Or.inr fun n m rest he => ?_
    obtain ⟨lb, h2⟩ := hb n n (bl n ++ rest)
    exact ⟨lb, Y2c (.up_bad (sk n m rest) h5 h2)⟩
  ·exact Or.inr fun n m rest he => ⟨_, Y2c (.full (sk n m rest) (Or.inl rfl) (by omega))⟩
 | @two k c p q f g hk _ _ ih1 ih2 =>
  refine ⟨(fun e => by cases e), fun _ d => ?_⟩
  obtain ⟨f1, hf1, hb1⟩ := ih1.1 rfl
  obtain ⟨g1, hg1, hb2⟩ := ih2.1 rfl
  have hc : c ≠ 32 ∧ c ≠ 42 ∧ c ≠ 43 ∧ c ≠ 63 := by rcases hk with ⟨_, rfl⟩ | ⟨_, rfl⟩ <;> decide
  have hcn : ∀ (r : List UInt8), hd (c :: r) ≠ 42 ∧ hd (c :: r) ≠ 43 ∧ hd (c :: r) ≠ 63 := by
   intro r
   rcases hk with ⟨_, rfl⟩ | ⟨_, rfl⟩
   ·exact ⟨by show (47 : Int) ≠ 42; decide, by show (47 : Int) ≠ 43; decide, by show (47 : Int) ≠ 63; decide⟩
   ·exact ⟨by show (124 : Int) ≠ 42; decide, by show (124 : Int) ≠ 43; decide, by show (124 : Int) ≠ 63; decide⟩
  have tx : ∀ n m rest, bl m ++ (f n ++ c :: (bl n ++ g n) ++ rest) = bl m ++ (f1 n ++ (bl n ++ (c :: (bl n ++ (g1 n ++ (bl n ++ rest)))))) := by
   intro n m rest
   rw [hf1 n, hg1 n]
   simp [List.append_assoc]
  have sk : ∀ n (r : List UInt8), skip (bl n ++ (c :: r)) = c :: r := fun n r => by rw [Y21]; exact Y2m hc.1 _
  have sk2 : ∀ (r : List UInt8), skip (c :: r) = c :: r := fun r => Y2m hc.1 _
  rcases hb1 d with hb1 | hb1
  ·have st : ∀ n m rest, P .step d (bl m ++ (f1 n ++ (bl n ++ (c :: (bl n ++ (g1 n ++ (bl n ++ rest))))))) (.ok p (c :: (bl n ++ (g1 n ++ (bl n ++ rest))))) := by
    intro n m rest
    have := Y2A (hb1 n m (bl n ++ (c :: (bl n ++ (g1 n ++ (bl n ++ rest)))))) (by rw [sk]; exact (hcn _).1) (by rw [sk]; exact (hcn _).2.1) (by rw [sk]; exact (hcn _).2.2)
    rw [sk] at this
    exact this
   rcases hb2 d with hb2 | hb2
   ·refine Or.inl fun n m rest he => ?_
    rw [tx]
    have he2 := he.bl n
    have s2 := Y2A (hb2 n n (bl n ++ rest)) he2.1 he2.2.1 he2.2.2.1
    rw [Y21] at s2
    have e := Y4e rest
    obtain ⟨h1, h2, h3, h4, h5⟩ := he
    have z1 : ∀ x, P (.seqL x) d (skip rest) (.ok x (skip rest)) := fun x => by have := P.seqL_end (d := d) (p := x) (l := skip rest) (by rw [e]; exact h4); rw [e] at this; exact this
    have z2 : ∀ x, P (.pathL x) d (skip rest) (.ok x (skip rest)) := fun x => by have := P.pathL_end (d := d) (p := x) (l := skip rest) (by rw [e]; exact h5); rw [e] at this; exact this
    rcases hk with ⟨rfl, rfl⟩ | ⟨rfl, rfl⟩
    ·exact .path_ok (.seq_ok (st n m rest) (.seqL_more (sk2 _) s2 (z1 _))) (z2 _)
    ·have z3 : P (.seqL p) d (124 :: (bl n ++ (g1 n ++ (bl n ++ rest)))) (.ok p (124 :: (bl n ++ (g1 n ++ (bl n ++ rest))))) := by
      have := P.seqL_end (d := d) (p := p) (l := 124 :: (bl n ++ (g1 n ++ (bl n ++ rest)))) (by rw [sk2]; show (124 : Int) ≠ 47; decide)
      rw [sk2] at this
      exact this
     exact .path_ok (.seq_ok (st n m rest) z3) (.pathL_more (sk2 _) (.seq_ok s2 (z1 _)) (z2 _))
   ·refine Or.inr fun n m rest he => ?_
    rw [tx]
    obtain ⟨lb, h2⟩ := hb2 n n (bl n ++ rest)
    rcases hk with ⟨rfl, rfl⟩ | ⟨rfl, rfl⟩
    ·exact ⟨lb, .path_bad (.seq_ok (st n m rest) (.seqL_bad (sk2 _) (.step_bad h2)))⟩
    ·have z3 : P (.seqL p) d (124 :: (bl n ++ (g1 n ++ (bl n ++ rest)))) (.ok p (124 :: (bl n ++ (g1 n ++ (bl n ++ rest))))) := by
      have := P.seqL_end (d := d) (p := p) (l := 124 :: (bl n ++ (g1 n ++ (bl n ++ rest)))) (by rw [sk2]; show (124 : Int) ≠ 47; decide)
      rw [sk2] at this
      exact this
     exact ⟨lb, .path_ok (.seq_ok (st n m rest) z3) (.pathL_bad (sk2 _) (.seq_bad (.step_bad h2)))⟩
  ·refine Or.inr fun n m rest he => ?_
   rw [tx]
   obtain ⟨lb, h2⟩ := hb1 n m (bl n ++ (c :: (bl n ++ (g1 n ++ (bl n ++ rest)))))
   exact ⟨lb, Y2c h2⟩
 | @many k c p f hk _ ih =>
  refine ⟨(fun e => by cases e), fun _ d => ?_⟩
  obtain ⟨f1, hf1, hb1⟩ := ih.1 rfl
  have hc : c ≠ 32 := by rcases hk with ⟨_, rfl⟩ | ⟨_, rfl⟩ | ⟨_, rfl⟩ <;> decide
  have hc2 : (c = 42 ∨ c = 43 ∨ c = 63) ∧ signK c.toNat = k := by rcases hk with ⟨rfl, rfl⟩ | ⟨rfl, rfl⟩ | ⟨rfl, rfl⟩ <;> decide
  have tx : ∀ n m rest, bl m ++ (f n ++ c :: bl n ++ rest) = bl m ++ (f1 n ++ (bl n ++ (c :: (bl n ++ rest)))) := by
   intro n m rest
   rw [hf1 n]
   simp [List.append_assoc]
  rcases hb1 d with hb1 | hb1
  ·refine Or.inl fun n m rest he => ?_
   rw [tx]
   have he2 := he.bl n
   have z : P (.stepL (pK k [p])) d (bl n ++ rest) (.ok (pK k [p]) (skip (bl n ++ rest))) := .stepL_end he2.1 he2.2.1 he2.2.2.1
   rw [← hc2.2] at z
   have s2 : P .step d (bl m ++ (f1 n ++ (bl n ++ (c :: (bl n ++ rest))))) (.ok (pK (signK c.toNat) [p]) (skip (bl n ++ rest))) :=
    .step_ok (hb1 n m _) (.stepL_more (by rw [Y21]; exact Y2m hc _) hc2.1 z)
   have := Y2I s2 he2
   rw [Y21, hc2.2] at this
   exact this
  ·refine Or.inr fun n m rest he => ?_
   rw [tx]
   obtain ⟨lb, h2⟩ := hb1 n m (bl n ++ (c :: (bl n ++ rest)))
   exact ⟨lb, Y2c h2⟩
 | @not t ts hall =>
  refine ⟨(fun e => by cases e), fun _ d => Or.inl fun n m rest he => ?_⟩
  have h1 := Y4q d n rest ts [t] (fun x mx => hall x (List.mem_cons_of_mem _ mx))
  have h2 : P .back d (bl m ++ (33 :: 40 :: (bl n ++ notI n t ts) ++ rest)) (.ok (pNot (t :: ts)) (bl n ++ rest)) := by
   refine .not_ (r := 40 :: (bl n ++ (60 :: (t.data.toList ++ 62 :: (bl n ++ (Y6f n ts ++ rest)))))) ?_ (.nt_br (Y4K (hall t (List.mem_cons_self ..)) n _) h1)
   rw [Y21]
   simp only [notI, List.cons_append, List.append_assoc]
   exact Y2m (by decide) _
  have he2 := he.bl n
  have := Y2I (Y2A h2 he2.1 he2.2.1 he2.2.2.1) he2
  rw [Y21] at this
  exact this
 | @w_iri t f h ih =>
  refine ⟨fun _ => ?_, fun e => by cases e⟩
  cases h with
  | iri hi =>
   refine ⟨fun n => 60 :: (t.data.toList ++ [62]), fun n => by simp, fun d => Or.inl fun n m rest => ?_⟩
   have h1 := Y4K hi m rest
   simp only [List.cons_append, List.append_assoc, List.singleton_append]
   exact .iri_ok (by rw [Y21]; exact Y2m (by decide) _) h1
 | @w_br p f h0 _ ih =>
  refine ⟨fun _ => ⟨fun n => 40 :: (bl n ++ (f n ++ [41])), fun n => by simp, fun d => ?_⟩, fun e => by cases e⟩
  have sk : ∀ n m rest, skip (bl m ++ (40 :: (bl n ++ (f n ++ [41])) ++ rest)) = 40 :: (bl n ++ (f n ++ 41 :: rest)) := by
   intro n m rest
   rw [Y21, List.cons_append, Y2m (by decide)]
   simp [List.append_assoc]
  have he : ∀ rest : List UInt8, Endy (41 :: rest) := by
   intro rest
   unfold Endy
   rw [Y2m (by decide)]
   exact ⟨by show (41 : Int) ≠ 42; decide, by show (41 : Int) ≠ 43; decide, by show (41 : Int) ≠ 63; decide, by show (41 : Int) ≠ 47; decide, by show (41 : Int) ≠ 124; decide⟩
  by_cases h5 : d < 5
  ·rcases ih.2 rfl (d + 1) with hb | hb
   ·refine Or.inl fun n m rest => ?_
    have h1 := hb n n (41 :: rest) (he rest)
    rw [Y2m (by decide)] at h1
    exact .br_ok (sk n m rest) h5 h1 (Y2m (by decide) _)
   ·refine Or.inr fun n m rest => ?_
    obtain ⟨lb, h1⟩ := hb n n (41 :: rest) (he rest)
    exact ⟨lb, .br_bad (sk n m rest) h5 h1⟩
  ·exact Or.inr fun n m rest => ⟨_, .full (sk n m rest) (Or.inr rfl) (by omega)⟩
theorem Y2z (a b : ByteArray) : (a ++ b).data.toList = a.data.toList ++ b.data.toList := by simp
theorem Y1W (a b : ByteArray) : (a ++ b).size = a.size + b.size := by simp
def Y4b (p : S37) (k : Nat) : Option ByteArray := YC.f k p.f0 p.f1 p.f2 p.f3
def Y4c (p : S37) (k : Nat) : Option ByteArray := Y7.f k p.f0 p.f1 p.f2 p.f3
def brI (p : S37) (k : Nat) : Option ByteArray := YG.f k p.f0 p.f1 p.f2 p.f3
def wiR (p : S37) (k : Nat) : Option ByteArray := Yz.f k p.f0 p.f1 p.f2 p.f3
theorem Rd.in1 {p f} (h : Rd false p f) (h0 : p.f0 = 1) : Rd true p f := by
 cases h with
 | iri hi => exact .w_iri (.iri hi)
 | up _ => cases h0
 | two hk _ _ => rcases hk with ⟨rfl, _⟩ | ⟨rfl, _⟩ <;> cases h0
 | many hk _ => rcases hk with ⟨rfl, _⟩ | ⟨rfl, _⟩ | ⟨rfl, _⟩ <;> cases h0
 | not _ => cases h0
def Shows (p : S37) (B : Nat) : Prop := ∃ f t, Rd false p f ∧ Ev (Y4b p) t ∧ Ev (Y4c p) t ∧ t.data.toList = f 0 ∧ t.size ≤ B
def Within (p : S37) (B : Nat) : Prop := ∃ f t, Rd true p f ∧ Ev (brI p) t ∧ Ev (wiR p) t ∧ t.data.toList = f 0 ∧ t.size ≤ B
theorem Shows.within {p : S37} {B : Nat} (hB : B ≤ 100000000) (h : Shows p B) : Within p (B + 2) := by
 obtain ⟨f, t, h1, h2, h3, h4, h5⟩ := h
 by_cases h0 : p.f0 = 1
 ·refine ⟨f, t, h1.in1 h0, Ev.up ?_, Ev.up ?_, h4, by omega⟩
  ·simp only [brI, YG.f, if_pos h0]; exact Ev.bind h2 (Ev.now _)
  ·simp only [wiR, Yz.f, if_pos h0]; exact Ev.bind h3 (Ev.now _)
 ·refine ⟨_, (⟨#[40]⟩ : ByteArray) ++ t ++ ⟨#[41]⟩, .w_br h0 h1, Ev.up ?_, Ev.up ?_, ?_, ?_⟩
  ·simp only [brI, YG.f, if_neg h0]
   refine Ev.bind h2 ?_
   simp only [if_pos (show 1 + t.size ≤ 9223372036854775807 by omega), if_pos (show 1 + t.size + 1 ≤ 9223372036854775807 by omega)]
   exact Z12
  ·simp only [wiR, Yz.f, if_neg h0]
   refine Ev.bind h3 ?_
   simp only [if_pos (show 1 + t.size ≤ 9223372036854775807 by omega), if_pos (show 1 + t.size + 1 ≤ 9223372036854775807 by omega)]
   exact Z12
  ·rw [Y2z, Y2z, h4]; simp [bl]
  ·rw [Y1W, Y1W]
   have e1 : (⟨#[40]⟩ : ByteArray).size = 1 := rfl
   have e2 : (⟨#[41]⟩ : ByteArray).size = 1 := rfl
   omega
theorem Y4N : ∀ (ts : List ByteArray) (t : ByteArray), 60 :: (Y33 [62, 124, 60] (t :: ts) ++ [62, 41]) = notI 0 t ts
 | [], t => by simp [Y33, notI, Y6f, bl]
 | u :: ts, t => by
  have ih := Y4N ts u
  simp only [Y33, notI, Y6f, bl, List.replicate_zero, List.nil_append] at ih ⊢
  rw [← ih]
  simp
theorem Y4t (p : S37) (hall : ∀ x ∈ p.f2, x.size ≤ 60) : ∀ d i : Nat, i + d = p.f2.length → 1 ≤ i → p.f2.length ≤ 4 → ∀ x : ByteArray, x.size + 63 * d ≤ 100000 →
  ∃ t, Ev (fun k => Y7.l0 k x (i : Int) p.f0 p.f1 p.f2 p.f3) t ∧ t.data.toList = x.data.toList ++ Y6f 0 (p.f2.drop i)
 | 0, i, h, hi, hn, x, hx => by
  refine ⟨x ++ ⟨#[41]⟩, Ev.up ?_, ?_⟩
  ·simp only [Y7.l0, if_neg (show ¬ (i : Int) < (p.f2.length : Int) by omega), if_pos (show x.size + 1 ≤ 9223372036854775807 by omega)]
   exact Z12
  ·rw [List.drop_of_length_le (by omega), Y2z]; simp [Y6f, bl]
 | d + 1, i, h, hi, hn, x, hx => by
  have h1 : i < p.f2.length := by omega
  have hz := hall p.f2[i] (List.getElem_mem h1)
  have es : ((((x ++ (⟨#[124]⟩ : ByteArray)) ++ (⟨#[60]⟩ : ByteArray)) ++ p.f2[i]) ++ (⟨#[62]⟩ : ByteArray)).size = x.size + 1 + 1 + p.f2[i].size + 1 := by
   rw [Y1W, Y1W, Y1W, Y1W]; rfl
  obtain ⟨t, e, ht⟩ := Y4t p hall d (i + 1) (by omega) (by omega) hn ((((x ++ (⟨#[124]⟩ : ByteArray)) ++ (⟨#[60]⟩ : ByteArray)) ++ p.f2[i]) ++ (⟨#[62]⟩ : ByteArray)) (by rw [es]; omega)
  refine ⟨t, Ev.up ?_, ?_⟩
  ·simp only [Y7.l0, if_pos (show (i : Int) < (p.f2.length : Int) by omega), if_pos (show (i : Int) > 0 by omega), if_pos (show (0 : Int) ≤ (i : Int) by omega), Y2G h1, if_pos (show x.size + 1 ≤ 9223372036854775807 by omega), if_pos (show x.size + 1 + 1 ≤ 9223372036854775807 by omega), if_pos (show x.size + 1 + 1 + p.f2[i].size ≤ 9223372036854775807 by omega), if_pos (show x.size + 1 + 1 + p.f2[i].size + 1 ≤ 9223372036854775807 by omega), Y2P h1 (show p.f2.length ≤ 1000000 by omega)]
   exact e
  ·rw [ht, List.drop_eq_getElem_cons h1]
   simp [Y6f, bl, Y2z]
theorem shows {deep : Nat} {p : S37} (h : May deep p) : ∀ m, deep + m = 6 → Shows p (1000 * 4 ^ m) := by
 induction h with
 | @mk deep p ht _ ih =>
  intro m hm
  obtain ⟨h5, hk, hi, hb0, h8, h80, hall⟩ := ht
  obtain ⟨m, rfl⟩ : ∃ m', m = m' + 1 := ⟨m - 1, by omega⟩
  have hp4 : 1 ≤ 4 ^ m := Nat.pos_of_ne_zero (by simp)
  have hp5 : 4 ^ m ≤ 4 ^ 6 := Nat.pow_le_pow_right (by omega) (by omega)
  have hp6 : (4 : Nat) ^ 6 = 4096 := by decide
  have hp7 : 4 ^ (m + 1) = 4 * 4 ^ m := by rw [Nat.pow_succ, Nat.mul_comm]
  have hin : ∀ q ∈ p.f3, Within q (1000 * 4 ^ m + 2) := fun q hq => (ih q hq m (by omega)).within (by omega)
  rw [hp7]
  generalize hB : 4 ^ m = B at *
  clear hp7 hB ih
  obtain ⟨a, b, c, d⟩ := p
  simp only at hk hi hb0 h8 h80 hall hin
  by_cases a1 : a = 1
  ·subst a1
   have hz := Y4M (hi rfl)
   have hd0 : d = [] := by rw [show Y2B 1 = 0 from rfl] at hk; exact List.eq_nil_of_length_eq_zero (by omega)
   rw [h80 (by decide), hd0]
   refine ⟨_, (⟨#[60]⟩ : ByteArray) ++ b ++ ⟨#[62]⟩, .iri (hi rfl), Ev.up ?_, Ev.up ?_, ?_, ?_⟩
   ·simp only [Y4b, YC.f, if_true, if_pos (show 1 + b.size ≤ 9223372036854775807 by omega), if_pos (show 1 + b.size + 1 ≤ 9223372036854775807 by omega)]
    exact Z12
   ·simp only [Y4c, Y7.f, if_true, if_pos (show 1 + b.size ≤ 9223372036854775807 by omega), if_pos (show 1 + b.size + 1 ≤ 9223372036854775807 by omega)]
    exact Z12
   ·rw [Y2z, Y2z]; simp [bl]
   ·rw [Y1W, Y1W]
    have e1 : (⟨#[60]⟩ : ByteArray).size = 1 := rfl
    have e2 : (⟨#[62]⟩ : ByteArray).size = 1 := rfl
    omega
  have hbe : b = ⟨#[]⟩ := hb0 a1
  subst hbe
  by_cases a8 : a = 8
  ·subst a8
   have hd0 : d = [] := by rw [show Y2B 8 = 0 from rfl] at hk; exact List.eq_nil_of_length_eq_zero (by omega)
   subst hd0
   have hl := h8 rfl
   cases c with
   | nil => simp at hl
   | cons t ts =>
    have hsz : ∀ x ∈ t :: ts, x.size ≤ 60 := fun x hx => (Y4M (hall x hx)).2
    have htz := hsz t (List.mem_cons_self ..)
    have h60 : (((⟨#[33, 40]⟩ : ByteArray) ++ (⟨#[60]⟩ : ByteArray)) ++ t ++ (⟨#[62]⟩ : ByteArray)).size = 2 + 1 + t.size + 1 := by
     rw [Y1W, Y1W, Y1W]; rfl
    simp only [List.length_cons] at hl
    obtain ⟨r, er, hr⟩ := Y4t ⟨8, ⟨#[]⟩, t :: ts, []⟩ hsz ts.length 1 Z1v (by omega) Z1v (((⟨#[33, 40]⟩ : ByteArray) ++ (⟨#[60]⟩ : ByteArray)) ++ t ++ (⟨#[62]⟩ : ByteArray)) (by rw [h60]; omega)
    have hlist : r.data.toList = 33 :: 40 :: notI 0 t ts := by
     rw [hr, Y2z, Y2z, Y2z]
     simp [notI, bl]
    have hjl : ∀ (ts : List ByteArray) (t : ByteArray), (∀ x ∈ t :: ts, x.size ≤ 60) → (Y33 [62, 124, 60] (t :: ts)).length ≤ 63 * (ts.length + 1) := by
     intro ts
     induction ts with
     | nil => intro t h; have := h t (List.mem_cons_self ..); simp only [Y33, List.length_nil]; rw [Y4X]; omega
     | cons u ts ih =>
      intro t h
      have h1 := h t (List.mem_cons_self ..)
      have h2 := ih u (fun x hx => h x (List.mem_cons_of_mem _ hx))
      simp only [Y33, List.length_append, List.length_cons, List.length_nil]
      rw [Y4X]
      omega
    have hj := hjl ts t hsz
    have hsep : (⟨#[62, 124, 60]⟩ : ByteArray).data.toList = [62, 124, 60] := rfl
    refine ⟨_, r, .not hall, Ev.up ?_, Ev.up ?_, by rw [hlist]; simp [bl], ?_⟩
    ·simp only [Y4b, YC.f, if_neg (show ¬ (8 : Int) = 1 by decide), if_neg (show ¬ (8 : Int) = 2 by decide), if_neg (show ¬ (8 : Int) = 3 by decide), if_neg (show ¬ (8 : Int) = 4 by decide), if_neg (show ¬ (8 : Int) = 5 by decide), if_neg (show ¬ (8 : Int) = 6 by decide), if_neg (show ¬ (8 : Int) = 7 by decide)]
     unfold strings_Join.f
     have hok : Y53 (t :: ts) ⟨#[62, 124, 60]⟩ = true := by
      unfold Y53
      simp only [Bool.and_eq_true, decide_eq_true_eq, List.all_eq_true]
      refine ⟨⟨Z1v, fun x hx => by have := hsz x hx; omega⟩, by decide⟩
     have hjs : (⟨(Y33 [62, 124, 60] (t :: ts)).toArray⟩ : ByteArray).size = (Y33 [62, 124, 60] (t :: ts)).length := by rw [← Y4X]
     rw [if_pos hok, hsep]
     simp only [Option.bind_some]
     rw [if_pos (by rw [hjs]; omega), if_pos (by rw [hjs]; omega)]
     have : (((⟨#[33, 40, 60]⟩ : ByteArray) ++ (⟨(Y33 [62, 124, 60] (t :: ts)).toArray⟩ : ByteArray)) ++ (⟨#[62, 41]⟩ : ByteArray)) = r := by
      apply ba_ext
      rw [hlist, Y2z, Y2z, ← Y4N]
      simp
     rw [this]
     exact Z12
    ·simp only [Y4c, Y7.f, if_neg (show ¬ (8 : Int) = 1 by decide), if_neg (show ¬ (8 : Int) = 2 by decide), if_neg (show ¬ (8 : Int) = 3 by decide), if_neg (show ¬ (8 : Int) = 4 by decide), if_true]
     refine Ev.up ?_
     have r0 : Y25 ByteArray.empty (t :: ts) (0 : Int) = t := rfl
     have e2 : (⟨#[33, 40]⟩ : ByteArray).size = 2 := rfl
     have e0 : wrap64 ((0 : Int) + 1) = ((1 : Nat) : Int) := by unfold wrap64; omega
     simp only [Y7.l0, if_pos (show (0 : Int) < ((t :: ts).length : Int) by simp only [List.length_cons]; omega), if_neg (show ¬ (0 : Int) > 0 by decide), if_pos (show (0 : Int) ≤ 0 by decide), r0, if_pos (show (⟨#[33, 40]⟩ : ByteArray).size + 1 ≤ 9223372036854775807 by omega), if_pos (show (⟨#[33, 40]⟩ : ByteArray).size + 1 + t.size ≤ 9223372036854775807 by omega), if_pos (show (⟨#[33, 40]⟩ : ByteArray).size + 1 + t.size + 1 ≤ 9223372036854775807 by omega), e0]
     exact er
    ·have hrs : r.size = r.data.toList.length := (Y4X r).symm
     rw [hlist] at hrs
     rw [← Y4N] at hrs
     simp only [List.length_cons, List.length_append, List.length_nil] at hrs
     omega
  have hc0 : c = [] := h80 a8
  subst hc0
  by_cases a34 : a = 3 ∨ a = 4
  ·have hd2 : d.length = 2 := by rcases a34 with rfl | rfl <;> (first | rw [show Y2B 3 = 2 from rfl] at hk | rw [show Y2B 4 = 2 from rfl] at hk) <;> omega
   match d, hd2 with
   | [q1, q2], _ =>
    obtain ⟨f1, t1, g1, i1, j1, l1, s1⟩ := hin q1 (by simp)
    obtain ⟨f2, t2, g2, i2, j2, l2, s2⟩ := hin q2 (by simp)
    have r0 : Y2 [q1, q2] 0 = q1 := rfl
    have r1 : Y2 [q1, q2] 1 = q2 := rfl
    have p0 : (0 : Int) < (([q1, q2] : List S37).length : Int) := by simp
    have p1 : (1 : Int) < (([q1, q2] : List S37).length : Int) := by simp
    rcases a34 with rfl | rfl
    ·refine ⟨_, (t1 ++ (⟨#[47]⟩ : ByteArray)) ++ t2, .two (Or.inl ⟨rfl, rfl⟩) g1 g2, Ev.up ?_, Ev.up ?_, ?_, ?_⟩
     ·simp only [Y4b, YC.f, if_neg (show ¬ (3 : Int) = 1 by decide), if_neg (show ¬ (3 : Int) = 2 by decide), if_true, if_pos p0, if_pos p1, r0, r1]
      refine Ev.bind i1 ?_
      simp only [if_pos (show t1.size + 1 ≤ 9223372036854775807 by omega)]
      refine Ev.bind i2 ?_
      simp only [if_pos (show t1.size + 1 + t2.size ≤ 9223372036854775807 by omega)]
      exact Z12
     ·simp only [Y4c, Y7.f, if_neg (show ¬ (3 : Int) = 1 by decide), if_neg (show ¬ (3 : Int) = 2 by decide), if_true, if_pos p0, if_pos p1, r0, r1]
      refine Ev.bind j1 ?_
      simp only [if_pos (show t1.size + 1 ≤ 9223372036854775807 by omega)]
      refine Ev.bind j2 ?_
      simp only [if_pos (show t1.size + 1 + t2.size ≤ 9223372036854775807 by omega)]
      exact Z12
     ·rw [Y2z, Y2z, l1, l2]; simp [bl]
     ·rw [Y1W, Y1W]
      have e1 : (⟨#[47]⟩ : ByteArray).size = 1 := rfl
      omega
    ·refine ⟨_, (t1 ++ (⟨#[124]⟩ : ByteArray)) ++ t2, .two (Or.inr ⟨rfl, rfl⟩) g1 g2, Ev.up ?_, Ev.up ?_, ?_, ?_⟩
     ·simp only [Y4b, YC.f, if_neg (show ¬ (4 : Int) = 1 by decide), if_neg (show ¬ (4 : Int) = 2 by decide), if_neg (show ¬ (4 : Int) = 3 by decide), if_true, if_pos p0, if_pos p1, r0, r1]
      refine Ev.bind i1 ?_
      simp only [if_pos (show t1.size + 1 ≤ 9223372036854775807 by omega)]
      refine Ev.bind i2 ?_
      simp only [if_pos (show t1.size + 1 + t2.size ≤ 9223372036854775807 by omega)]
      exact Z12
     ·simp only [Y4c, Y7.f, if_neg (show ¬ (4 : Int) = 1 by decide), if_neg (show ¬ (4 : Int) = 2 by decide), if_neg (show ¬ (4 : Int) = 3 by decide), if_true, if_pos p0, if_pos p1, r0, r1]
      refine Ev.bind j1 ?_
      simp only [if_pos (show t1.size + 1 ≤ 9223372036854775807 by omega)]
      refine Ev.bind j2 ?_
      simp only [if_pos (show t1.size + 1 + t2.size ≤ 9223372036854775807 by omega)]
      exact Z12
     ·rw [Y2z, Y2z, l1, l2]; simp [bl]
     ·rw [Y1W, Y1W]
      have e1 : (⟨#[124]⟩ : ByteArray).size = 1 := rfl
      omega
  by_cases a27 : a = 2 ∨ a = 5 ∨ a = 6 ∨ a = 7
  ·have hd1 : d.length = 1 := by
    have : Y2B a = 1 := by rcases a27 with rfl | rfl | rfl | rfl <;> rfl
    omega
   match d, hd1 with
   | [q1], _ =>
    obtain ⟨f1, t1, g1, i1, j1, l1, s1⟩ := hin q1 (by simp)
    have r0 : Y2 [q1] 0 = q1 := rfl
    have p0 : (0 : Int) < (([q1] : List S37).length : Int) := by simp
    rcases a27 with rfl | a57
    ·refine ⟨_, (⟨#[94]⟩ : ByteArray) ++ t1, .up g1, Ev.up ?_, Ev.up ?_, ?_, ?_⟩
     ·simp only [Y4b, YC.f, if_neg (show ¬ (2 : Int) = 1 by decide), if_true, if_pos p0, r0]
      refine Ev.bind i1 ?_
      simp only [if_pos (show 1 + t1.size ≤ 9223372036854775807 by omega)]
      exact Z12
     ·simp only [Y4c, Y7.f, if_neg (show ¬ (2 : Int) = 1 by decide), if_true, if_pos p0, r0]
      refine Ev.bind j1 ?_
      simp only [if_pos (show 1 + t1.size ≤ 9223372036854775807 by omega)]
      exact Z12
     ·rw [Y2z, l1]; simp [bl]
     ·rw [Y1W]
      have e1 : (⟨#[94]⟩ : ByteArray).size = 1 := rfl
      omega
    ·have mk : ∀ (c : UInt8), (a = 5 ∧ c = 42 ∨ a = 6 ∧ c = 43 ∨ a = 7 ∧ c = 63) → Ev (Y4b ⟨a, ⟨#[]⟩, [], [q1]⟩) (t1 ++ ⟨#[c]⟩) → Ev (Y4c ⟨a, ⟨#[]⟩, [], [q1]⟩) (t1 ++ ⟨#[c]⟩) → Shows ⟨a, ⟨#[]⟩, [], [q1]⟩ (1000 * (4 * B)) := by
      intro c hc e1 e2
      refine ⟨_, _, .many hc g1, e1, e2, by rw [Y2z, l1]; simp [bl], ?_⟩
      rw [Y1W]
      have e1 : (⟨#[c]⟩ : ByteArray).size = 1 := rfl
      omega
     rcases a57 with rfl | rfl | rfl
     ·refine mk 42 (Or.inl ⟨rfl, rfl⟩) (Ev.up ?_) (Ev.up ?_)
      ·simp only [Y4b, YC.f, if_neg (show ¬ (5 : Int) = 1 by decide), if_neg (show ¬ (5 : Int) = 2 by decide), if_neg (show ¬ (5 : Int) = 3 by decide), if_neg (show ¬ (5 : Int) = 4 by decide), if_true, if_pos p0, r0]
       refine Ev.bind i1 ?_
       simp only [if_pos (show t1.size + 1 ≤ 9223372036854775807 by omega)]
       exact Z12
      ·simp only [Y4c, Y7.f, if_neg (show ¬ (5 : Int) = 1 by decide), if_neg (show ¬ (5 : Int) = 2 by decide), if_neg (show ¬ (5 : Int) = 3 by decide), if_neg (show ¬ (5 : Int) = 4 by decide), if_neg (show ¬ (5 : Int) = 8 by decide), if_pos p0, r0]
       refine Ev.bind j1 ?_
       have e1 : (⟨#[42]⟩ : ByteArray).size = 1 := rfl
       simp only [Y1e.f, if_true, Option.bind_some, if_pos (show t1.size + (⟨#[42]⟩ : ByteArray).size ≤ 9223372036854775807 by omega)]
       exact Z12
     ·refine mk 43 (Or.inr (Or.inl ⟨rfl, rfl⟩)) (Ev.up ?_) (Ev.up ?_)
      ·simp only [Y4b, YC.f, if_neg (show ¬ (6 : Int) = 1 by decide), if_neg (show ¬ (6 : Int) = 2 by decide), if_neg (show ¬ (6 : Int) = 3 by decide), if_neg (show ¬ (6 : Int) = 4 by decide), if_neg (show ¬ (6 : Int) = 5 by decide), if_true, if_pos p0, r0]
       refine Ev.bind i1 ?_
       simp only [if_pos (show t1.size + 1 ≤ 9223372036854775807 by omega)]
       exact Z12
      ·simp only [Y4c, Y7.f, if_neg (show ¬ (6 : Int) = 1 by decide), if_neg (show ¬ (6 : Int) = 2 by decide), if_neg (show ¬ (6 : Int) = 3 by decide), if_neg (show ¬ (6 : Int) = 4 by decide), if_neg (show ¬ (6 : Int) = 8 by decide), if_pos p0, r0]
       refine Ev.bind j1 ?_
       have e1 : (⟨#[43]⟩ : ByteArray).size = 1 := rfl
       simp only [Y1e.f, if_neg (show ¬ (6 : Int) = 5 by decide), if_true, Option.bind_some, if_pos (show t1.size + (⟨#[43]⟩ : ByteArray).size ≤ 9223372036854775807 by omega)]
       exact Z12
     ·refine mk 63 (Or.inr (Or.inr ⟨rfl, rfl⟩)) (Ev.up ?_) (Ev.up ?_)
      ·simp only [Y4b, YC.f, if_neg (show ¬ (7 : Int) = 1 by decide), if_neg (show ¬ (7 : Int) = 2 by decide), if_neg (show ¬ (7 : Int) = 3 by decide), if_neg (show ¬ (7 : Int) = 4 by decide), if_neg (show ¬ (7 : Int) = 5 by decide), if_neg (show ¬ (7 : Int) = 6 by decide), if_true, if_pos p0, r0]
       refine Ev.bind i1 ?_
       simp only [if_pos (show t1.size + 1 ≤ 9223372036854775807 by omega)]
       exact Z12
      ·simp only [Y4c, Y7.f, if_neg (show ¬ (7 : Int) = 1 by decide), if_neg (show ¬ (7 : Int) = 2 by decide), if_neg (show ¬ (7 : Int) = 3 by decide), if_neg (show ¬ (7 : Int) = 4 by decide), if_neg (show ¬ (7 : Int) = 8 by decide), if_pos p0, r0]
       refine Ev.bind j1 ?_
       have e1 : (⟨#[63]⟩ : ByteArray).size = 1 := rfl
       simp only [Y1e.f, if_neg (show ¬ (7 : Int) = 5 by decide), if_neg (show ¬ (7 : Int) = 6 by decide), Option.bind_some, if_pos (show t1.size + (⟨#[63]⟩ : ByteArray).size ≤ 9223372036854775807 by omega)]
       exact Z12
  ·exfalso
   have : Y2B a = -1 := by simp only [not_or] at a34 a27; simp [Y2B, a1, a8, a34, a27]
   omega
theorem shows0 {p : S37} (h : May 0 p) : ∃ f t, Rd false p f ∧ Ev (Y4b p) t ∧ Ev (Y4c p) t ∧ t.data.toList = f 0 ∧ t.size ≤ 4096000 := by
 obtain ⟨f, t, h1, h2, h3, h4, h5⟩ := shows h 6 rfl
 exact ⟨f, t, h1, h2, h3, h4, Nat.le_trans h5 (by decide)⟩
theorem Y5U (p : S37) (b : Bool) (h2 : Ev (isR p) b) (h3 : b = true → May 0 p) : Ev (fun k => triviumlaw12_QueryTells.j1 k false p.f0 p.f1 p.f2 p.f3) true := by
 refine Ev.up ?_
 simp only [triviumlaw12_QueryTells.j1, Bool.false_eq_true, if_false]
 refine Ev.bind h2 ?_
 cases b with
 | false =>
  simp only [Bool.false_eq_true, if_false]
  exact Ev.bind known12 (Ev.now _)
 | true =>
  obtain ⟨f, t, _, e1, e2, _, _⟩ := shows0 (h3 rfl)
  simp only [if_true]
  refine Ev.bind e1 (Ev.bind e2 ?_)
  simp only [if_true]
  exact Ev.bind known12 (Ev.now _)
theorem law_tells (p q : S37) : ∃ k, triviumlaw12_QueryTells.f k p.f0 p.f1 p.f2 p.f3 q.f0 q.f1 q.f2 q.f3 = some true := by
 refine Ev.rounds (g := fun k => triviumlaw12_QueryTells.f k p.f0 p.f1 p.f2 p.f3 q.f0 q.f1 q.f2 q.f3) ?_
 unfold triviumlaw12_QueryTells.f
 obtain ⟨r1, b1, s1⟩ := big_all p 0 (by omega)
 obtain ⟨r2, b2, s2⟩ := big_all q 0 (by omega)
 have yes : Ev (fun k => triviumlaw12_QueryTells.j0 k true p.f0 p.f1 p.f2 p.f3 q.f0 q.f1 q.f2 q.f3) true := Ev.up (by simp only [triviumlaw12_QueryTells.j0, if_true]; exact Ev.now _)
 refine Ev.bind b1 ?_
 cases r1 with
 | true => simp only [if_true]; exact yes
 | false =>
  simp only [Bool.false_eq_true, if_false]
  refine Ev.bind b2 ?_
  cases r2 with
  | true => exact yes
  | false =>
   have hp := (s1 rfl).2
   obtain ⟨b, i1, i2, i3⟩ := is_path hp
   refine Ev.up ?_
   simp only [triviumlaw12_QueryTells.j0, Bool.false_eq_true, if_false]
   refine Ev.bind i1 (Ev.bind i2 ?_)
   have tI := same_i hp.fine
   have tR := same_r hp.fine
   simp only [bne_self_eq_false, Bool.false_eq_true, if_false]
   by_cases e : p = q
   ·refine Ev.bind ((tI q).1 e) (Ev.bind ((tR q).1 e) ?_)
    simp only [bne_self_eq_false, Bool.false_eq_true, if_false]
    exact Ev.bind ((tI p).1 rfl) (Y5U p b i2 i3)
   ·refine Ev.bind ((tI q).2 e) (Ev.bind ((tR q).2 e) ?_)
    simp only [bne_self_eq_false, Bool.false_eq_true, if_false]
    exact Ev.bind ((tI p).1 rfl) (Y5U p b i2 i3)
end Go.Proofs.YtbpbfboaofkpaaaDoor.Print
end
section
set_option linter.unusedVariables false
namespace Go.Proofs.YtbpbfboaofkpaaaDoor
open Go.ChangeShapes Go.WideShapes Go.ChangeAt Go.RowKit
open Go.ChangeMaps (open_string shut_string)
set_option maxRecDepth 100000 in
theorem Y3C (os : Os) (started : os.Started) (H : Type) (enc : TypeId × Value → H) :
  ReturnsInHanded {} Tryd.checked os 11 .any (fun w args => (Rows.queryTellsSpec.pre enc Tryd.prog Tryd.f11 [] false w args ∧ laidMetH Tryd.prog laid2 w) ∧ sizedMet enc Tryd.prog Tryd.f11 (OpenSpec.ofChange Rows.queryTellsSpec) false w args)
   (Rows.queryTellsSpec.post enc Tryd.prog Tryd.f11 false true false false) := by
 refine Y5e (C := Tryd.checked) (X := fun w _ => laidMetH Tryd.prog laid2 w) (fun _ _ _ hh h => h.of_heap hh) own started Z6 Tryd.func11
  (ChangeSpec.witness_at (enc := enc) (C := Tryd.checked) (os := os) (X := fun w _ => laidMetH Tryd.prog laid2 w) false (Y54 os) #[.agg #[.int .i64 0, .string ByteArray.empty, .slice none 0 0, .slice none 0 0], .agg #[.int .i64 0, .string ByteArray.empty, .slice none 0 0, .slice none 0 0]] 8 rfl Z6 Z6 Z6 Z6 Z6 (Y4O os _)) ?_
 intro W base args ds gs before hval0 hW hL hsh
 have hval : ∀ (j : Nat) t v, Tryd.f11.params[j]? = some t → args[j]? = some v → Value.okWide Tryd.prog W .any base t v := hval0
 have hW' := hW
 obtain ⟨p, q, hA0, hV, rfl, hfz, hnd⟩ := hW
 have hA : DataW.TrodAll enc Tryd.prog W 0 (fun _ => true) true Tryd.f11.params.toList args.toList ds p := hA0
 rw [Tryd.params11] at hA hval
 obtain ⟨v0, vs0, d0, ds0, p0, q0, hargs, rfl, rfl, h0, r0⟩ := trodAll_cons hA
 obtain ⟨v1, vs1, d1, ds1, p1, q1, rfl, rfl, rfl, h1, r1⟩ := trodAll_cons r0
 obtain ⟨rfl, rfl, rfl⟩ := trodAll_nil r1
 obtain rfl : args = #[v0, v1] := by cases args; simp_all
 obtain ⟨rfl, rfl⟩ := trodVars_none hV
 have k0 := h0
 have lt0 : ∀ x ∈ p0, x.block < W.heap.size := by obtain ⟨m, hm⟩ := k0; exact DataW.trod_lt m _ _ _ hm
 obtain ⟨x0, A0, c0, B0, e0, rfl, g0, t0, u0, w0⟩ := Y57 (hval 0 37 v0 rfl rfl) h0
 have k1 := h1
 have lt1 : ∀ x ∈ p1, x.block < W.heap.size := by obtain ⟨m, hm⟩ := k1; exact DataW.trod_lt m _ _ _ hm
 obtain ⟨x1, A1, c1, B1, e1, rfl, g1, t1, u1, w1⟩ := Y57 (hval 1 37 v1 rfl rfl) h1
 clear hA0 hval0
 obtain ⟨k, hk⟩ := Print.law_tells x0 x1
 refine (Print.triviumlaw12_QueryTells.calls k x0.f0 x0.f1 A0 c0 x0.f2 B0 e0 x0.f3 x1.f0 x1.f1 A1 c1 x1.f2 B1 e1 x1.f3 true W (Y5i hL hsh) t0 g0 w0 u0 t1 g1 w1 u1 hk).mono fun e W' ⟨he, bel⟩ => ?_
 subst he
 exact ⟨_, rfl, _, _, _, [], _, [], hW', trodAll_mk1 (shut_bool Tryd.underlying4 _), (trodAll_cons_mk (Below.trod laidOut Z6 (of_decide_eq_true Z6) k0 bel lt0) (trodAll_cons_mk (Below.trod laidOut Z6 (of_decide_eq_true Z6) k1 bel lt1) trodAll_mk0)), rfl, bel.frame _, fun h => by cases h⟩
theorem queryTells_holds : Rows.QueryTellsSaid :=
 OpenClaim.holds_of_wide 11 Tryd.f11 rfl rfl rfl rfl rfl rfl rfl ⟨rfl, rfl, rfl, rfl, rfl⟩ rfl rfl rfl rfl rfl Z6 Tryd.func11 Z6
  (of_decide_eq_true Z6) (by unfold Func.isWrapper; rw [if_neg (by decide +kernel)]; exact ⟨rfl, rfl⟩)
  (fun os started H enc _ => Y3C os started H enc)
theorem queryTells_card : Rows.QueryTellsCardSaid :=
 Claim7.holds_tied_plain_at .later [] [.data, .pinned] true (true, "8dc71fce747bb8b3b218677ae7dbf523581ddbbfb392b53abaf975cea163e82b") false
  queryTells_holds (fun _ h => by cases h) Z6 (fun _ h => by cases h) queryTells_row_tie rfl ⟨rfl, rfl⟩ Z6 rfl
  (fun f fn hf hfn => by
   obtain rfl : f = 11 := Option.some.inj ((show Tryd.prog.funcNamed "trivium/triviumlaw12.QueryTells" = some 11 by kernel_rfl).symm.trans hf) |>.symm
   obtain rfl : fn = Tryd.f11 := (Option.some.inj (Tryd.func11.symm.trans hfn)).symm
   exact ⟨by kernel_rfl, fun j t ht => by
    rw [Tryd.params11] at ht
    rcases j with _ | _ | j
    ·obtain rfl : t = 37 := by simpa using ht.symm
     exact (show Tryd.prog.wantsStandIn 37 = false by kernel_rfl)
    ·obtain rfl : t = 37 := by simpa using ht.symm
     exact (show Tryd.prog.wantsStandIn 37 = false by kernel_rfl)
    ·simp at ht⟩)
  Z6
#print axioms queryTells_card
end Go.Proofs.YtbpbfboaofkpaaaDoor
end
