/- Proofs for this claim: printed by our driver and joined by pack.py; the last text holds the statement. -/
import Derived.Test.YtbpbfboaofkpaaaDoorQkQ4
section
namespace Go.Proofs.YtbpbfboaofkpaaaDoor.Print
open Go.RowKit Go.Proofs.YtbpbfboaofkpaaaDoorW.PrintWords Go.Proofs.YtbpbfboaofkpaaaDoorW.PrintLast Go.Proofs.YtbpbfboaofkpaaaDoorW.PrintMore
attribute [local go_sem] max2_int min2_int max_two min_two max_three min_three max_four min_four
set_option linter.unusedVariables false
set_option linter.unusedSimpArgs false
set_option maxHeartbeats 8000000 in
set_option maxRecDepth 100000 in
theorem Y4.calls (k : Nat) (g : Nat) (s0_0 : ByteArray) (s0_1 : Int) (s0_2 : Int) (s0_3 : Int) (r1 : Int) (r2 : ByteArray) (r3 : List ByteArray) (r4 : List (S37)) (r5 : ByteArray) (r6 : Int) (r7 : Int) (r8 : Int) (w0 w : World) (hI : YB w0 w g s0_0 s0_1 s0_2 s0_3) (hB : Below w0.heap.size w0 w) (hT : Tabs w0) (h : Y4.f k s0_0 s0_1 s0_2 s0_3 = some (r1, r2, r3, r4, r5, r6, r7, r8)) :
  Calls Tryd.prog 135 #[.pointer (some ⟨g, 0, none⟩)] w fun e w' => ∃ v2_ v3_ : Value, e = .returned (.agg #[.int .i64 r1, .string r2, v2_, v3_]) ∧ Kd.R Kd.string 9 w' w.heap.size (fun k_ => (w.heap.size ≤ k_)) v2_ r3 ∧ Kd.N k37 37 w' w.heap.size (fun k_ => (w.heap.size ≤ k_) ∧ some k_ ≠ (v2_ : Value).ownBlock) v3_ r4 ∧ YB w0 w' g r5 r6 r7 r8 ∧ Below w0.heap.size w0 w' ∧ Y1 w w' g none := by
 have HT := Y0.mk hT
 clear hT
 have hu37 := Tryd.underlying37
 have HI0 := Y0.mk hI
 have HK := Y0.mk (Y1.refl w g none)
 have HL := Y0.mk hB.size
 clear hI
 have HW0 := Y0.mk hB.size
 have HB := Y0.mk hB
 clear hB
 have H : (if s0_1 < (s0_0.size : Int) then (if 0 ≤ s0_1 then (Y4.j0 k ((bt s0_0 s0_1) == 40) s0_0 s0_1 s0_2 s0_3 8) else (none)) else (Y4.j0 k false s0_0 s0_1 s0_2 s0_3 8)) = some (r1, r2, r3, r4, r5, r6, r7, r8) := h
 clear h
 have HC2 := Y0.mk H
 clear H
 go_enter Tryd.func135, Tryd.ntmps135
 go_upto_region 2 with (first | ((with_reducible refine YF (N := 2) rfl ?_); refine YE ?hg (N := 2) ?hd (cs := #[.int .i64 0, .string (⟨#[]⟩ : ByteArray), .slice none 0 0, .slice none 0 0]) (t := 37) ?hr ?_; (case hd => rfl); (case hg => rfl); (case hr => exact Za); intro gb101 hg w3 hbox hb; have n_ := Y4q (YB.below QI81_0 hb) (Y1.trans QK (Y1.of_below hb g none) (.inl rfl)) (Yb QB hb) (hbox) ((by rw [hg]; exact (Y8 (w := w) (g := g) (row := none) QK) : w.heap.size ≤ gb101)) ((Nat.le_trans HW0.out (by rw [hg]; exact (Y8 (w := w) (g := g) (row := none) QK) : w.heap.size ≤ gb101) : w0.heap.size ≤ gb101)) ((by rw [hg]; exact Nat.ne_of_lt (YB.lt (show YB w0 _ g s0_0 s0_1 s0_2 s0_3 from QI81_0)) : g ≠ gb101)) ((by rw [hg]; exact Nat.ne_of_gt (YB.lt (show YB w0 _ g s0_0 s0_1 s0_2 s0_3 from QI81_0)) : gb101 ≠ g)); clear HI0 HK HB; obtain ⟨HI0, HK, HB, BK101, GW101, GE101, NB0_101, NB101_0⟩ := n_; clear hb hbox hg) | ((with_reducible refine YF (N := 3) rfl ?_); refine YE ?hg (N := 3) ?hd (cs := #[.int .i64 0, .string (⟨#[]⟩ : ByteArray), .slice none 0 0, .slice none 0 0]) (t := 37) ?hr ?_; (case hd => rfl); (case hg => rfl); (case hr => exact Za); intro gb102 hg w4 hbox hb; have n0_ := Y0.mk (YB.below QI81_0 hb); have n1_ := Y0.mk (Yu (g := gb101) (o := .cells #[.int .i64 0, .string (⟨#[]⟩ : ByteArray), .slice none 0 0, .slice none 0 0] 37 (0, 0)) QQ hb); have n2_ := Y0.mk (Y1.trans QK (Y1.of_below hb g none) (.inl rfl)); have n3_ := Y0.mk (Yb QB hb); have n4_ := Y0.mk (hbox); have n5_ := Y0.mk ((by rw [hg]; exact (Y8 (w := w) (g := g) (row := none) QK) : w.heap.size ≤ gb102)); have n6_ := Y0.mk ((Nat.le_trans HW0.out (by rw [hg]; exact (Y8 (w := w) (g := g) (row := none) QK) : w.heap.size ≤ gb102) : w0.heap.size ≤ gb102)); have n7_ := Y0.mk ((by rw [hg]; exact Nat.ne_of_lt (Y15 (g := gb101) (o := .cells #[.int .i64 0, .string (⟨#[]⟩ : ByteArray), .slice none 0 0, .slice none 0 0] 37 (0, 0)) QQ) : gb101 ≠ gb102)); have n8_ := Y0.mk ((by rw [hg]; exact Nat.ne_of_gt (Y15 (g := gb101) (o := .cells #[.int .i64 0, .string (⟨#[]⟩ : ByteArray), .slice none 0 0, .slice none 0 0] 37 (0, 0)) QQ) : gb102 ≠ gb101)); have n9_ := Y0.mk ((by rw [hg]; exact Nat.ne_of_lt (YB.lt (show YB w0 _ g s0_0 s0_1 s0_2 s0_3 from QI81_0)) : g ≠ gb102)); have n10_ := Y0.mk ((by rw [hg]; exact Nat.ne_of_gt (YB.lt (show YB w0 _ g s0_0 s0_1 s0_2 s0_3 from QI81_0)) : gb102 ≠ g)); clear HI0 BK101 HK HB; have HI0 := n0_; have BK101 := n1_; have HK := n2_; have HB := n3_; have BK102 := n4_; have GW102 := n5_; have GE102 := n6_; have NB101_102 := n7_; have NB102_101 := n8_; have NB0_102 := n9_; have NB102_0 := n10_; clear n0_ n1_ n2_ n3_ n4_ n5_ n6_ n7_ n8_ n9_ n10_ hb hbox hg; have hnb5 := NB102_101.out; have hnc5 := NB101_102.out; have hnb6 := NB102_0.out; have hnc6 := NB0_102.out; obtain ⟨hcz7_0, hcz7_1, hcz7_2, hcz7_3, hfz7_0, hfz7_1, hfz7_2, hfz7_3⟩ := YA BK102.out))
 (try simp only [Act.put, List.setIfInBounds_toArray, List.set_cons_zero, List.set_cons_succ])
 go_cut [26] (fun v26 wc => ∃ (kq : Nat) (x26_1 : Bool), v26 = .bool x26_1 ∧ Y0 (Y4.j0 kq x26_1 s0_0 s0_1 s0_2 s0_3 8 = some (r1, r2, r3, r4, r5, r6, r7, r8)) ∧ Y0 (kq ≤ k) ∧ Y0 (wc.heap[gb101]? = some (.cells #[.int .i64 0, .string (⟨#[]⟩ : ByteArray), (.slice none 0 0), (.slice none 0 0)] 37 (0, 0))) ∧ Y0 (wc.heap[gb102]? = some (.cells #[.int .i64 8, .string (⟨#[]⟩ : ByteArray), (.slice none 0 0), (.slice none 0 0)] 37 (0, 0))) ∧ Y0 (YB w0 wc g s0_0 s0_1 s0_2 s0_3) ∧ Y0 (Y1 w wc g none) ∧ Y0 (Below w0.heap.size w0 wc))
 case first =>
  have H := HC2.out
  clear HC2
  by_cases c8 : s0_1 < (s0_0.size : Int)
  ·rw [if_pos c8] at H
   have c8b0 : decide (s0_1 < (s0_0.size : Int)) = true := decide_eq_true c8
   clear c8
   (first | rw [c8b0] | (simp only [Y16, Y17]; rw [c8b0]) | skip)
   by_cases c9 : 0 ≤ s0_1
   ·rw [if_pos c9] at H
    have c9b0 : decide (0 ≤ s0_1) = true := decide_eq_true c9
    clear c9
    have H' := Y0.mk H
    clear H
    try go_wp2
    have n0_ : Y0 (((((w4.setCell ⟨gb102, 0, none⟩ (.int .i64 8)).setCell ⟨gb102, 1, none⟩ (.string (⟨#[]⟩ : ByteArray))).setCell ⟨gb102, 2, none⟩ (.slice none 0 0)).setCell ⟨gb102, 3, none⟩ (.slice none 0 0)).heap[gb101]? = some (.cells #[.int .i64 0, .string (⟨#[]⟩ : ByteArray), .slice none 0 0, .slice none 0 0] 37 (0, 0))) := ⟨Zi⟩
    have n1_ : Y0 (((((w4.setCell ⟨gb102, 0, none⟩ (.int .i64 8)).setCell ⟨gb102, 1, none⟩ (.string (⟨#[]⟩ : ByteArray))).setCell ⟨gb102, 2, none⟩ (.slice none 0 0)).setCell ⟨gb102, 3, none⟩ (.slice none 0 0)).heap[gb102]? = some (.cells #[.int .i64 8, .string (⟨#[]⟩ : ByteArray), .slice none 0 0, .slice none 0 0] 37 (0, 0))) := ⟨Z2o⟩
    have n2_ : Y0 (YB w0 ((((w4.setCell ⟨gb102, 0, none⟩ (.int .i64 8)).setCell ⟨gb102, 1, none⟩ (.string (⟨#[]⟩ : ByteArray))).setCell ⟨gb102, 2, none⟩ (.slice none 0 0)).setCell ⟨gb102, 3, none⟩ (.slice none 0 0)) g s0_0 s0_1 s0_2 s0_3) := ⟨QI81_0⟩
    have n3_ : Y0 (Y1 w ((((w4.setCell ⟨gb102, 0, none⟩ (.int .i64 8)).setCell ⟨gb102, 1, none⟩ (.string (⟨#[]⟩ : ByteArray))).setCell ⟨gb102, 2, none⟩ (.slice none 0 0)).setCell ⟨gb102, 3, none⟩ (.slice none 0 0)) g none) := ⟨QK⟩
    have n4_ : Y0 (Below w0.heap.size w0 ((((w4.setCell ⟨gb102, 0, none⟩ (.int .i64 8)).setCell ⟨gb102, 1, none⟩ (.string (⟨#[]⟩ : ByteArray))).setCell ⟨gb102, 2, none⟩ (.slice none 0 0)).setCell ⟨gb102, 3, none⟩ (.slice none 0 0))) := ⟨QB⟩
    (try clear BK101)
    (try clear BK102)
    (try clear HI0)
    (try clear HK)
    (try clear HB)
    generalize ((((w4.setCell ⟨gb102, 0, none⟩ (.int .i64 8)).setCell ⟨gb102, 1, none⟩ (.string (⟨#[]⟩ : ByteArray))).setCell ⟨gb102, 2, none⟩ (.slice none 0 0)).setCell ⟨gb102, 3, none⟩ (.slice none 0 0)) = w11 at n0_ n1_ n2_ n3_ n4_ ⊢
    have BK101 := n0_
    have BK102 := n1_
    have HI0 := n2_
    have HK := n3_
    have HB := n4_
    clear n0_ n1_ n2_ n3_ n4_
    have n_ := Y4k (Ya BK101.out) (Ya BK102.out) (YB.drew HI0.out) (Y1F HK.out) (YP HB.out)
    clear BK101
    clear BK102
    clear HI0
    clear HK
    clear HB
    obtain ⟨BK101, BK102, HI0, HK, HB⟩ := n_
    have p10 : 0 ≤ (s0_1 : Int) := of_decide_eq_true Z8
    have q10 : s0_1 < (s0_0.size : Int) := of_decide_eq_true Z8
    have hx10 := Y49 s0_0 s0_1
    replace p10 := eq_true p10
    replace q10 := eq_true q10
    refine Y1l (n := 22) (S := fun w' => w'.cell? ⟨g, 0, none⟩ = some (.string s0_0) ∧ w'.cell? ⟨g, 1, none⟩ = some (.int .i64 s0_1) ∧ w'.cell? ⟨g, 2, none⟩ = some (.int .i64 s0_2) ∧ w'.cell? ⟨g, 3, none⟩ = some (.int .i64 s0_3)) (ds := []) Y4z Z6 rfl rfl ⟨Y1r HI0.out.1, Y1s HI0.out.1, Y1t HI0.out.1, Y1u HI0.out.1⟩ (fun hHeld => ?_); refine YW Y4.tab2 Y4.bits2 (fun HT_ HW_ => ?_)
    generalize w11.drew = w12 at BK101 BK102 HI0 HK HB hHeld ⊢
    refine pY 0 5 Y4A ?_
    refine pY 1 6 Y4B ?_
    refine pY 2 7 Y4C ?_
    refine pY 4 9 Y5g ?_
    refine pY 5 10 Y5h ?_
    refine pY 6 11 Y5i ?_
    refine pT 3 8 Y3O ?_
    refine pT 7 12 Y3P ?_
    refine pY 8 13 Y3e ?_
    refine pY 9 14 Y3f ?_
    refine pY 10 15 Y3g ?_
    refine pY 11 16 Y3W ?_
    refine pY 12 17 Y3t ?_
    refine pY 13 18 Y3u ?_
    refine pY 15 20 Y5E ?_
    refine pY 16 21 Y52 ?_
    refine pY 17 22 Y56 ?_
    refine pT 14 19 Y2y ?_
    refine pT 18 23 Y2z ?_
    refine pT 19 24 Y2A ?_
    refine pY 20 25 Y2l ?_
    refine pY 21 26 Y2m ?_
    refine Y1Q (Y1a HT_.out Z6) ?_
    try go_wp2
    go_meet
    case rel => exact ⟨_, (((bt s0_0 s0_1) == 40)), Z7, H', ⟨Zr⟩, ⟨Z4⟩, ⟨Zo⟩, ⟨QI81_0⟩, ⟨QK⟩, ⟨QB⟩⟩
   ·rw [if_neg c9] at H
    exact ZA
  ·rw [if_neg c8] at H
   have c8b0 : decide (s0_1 < (s0_0.size : Int)) = false := decide_eq_false c8
   clear c8
   (first | rw [c8b0] | (simp only [Y16, Y17]; rw [c8b0]) | skip)
   have H' := Y0.mk H
   clear H
   try go_wp2
   have n0_ : Y0 (((((w4.setCell ⟨gb102, 0, none⟩ (.int .i64 8)).setCell ⟨gb102, 1, none⟩ (.string (⟨#[]⟩ : ByteArray))).setCell ⟨gb102, 2, none⟩ (.slice none 0 0)).setCell ⟨gb102, 3, none⟩ (.slice none 0 0)).heap[gb101]? = some (.cells #[.int .i64 0, .string (⟨#[]⟩ : ByteArray), .slice none 0 0, .slice none 0 0] 37 (0, 0))) := ⟨Zi⟩
   have n1_ : Y0 (((((w4.setCell ⟨gb102, 0, none⟩ (.int .i64 8)).setCell ⟨gb102, 1, none⟩ (.string (⟨#[]⟩ : ByteArray))).setCell ⟨gb102, 2, none⟩ (.slice none 0 0)).setCell ⟨gb102, 3, none⟩ (.slice none 0 0)).heap[gb102]? = some (.cells #[.int .i64 8, .string (⟨#[]⟩ : ByteArray), .slice none 0 0, .slice none 0 0] 37 (0, 0))) := ⟨Z2o⟩
   have n2_ : Y0 (YB w0 ((((w4.setCell ⟨gb102, 0, none⟩ (.int .i64 8)).setCell ⟨gb102, 1, none⟩ (.string (⟨#[]⟩ : ByteArray))).setCell ⟨gb102, 2, none⟩ (.slice none 0 0)).setCell ⟨gb102, 3, none⟩ (.slice none 0 0)) g s0_0 s0_1 s0_2 s0_3) := ⟨QI81_0⟩
   have n3_ : Y0 (Y1 w ((((w4.setCell ⟨gb102, 0, none⟩ (.int .i64 8)).setCell ⟨gb102, 1, none⟩ (.string (⟨#[]⟩ : ByteArray))).setCell ⟨gb102, 2, none⟩ (.slice none 0 0)).setCell ⟨gb102, 3, none⟩ (.slice none 0 0)) g none) := ⟨QK⟩
   have n4_ : Y0 (Below w0.heap.size w0 ((((w4.setCell ⟨gb102, 0, none⟩ (.int .i64 8)).setCell ⟨gb102, 1, none⟩ (.string (⟨#[]⟩ : ByteArray))).setCell ⟨gb102, 2, none⟩ (.slice none 0 0)).setCell ⟨gb102, 3, none⟩ (.slice none 0 0))) := ⟨QB⟩
   (try clear BK101)
   (try clear BK102)
   (try clear HI0)
   (try clear HK)
   (try clear HB)
   generalize ((((w4.setCell ⟨gb102, 0, none⟩ (.int .i64 8)).setCell ⟨gb102, 1, none⟩ (.string (⟨#[]⟩ : ByteArray))).setCell ⟨gb102, 2, none⟩ (.slice none 0 0)).setCell ⟨gb102, 3, none⟩ (.slice none 0 0)) = w13 at n0_ n1_ n2_ n3_ n4_ ⊢
   have BK101 := n0_
   have BK102 := n1_
   have HI0 := n2_
   have HK := n3_
   have HB := n4_
   clear n0_ n1_ n2_ n3_ n4_
   have n_ := Y4k (Ya BK101.out) (Ya BK102.out) (YB.drew HI0.out) (Y1F HK.out) (YP HB.out)
   clear BK101
   clear BK102
   clear HI0
   clear HK
   clear HB
   obtain ⟨BK101, BK102, HI0, HK, HB⟩ := n_
   refine Y1l (n := 22) (S := fun w' => w'.cell? ⟨g, 0, none⟩ = some (.string s0_0) ∧ w'.cell? ⟨g, 1, none⟩ = some (.int .i64 s0_1) ∧ w'.cell? ⟨g, 2, none⟩ = some (.int .i64 s0_2) ∧ w'.cell? ⟨g, 3, none⟩ = some (.int .i64 s0_3)) (ds := []) Y4z Z6 rfl rfl ⟨Y1r HI0.out.1, Y1s HI0.out.1, Y1t HI0.out.1, Y1u HI0.out.1⟩ (fun hHeld => ?_); refine YW Y4.tab2 Y4.bits2 (fun HT_ HW_ => ?_)
   generalize w13.drew = w14 at BK101 BK102 HI0 HK HB hHeld ⊢
   refine pY 0 5 Y4A ?_
   refine pY 1 6 Y4B ?_
   refine pY 2 7 Y4C ?_
   refine pY 4 9 Y5g ?_
   refine pY 5 10 Y5h ?_
   refine pY 6 11 Y5i ?_
   refine pT 3 8 Y3O ?_
   refine pT 7 12 Y3P ?_
   refine pY 8 13 Y3e ?_
   refine pY 9 14 Y3f ?_
   refine pY 10 15 Y3g ?_
   refine pU 11 16 Y3W ?_
   refine pU 12 17 Y3t ?_
   refine pU 13 18 Y3u ?_
   refine pU 14 19 Y4D ?_
   refine pU 15 20 Y4E ?_
   refine pU 16 21 Y4b ?_
   refine pU 17 22 Y2y ?_
   refine pU 18 23 Y2z ?_
   refine pU 19 24 Y2A ?_
   refine pU 20 25 Y2l ?_
   refine pY 21 26 Y2m ?_
   refine Y1Q (Y1a HT_.out Z6) ?_
   try go_wp2
   go_meet
   case rel => exact ⟨_, (false), Z7, H', ⟨Zr⟩, ⟨Z4⟩, ⟨Zo⟩, ⟨QI81_0⟩, ⟨QK⟩, ⟨QB⟩⟩
 case rest =>
  clear HC2
  try clear c1
  try clear p1
  try clear q1
  try clear hx1
  try clear p2
  try clear c5
  try clear c6
  try clear c8
  try clear c8b0
  try clear c9
  try clear c9b0
  try clear p10
  try clear q10
  try clear hx10
  try clear c13
  try clear hcz7_0 hcz7_1 hcz7_2 hcz7_3 hfz7_0 hfz7_1 hfz7_2 hfz7_3
  try clear p10
  try clear q10
  obtain ⟨kq, x26_1, rfl, HA, HJ1, BK101, BK102, HI0, HK, HB⟩ := hcut
  cases kq with
  | zero => exact absurd HA.out (by simp [Y4.j0])
  | succ kj1 =>
   have H := HA.out
   clear HA
   simp only [Y4.j0] at H
   by_cases c15 : x26_1 = true
   ·subst c15
    have H1 : ((Y3.f kj1 s0_0 (wrap64 (s0_1 + 1)) s0_2 s0_3).bind fun bt103 => (Y4.l0 kj1 bt103.2.1 bt103.2.2.1 bt103.2.2.2.1 bt103.2.2.2.2 8 (([bt103.1] : List ByteArray)))) = some (r1, r2, r3, r4, r5, r6, r7, r8) := by rw [if_pos rfl] at H; exact H
    clear H
    have H := H1
    clear H1
    replace H := Option.bind_eq_some_iff.mp H
    obtain ⟨⟨t103, t104, t105, t106, t107⟩, A160, H⟩ := H
    replace H : (Y4.l0 kj1 t104 t105 t106 t107 8 (([t103] : List ByteArray))) = some (r1, r2, r3, r4, r5, r6, r7, r8) := H
    have A16 := Y0.mk A160
    clear A160
    obtain ⟨y108, hy108⟩ : ∃ y_ : List ByteArray, y_ = (([t103] : List ByteArray)) := ⟨_, rfl⟩
    replace H : (Y4.l0 kj1 t104 t105 t106 t107 8 y108) = some (r1, r2, r3, r4, r5, r6, r7, r8) := by first | (rw [hy108]; with_reducible exact H) | (have H2_ := (Option.bind_some _ _).symm.trans H; rw [hy108]; with_reducible exact H2_) | (have H2_ := (Option.bind_some _ _).symm.trans H; with_reducible exact H2_) | with_reducible exact H | (rw [hy108]; exact H) | exact H
    have Ny108 := Y0.mk hy108
    clear hy108
    have H' := Y0.mk H
    clear H
    obtain ⟨hcz17_0, hcz17_1, hcz17_2, hcz17_3, hfz17_0, hfz17_1, hfz17_2, hfz17_3⟩ := YA HI0.out.1
    go_wp2_with (first | ((with_reducible refine Yn (f := 136) rfl ?_); refine YO (some 35) rfl rfl Tryd.func136 Z6 rfl #[.pointer (some ⟨g, 0, none⟩)] rfl Z0 ?_; (with_reducible refine (Y3.calls kj1 g s0_0 (wrap64 (s0_1 + 1)) s0_2 s0_3 t103 t104 t105 t106 t107 w0 _ ?side1 ?side2 ?side3 A16.out).mono ?_); (case side1 => exact Z1n); (case side2 => exact QB); (case side3 => exact Z1O); rintro e w18 ⟨rfl, hi, hb, hk⟩; refine ⟨_, rfl, ?_⟩; have n_ := Y4k (Y1.blk hk (g' := gb101) (o := .cells #[.int .i64 0, .string (⟨#[]⟩ : ByteArray), .slice none 0 0, .slice none 0 0] 37 (0, 0)) Z2c NB101_0.out (by simp)) (Y1.blk hk (g' := gb102) (o := .cells #[.int .i64 8, .string (⟨#[]⟩ : ByteArray), .slice none 0 0, .slice none 0 0] 37 (0, 0)) Z1A NB102_0.out (by simp)) (Y1.trans QK hk (.inl rfl)) (hb) (hi); clear BK101 BK102 HK HB HI0; obtain ⟨BK101, BK102, HK, HB, HI0⟩ := n_; (try clear hb); (try clear hb2); (try clear hk); (try clear hi)) | ((with_reducible refine YF (N := 36) rfl ?_); refine Kd.R_lit Kd.string _ 9 ?hg (N := 36) ?hd (xs := ([t103] : List ByteArray)) (inner := [.string t103]) (ok := fun _ => True) (okp := fun _ => True) ?hr ?hp (fun _ hk => hk) trivial (Below.refl _ _) (Nat.le_refl _) (by simp) ?_; (case hd => rfl); (case hg => rfl); (case hr => exact Za); (case hp => exact Z1T); intro v109 w19 ho20 hb hg_ hnew_; clear hg_ hnew_; (first | rw [← Ny108.out] at ho20 | (simp only [Int.reduceToNat] at ho20; rw [← Ny108.out] at ho20)); have n_ := Y3w (Kd.R_lower (Kd.R_newM (M := fun k_ => (w.heap.size ≤ k_)) ho20 (Y8 (w := w) (g := g) (row := none) QK) (fun k_ h_ => h_)) (Y8 (w := w) (g := g) (row := none) QK)) (Yu (g := gb101) (o := .cells #[.int .i64 0, .string (⟨#[]⟩ : ByteArray), .slice none 0 0, .slice none 0 0] 37 (0, 0)) QQ hb) (Yu (g := gb102) (o := .cells #[.int .i64 8, .string (⟨#[]⟩ : ByteArray), .slice none 0 0, .slice none 0 0] 37 (0, 0)) QQ hb) (YB.below QI81_0 hb) (Y1.trans QK (Y1.of_below hb g none) (.inl rfl)) (Yb QB hb); clear BK101 BK102 HI0 HK HB; obtain ⟨HO110, BK101, BK102, HI0, HK, HB⟩ := n_; clear hb ho20; obtain ⟨Ao21, co21, eo21⟩ := Kd.R_slice HO110.out; subst eo21; have hnb22 := NB102_101.out; have hnc22 := NB101_102.out; have hnb23 := NB102_0.out; have hnc23 := NB0_102.out; obtain ⟨hcz24_0, hcz24_1, hcz24_2, hcz24_3, hfz24_0, hfz24_1, hfz24_2, hfz24_3⟩ := YA BK102.out))
    go_loopg [] kj1 (fun kq w' => ∃ (x1000_2 : ByteArray) (x1001_2 : Int) (x1002_2 : Int) (x1003_2 : Int) (x103002_2 : List ByteArray) (u103002 : Value), Y0 (Y4.l0 kq x1000_2 x1001_2 x1002_2 x1003_2 8 x103002_2 = some (r1, r2, r3, r4, r5, r6, r7, r8)) ∧ Y0 (kq ≤ kj1) ∧ Y0 (Kd.R Kd.string 9 w' w.heap.size (fun k_ => (w.heap.size ≤ k_)) u103002 x103002_2) ∧ Y0 (w'.heap[gb101]? = some (.cells #[.int .i64 0, .string (⟨#[]⟩ : ByteArray), (.slice none 0 0), (.slice none 0 0)] 37 (0, 0))) ∧ Y0 (w'.heap[gb102]? = some (.cells #[.int .i64 8, .string (⟨#[]⟩ : ByteArray), u103002, (.slice none 0 0)] 37 (0, 0))) ∧ Y0 (YB w0 w' g x1000_2 x1001_2 x1002_2 x1003_2) ∧ Y0 (Y1 w w' g none) ∧ Y0 (Below w0.heap.size w0 w'))
    case atStart => exact ⟨(t104), (t105), (t106), (t107), (y108), (.slice Ao21 y108.length co21), H', ⟨Nat.le_refl _⟩, ⟨by (with_reducible repeat (first | apply Kd.R_alloc | apply Kd.R_drewN | apply Kd.R_drew)); exact Kd.R_mono (Kd.R_far (p := ⟨gb102, 2, none⟩) (Kd.R_types HO110.out BK102.out (by decide)) (fun _ hk => hk.2) (.slice Ao21 y108.length co21)) (fun _ hk => hk.1.1)⟩, ⟨Z21⟩, ⟨Z1j⟩, ⟨QI81_0⟩, ⟨QK⟩, ⟨QB⟩⟩
    case round =>
     clear H'
     try clear c1
     try clear p1
     try clear q1
     try clear hx1
     try clear c2
     try clear p2
     try clear c5
     try clear c6
     try clear p6
     try clear c8
     try clear c8b0
     try clear c9
     try clear c9b0
     try clear p10
     try clear q10
     try clear hx10
     try clear c13
     try clear c15
     try clear c22
     try clear c23
     try clear hcz17_0 hcz17_1 hcz17_2 hcz17_3
     try clear hcz24_0 hcz24_1 hcz24_2 hcz24_3
     try clear hcz7_0 hcz7_1 hcz7_2 hcz7_3
     try clear hfz17_0
     try clear hfz17_1
     try clear hfz17_2
     try clear hfz17_3
     try clear hfz24_0
     try clear hfz24_1
     try clear hfz24_2
     try clear hfz24_3
     try clear hfz7_0
     try clear hfz7_1
     try clear hfz7_2
     try clear hfz7_3
     try clear p1
     try clear p10
     try clear p2
     try clear q1
     try clear q10
     obtain ⟨x1000_2, x1001_2, x1002_2, x1003_2, x103002_2, u103002, HA, HK2, HO_103002, BK101, BK102, HI0, HK, HB⟩ := hrel
     cases gk with
     | zero => exact absurd HA.out (by simp [Y4.l0])
     | succ k2 =>
      have H := HA.out
      clear HA
      simp only [Y4.l0] at H
      replace H := Option.bind_eq_some_iff.mp H
      obtain ⟨⟨t111, t112, t113, t114, t115⟩, A250, H⟩ := H
      replace H : (if t111 = true then ((Y3.f k2 t112 t113 t114 t115).bind fun bt116 => (if x103002_2.length < 8796093022208 then (Y4.l0 k2 bt116.2.1 bt116.2.2.1 bt116.2.2.2.1 bt116.2.2.2.2 8 (x103002_2 ++ [bt116.1])) else (none))) else ((Yl.f k2 t112 t113 t114 t115 41).bind fun bt124 => (if bt124.1 = true then (some (8, (⟨#[]⟩ : ByteArray), x103002_2, ([] : List (S37)), bt124.2.1, bt124.2.2.1, bt124.2.2.2.1, bt124.2.2.2.2)) else ((Yt.f bt124.2.1 bt124.2.2.1 bt124.2.2.2.1 bt124.2.2.2.2 bt124.2.2.1 2).bind fun bt129 => (some (bt129.1, bt129.2.1, bt129.2.2.1, bt129.2.2.2.1, bt129.2.2.2.2.1, bt129.2.2.2.2.2.1, bt129.2.2.2.2.2.2.1, bt129.2.2.2.2.2.2.2)))))) = some (r1, r2, r3, r4, r5, r6, r7, r8) := H
      have A25 := Y0.mk A250
      clear A250
      by_cases c26 : t111 = true
      ·subst c26
       have H1 : ((Y3.f k2 t112 t113 t114 t115).bind fun bt116 => (if x103002_2.length < 8796093022208 then (Y4.l0 k2 bt116.2.1 bt116.2.2.1 bt116.2.2.2.1 bt116.2.2.2.2 8 (x103002_2 ++ [bt116.1])) else (none))) = some (r1, r2, r3, r4, r5, r6, r7, r8) := by rw [if_pos rfl] at H; exact H
       clear H
       have H := H1
       clear H1
       replace H := Option.bind_eq_some_iff.mp H
       obtain ⟨⟨t116, t117, t118, t119, t120⟩, A270, H⟩ := H
       replace H : (if x103002_2.length < 8796093022208 then (Y4.l0 k2 t117 t118 t119 t120 8 (x103002_2 ++ [t116])) else (none)) = some (r1, r2, r3, r4, r5, r6, r7, r8) := H
       have A27 := Y0.mk A270
       clear A270
       by_cases c28 : x103002_2.length < 8796093022208
       ·rw [if_pos c28] at H
        have LMc28 := Y0.mk c28
        clear c28
        obtain ⟨y121, hy121⟩ : ∃ y_ : List ByteArray, y_ = (x103002_2 ++ [t116]) := ⟨_, rfl⟩
        replace H : (Y4.l0 k2 t117 t118 t119 t120 8 y121) = some (r1, r2, r3, r4, r5, r6, r7, r8) := by first | (rw [hy121]; with_reducible exact H) | (have H2_ := (Option.bind_some _ _).symm.trans H; rw [hy121]; with_reducible exact H2_) | (have H2_ := (Option.bind_some _ _).symm.trans H; with_reducible exact H2_) | with_reducible exact H | (rw [hy121]; exact H) | exact H
        have Ny121 := Y0.mk hy121
        clear hy121
        have H' := Y0.mk H
        clear H
        try go_wp2_with (first | ((with_reducible refine Yn (f := 97) rfl ?_); refine YO (some 39) rfl rfl Tryd.func97 Z6 rfl #[.pointer (some ⟨g, 0, none⟩), .int .u8 124] rfl Z0 ?_; (with_reducible refine (Yl.calls k2 g x1000_2 x1001_2 x1002_2 x1003_2 124 true t112 t113 t114 t115 w0 _ ?side1 ?side2 A25.out).mono ?_); (case side1 => exact Z1n); (case side2 => exact QB); rintro e w29 ⟨rfl, hi, hb, hk⟩; refine ⟨_, rfl, ?_⟩; have n_ := Y3w (Kd.R_mono (Kd.R_keep (YB.apart (show YB w0 _ g x1000_2 x1001_2 x1002_2 x1003_2 from QI81_0) Zl (by decide)) hk (fun _ h => h.2)) (fun _ h => h.1)) (Y1.blk hk (g' := gb101) (o := .cells #[.int .i64 0, .string (⟨#[]⟩ : ByteArray), .slice none 0 0, .slice none 0 0] 37 (0, 0)) QQ NB101_0.out (by simp)) (Y1.blk hk (g' := gb102) (o := .cells #[.int .i64 8, .string (⟨#[]⟩ : ByteArray), u103002, .slice none 0 0] 37 (0, 0)) QQ NB102_0.out (by simp)) (Y1.trans QK hk (.inl rfl)) (hb) (hi); clear HO_103002 BK101 BK102 HK HB HI0; obtain ⟨HO_103002, BK101, BK102, HK, HB, HI0⟩ := n_; (try clear hb); (try clear hb2); (try clear hk); (try clear hi)))
        have n_ := Y3w (Kd.R_drew HO_103002.out) (Ya BK101.out) (Ya BK102.out) (YB.drew HI0.out) (Y1F HK.out) (YP HB.out)
        clear HO_103002
        clear BK101
        clear BK102
        clear HI0
        clear HK
        clear HB
        obtain ⟨HO_103002, BK101, BK102, HI0, HK, HB⟩ := n_
        refine Y1l (n := 8) (S := fun w' => w'.cell? ⟨gb102, 0, none⟩ = some (.int .i64 8) ∧ w'.cell? ⟨gb102, 1, none⟩ = some (.string (⟨#[]⟩ : ByteArray)) ∧ w'.cell? ⟨gb102, 2, none⟩ = some (u103002) ∧ w'.cell? ⟨gb102, 3, none⟩ = some (.slice none 0 0)) (ds := [7]) bz8_0 Z6 rfl rfl ⟨(Y2 BK102.out 0).trans rfl, (Y2 BK102.out 1).trans rfl, (Y2 BK102.out 2).trans rfl, (Y2 BK102.out 3).trans rfl⟩ (fun hHeld => ?_); refine YW Y4.tab6 Y4.bits6 (fun HT_ HW_ => ?_)
        generalize w29.drew = w30 at HO_103002 BK101 BK102 HI0 HK HB hHeld ⊢
        refine pY 0 40 bz8_1 ?_
        refine pY 2 42 bz8_5 ?_
        refine pT 1 41 bz8_7 ?_
        refine Y2T (i := 3) (N := some 43) bz8_f rfl rfl (Y1j HT_.out Z6) (by decide) (fun K hK => ?_)
        refine Y21 Tryd.func136 Z6 rfl #[.pointer (some ⟨g, 0, none⟩)] (by rfl) rfl rfl Z0 ?_
        with_reducible refine (Y3.calls k2 g t112 t113 t114 t115 t116 t117 t118 t119 t120 w0 _ ?side1 ?side2 ?side3 A27.out).mono ?_
        (case side1 => exact Z1n)
        (case side2 => exact QB)
        (case side3 => exact Z1O)
        rintro e w31 ⟨rfl, hi, hb, hk⟩
        refine ⟨_, rfl, ?_⟩
        have n_ := Y3w (Kd.R_mono (Kd.R_keep (YB.apart (show YB w0 _ g t112 t113 t114 t115 from QI81_0) Zl (by decide)) hk (fun _ h => h.2)) (fun _ h => h.1)) (Y1.blk hk (g' := gb101) (o := .cells #[.int .i64 0, .string (⟨#[]⟩ : ByteArray), .slice none 0 0, .slice none 0 0] 37 (0, 0)) QQ NB101_0.out (by simp)) (Y1.blk hk (g' := gb102) (o := .cells #[.int .i64 8, .string (⟨#[]⟩ : ByteArray), u103002, .slice none 0 0] 37 (0, 0)) QQ NB102_0.out (by simp)) (Y1.trans QK hk (.inl rfl)) (hb) (hi)
        clear HO_103002
        clear BK101
        clear BK102
        clear HK
        clear HB
        clear HI0
        obtain ⟨HO_103002, BK101, BK102, HK, HB, HI0⟩ := n_
        (try clear hb)
        (try clear hb2)
        (try clear hk)
        (try clear hi)
        refine hK.out _ _ ⟨(Y2 BK102.out 0).trans rfl, (Y2 BK102.out 1).trans rfl, (Y2 BK102.out 2).trans rfl, (Y2 BK102.out 3).trans rfl⟩ (fun hHeld => ?_)
        clear hK K
        refine Y1H (a' := ?_) ?_ ?_
        rotate_left
        ·show Act.put _ (some 43) _ = _
         simp only [Act.put, List.setIfInBounds_toArray, List.set_cons_zero, List.set_cons_succ, Y16, Y17]
         rfl
        refine Y2T (i := 4) (N := some 44) bz8_1f rfl rfl (Y1j HT_.out Z6) (by decide) (fun K hK => ?_)
        refine value_ (w1 := ?_) (v := ?_) (by rfl) rfl ?_ ?_
        rotate_left 2
        ·go_simp
         constructor
         ·rfl
         ·rfl
        refine hK.out _ _ ⟨(Y2 (Ye BK102.out _) 0).trans rfl, (Y2 (Ye BK102.out _) 1).trans rfl, (Y2 (Ye BK102.out _) 2).trans rfl, (Y2 (Ye BK102.out _) 3).trans rfl⟩ (fun hHeld => ?_)
        clear hK K
        refine Y1H (a' := ?_) ?_ ?_
        rotate_left
        ·show Act.put _ (some 44) _ = _
         simp only [Act.put, List.setIfInBounds_toArray, List.set_cons_zero, List.set_cons_succ, Y16, Y17]
         rfl
        refine Y2T (i := 5) (N := some 45) bz8_3f rfl rfl (Y1j HT_.out Z6) (by decide) (fun K hK => ?_)
        refine Kd.R_append_step Kd.string w.heap.size (by rfl) (.tmp 41) (.tmp 44) 34 9 (.string ⟨#[]⟩) 16 rfl Tryd.underlying34 info9 rfl (by decide) (by omega) u103002 x103002_2 t116 [.string t116] (fun k_ => (w.heap.size ≤ k_)) (fun _ => False) rfl rfl ?aP (fun _ hk => hk.elim) ?aF ?aO (Below.refl _ _) ?aS ?aL ?_
        (case aP => exact rfl)
        (case aF => exact (fun k_ hk => (Nat.le_trans (Y8 (w := w) (g := g) (row := none) QK) hk)))
        (case aO => exact Zl)
        (case aS => exact (Y8 (w := w) (g := g) (row := none) QK))
        (case aL => have := LMc28.out; omega)
        intro v122 w32 ho hb hg hat
        rw [← Ny121.out] at ho
        have n_ := Y3w (Y39 (g := gb101) (o := .cells #[.int .i64 0, .string (⟨#[]⟩ : ByteArray), .slice none 0 0, .slice none 0 0] 37 (0, 0)) QQ hg (Kd.R_ne HO_103002.out BK101.out (by decide))) (Y39 (g := gb102) (o := .cells #[.int .i64 8, .string (⟨#[]⟩ : ByteArray), u103002, .slice none 0 0] 37 (0, 0)) QQ hg (Kd.R_ne HO_103002.out BK102.out (by decide))) (YB.grown QI81_0 hg (YB.Y59 HI0.out HO_103002.out (by decide))) (Y4i QB HL.out hb) (Y1.trans QK (Y1.of_grown hg g) (Kd.R_base2 HO_103002.out)) (ho)
        clear BK101
        clear BK102
        clear HI0
        clear HB
        clear HK
        clear HO_103002
        obtain ⟨BK101, BK102, HI0, HB, HK, HO123⟩ := n_
        clear ho hb hg hat
        obtain ⟨Ao33, co33, eo33⟩ := Kd.R_slice HO123.out
        (first | subst eo33 | (injection eo33 with f1_ f2_ f3_; have f4_ := f1_.symm; have f5_ := f3_.symm; clear f1_ f2_ f3_; subst f4_; subst f5_))
        refine hK.out _ _ ⟨(Y2 BK102.out 0).trans rfl, (Y2 BK102.out 1).trans rfl, (Y2 BK102.out 2).trans rfl, (Y2 BK102.out 3).trans rfl⟩ (fun hHeld => ?_)
        clear hK K
        refine Y1H (a' := ?_) ?_ ?_
        rotate_left
        ·show Act.put _ (some 45) _ = _
         simp only [Act.put, List.setIfInBounds_toArray, List.set_cons_zero, List.set_cons_succ, Y16, Y17]
         rfl
        refine pY 6 46 bz8_7f ?_
        refine Y6G (i := 7) (N := none) bz8_ff rfl rfl (Y1j HT_.out Z6) (by decide) (fun K hK => ?_)
        have hs34 : w32.cell? ⟨gb102, 2, none⟩ = some (u103002) := (Y2 BK102.out 2).trans rfl
        have hfs34 := Y7 BK102.out 2
        have hns34_0 := NB101_102.out
        have hms34_0 := NB102_101.out
        refine Y4V (w1 := ?_) (by rfl) rfl ?_ ?_
        rotate_left
        ·go_simp
         rfl
        refine hK.out _ _ ?_
        clear hK K
        refine Y1Q (Y1a HT_.out Z6) ?_
        try go_wp2
        go_roundg k2
        case measure => have := HJ1.out; have := HK2.out; omega
        case rel => exact ⟨(t117), (t118), (t119), (t120), (y121), (.slice Ao33 y121.length co33), H', ⟨by have := HJ1.out; have := HK2.out; omega⟩, ⟨by (with_reducible repeat (first | apply Kd.R_alloc | apply Kd.R_drewN | apply Kd.R_drew)); exact Kd.R_mono (Kd.R_far (p := ⟨gb102, 2, none⟩) (Kd.R_types HO123.out BK102.out (by decide)) (fun _ hk => hk.2) (.slice Ao33 y121.length co33)) (fun _ hk => hk.1)⟩, ⟨Z21⟩, ⟨Z1k⟩, ⟨QI81_0⟩, ⟨QK⟩, ⟨QB⟩⟩
       ·rw [if_neg c28] at H
        exact ZA
      ·replace c26 := Bool.eq_false_iff.mpr c26
       subst c26
       have H1 : ((Yl.f k2 t112 t113 t114 t115 41).bind fun bt124 => (if bt124.1 = true then (some (8, (⟨#[]⟩ : ByteArray), x103002_2, ([] : List (S37)), bt124.2.1, bt124.2.2.1, bt124.2.2.2.1, bt124.2.2.2.2)) else ((Yt.f bt124.2.1 bt124.2.2.1 bt124.2.2.2.1 bt124.2.2.2.2 bt124.2.2.1 2).bind fun bt129 => (some (bt129.1, bt129.2.1, bt129.2.2.1, bt129.2.2.2.1, bt129.2.2.2.2.1, bt129.2.2.2.2.2.1, bt129.2.2.2.2.2.2.1, bt129.2.2.2.2.2.2.2))))) = some (r1, r2, r3, r4, r5, r6, r7, r8) := by rw [if_neg (show ¬ (false = true) by decide)] at H; exact H
       clear H
       have H := H1
       clear H1
       replace H := Option.bind_eq_some_iff.mp H
       obtain ⟨⟨t124, t125, t126, t127, t128⟩, A350, H⟩ := H
       replace H : (if t124 = true then (some (8, (⟨#[]⟩ : ByteArray), x103002_2, ([] : List (S37)), t125, t126, t127, t128)) else ((Yt.f t125 t126 t127 t128 t126 2).bind fun bt129 => (some (bt129.1, bt129.2.1, bt129.2.2.1, bt129.2.2.2.1, bt129.2.2.2.2.1, bt129.2.2.2.2.2.1, bt129.2.2.2.2.2.2.1, bt129.2.2.2.2.2.2.2)))) = some (r1, r2, r3, r4, r5, r6, r7, r8) := H
       have A35 := Y0.mk A350
       clear A350
       by_cases c36 : t124 = true
       ·subst c36
        have H1 : (some (8, (⟨#[]⟩ : ByteArray), x103002_2, ([] : List (S37)), t125, t126, t127, t128)) = some (r1, r2, r3, r4, r5, r6, r7, r8) := by rw [if_pos rfl] at H; exact H
        clear H
        have H := H1
        clear H1
        simp only [Option.some.injEq, Prod.mk.injEq] at H
        obtain ⟨rfl, rfl, rfl, rfl, rfl, rfl, rfl, rfl⟩ := H
        go_wp2_with (first | ((with_reducible refine Yn (f := 97) rfl ?_); refine YO (some 39) rfl rfl Tryd.func97 Z6 rfl #[.pointer (some ⟨g, 0, none⟩), .int .u8 124] rfl Z0 ?_; (with_reducible refine (Yl.calls k2 g x1000_2 x1001_2 x1002_2 x1003_2 124 false t112 t113 t114 t115 w0 _ ?side1 ?side2 A25.out).mono ?_); (case side1 => exact Z1n); (case side2 => exact QB); rintro e w37 ⟨rfl, hi, hb, hk⟩; refine ⟨_, rfl, ?_⟩; have n_ := Y3w (Kd.R_mono (Kd.R_keep (YB.apart (show YB w0 _ g x1000_2 x1001_2 x1002_2 x1003_2 from QI81_0) Zl (by decide)) hk (fun _ h => h.2)) (fun _ h => h.1)) (Y1.blk hk (g' := gb101) (o := .cells #[.int .i64 0, .string (⟨#[]⟩ : ByteArray), .slice none 0 0, .slice none 0 0] 37 (0, 0)) QQ NB101_0.out (by simp)) (Y1.blk hk (g' := gb102) (o := .cells #[.int .i64 8, .string (⟨#[]⟩ : ByteArray), u103002, .slice none 0 0] 37 (0, 0)) QQ NB102_0.out (by simp)) (Y1.trans QK hk (.inl rfl)) (hb) (hi); clear HO_103002 BK101 BK102 HK HB HI0; obtain ⟨HO_103002, BK101, BK102, HK, HB, HI0⟩ := n_; (try clear hb); (try clear hb2); (try clear hk); (try clear hi)) | ((with_reducible refine Yn (f := 97) rfl ?_); refine YO (some 48) rfl rfl Tryd.func97 Z6 rfl #[.pointer (some ⟨g, 0, none⟩), .int .u8 41] rfl Z0 ?_; (with_reducible refine (Yl.calls k2 g t112 t113 t114 t115 41 true t125 t126 t127 t128 w0 _ ?side1 ?side2 A35.out).mono ?_); (case side1 => exact Z1n); (case side2 => exact QB); rintro e w38 ⟨rfl, hi, hb, hk⟩; refine ⟨_, rfl, ?_⟩; have n_ := Y3w (Kd.R_mono (Kd.R_keep (YB.apart (show YB w0 _ g t112 t113 t114 t115 from QI81_0) Zl (by decide)) hk (fun _ h => h.2)) (fun _ h => h.1)) (Y1.blk hk (g' := gb101) (o := .cells #[.int .i64 0, .string (⟨#[]⟩ : ByteArray), .slice none 0 0, .slice none 0 0] 37 (0, 0)) QQ NB101_0.out (by simp)) (Y1.blk hk (g' := gb102) (o := .cells #[.int .i64 8, .string (⟨#[]⟩ : ByteArray), u103002, .slice none 0 0] 37 (0, 0)) QQ NB102_0.out (by simp)) (Y1.trans QK hk (.inl rfl)) (hb) (hi); clear HO_103002 BK101 BK102 HK HB HI0; obtain ⟨HO_103002, BK101, BK102, HK, HB, HI0⟩ := n_; (try clear hb); (try clear hb2); (try clear hk); (try clear hi); have hnb39 := NB102_101.out; have hnc39 := NB101_102.out; have hnb40 := NB102_0.out; have hnc40 := NB0_102.out; obtain ⟨hcz41_0, hcz41_1, hcz41_2, hcz41_3, hfz41_0, hfz41_1, hfz41_2, hfz41_3⟩ := YA BK102.out; have hnb42 := NB101_0.out; have hnc42 := NB0_101.out; obtain ⟨hcz43_0, hcz43_1, hcz43_2, hcz43_3, hfz43_0, hfz43_1, hfz43_2, hfz43_3⟩ := YA BK101.out; obtain ⟨Ao44, co44, eo44⟩ := Kd.R_slice HO_103002.out; subst eo44))
        refine bodyPost_ret (results_cell_row rfl _ _ gb101 37 #[.int .i64 8, .string (⟨#[]⟩ : ByteArray), .slice Ao44 x103002_2.length co44, .slice none 0 0] (0, 0) _ rfl (by (with_reducible repeat (first | refine Yg ?_ _ | refine Ya ?_ | refine Ye ?_ _)); exact YD (cs := #[.int .i64 8, .string (⟨#[]⟩ : ByteArray), .slice Ao44 x103002_2.length co44, .slice none 0 0]) Z1Z 3 _ rfl) Tryd.underlying37 rfl Z6) rfl ?_
        exact ⟨_, _, Z2, by (with_reducible repeat (first | apply Kd.R_alloc | apply Kd.R_drewN | apply Kd.R_drew)); exact Kd.R_mono (Kd.R_far (p := ⟨gb101, 3, none⟩) (Kd.R_far (p := ⟨gb101, 2, none⟩) (Kd.R_far (p := ⟨gb101, 1, none⟩) (Kd.R_far (p := ⟨gb101, 0, none⟩) (Kd.R_types HO_103002.out BK101.out (by decide)) (fun _ hk => hk.2) (.int .i64 8)) (fun _ hk => hk.2) (.string (⟨#[]⟩ : ByteArray))) (fun _ hk => hk.2) (.slice Ao44 x103002_2.length co44)) (fun _ hk => hk.2) (.slice none 0 0)) (fun _ hk => hk.1), Z5, QI81_0, QB, QK⟩
       ·replace c36 := Bool.eq_false_iff.mpr c36
        subst c36
        have H1 : ((Yt.f t125 t126 t127 t128 t126 2).bind fun bt129 => (some (bt129.1, bt129.2.1, bt129.2.2.1, bt129.2.2.2.1, bt129.2.2.2.2.1, bt129.2.2.2.2.2.1, bt129.2.2.2.2.2.2.1, bt129.2.2.2.2.2.2.2))) = some (r1, r2, r3, r4, r5, r6, r7, r8) := by rw [if_neg (show ¬ (false = true) by decide)] at H; exact H
        clear H
        have H := H1
        clear H1
        replace H := Option.bind_eq_some_iff.mp H
        obtain ⟨⟨t129, t130, t131, t134, t137, t138, t139, t140⟩, A450, H⟩ := H
        replace H : (some (t129, t130, t131, t134, t137, t138, t139, t140)) = some (r1, r2, r3, r4, r5, r6, r7, r8) := H
        have A45 := Y0.mk A450
        clear A450
        simp only [Option.some.injEq, Prod.mk.injEq] at H
        obtain ⟨rfl, rfl, rfl, rfl, rfl, rfl, rfl, rfl⟩ := H
        go_wp2_with (first | ((with_reducible refine Yn (f := 97) rfl ?_); refine YO (some 39) rfl rfl Tryd.func97 Z6 rfl #[.pointer (some ⟨g, 0, none⟩), .int .u8 124] rfl Z0 ?_; (with_reducible refine (Yl.calls k2 g x1000_2 x1001_2 x1002_2 x1003_2 124 false t112 t113 t114 t115 w0 _ ?side1 ?side2 A25.out).mono ?_); (case side1 => exact Z1n); (case side2 => exact QB); rintro e w46 ⟨rfl, hi, hb, hk⟩; refine ⟨_, rfl, ?_⟩; have n_ := Y3w (Kd.R_mono (Kd.R_keep (YB.apart (show YB w0 _ g x1000_2 x1001_2 x1002_2 x1003_2 from QI81_0) Zl (by decide)) hk (fun _ h => h.2)) (fun _ h => h.1)) (Y1.blk hk (g' := gb101) (o := .cells #[.int .i64 0, .string (⟨#[]⟩ : ByteArray), .slice none 0 0, .slice none 0 0] 37 (0, 0)) QQ NB101_0.out (by simp)) (Y1.blk hk (g' := gb102) (o := .cells #[.int .i64 8, .string (⟨#[]⟩ : ByteArray), u103002, .slice none 0 0] 37 (0, 0)) QQ NB102_0.out (by simp)) (Y1.trans QK hk (.inl rfl)) (hb) (hi); clear HO_103002 BK101 BK102 HK HB HI0; obtain ⟨HO_103002, BK101, BK102, HK, HB, HI0⟩ := n_; (try clear hb); (try clear hb2); (try clear hk); (try clear hi)) | ((with_reducible refine Yn (f := 97) rfl ?_); refine YO (some 48) rfl rfl Tryd.func97 Z6 rfl #[.pointer (some ⟨g, 0, none⟩), .int .u8 41] rfl Z0 ?_; (with_reducible refine (Yl.calls k2 g t112 t113 t114 t115 41 false t125 t126 t127 t128 w0 _ ?side1 ?side2 A35.out).mono ?_); (case side1 => exact Z1n); (case side2 => exact QB); rintro e w47 ⟨rfl, hi, hb, hk⟩; refine ⟨_, rfl, ?_⟩; have n_ := Y3w (Kd.R_mono (Kd.R_keep (YB.apart (show YB w0 _ g t112 t113 t114 t115 from QI81_0) Zl (by decide)) hk (fun _ h => h.2)) (fun _ h => h.1)) (Y1.blk hk (g' := gb101) (o := .cells #[.int .i64 0, .string (⟨#[]⟩ : ByteArray), .slice none 0 0, .slice none 0 0] 37 (0, 0)) QQ NB101_0.out (by simp)) (Y1.blk hk (g' := gb102) (o := .cells #[.int .i64 8, .string (⟨#[]⟩ : ByteArray), u103002, .slice none 0 0] 37 (0, 0)) QQ NB102_0.out (by simp)) (Y1.trans QK hk (.inl rfl)) (hb) (hi); clear HO_103002 BK101 BK102 HK HB HI0; obtain ⟨HO_103002, BK101, BK102, HK, HB, HI0⟩ := n_; (try clear hb); (try clear hb2); (try clear hk); (try clear hi); obtain ⟨HGz48, hgz48⟩ := HI0.out; have hcz48_0 := Y1r HGz48; have hcz48_1 := Y1s HGz48; have hcz48_2 := Y1t HGz48; have hcz48_3 := Y1u HGz48; have hfz48_0 := Y7 HGz48 0; have hfz48_1 := Y7 HGz48 1; have hfz48_2 := Y7 HGz48 2; have hfz48_3 := Y7 HGz48 3; clear HGz48 hgz48) | ((with_reducible refine Yn (f := 57) rfl ?_); refine YO (some 55) rfl rfl Tryd.func57 Z6 rfl #[.pointer (some ⟨g, 0, none⟩), .int .i64 t126, .int .i64 2] rfl Z0 ?_; (with_reducible refine (Yt.calls g t125 t126 t127 t128 t126 2 t129 t130 t131 t134 t137 t138 t139 t140 w0 _ ?side1 ?side2 A45.out).mono ?_); (case side1 => exact Z1n); (case side2 => exact QB); rintro e w49 ⟨v132, v135, rfl, ho0, ho1, hi, hb, hk⟩; refine ⟨_, rfl, ?_⟩; have n0_ := Y0.mk (Kd.R_mono (Kd.R_told (Kd.R_oldK (YB.apart (show YB w0 _ g t125 t126 t127 t128 from QI81_0) Zl (by decide)) hk) (Kd.R_base ho0)) (fun _ h_ => h_.1)); have n1_ := Y0.mk (Y1.blk hk (g' := gb101) (o := .cells #[.int .i64 0, .string (⟨#[]⟩ : ByteArray), .slice none 0 0, .slice none 0 0] 37 (0, 0)) QQ NB101_0.out (by simp)); have n2_ := Y0.mk (Y1.blk hk (g' := gb102) (o := .cells #[.int .i64 8, .string (⟨#[]⟩ : ByteArray), u103002, .slice none 0 0] 37 (0, 0)) QQ NB102_0.out (by simp)); have n3_ := Y0.mk (Kd.R_lower (Kd.R_new' (Kd.R_newM (M := fun k_ => (w.heap.size ≤ k_)) (Kd.R_mono (ok' := fun k_ => True) ho0 (fun _ hk_ => trivial)) (Y8 (w := w) (g := g) (row := none) QK) (fun k_ h_ => h_)) (Kd.R_lt Zl)) (Y8 (w := w) (g := g) (row := none) QK)); have n4_ := Y0.mk (Kd.N_lower (Kd.N_mono (ok' := fun k_ => (w.heap.size ≤ k_) ∧ some k_ ≠ (v132 : Value).ownBlock ∧ some k_ ≠ (u103002 : Value).ownBlock ∧ k_ ≠ gb101 ∧ k_ ≠ gb102 ∧ k_ ≠ g) ho1 (fun k_ hk_ => ⟨(Nat.le_trans (Y8 (w := w) (g := g) (row := none) QK) hk_.1), hk_.2, (Kd.fresh' (Kd.R_lt Zl) k_ hk_.1), (Kd.freshB (g := gb101) (o := .cells #[.int .i64 0, .string (⟨#[]⟩ : ByteArray), .slice none 0 0, .slice none 0 0] 37 (0, 0)) QQ k_ hk_.1), (Kd.freshB (g := gb102) (o := .cells #[.int .i64 8, .string (⟨#[]⟩ : ByteArray), u103002, .slice none 0 0] 37 (0, 0)) QQ k_ hk_.1), (YB.fresh QI81_0 k_ hk_.1)⟩)) (Y8 (w := w) (g := g) (row := none) QK)); have n5_ := Y0.mk (Y1.trans QK hk (.inl rfl)); have n6_ := Y0.mk (hb); have n7_ := Y0.mk (hi); clear HO_103002 BK101 BK102 HK HB HI0; have HO_103002 := n0_; have BK101 := n1_; have BK102 := n2_; have HO133 := n3_; have HO136 := n4_; have HK := n5_; have HB := n6_; have HI0 := n7_; clear n0_ n1_ n2_ n3_ n4_ n5_ n6_ n7_; (try clear hb); (try clear hb2); (try clear hk); (try clear hi); (try clear ho0); (try clear ho1); have hnb50 := NB101_102.out; have hnc50 := NB102_101.out; have hnb51 := NB101_0.out; have hnc51 := NB0_101.out; obtain ⟨hcz52_0, hcz52_1, hcz52_2, hcz52_3, hfz52_0, hfz52_1, hfz52_2, hfz52_3⟩ := YA BK101.out; obtain ⟨Ao53, co53, eo53⟩ := Kd.R_slice HO133.out; subst eo53; obtain ⟨Ao54, co54, eo54⟩ := Kd.N_slice HO136.out; subst eo54))
        refine bodyPost_ret (results_cell_row rfl _ _ gb101 37 #[.int .i64 t129, .string t130, .slice Ao53 t131.length co53, .slice Ao54 t134.length co54] (0, 0) _ rfl (by (with_reducible repeat (first | refine Yg ?_ _ | refine Ya ?_ | refine Ye ?_ _)); exact YD (cs := #[.int .i64 t129, .string t130, .slice Ao53 t131.length co53, .slice none 0 0]) (by (with_reducible repeat (first | refine Yg ?_ _ | refine Ya ?_ | refine Ye ?_ _)); exact YD (cs := #[.int .i64 t129, .string t130, .slice none 0 0, .slice none 0 0]) (by (with_reducible repeat (first | refine Yg ?_ _ | refine Ya ?_ | refine Ye ?_ _)); exact YD (cs := #[.int .i64 t129, .string (⟨#[]⟩ : ByteArray), .slice none 0 0, .slice none 0 0]) Z1 1 _ rfl) 2 _ rfl) 3 _ rfl) Tryd.underlying37 rfl Z6) rfl ?_
        exact ⟨_, _, Z2, by (with_reducible repeat (first | apply Kd.R_alloc | apply Kd.R_drewN | apply Kd.R_drew)); exact Kd.R_mono (Kd.R_far (p := ⟨gb101, 3, none⟩) (Kd.R_far (p := ⟨gb101, 2, none⟩) (Kd.R_far (p := ⟨gb101, 1, none⟩) (Kd.R_far (p := ⟨gb101, 0, none⟩) (Kd.R_types HO133.out BK101.out (by decide)) (fun _ hk => hk.2) (.int .i64 t129)) (fun _ hk => hk.2) (.string t130)) (fun _ hk => hk.2) (.slice Ao53 t131.length co53)) (fun _ hk => hk.2) (.slice Ao54 t134.length co54)) (fun _ hk => hk.1.1.1), by (with_reducible repeat (first | apply Kd.N_alloc | apply Kd.N_drewN | apply Kd.N_drew)); exact Kd.N_mono (Kd.N_far (p := ⟨gb101, 3, none⟩) (Kd.N_far (p := ⟨gb101, 2, none⟩) (Kd.N_far (p := ⟨gb101, 1, none⟩) (Kd.N_far (p := ⟨gb101, 0, none⟩) (Kd.N_mono HO136.out (fun k_ hk => (⟨hk, hk.2.2.2.1⟩ : _ ∧ k_ ≠ gb101))) (fun _ hk => hk.2) (.int .i64 t129)) (fun _ hk => hk.2) (.string t130)) (fun _ hk => hk.2) (.slice Ao53 t131.length co53)) (fun _ hk => hk.2) (.slice Ao54 t134.length co54)) (fun _ hk => ⟨hk.1.1, hk.1.2.1⟩), QI81_0, QB, QK⟩
   ·replace c15 := Bool.eq_false_iff.mpr c15
    subst c15
    have H1 : ((Y3.f kj1 s0_0 s0_1 s0_2 s0_3).bind fun bt141 => (some (8, (⟨#[]⟩ : ByteArray), (([bt141.1] : List ByteArray)), ([] : List (S37)), bt141.2.1, bt141.2.2.1, bt141.2.2.2.1, bt141.2.2.2.2))) = some (r1, r2, r3, r4, r5, r6, r7, r8) := by rw [if_neg (show ¬ (false = true) by decide)] at H; exact H
    clear H
    have H := H1
    clear H1
    replace H := Option.bind_eq_some_iff.mp H
    obtain ⟨⟨t141, t142, t143, t144, t145⟩, A550, H⟩ := H
    replace H : (some (8, (⟨#[]⟩ : ByteArray), (([t141] : List ByteArray)), ([] : List (S37)), t142, t143, t144, t145)) = some (r1, r2, r3, r4, r5, r6, r7, r8) := H
    have A55 := Y0.mk A550
    clear A550
    obtain ⟨y146, hy146⟩ : ∃ y_ : List ByteArray, y_ = (([t141] : List ByteArray)) := ⟨_, rfl⟩
    replace H : (some (8, (⟨#[]⟩ : ByteArray), y146, ([] : List (S37)), t142, t143, t144, t145)) = some (r1, r2, r3, r4, r5, r6, r7, r8) := by first | (rw [hy146]; with_reducible exact H) | (have H2_ := (Option.bind_some _ _).symm.trans H; rw [hy146]; with_reducible exact H2_) | (have H2_ := (Option.bind_some _ _).symm.trans H; with_reducible exact H2_) | with_reducible exact H | (rw [hy146]; exact H) | exact H
    have Ny146 := Y0.mk hy146
    clear hy146
    simp only [Option.some.injEq, Prod.mk.injEq] at H
    obtain ⟨rfl, rfl, rfl, rfl, rfl, rfl, rfl, rfl⟩ := H
    go_wp2_with (first | ((with_reducible refine Yn (f := 136) rfl ?_); refine YO (some 58) rfl rfl Tryd.func136 Z6 rfl #[.pointer (some ⟨g, 0, none⟩)] rfl Z0 ?_; (with_reducible refine (Y3.calls kj1 g s0_0 s0_1 s0_2 s0_3 t141 t142 t143 t144 t145 w0 _ ?side1 ?side2 ?side3 A55.out).mono ?_); (case side1 => exact Z1n); (case side2 => exact QB); (case side3 => exact Z1O); rintro e w56 ⟨rfl, hi, hb, hk⟩; refine ⟨_, rfl, ?_⟩; have n_ := Y4k (Y1.blk hk (g' := gb101) (o := .cells #[.int .i64 0, .string (⟨#[]⟩ : ByteArray), .slice none 0 0, .slice none 0 0] 37 (0, 0)) QQ NB101_0.out (by simp)) (Y1.blk hk (g' := gb102) (o := .cells #[.int .i64 8, .string (⟨#[]⟩ : ByteArray), .slice none 0 0, .slice none 0 0] 37 (0, 0)) QQ NB102_0.out (by simp)) (Y1.trans QK hk (.inl rfl)) (hb) (hi); clear BK101 BK102 HK HB HI0; obtain ⟨BK101, BK102, HK, HB, HI0⟩ := n_; (try clear hb); (try clear hb2); (try clear hk); (try clear hi)) | ((with_reducible refine YF (N := 59) rfl ?_); refine Kd.R_lit Kd.string _ 9 ?hg (N := 59) ?hd (xs := ([t141] : List ByteArray)) (inner := [.string t141]) (ok := fun _ => True) (okp := fun _ => True) ?hr ?hp (fun _ hk => hk) trivial (Below.refl _ _) (Nat.le_refl _) (by simp) ?_; (case hd => rfl); (case hg => rfl); (case hr => exact Za); (case hp => exact (Y1E.one (show Kd.M Kd.string _ _ _ t141 [.string t141] from rfl) (Y1E.none _ _))); intro v147 w57 ho58 hb hg_ hnew_; clear hg_ hnew_; (first | rw [← Ny146.out] at ho58 | (simp only [Int.reduceToNat] at ho58; rw [← Ny146.out] at ho58)); have n_ := Y3w (Kd.R_lower (Kd.R_newM (M := fun k_ => (w.heap.size ≤ k_)) ho58 (Y8 (w := w) (g := g) (row := none) QK) (fun k_ h_ => h_)) (Y8 (w := w) (g := g) (row := none) QK)) (Yu (g := gb101) (o := .cells #[.int .i64 0, .string (⟨#[]⟩ : ByteArray), .slice none 0 0, .slice none 0 0] 37 (0, 0)) QQ hb) (Yu (g := gb102) (o := .cells #[.int .i64 8, .string (⟨#[]⟩ : ByteArray), .slice none 0 0, .slice none 0 0] 37 (0, 0)) QQ hb) (YB.below QI81_0 hb) (Y1.trans QK (Y1.of_below hb g none) (.inl rfl)) (Yb QB hb); clear BK101 BK102 HI0 HK HB; obtain ⟨HO148, BK101, BK102, HI0, HK, HB⟩ := n_; clear hb ho58; obtain ⟨Ao59, co59, eo59⟩ := Kd.R_slice HO148.out; subst eo59; have hnb60 := NB102_101.out; have hnc60 := NB101_102.out; have hnb61 := NB102_0.out; have hnc61 := NB0_102.out; obtain ⟨hcz62_0, hcz62_1, hcz62_2, hcz62_3, hfz62_0, hfz62_1, hfz62_2, hfz62_3⟩ := YA BK102.out; have hnb63 := NB101_0.out; have hnc63 := NB0_101.out; obtain ⟨hcz64_0, hcz64_1, hcz64_2, hcz64_3, hfz64_0, hfz64_1, hfz64_2, hfz64_3⟩ := YA BK101.out))
    refine bodyPost_ret (results_cell_row rfl _ _ gb101 37 #[.int .i64 8, .string (⟨#[]⟩ : ByteArray), .slice Ao59 y146.length co59, .slice none 0 0] (0, 0) _ rfl (by (with_reducible repeat (first | refine Yg ?_ _ | refine Ya ?_ | refine Ye ?_ _)); exact YD (cs := #[.int .i64 8, .string (⟨#[]⟩ : ByteArray), .slice Ao59 y146.length co59, .slice none 0 0]) ZB 3 _ rfl) Tryd.underlying37 rfl Z6) rfl ?_
    exact ⟨_, _, Z2, by (with_reducible repeat (first | apply Kd.R_alloc | apply Kd.R_drewN | apply Kd.R_drew)); exact Kd.R_mono (Kd.R_far (p := ⟨gb101, 3, none⟩) (Kd.R_far (p := ⟨gb101, 2, none⟩) (Kd.R_far (p := ⟨gb101, 1, none⟩) (Kd.R_far (p := ⟨gb101, 0, none⟩) (Kd.R_far (p := ⟨gb102, 2, none⟩) (Kd.R_types (Kd.R_types HO148.out BK102.out (by decide)) BK101.out (by decide)) (fun _ hk => hk.1.2) (.slice Ao59 y146.length co59)) (fun _ hk => hk.2) (.int .i64 8)) (fun _ hk => hk.2) (.string (⟨#[]⟩ : ByteArray))) (fun _ hk => hk.2) (.slice Ao59 y146.length co59)) (fun _ hk => hk.2) (.slice none 0 0)) (fun _ hk => hk.1.1.1), Z5, QI81_0, QB, QK⟩
mutual
def Yh.l0 : Nat → Int → ByteArray → Int → Int → Int → Int → ByteArray → List ByteArray → List (S37) → Option (Int × ByteArray × List ByteArray × (List (S37)) × ByteArray × Int × Int × Int)
 | 0, _, _, _, _, _, _, _, _, _ => none
 | k + 1, x1, x1000, x1001, x1002, x1003, x115000, x115001, x115002, x115003 => (Yl.f k x1000 x1001 x1002 x1003 124).bind fun bt115 => (if bt115.1 = true then ((Yp.f k bt115.2.1 bt115.2.2.1 bt115.2.2.2.1 bt115.2.2.2.2 x1).bind fun bt120 => (Yh.l0 k x1 bt120.2.2.2.2.1 bt120.2.2.2.2.2.1 bt120.2.2.2.2.2.2.1 bt120.2.2.2.2.2.2.2 4 (⟨#[]⟩ : ByteArray) ([] : List ByteArray) (([(⟨x115000, x115001, x115002, x115003⟩ : S37), (⟨bt120.1, bt120.2.1, bt120.2.2.1, bt120.2.2.2.1⟩ : S37)] : List (S37))))) else (some (x115000, x115001, x115002, x115003, bt115.2.1, bt115.2.2.1, bt115.2.2.2.1, bt115.2.2.2.2)))
def Yh.f : Nat → ByteArray → Int → Int → Int → Int → Option (Int × ByteArray × List ByteArray × (List (S37)) × ByteArray × Int × Int × Int)
 | 0, _, _, _, _, _ => none
 | k + 1, s0_0, s0_1, s0_2, s0_3, a1 => (Yp.f k s0_0 s0_1 s0_2 s0_3 a1).bind fun bt102 => (Yh.l0 k a1 bt102.2.2.2.2.1 bt102.2.2.2.2.2.1 bt102.2.2.2.2.2.2.1 bt102.2.2.2.2.2.2.2 bt102.1 bt102.2.1 bt102.2.2.1 bt102.2.2.2.1)
def Yp.l0 : Nat → Int → ByteArray → Int → Int → Int → Int → ByteArray → List ByteArray → List (S37) → Option (Int × ByteArray × List ByteArray × (List (S37)) × ByteArray × Int × Int × Int)
 | 0, _, _, _, _, _, _, _, _, _ => none
 | k + 1, x1, x1000, x1001, x1002, x1003, x149000, x149001, x149002, x149003 => (Yl.f k x1000 x1001 x1002 x1003 47).bind fun bt149 => (if bt149.1 = true then ((Y9.f k bt149.2.1 bt149.2.2.1 bt149.2.2.2.1 bt149.2.2.2.2 x1).bind fun bt154 => (Yp.l0 k x1 bt154.2.2.2.2.1 bt154.2.2.2.2.2.1 bt154.2.2.2.2.2.2.1 bt154.2.2.2.2.2.2.2 3 (⟨#[]⟩ : ByteArray) ([] : List ByteArray) (([(⟨x149000, x149001, x149002, x149003⟩ : S37), (⟨bt154.1, bt154.2.1, bt154.2.2.1, bt154.2.2.2.1⟩ : S37)] : List (S37))))) else (some (x149000, x149001, x149002, x149003, bt149.2.1, bt149.2.2.1, bt149.2.2.2.1, bt149.2.2.2.2)))
def Yp.f : Nat → ByteArray → Int → Int → Int → Int → Option (Int × ByteArray × List ByteArray × (List (S37)) × ByteArray × Int × Int × Int)
 | 0, _, _, _, _, _ => none
 | k + 1, s0_0, s0_1, s0_2, s0_3, a1 => (Y9.f k s0_0 s0_1 s0_2 s0_3 a1).bind fun bt136 => (Yp.l0 k a1 bt136.2.2.2.2.1 bt136.2.2.2.2.2.1 bt136.2.2.2.2.2.2.1 bt136.2.2.2.2.2.2.2 bt136.1 bt136.2.1 bt136.2.2.1 bt136.2.2.2.1)
def Y9.l0 : Nat → ByteArray → Int → Int → Int → Int → ByteArray → List ByteArray → List (S37) → Option (Int × ByteArray × List ByteArray × (List (S37)) × ByteArray × Int × Int × Int)
 | 0, _, _, _, _, _, _, _, _ => none
 | k + 1, x1000, x1001, x1002, x1003, x183000, x183001, x183002, x183003 => (Yl.f k x1000 x1001 x1002 x1003 42).bind fun bt183 => (if bt183.1 = true then (Y9.l0 k bt183.2.1 bt183.2.2.1 bt183.2.2.2.1 bt183.2.2.2.2 5 (⟨#[]⟩ : ByteArray) ([] : List ByteArray) (([(⟨x183000, x183001, x183002, x183003⟩ : S37)] : List (S37)))) else ((Yl.f k bt183.2.1 bt183.2.2.1 bt183.2.2.2.1 bt183.2.2.2.2 43).bind fun bt191 => (if bt191.1 = true then (Y9.l0 k bt191.2.1 bt191.2.2.1 bt191.2.2.2.1 bt191.2.2.2.2 6 (⟨#[]⟩ : ByteArray) ([] : List ByteArray) (([(⟨x183000, x183001, x183002, x183003⟩ : S37)] : List (S37)))) else ((Yl.f k bt191.2.1 bt191.2.2.1 bt191.2.2.2.1 bt191.2.2.2.2 63).bind fun bt199 => (if bt199.1 = true then (Y9.l0 k bt199.2.1 bt199.2.2.1 bt199.2.2.2.1 bt199.2.2.2.2 7 (⟨#[]⟩ : ByteArray) ([] : List ByteArray) (([(⟨x183000, x183001, x183002, x183003⟩ : S37)] : List (S37)))) else (some (x183000, x183001, x183002, x183003, bt199.2.1, bt199.2.2.1, bt199.2.2.2.1, bt199.2.2.2.2)))))))
def Y9.f : Nat → ByteArray → Int → Int → Int → Int → Option (Int × ByteArray × List ByteArray × (List (S37)) × ByteArray × Int × Int × Int)
 | 0, _, _, _, _, _ => none
 | k + 1, s0_0, s0_1, s0_2, s0_3, a1 => (Yc.f k s0_0 s0_1 s0_2 s0_3 a1).bind fun bt170 => (Y9.l0 k bt170.2.2.2.2.1 bt170.2.2.2.2.2.1 bt170.2.2.2.2.2.2.1 bt170.2.2.2.2.2.2.2 bt170.1 bt170.2.1 bt170.2.2.1 bt170.2.2.2.1)
def Yc.j0 : Nat → Int → Int → Int → Bool → ByteArray → Int → Int → Int → Option (Int × ByteArray × List ByteArray × (List (S37)) × ByteArray × Int × Int × Int)
 | 0, _, _, _, _, _, _, _, _ => none
 | k + 1, x1, x5, x9, x10, x1000, x1001, x1002, x1003 => if x10 = true then (if x1 ≥ 5 then ((Yt.f x1000 x1001 x1002 x1003 x1001 3).bind fun bt213 => (some (bt213.1, bt213.2.1, bt213.2.2.1, bt213.2.2.2.1, bt213.2.2.2.2.1, bt213.2.2.2.2.2.1, bt213.2.2.2.2.2.2.1, bt213.2.2.2.2.2.2.2))) else (if x5 = 94 then ((Yc.f k x1000 (wrap64 (x1001 + 1)) x1002 x1003 (wrap64 (x1 + 1))).bind fun bt225 => (some (2, (⟨#[]⟩ : ByteArray), ([] : List ByteArray), (([(⟨bt225.1, bt225.2.1, bt225.2.2.1, bt225.2.2.2.1⟩ : S37)] : List (S37))), bt225.2.2.2.2.1, bt225.2.2.2.2.2.1, bt225.2.2.2.2.2.2.1, bt225.2.2.2.2.2.2.2))) else ((Yh.f k x1000 (wrap64 (x1001 + 1)) x1002 x1003 (wrap64 (x1 + 1))).bind fun bt240 => ((Yl.f k bt240.2.2.2.2.1 bt240.2.2.2.2.2.1 bt240.2.2.2.2.2.2.1 bt240.2.2.2.2.2.2.2 41).bind fun bt253 => (if bt253.1 = true then (some (bt240.1, bt240.2.1, bt240.2.2.1, bt240.2.2.2.1, bt253.2.1, bt253.2.2.1, bt253.2.2.2.1, bt253.2.2.2.2)) else ((Yt.f bt253.2.1 bt253.2.2.1 bt253.2.2.2.1 bt253.2.2.2.2 bt253.2.2.1 2).bind fun bt258 => (some (bt258.1, bt258.2.1, bt258.2.2.1, bt258.2.2.2.1, bt258.2.2.2.2.1, bt258.2.2.2.2.2.1, bt258.2.2.2.2.2.2.1, bt258.2.2.2.2.2.2.2)))))))) else (if x9 = 33 then ((Y4.f k x1000 (wrap64 (x1001 + 1)) x1002 x1003).bind fun bt270 => (some (bt270.1, bt270.2.1, bt270.2.2.1, bt270.2.2.2.1, bt270.2.2.2.2.1, bt270.2.2.2.2.2.1, bt270.2.2.2.2.2.2.1, bt270.2.2.2.2.2.2.2))) else ((Y3.f k x1000 x1001 x1002 x1003).bind fun bt282 => (some (1, bt282.1, ([] : List ByteArray), ([] : List (S37)), bt282.2.1, bt282.2.2.1, bt282.2.2.2.1, bt282.2.2.2.2))))
def Yc.f : Nat → ByteArray → Int → Int → Int → Int → Option (Int × ByteArray × List ByteArray × (List (S37)) × ByteArray × Int × Int × Int)
 | 0, _, _, _, _, _ => none
 | k + 1, s0_0, s0_1, s0_2, s0_3, a1 => (Yd.f k s0_0 s0_1 s0_2 s0_3).bind fun bt208 => (if bt208.1 = 94 then (Yc.j0 k a1 bt208.1 bt208.1 (bt208.1 == 94) bt208.2.1 bt208.2.2.1 bt208.2.2.2.1 bt208.2.2.2.2) else (Yc.j0 k a1 bt208.1 bt208.1 (bt208.1 == 40) bt208.2.1 bt208.2.2.1 bt208.2.2.2.1 bt208.2.2.2.2))
end
theorem Yh.mono_j : ∀ k, (∀ y0 y1 y2 y3 y4, LeO (Yh.f k y0 y1 y2 y3 y4) (Yh.f (k + 1) y0 y1 y2 y3 y4)) ∧ (∀ y0 y1 y2 y3 y4 y5 y6 y7 y8, LeO (Yh.l0 k y0 y1 y2 y3 y4 y5 y6 y7 y8) (Yh.l0 (k + 1) y0 y1 y2 y3 y4 y5 y6 y7 y8)) ∧ (∀ y0 y1 y2 y3 y4, LeO (Yp.f k y0 y1 y2 y3 y4) (Yp.f (k + 1) y0 y1 y2 y3 y4)) ∧ (∀ y0 y1 y2 y3 y4 y5 y6 y7 y8, LeO (Yp.l0 k y0 y1 y2 y3 y4 y5 y6 y7 y8) (Yp.l0 (k + 1) y0 y1 y2 y3 y4 y5 y6 y7 y8)) ∧ (∀ y0 y1 y2 y3 y4, LeO (Y9.f k y0 y1 y2 y3 y4) (Y9.f (k + 1) y0 y1 y2 y3 y4)) ∧ (∀ y0 y1 y2 y3 y4 y5 y6 y7, LeO (Y9.l0 k y0 y1 y2 y3 y4 y5 y6 y7) (Y9.l0 (k + 1) y0 y1 y2 y3 y4 y5 y6 y7)) ∧ (∀ y0 y1 y2 y3 y4, LeO (Yc.f k y0 y1 y2 y3 y4) (Yc.f (k + 1) y0 y1 y2 y3 y4)) ∧ (∀ y0 y1 y2 y3 y4 y5 y6 y7, LeO (Yc.j0 k y0 y1 y2 y3 y4 y5 y6 y7) (Yc.j0 (k + 1) y0 y1 y2 y3 y4 y5 y6 y7))
 | 0 => ⟨fun _ _ _ _ _ r h => by simp [Yh.f] at h, fun _ _ _ _ _ _ _ _ _ r h => by simp [Yh.l0] at h, fun _ _ _ _ _ r h => by simp [Yp.f] at h, fun _ _ _ _ _ _ _ _ _ r h => by simp [Yp.l0] at h, fun _ _ _ _ _ r h => by simp [Y9.f] at h, fun _ _ _ _ _ _ _ _ r h => by simp [Y9.l0] at h, fun _ _ _ _ _ r h => by simp [Yc.f] at h, fun _ _ _ _ _ _ _ _ r h => by simp [Yc.j0] at h⟩
 | k + 1 => by
  obtain ⟨ih0, ih1, ih2, ih3, ih4, ih5, ih6, ih7⟩ := Yh.mono_j k
  refine ⟨?_, ?_, ?_, ?_, ?_, ?_, ?_, ?_⟩
  ·intro y0 y1 y2 y3 y4
   unfold Yh.f
   exact QM
  ·intro y0 y1 y2 y3 y4 y5 y6 y7 y8
   unfold Yh.l0
   exact QM
  ·intro y0 y1 y2 y3 y4
   unfold Yp.f
   exact QM
  ·intro y0 y1 y2 y3 y4 y5 y6 y7 y8
   unfold Yp.l0
   exact QM
  ·intro y0 y1 y2 y3 y4
   unfold Y9.f
   exact QM
  ·intro y0 y1 y2 y3 y4 y5 y6 y7
   unfold Y9.l0
   exact QM
  ·intro y0 y1 y2 y3 y4
   unfold Yc.f
   exact QM
  ·intro y0 y1 y2 y3 y4 y5 y6 y7
   unfold Yc.j0
   exact QM
abbrev Yh.Spec (k : Nat) : Prop := ∀ (g : Nat) (s0_0 : ByteArray) (s0_1 : Int) (s0_2 : Int) (s0_3 : Int) (a1 : Int) (r1 : Int) (r2 : ByteArray) (r3 : List ByteArray) (r4 : List (S37)) (r5 : ByteArray) (r6 : Int) (r7 : Int) (r8 : Int) (w0 w : World) (hI : YB w0 w g s0_0 s0_1 s0_2 s0_3) (hB : Below w0.heap.size w0 w) (hT : Tabs w0) (h : Yh.f k s0_0 s0_1 s0_2 s0_3 a1 = some (r1, r2, r3, r4, r5, r6, r7, r8)),
  Calls Tryd.prog 55 #[.pointer (some ⟨g, 0, none⟩), .int .i64 a1] w fun e w' => ∃ v2_ v3_ : Value, e = .returned (.agg #[.int .i64 r1, .string r2, v2_, v3_]) ∧ Kd.R Kd.string 9 w' w.heap.size (fun k_ => (w.heap.size ≤ k_)) v2_ r3 ∧ Kd.N k37 37 w' w.heap.size (fun k_ => (w.heap.size ≤ k_) ∧ some k_ ≠ (v2_ : Value).ownBlock) v3_ r4 ∧ YB w0 w' g r5 r6 r7 r8 ∧ Below w0.heap.size w0 w' ∧ Y1 w w' g none
abbrev Yp.Spec (k : Nat) : Prop := ∀ (g : Nat) (s0_0 : ByteArray) (s0_1 : Int) (s0_2 : Int) (s0_3 : Int) (a1 : Int) (r1 : Int) (r2 : ByteArray) (r3 : List ByteArray) (r4 : List (S37)) (r5 : ByteArray) (r6 : Int) (r7 : Int) (r8 : Int) (w0 w : World) (hI : YB w0 w g s0_0 s0_1 s0_2 s0_3) (hB : Below w0.heap.size w0 w) (hT : Tabs w0) (h : Yp.f k s0_0 s0_1 s0_2 s0_3 a1 = some (r1, r2, r3, r4, r5, r6, r7, r8)),
  Calls Tryd.prog 96 #[.pointer (some ⟨g, 0, none⟩), .int .i64 a1] w fun e w' => ∃ v2_ v3_ : Value, e = .returned (.agg #[.int .i64 r1, .string r2, v2_, v3_]) ∧ Kd.R Kd.string 9 w' w.heap.size (fun k_ => (w.heap.size ≤ k_)) v2_ r3 ∧ Kd.N k37 37 w' w.heap.size (fun k_ => (w.heap.size ≤ k_) ∧ some k_ ≠ (v2_ : Value).ownBlock) v3_ r4 ∧ YB w0 w' g r5 r6 r7 r8 ∧ Below w0.heap.size w0 w' ∧ Y1 w w' g none
abbrev Y9.Spec (k : Nat) : Prop := ∀ (g : Nat) (s0_0 : ByteArray) (s0_1 : Int) (s0_2 : Int) (s0_3 : Int) (a1 : Int) (r1 : Int) (r2 : ByteArray) (r3 : List ByteArray) (r4 : List (S37)) (r5 : ByteArray) (r6 : Int) (r7 : Int) (r8 : Int) (w0 w : World) (hI : YB w0 w g s0_0 s0_1 s0_2 s0_3) (hB : Below w0.heap.size w0 w) (hT : Tabs w0) (h : Y9.f k s0_0 s0_1 s0_2 s0_3 a1 = some (r1, r2, r3, r4, r5, r6, r7, r8)),
  Calls Tryd.prog 113 #[.pointer (some ⟨g, 0, none⟩), .int .i64 a1] w fun e w' => ∃ v2_ v3_ : Value, e = .returned (.agg #[.int .i64 r1, .string r2, v2_, v3_]) ∧ Kd.R Kd.string 9 w' w.heap.size (fun k_ => (w.heap.size ≤ k_)) v2_ r3 ∧ Kd.N k37 37 w' w.heap.size (fun k_ => (w.heap.size ≤ k_) ∧ some k_ ≠ (v2_ : Value).ownBlock) v3_ r4 ∧ YB w0 w' g r5 r6 r7 r8 ∧ Below w0.heap.size w0 w' ∧ Y1 w w' g none
abbrev Yc.Spec (k : Nat) : Prop := ∀ (g : Nat) (s0_0 : ByteArray) (s0_1 : Int) (s0_2 : Int) (s0_3 : Int) (a1 : Int) (r1 : Int) (r2 : ByteArray) (r3 : List ByteArray) (r4 : List (S37)) (r5 : ByteArray) (r6 : Int) (r7 : Int) (r8 : Int) (w0 w : World) (hI : YB w0 w g s0_0 s0_1 s0_2 s0_3) (hB : Below w0.heap.size w0 w) (hT : Tabs w0) (h : Yc.f k s0_0 s0_1 s0_2 s0_3 a1 = some (r1, r2, r3, r4, r5, r6, r7, r8)),
  Calls Tryd.prog 124 #[.pointer (some ⟨g, 0, none⟩), .int .i64 a1] w fun e w' => ∃ v2_ v3_ : Value, e = .returned (.agg #[.int .i64 r1, .string r2, v2_, v3_]) ∧ Kd.R Kd.string 9 w' w.heap.size (fun k_ => (w.heap.size ≤ k_)) v2_ r3 ∧ Kd.N k37 37 w' w.heap.size (fun k_ => (w.heap.size ≤ k_) ∧ some k_ ≠ (v2_ : Value).ownBlock) v3_ r4 ∧ YB w0 w' g r5 r6 r7 r8 ∧ Below w0.heap.size w0 w' ∧ Y1 w w' g none
set_option maxHeartbeats 8000000 in
set_option maxRecDepth 100000 in
theorem Yh.step (k : Nat) (ih : ∀ j_ < k, Yh.Spec j_ ∧ Yp.Spec j_ ∧ Y9.Spec j_ ∧ Yc.Spec j_) : ∀ (g : Nat) (s0_0 : ByteArray) (s0_1 : Int) (s0_2 : Int) (s0_3 : Int) (a1 : Int) (r1 : Int) (r2 : ByteArray) (r3 : List ByteArray) (r4 : List (S37)) (r5 : ByteArray) (r6 : Int) (r7 : Int) (r8 : Int) (w0 w : World) (hI : YB w0 w g s0_0 s0_1 s0_2 s0_3) (hB : Below w0.heap.size w0 w) (hT : Tabs w0) (h : Yh.f k s0_0 s0_1 s0_2 s0_3 a1 = some (r1, r2, r3, r4, r5, r6, r7, r8)),
  Calls Tryd.prog 55 #[.pointer (some ⟨g, 0, none⟩), .int .i64 a1] w fun e w' => ∃ v2_ v3_ : Value, e = .returned (.agg #[.int .i64 r1, .string r2, v2_, v3_]) ∧ Kd.R Kd.string 9 w' w.heap.size (fun k_ => (w.heap.size ≤ k_)) v2_ r3 ∧ Kd.N k37 37 w' w.heap.size (fun k_ => (w.heap.size ≤ k_) ∧ some k_ ≠ (v2_ : Value).ownBlock) v3_ r4 ∧ YB w0 w' g r5 r6 r7 r8 ∧ Below w0.heap.size w0 w' ∧ Y1 w w' g none := by
 intro g s0_0 s0_1 s0_2 s0_3 a1 r1 r2 r3 r4 r5 r6 r7 r8 w0 w hI hB hT h
 cases k with
 | zero => exact absurd h (by simp [Yh.f])
 | succ k =>
 simp only [Yh.f] at h
 have HT := Y0.mk hT
 clear hT
 have hu37 := Tryd.underlying37
 have HI0 := Y0.mk hI
 have HK := Y0.mk (Y1.refl w g none)
 have HL := Y0.mk hB.size
 clear hI
 have HW0 := Y0.mk hB.size
 have HB := Y0.mk hB
 clear hB
 have H : ((Yp.f k s0_0 s0_1 s0_2 s0_3 a1).bind fun bt102 => (Yh.l0 k a1 bt102.2.2.2.2.1 bt102.2.2.2.2.2.1 bt102.2.2.2.2.2.2.1 bt102.2.2.2.2.2.2.2 bt102.1 bt102.2.1 bt102.2.2.1 bt102.2.2.2.1)) = some (r1, r2, r3, r4, r5, r6, r7, r8) := h
 clear h
 replace H := Option.bind_eq_some_iff.mp H
 obtain ⟨⟨t102, t103, t104, t107, t110, t111, t112, t113⟩, A30, H⟩ := H
 replace H : (Yh.l0 k a1 t110 t111 t112 t113 t102 t103 t104 t107) = some (r1, r2, r3, r4, r5, r6, r7, r8) := H
 have A3 := Y0.mk A30
 clear A30
 have H' := Y0.mk H
 clear H
 go_enter Tryd.func55, Tryd.ntmps55
 go_wp2_with (first | ((with_reducible refine YF (N := 4) rfl ?_); refine YE ?hg (N := 4) ?hd (cs := #[.int .i64 0, .string (⟨#[]⟩ : ByteArray), .slice none 0 0, .slice none 0 0]) (t := 37) ?hr ?_; (case hd => rfl); (case hg => rfl); (case hr => exact Za); intro gb101 hg w4 hbox hb; have n_ := Y4q (YB.below QI81_0 hb) (Y1.trans QK (Y1.of_below hb g none) (.inl rfl)) (Yb QB hb) (hbox) ((by rw [hg]; exact (Y8 (w := w) (g := g) (row := none) QK) : w.heap.size ≤ gb101)) ((Nat.le_trans HW0.out (by rw [hg]; exact (Y8 (w := w) (g := g) (row := none) QK) : w.heap.size ≤ gb101) : w0.heap.size ≤ gb101)) ((by rw [hg]; exact Nat.ne_of_lt (YB.lt (show YB w0 _ g s0_0 s0_1 s0_2 s0_3 from QI81_0)) : g ≠ gb101)) ((by rw [hg]; exact Nat.ne_of_gt (YB.lt (show YB w0 _ g s0_0 s0_1 s0_2 s0_3 from QI81_0)) : gb101 ≠ g)); clear HI0 HK HB; obtain ⟨HI0, HK, HB, BK101, GW101, GE101, NB0_101, NB101_0⟩ := n_; clear hb hbox hg) | ((with_reducible refine Yn (f := 96) rfl ?_); refine YO (some 8) rfl rfl Tryd.func96 Z6 rfl #[.pointer (some ⟨g, 0, none⟩), .int .i64 a1] rfl Z0 ?_; (with_reducible refine ((ih k (by omega)).2.1 g s0_0 s0_1 s0_2 s0_3 a1 t102 t103 t104 t107 t110 t111 t112 t113 w0 _ ?side1 ?side2 ?side3 A3.out).mono ?_); (case side1 => exact Z1n); (case side2 => exact QB); (case side3 => exact Z1O); rintro e w5 ⟨v105, v108, rfl, ho0, ho1, hi, hb, hk⟩; refine ⟨_, rfl, ?_⟩; have n0_ := Y0.mk (Y1.blk hk (g' := gb101) (o := .cells #[.int .i64 0, .string (⟨#[]⟩ : ByteArray), .slice none 0 0, .slice none 0 0] 37 (0, 0)) QQ NB101_0.out (by simp)); have n1_ := Y0.mk (Kd.R_lower (Kd.R_newM (M := fun k_ => (w.heap.size ≤ k_)) (Kd.R_mono (ok' := fun k_ => True) ho0 (fun _ hk_ => trivial)) (Y8 (w := w) (g := g) (row := none) QK) (fun k_ h_ => h_)) (Y8 (w := w) (g := g) (row := none) QK)); have n2_ := Y0.mk (Kd.N_lower (Kd.N_mono (ok' := fun k_ => (w.heap.size ≤ k_) ∧ some k_ ≠ (v105 : Value).ownBlock ∧ k_ ≠ gb101 ∧ k_ ≠ g) ho1 (fun k_ hk_ => ⟨(Nat.le_trans (Y8 (w := w) (g := g) (row := none) QK) hk_.1), hk_.2, (Kd.freshB (g := gb101) (o := .cells #[.int .i64 0, .string (⟨#[]⟩ : ByteArray), .slice none 0 0, .slice none 0 0] 37 (0, 0)) QQ k_ hk_.1), (YB.fresh QI81_0 k_ hk_.1)⟩)) (Y8 (w := w) (g := g) (row := none) QK)); have n3_ := Y0.mk (Y1.trans QK hk (.inl rfl)); have n4_ := Y0.mk (hb); have n5_ := Y0.mk (hi); clear BK101 HK HB HI0; have BK101 := n0_; have HO106 := n1_; have HO109 := n2_; have HK := n3_; have HB := n4_; have HI0 := n5_; clear n0_ n1_ n2_ n3_ n4_ n5_; (try clear hb); (try clear hb2); (try clear hk); (try clear hi); (try clear ho0); (try clear ho1)) | ((with_reducible refine YF (N := 5) rfl ?_); refine YE ?hg (N := 5) ?hd (cs := #[.int .i64 0, .string (⟨#[]⟩ : ByteArray), .slice none 0 0, .slice none 0 0]) (t := 37) ?hr ?_; (case hd => rfl); (case hg => rfl); (case hr => exact Za); intro gb114 hg w6 hbox hb; have n0_ := Y0.mk (Kd.R_below Z1J hb); have n1_ := Y0.mk (Kd.N_below (Kd.N_elderB Z1G gb114 (Nat.le_of_eq hg.symm)) hb); have n2_ := Y0.mk (YB.below QI81_0 hb); have n3_ := Y0.mk (Yu (g := gb101) (o := .cells #[.int .i64 0, .string (⟨#[]⟩ : ByteArray), .slice none 0 0, .slice none 0 0] 37 (0, 0)) QQ hb); have n4_ := Y0.mk (Y1.trans QK (Y1.of_below hb g none) (.inl rfl)); have n5_ := Y0.mk (Yb QB hb); have n6_ := Y0.mk (hbox); have n7_ := Y0.mk ((by rw [hg]; exact (Y8 (w := w) (g := g) (row := none) QK) : w.heap.size ≤ gb114)); have n8_ := Y0.mk ((Nat.le_trans HW0.out (by rw [hg]; exact (Y8 (w := w) (g := g) (row := none) QK) : w.heap.size ≤ gb114) : w0.heap.size ≤ gb114)); have n9_ := Y0.mk ((by rw [hg]; exact Nat.ne_of_lt (Y15 (g := gb101) (o := .cells #[.int .i64 0, .string (⟨#[]⟩ : ByteArray), .slice none 0 0, .slice none 0 0] 37 (0, 0)) QQ) : gb101 ≠ gb114)); have n10_ := Y0.mk ((by rw [hg]; exact Nat.ne_of_gt (Y15 (g := gb101) (o := .cells #[.int .i64 0, .string (⟨#[]⟩ : ByteArray), .slice none 0 0, .slice none 0 0] 37 (0, 0)) QQ) : gb114 ≠ gb101)); have n11_ := Y0.mk ((by rw [hg]; exact Nat.ne_of_lt (YB.lt (show YB w0 _ g t110 t111 t112 t113 from QI81_0)) : g ≠ gb114)); have n12_ := Y0.mk ((by rw [hg]; exact Nat.ne_of_gt (YB.lt (show YB w0 _ g t110 t111 t112 t113 from QI81_0)) : gb114 ≠ g)); clear HO106 HO109 HI0 BK101 HK HB; have HO106 := n0_; have HO109 := n1_; have HI0 := n2_; have BK101 := n3_; have HK := n4_; have HB := n5_; have BK114 := n6_; have GW114 := n7_; have GE114 := n8_; have NB101_114 := n9_; have NB114_101 := n10_; have NB0_114 := n11_; have NB114_0 := n12_; clear n0_ n1_ n2_ n3_ n4_ n5_ n6_ n7_ n8_ n9_ n10_ n11_ n12_ hb hbox hg; have hnb7 := NB114_101.out; have hnc7 := NB101_114.out; have hnb8 := NB114_0.out; have hnc8 := NB0_114.out; obtain ⟨hcz9_0, hcz9_1, hcz9_2, hcz9_3, hfz9_0, hfz9_1, hfz9_2, hfz9_3⟩ := YA BK114.out; obtain ⟨Ao10, co10, eo10⟩ := Kd.R_slice HO106.out; subst eo10; obtain ⟨Ao11, co11, eo11⟩ := Kd.N_slice HO109.out; subst eo11))
 go_loopg [] k (fun kq w' => ∃ (x1000_1 : ByteArray) (x1001_1 : Int) (x1002_1 : Int) (x1003_1 : Int) (x115000_1 : Int) (x115001_1 : ByteArray) (x115002_1 : List ByteArray) (x115003_1 : List (S37)) (u115002 : Value) (u115003 : Value), Y0 (Yh.l0 kq a1 x1000_1 x1001_1 x1002_1 x1003_1 x115000_1 x115001_1 x115002_1 x115003_1 = some (r1, r2, r3, r4, r5, r6, r7, r8)) ∧ Y0 (kq ≤ k) ∧ Y0 (Kd.R Kd.string 9 w' w.heap.size (fun k_ => (w.heap.size ≤ k_)) u115002 x115002_1) ∧ Y0 (Kd.N k37 37 w' w.heap.size (fun k_ => (w.heap.size ≤ k_) ∧ some k_ ≠ (u115002 : Value).ownBlock ∧ k_ ≠ gb101 ∧ k_ ≠ gb114 ∧ k_ ≠ g) u115003 x115003_1) ∧ Y0 (w'.heap[gb101]? = some (.cells #[.int .i64 0, .string (⟨#[]⟩ : ByteArray), (.slice none 0 0), (.slice none 0 0)] 37 (0, 0))) ∧ Y0 (w'.heap[gb114]? = some (.cells #[.int .i64 x115000_1, .string x115001_1, u115002, u115003] 37 (0, 0))) ∧ Y0 (YB w0 w' g x1000_1 x1001_1 x1002_1 x1003_1) ∧ Y0 (Y1 w w' g none) ∧ Y0 (Below w0.heap.size w0 w'))
 case atStart => exact ⟨(t110), (t111), (t112), (t113), (t102), (t103), (t104), (t107), (.slice Ao10 t104.length co10), (.slice Ao11 t107.length co11), H', ⟨Nat.le_refl _⟩, ⟨Z10⟩, ⟨ZJ⟩, ⟨Zj⟩, ⟨Z26⟩, ⟨QI81_0⟩, ⟨QK⟩, ⟨QB⟩⟩
 case round =>
  clear H'
  try clear p2
  try clear c5
  try clear c7
  try clear c8
  try clear c9
  try clear hcz9_0 hcz9_1 hcz9_2 hcz9_3 hfz9_0 hfz9_1 hfz9_2 hfz9_3
  obtain ⟨x1000_1, x1001_1, x1002_1, x1003_1, x115000_1, x115001_1, x115002_1, x115003_1, u115002, u115003, HA, HK1, HO_115002, HO_115003, BK101, BK114, HI0, HK, HB⟩ := hrel
  cases gk with
  | zero => exact absurd HA.out (by simp [Yh.l0])
  | succ k1 =>
   have H := HA.out
   clear HA
   simp only [Yh.l0] at H
   replace H := Option.bind_eq_some_iff.mp H
   obtain ⟨⟨t115, t116, t117, t118, t119⟩, A120, H⟩ := H
   replace H : (if t115 = true then ((Yp.f k1 t116 t117 t118 t119 a1).bind fun bt120 => (Yh.l0 k1 a1 bt120.2.2.2.2.1 bt120.2.2.2.2.2.1 bt120.2.2.2.2.2.2.1 bt120.2.2.2.2.2.2.2 4 (⟨#[]⟩ : ByteArray) ([] : List ByteArray) (([(⟨x115000_1, x115001_1, x115002_1, x115003_1⟩ : S37), (⟨bt120.1, bt120.2.1, bt120.2.2.1, bt120.2.2.2.1⟩ : S37)] : List (S37))))) else (some (x115000_1, x115001_1, x115002_1, x115003_1, t116, t117, t118, t119))) = some (r1, r2, r3, r4, r5, r6, r7, r8) := H
   have A12 := Y0.mk A120
   clear A120
   by_cases c13 : t115 = true
   ·subst c13
    have H1 : ((Yp.f k1 t116 t117 t118 t119 a1).bind fun bt120 => (Yh.l0 k1 a1 bt120.2.2.2.2.1 bt120.2.2.2.2.2.1 bt120.2.2.2.2.2.2.1 bt120.2.2.2.2.2.2.2 4 (⟨#[]⟩ : ByteArray) ([] : List ByteArray) (([(⟨x115000_1, x115001_1, x115002_1, x115003_1⟩ : S37), (⟨bt120.1, bt120.2.1, bt120.2.2.1, bt120.2.2.2.1⟩ : S37)] : List (S37))))) = some (r1, r2, r3, r4, r5, r6, r7, r8) := by rw [if_pos rfl] at H; exact H
    clear H
    have H := H1
    clear H1
    replace H := Option.bind_eq_some_iff.mp H
    obtain ⟨⟨t120, t121, t122, t125, t128, t129, t130, t131⟩, A140, H⟩ := H
    replace H : (Yh.l0 k1 a1 t128 t129 t130 t131 4 (⟨#[]⟩ : ByteArray) ([] : List ByteArray) (([(⟨x115000_1, x115001_1, x115002_1, x115003_1⟩ : S37), (⟨t120, t121, t122, t125⟩ : S37)] : List (S37)))) = some (r1, r2, r3, r4, r5, r6, r7, r8) := H
    have A14 := Y0.mk A140
    clear A140
    obtain ⟨y132, hy132⟩ : ∃ y_ : List (S37), y_ = (([(⟨x115000_1, x115001_1, x115002_1, x115003_1⟩ : S37), (⟨t120, t121, t122, t125⟩ : S37)] : List (S37))) := ⟨_, rfl⟩
    replace H : (Yh.l0 k1 a1 t128 t129 t130 t131 4 (⟨#[]⟩ : ByteArray) ([] : List ByteArray) y132) = some (r1, r2, r3, r4, r5, r6, r7, r8) := by first | (rw [hy132]; with_reducible exact H) | (have H2_ := (Option.bind_some _ _).symm.trans H; rw [hy132]; with_reducible exact H2_) | (have H2_ := (Option.bind_some _ _).symm.trans H; with_reducible exact H2_) | with_reducible exact H | (rw [hy132]; exact H) | exact H
    have Ny132 := Y0.mk hy132
    clear hy132
    have H' := Y0.mk H
    clear H
    try go_wp2_with (first | ((with_reducible refine Yn (f := 97) rfl ?_); refine YO (some 10) rfl rfl Tryd.func97 Z6 rfl #[.pointer (some ⟨g, 0, none⟩), .int .u8 124] rfl Z0 ?_; (with_reducible refine (Yl.calls k1 g x1000_1 x1001_1 x1002_1 x1003_1 124 true t116 t117 t118 t119 w0 _ ?side1 ?side2 A12.out).mono ?_); (case side1 => exact Z1n); (case side2 => exact QB); rintro e w15 ⟨rfl, hi, hb, hk⟩; refine ⟨_, rfl, ?_⟩; have n0_ := Y0.mk (Kd.R_mono (Kd.R_keep (YB.apart (show YB w0 _ g x1000_1 x1001_1 x1002_1 x1003_1 from QI81_0) Zt (by decide)) hk (fun _ h => h.2)) (fun _ h => h.1)); have n1_ := Y0.mk (Kd.N_mono (Kd.N_keep (Kd.N_mono (ok := fun k_ => (((w.heap.size ≤ k_)) ∧ (some k_ ≠ (u115002 : Value).ownBlock ∧ (k_ ≠ gb101 ∧ (k_ ≠ gb114 ∧ k_ ≠ g))))) ZC (fun k_ hk_ => (⟨hk_, hk_.2.2.2.2⟩ : _ ∧ k_ ≠ g))) hk (fun _ h => h.2)) (fun _ h => h.1)); have n2_ := Y0.mk (Y1.blk hk (g' := gb101) (o := .cells #[.int .i64 0, .string (⟨#[]⟩ : ByteArray), .slice none 0 0, .slice none 0 0] 37 (0, 0)) QQ NB101_0.out (by simp)); have n3_ := Y0.mk (Y1.blk hk (g' := gb114) (o := .cells #[.int .i64 x115000_1, .string x115001_1, u115002, u115003] 37 (0, 0)) QQ NB114_0.out (by simp)); have n4_ := Y0.mk (Y1.trans QK hk (.inl rfl)); have n5_ := Y0.mk (hb); have n6_ := Y0.mk (hi); clear HO_115002 HO_115003 BK101 BK114 HK HB HI0; have HO_115002 := n0_; have HO_115003 := n1_; have BK101 := n2_; have BK114 := n3_; have HK := n4_; have HB := n5_; have HI0 := n6_; clear n0_ n1_ n2_ n3_ n4_ n5_ n6_; (try clear hb); (try clear hb2); (try clear hk); (try clear hi)))
    have n_ := put7 (Kd.R_drew HO_115002.out) (Kd.N_drew HO_115003.out) (Ya BK101.out) (Ya BK114.out) (YB.drew HI0.out) (Y1F HK.out) (YP HB.out)
    clear HO_115002
    clear HO_115003
    clear BK101
    clear BK114
    clear HI0
    clear HK
    clear HB
    obtain ⟨HO_115002, HO_115003, BK101, BK114, HI0, HK, HB⟩ := n_
    refine Y1l (n := 7) (S := fun w' => w'.cell? ⟨gb114, 0, none⟩ = some (.int .i64 x115000_1) ∧ w'.cell? ⟨gb114, 1, none⟩ = some (.string x115001_1) ∧ w'.cell? ⟨gb114, 2, none⟩ = some (u115002) ∧ w'.cell? ⟨gb114, 3, none⟩ = some (u115003)) (ds := [6]) bz7_0 Z6 rfl rfl ⟨(Y2 BK114.out 0).trans rfl, (Y2 BK114.out 1).trans rfl, (Y2 BK114.out 2).trans rfl, (Y2 BK114.out 3).trans rfl⟩ (fun hHeld => ?_)
    generalize w15.drew = w16 at HO_115002 HO_115003 BK101 BK114 HI0 HK HB hHeld ⊢
    refine Y42 (i := 1) (N := some 12) (v := ?_) (a' := ?_) bz7_2 rfl rfl Z6 (fun _ _ _ h => h) (Or.inl ⟨by rfl, ?_⟩) ?_ ?_
    rotate_left
    ·intro w'
     go_simp
     with_reducible rfl
    rotate_left
    ·simp only [Act.put, List.setIfInBounds_toArray, List.set_cons_zero, List.set_cons_succ, Y16, Y17]
     rfl
    refine Y42 (i := 2) (N := some 13) (v := ?_) (a' := ?_) bz7_6 rfl rfl Z6 (fun _ _ _ h => h) (Or.inl ⟨by rfl, ?_⟩) ?_ ?_
    rotate_left
    ·intro w'
     go_simp
     with_reducible rfl
    rotate_left
    ·simp only [Act.put, List.setIfInBounds_toArray, List.set_cons_zero, List.set_cons_succ, Y16, Y17]
     rfl
    refine Y64 (i := 0) (N := some 11) (v := ?_) (a' := ?_) bz7_7 rfl rfl Z6 (fun _ _ _ h => h) (Or.inl ⟨by rfl, ?_⟩) hHeld ?_ ?_
    rotate_left
    ·rintro w' ⟨s0, s1, s2, s3⟩
     go_simp
     with_reducible rfl
    rotate_left
    ·simp only [Act.put, List.setIfInBounds_toArray, List.set_cons_zero, List.set_cons_succ, Y16, Y17]
     rfl
    refine Y2T (i := 3) (N := some 14) bz7_f rfl rfl Z6 (by decide) (fun K hK => ?_)
    refine Y21 Tryd.func96 Z6 rfl #[.pointer (some ⟨g, 0, none⟩), .int .i64 a1] (by rfl) rfl rfl Z0 ?_
    with_reducible refine ((ih k1 Z13).2.1 g t116 t117 t118 t119 a1 t120 t121 t122 t125 t128 t129 t130 t131 w0 _ ?side1 ?side2 ?side3 A14.out).mono ?_
    (case side1 => exact Z1n)
    (case side2 => exact QB)
    (case side3 => exact Z1O)
    rintro e w17 ⟨v123, v126, rfl, ho0, ho1, hi, hb, hk⟩
    refine ⟨_, rfl, ?_⟩
    have n0_ := Y0.mk (Kd.R_mono (Kd.R_told (Kd.R_oldK (YB.apart (show YB w0 _ g t116 t117 t118 t119 from QI81_0) Zt (by decide)) hk) (Kd.R_base ho0)) (fun _ h_ => h_.1))
    have n1_ := Y0.mk (Kd.N_mono (Kd.N_told (Kd.N_told (Kd.N_oldK (Kd.N_mono (ok := fun k_ => (((w.heap.size ≤ k_)) ∧ (some k_ ≠ (u115002 : Value).ownBlock ∧ (k_ ≠ gb101 ∧ (k_ ≠ gb114 ∧ k_ ≠ g))))) ZC (fun k_ hk_ => (⟨hk_, hk_.2.2.2.2⟩ : _ ∧ k_ ≠ g))) hk) (Kd.R_base ho0)) (Kd.N_base ho1)) (fun _ h_ => h_.1))
    have n2_ := Y0.mk (Y1.blk hk (g' := gb101) (o := .cells #[.int .i64 0, .string (⟨#[]⟩ : ByteArray), .slice none 0 0, .slice none 0 0] 37 (0, 0)) QQ NB101_0.out (by simp))
    have n3_ := Y0.mk (Y1.blk hk (g' := gb114) (o := .cells #[.int .i64 x115000_1, .string x115001_1, u115002, u115003] 37 (0, 0)) QQ NB114_0.out (by simp))
    have n4_ := Y0.mk (Kd.R_lower (Kd.R_new' (Kd.R_newM (M := fun k_ => (w.heap.size ≤ k_)) (Kd.R_mono (ok' := fun k_ => True) ho0 (fun _ hk_ => trivial)) (Y8 (w := w) (g := g) (row := none) QK) (fun k_ h_ => h_)) (Kd.R_lt Zt)) (Y8 (w := w) (g := g) (row := none) QK))
    have n5_ := Y0.mk (Kd.N_lower (Kd.N_mono (ok' := fun k_ => (w.heap.size ≤ k_) ∧ some k_ ≠ (v123 : Value).ownBlock ∧ some k_ ≠ (u115002 : Value).ownBlock ∧ some k_ ≠ (u115003 : Value).ownBlock ∧ k_ ≠ gb101 ∧ k_ ≠ gb114 ∧ k_ ≠ g) ho1 (fun k_ hk_ => ⟨(Nat.le_trans (Y8 (w := w) (g := g) (row := none) QK) hk_.1), hk_.2, (Kd.fresh' (Kd.R_lt Zt) k_ hk_.1), (Kd.fresh' (Kd.N_lt ZC) k_ hk_.1), (Kd.freshB (g := gb101) (o := .cells #[.int .i64 0, .string (⟨#[]⟩ : ByteArray), .slice none 0 0, .slice none 0 0] 37 (0, 0)) QQ k_ hk_.1), (Kd.freshB (g := gb114) (o := .cells #[.int .i64 x115000_1, .string x115001_1, u115002, u115003] 37 (0, 0)) QQ k_ hk_.1), (YB.fresh QI81_0 k_ hk_.1)⟩)) (Y8 (w := w) (g := g) (row := none) QK))
    have n6_ := Y0.mk (Y1.trans QK hk (.inl rfl))
    have n7_ := Y0.mk (hb)
    have n8_ := Y0.mk (hi)
    clear HO_115002
    clear HO_115003
    clear BK101
    clear BK114
    clear HK
    clear HB
    clear HI0
    have HO_115002 := n0_
    have HO_115003 := n1_
    have BK101 := n2_
    have BK114 := n3_
    have HO124 := n4_
    have HO127 := n5_
    have HK := n6_
    have HB := n7_
    have HI0 := n8_
    clear n0_ n1_ n2_ n3_ n4_ n5_ n6_ n7_ n8_
    (try clear hb)
    (try clear hb2)
    (try clear hk)
    (try clear hi)
    (try clear ho0)
    (try clear ho1)
    obtain ⟨Ao18, co18, eo18⟩ := Kd.R_slice HO_115002.out
    (first | subst eo18 | (injection eo18 with f1_ f2_ f3_; have f4_ := f1_.symm; have f5_ := f3_.symm; clear f1_ f2_ f3_; subst f4_; subst f5_))
    obtain ⟨Ao19, co19, eo19⟩ := Kd.N_slice HO_115003.out
    (first | subst eo19 | (injection eo19 with f1_ f2_ f3_; have f4_ := f1_.symm; have f5_ := f3_.symm; clear f1_ f2_ f3_; subst f4_; subst f5_))
    obtain ⟨Ao20, co20, eo20⟩ := Kd.R_slice HO124.out
    (first | subst eo20 | (injection eo20 with f1_ f2_ f3_; have f4_ := f1_.symm; have f5_ := f3_.symm; clear f1_ f2_ f3_; subst f4_; subst f5_))
    obtain ⟨Ao21, co21, eo21⟩ := Kd.N_slice HO127.out
    (first | subst eo21 | (injection eo21 with f1_ f2_ f3_; have f4_ := f1_.symm; have f5_ := f3_.symm; clear f1_ f2_ f3_; subst f4_; subst f5_))
    refine hK.out _ _ ⟨(Y2 BK114.out 0).trans rfl, (Y2 BK114.out 1).trans rfl, (Y2 BK114.out 2).trans rfl, (Y2 BK114.out 3).trans rfl⟩ (fun hHeld => ?_)
    clear hK K
    refine Y1H (a' := ?_) ?_ ?_
    rotate_left
    ·show Act.put _ (some 14) _ = _
     simp only [Act.put, List.setIfInBounds_toArray, List.set_cons_zero, List.set_cons_succ, Y16, Y17]
     rfl
    refine Y2T (i := 4) (N := some 15) Y6k rfl rfl Z6 (by decide) (fun K hK => ?_)
    refine Kd.N_lit_step k37 _ 37 ?hg (N' := 15) ?hd (xs := ([(⟨x115000_1, x115001_1, x115002_1, x115003_1⟩ : S37), (⟨t120, t121, t122, t125⟩ : S37)] : List (S37))) (inner := [.int .i64 x115000_1, .string x115001_1, .slice Ao18 x115002_1.length co18, .slice Ao19 x115003_1.length co19, .int .i64 t120, .string t121, .slice Ao20 t122.length co20, .slice Ao21 t125.length co21]) (ok := (fun k_ => (w.heap.size ≤ k_) ∧ k_ ≠ gb101 ∧ k_ ≠ gb114 ∧ k_ ≠ g)) (okp := (fun k_ => (w.heap.size ≤ k_) ∧ k_ ≠ gb101 ∧ k_ ≠ gb114 ∧ k_ ≠ g)) ?hr ?hp (fun _ hk => hk) ((show ∀ k_, w17.heap.size ≤ k_ → (fun k_ => (w.heap.size ≤ k_) ∧ k_ ≠ gb101 ∧ k_ ≠ gb114 ∧ k_ ≠ g) k_ from fun k_ hk => ⟨(Nat.le_trans (Y8 (w := w) (g := g) (row := none) QK) hk), Kd.freshB (g := gb101) (o := .cells #[.int .i64 0, .string (⟨#[]⟩ : ByteArray), .slice none 0 0, .slice none 0 0] 37 (0, 0)) QQ k_ hk, Kd.freshB (g := gb114) (o := .cells #[.int .i64 x115000_1, .string x115001_1, .slice Ao18 x115002_1.length co18, .slice Ao19 x115003_1.length co19] 37 (0, 0)) QQ k_ hk, YB.fresh QI81_0 k_ hk⟩) _ (Nat.le_refl _)) (Below.refl _ _) (Nat.le_refl _) (by simp) ?_; (case hd => rfl); (case hg => rfl); (case hr => exact Za); (case hp => exact (Y1E.c4 (show Kd.FK k37 _ _ (⟨x115000_1, x115001_1, x115002_1, x115003_1⟩ : S37) [.int .i64 x115000_1, .string x115001_1, .slice Ao18 x115002_1.length co18, .slice Ao19 x115003_1.length co19] from (Y2d _ _ (⟨x115000_1, x115001_1, x115002_1, x115003_1⟩ : S37) (Kd.R_reads' (Kd.R_mono (ok' := (fun k_ => (w.heap.size ≤ k_) ∧ k_ ≠ gb101 ∧ k_ ≠ gb114 ∧ k_ ≠ g)) (YB.apart HI0.out (Kd.R_types (Kd.R_types (HO_115002.out) BK101.out (by decide)) BK114.out (by decide)) (by decide)) (fun k_ hk => ⟨hk.1.1.1.1, ⟨hk.1.1.2, ⟨hk.1.2, hk.2⟩⟩⟩))).2.1 (Kd.R_F (Kd.R_mono (ok' := (fun k_ => (w.heap.size ≤ k_) ∧ k_ ≠ gb101 ∧ k_ ≠ gb114 ∧ k_ ≠ g)) (YB.apart HI0.out (Kd.R_types (Kd.R_types (HO_115002.out) BK101.out (by decide)) BK114.out (by decide)) (by decide)) (fun k_ hk => ⟨hk.1.1.1.1, ⟨hk.1.1.2, ⟨hk.1.2, hk.2⟩⟩⟩))) (Kd.N_reads' (Kd.N_mono (ok' := (fun k_ => (w.heap.size ≤ k_) ∧ k_ ≠ gb101 ∧ k_ ≠ gb114 ∧ k_ ≠ g)) (HO_115003.out) (fun k_ hk => ⟨hk.1.1.1, ⟨hk.1.1.2.2.1, ⟨hk.1.1.2.2.2.1, hk.1.1.2.2.2.2⟩⟩⟩))).2.1 (Kd.N_F (Kd.N_mono (ok' := (fun k_ => (w.heap.size ≤ k_) ∧ k_ ≠ gb101 ∧ k_ ≠ gb114 ∧ k_ ≠ g)) (HO_115003.out) (fun k_ hk => ⟨hk.1.1.1, ⟨hk.1.1.2.2.1, ⟨hk.1.1.2.2.2.1, hk.1.1.2.2.2.2⟩⟩⟩))))) (Y1E.c4 (show Kd.FK k37 _ _ (⟨t120, t121, t122, t125⟩ : S37) [.int .i64 t120, .string t121, .slice Ao20 t122.length co20, .slice Ao21 t125.length co21] from (Y2d _ _ (⟨t120, t121, t122, t125⟩ : S37) (Kd.R_reads' (Kd.R_mono (ok' := (fun k_ => (w.heap.size ≤ k_) ∧ k_ ≠ gb101 ∧ k_ ≠ gb114 ∧ k_ ≠ g)) (YB.apart HI0.out (Kd.R_types (Kd.R_types (HO124.out) BK101.out (by decide)) BK114.out (by decide)) (by decide)) (fun k_ hk => ⟨hk.1.1.1.1.1, ⟨hk.1.1.2, ⟨hk.1.2, hk.2⟩⟩⟩))).2.1 (Kd.R_F (Kd.R_mono (ok' := (fun k_ => (w.heap.size ≤ k_) ∧ k_ ≠ gb101 ∧ k_ ≠ gb114 ∧ k_ ≠ g)) (YB.apart HI0.out (Kd.R_types (Kd.R_types (HO124.out) BK101.out (by decide)) BK114.out (by decide)) (by decide)) (fun k_ hk => ⟨hk.1.1.1.1.1, ⟨hk.1.1.2, ⟨hk.1.2, hk.2⟩⟩⟩))) (Kd.N_reads' (Kd.N_mono (ok' := (fun k_ => (w.heap.size ≤ k_) ∧ k_ ≠ gb101 ∧ k_ ≠ gb114 ∧ k_ ≠ g)) (HO127.out) (fun k_ hk => ⟨hk.1, ⟨hk.2.2.2.2.1, ⟨hk.2.2.2.2.2.1, hk.2.2.2.2.2.2⟩⟩⟩))).2.1 (Kd.N_F (Kd.N_mono (ok' := (fun k_ => (w.heap.size ≤ k_) ∧ k_ ≠ gb101 ∧ k_ ≠ gb114 ∧ k_ ≠ g)) (HO127.out) (fun k_ hk => ⟨hk.1, ⟨hk.2.2.2.2.1, ⟨hk.2.2.2.2.2.1, hk.2.2.2.2.2.2⟩⟩⟩))))) (Y1E.none _ _))))
    intro v133 w22 ho23 hb hg_ hnew_
    clear hg_ hnew_
    (first | rw [← Ny132.out] at ho23 | (simp only [Int.reduceToNat] at ho23; rw [← Ny132.out] at ho23))
    have n_ := Y3w (Kd.N_lower ho23 (Y8 (w := w) (g := g) (row := none) QK)) (Yu (g := gb101) (o := .cells #[.int .i64 0, .string (⟨#[]⟩ : ByteArray), .slice none 0 0, .slice none 0 0] 37 (0, 0)) QQ hb) (Yu (g := gb114) (o := .cells #[.int .i64 x115000_1, .string x115001_1, .slice Ao18 x115002_1.length co18, .slice Ao19 x115003_1.length co19] 37 (0, 0)) QQ hb) (YB.below QI81_0 hb) (Y1.trans QK (Y1.of_below hb g none) (.inl rfl)) (Yb QB hb)
    clear BK101
    clear BK114
    clear HI0
    clear HK
    clear HB
    clear HO124
    clear HO127
    clear HO_115002
    clear HO_115003
    obtain ⟨HO134, BK101, BK114, HI0, HK, HB⟩ := n_
    clear hb ho23
    obtain ⟨Ao24, co24, eo24⟩ := Kd.N_slice HO134.out
    (first | subst eo24 | (injection eo24 with f1_ f2_ f3_; have f4_ := f1_.symm; have f5_ := f3_.symm; clear f1_ f2_ f3_; subst f4_; subst f5_))
    refine hK.out _ _ ⟨(Y2 BK114.out 0).trans rfl, (Y2 BK114.out 1).trans rfl, (Y2 BK114.out 2).trans rfl, (Y2 BK114.out 3).trans rfl⟩ (fun hHeld => ?_)
    clear hK K
    refine Y1H (a' := ?_) ?_ ?_
    rotate_left
    ·show Act.put _ (some 15) _ = _
     simp only [Act.put, List.setIfInBounds_toArray, List.set_cons_zero, List.set_cons_succ, Y16, Y17]
     rfl
    refine Y42 (i := 5) (N := some 16) (v := ?_) (a' := ?_) Y6l rfl rfl Z6 (fun _ _ _ h => h) (Or.inl ⟨by rfl, ?_⟩) ?_ ?_
    rotate_left
    ·intro w'
     go_simp
     with_reducible rfl
    rotate_left
    ·simp only [Act.put, List.setIfInBounds_toArray, List.set_cons_zero, List.set_cons_succ, Y16, Y17]
     rfl
    refine Y6G (i := 6) (N := none) Y6m rfl rfl Z6 (by decide) (fun K hK => ?_)
    have hs25 : w22.cell? ⟨gb114, 0, none⟩ = some (.int .i64 x115000_1) := (Y2 BK114.out 0).trans rfl
    have hfs25 := Y7 BK114.out 0
    have hns25_0 := NB101_114.out
    have hms25_0 := NB114_101.out
    have hs26 : w22.cell? ⟨gb114, 1, none⟩ = some (.string x115001_1) := (Y2 BK114.out 1).trans rfl
    have hfs26 := Y7 BK114.out 1
    have hns26_0 := NB101_114.out
    have hms26_0 := NB114_101.out
    have hs27 : w22.cell? ⟨gb114, 2, none⟩ = some (.slice Ao18 x115002_1.length co18) := (Y2 BK114.out 2).trans rfl
    have hfs27 := Y7 BK114.out 2
    have hns27_0 := NB101_114.out
    have hms27_0 := NB114_101.out
    have hs28 : w22.cell? ⟨gb114, 3, none⟩ = some (.slice Ao19 x115003_1.length co19) := (Y2 BK114.out 3).trans rfl
    have hfs28 := Y7 BK114.out 3
    have hns28_0 := NB101_114.out
    have hms28_0 := NB114_101.out
    refine Y4V (w1 := ?_) (by rfl) rfl ?_ ?_
    rotate_left
    ·go_simp
     rfl
    refine hK.out _ _ ?_
    clear hK K
    refine Y1Q Z6 ?_
    try go_wp2
    go_roundg k1
    case measure => have := HK1.out; omega
    case rel => exact ⟨(t128), (t129), (t130), (t131), (4), ((⟨#[]⟩ : ByteArray)), (([] : List ByteArray)), (y132), (.slice none 0 0), (.slice Ao24 y132.length co24), H', ⟨Z13⟩, ⟨Z5⟩, ⟨ZH⟩, ⟨Zj⟩, ⟨Zw⟩, ⟨QI81_0⟩, ⟨QK⟩, ⟨QB⟩⟩
   ·replace c13 := Bool.eq_false_iff.mpr c13
    subst c13
    have H1 : (some (x115000_1, x115001_1, x115002_1, x115003_1, t116, t117, t118, t119)) = some (r1, r2, r3, r4, r5, r6, r7, r8) := by rw [if_neg (show ¬ (false = true) by decide)] at H; exact H
    clear H
    have H := H1
    clear H1
    simp only [Option.some.injEq, Prod.mk.injEq] at H
    obtain ⟨rfl, rfl, rfl, rfl, rfl, rfl, rfl, rfl⟩ := H
    go_wp2_with (first | ((with_reducible refine Yn (f := 97) rfl ?_); refine YO (some 10) rfl rfl Tryd.func97 Z6 rfl #[.pointer (some ⟨g, 0, none⟩), .int .u8 124] rfl Z0 ?_; (with_reducible refine (Yl.calls k1 g x1000_1 x1001_1 x1002_1 x1003_1 124 false t116 t117 t118 t119 w0 _ ?side1 ?side2 A12.out).mono ?_); (case side1 => exact Z1n); (case side2 => exact QB); rintro e w29 ⟨rfl, hi, hb, hk⟩; refine ⟨_, rfl, ?_⟩; have n0_ := Y0.mk (Kd.R_mono (Kd.R_keep (YB.apart (show YB w0 _ g x1000_1 x1001_1 x1002_1 x1003_1 from QI81_0) Zt (by decide)) hk (fun _ h => h.2)) (fun _ h => h.1)); have n1_ := Y0.mk (Kd.N_mono (Kd.N_keep (Kd.N_mono (ok := fun k_ => (((w.heap.size ≤ k_)) ∧ (some k_ ≠ (u115002 : Value).ownBlock ∧ (k_ ≠ gb101 ∧ (k_ ≠ gb114 ∧ k_ ≠ g))))) ZC (fun k_ hk_ => (⟨hk_, hk_.2.2.2.2⟩ : _ ∧ k_ ≠ g))) hk (fun _ h => h.2)) (fun _ h => h.1)); have n2_ := Y0.mk (Y1.blk hk (g' := gb101) (o := .cells #[.int .i64 0, .string (⟨#[]⟩ : ByteArray), .slice none 0 0, .slice none 0 0] 37 (0, 0)) QQ NB101_0.out (by simp)); have n3_ := Y0.mk (Y1.blk hk (g' := gb114) (o := .cells #[.int .i64 x115000_1, .string x115001_1, u115002, u115003] 37 (0, 0)) QQ NB114_0.out (by simp)); have n4_ := Y0.mk (Y1.trans QK hk (.inl rfl)); have n5_ := Y0.mk (hb); have n6_ := Y0.mk (hi); clear HO_115002 HO_115003 BK101 BK114 HK HB HI0; have HO_115002 := n0_; have HO_115003 := n1_; have BK101 := n2_; have BK114 := n3_; have HK := n4_; have HB := n5_; have HI0 := n6_; clear n0_ n1_ n2_ n3_ n4_ n5_ n6_; (try clear hb); (try clear hb2); (try clear hk); (try clear hi); have hnb30 := NB114_101.out; have hnc30 := NB101_114.out; have hnb31 := NB114_0.out; have hnc31 := NB0_114.out; obtain ⟨hcz32_0, hcz32_1, hcz32_2, hcz32_3, hfz32_0, hfz32_1, hfz32_2, hfz32_3⟩ := YA BK114.out; have hnb33 := NB101_0.out; have hnc33 := NB0_101.out; obtain ⟨hcz34_0, hcz34_1, hcz34_2, hcz34_3, hfz34_0, hfz34_1, hfz34_2, hfz34_3⟩ := YA BK101.out; obtain ⟨Ao35, co35, eo35⟩ := Kd.R_slice HO_115002.out; subst eo35; obtain ⟨Ao36, co36, eo36⟩ := Kd.N_slice HO_115003.out; subst eo36))
    refine bodyPost_ret (results_cell_row rfl _ _ gb101 37 #[.int .i64 x115000_1, .string x115001_1, .slice Ao35 x115002_1.length co35, .slice Ao36 x115003_1.length co36] (0, 0) _ rfl Z22 Tryd.underlying37 rfl Z6) rfl ?_
    exact ⟨_, _, Z2, ZV, ZN, QI81_0, QB, QK⟩
set_option maxHeartbeats 8000000 in
set_option maxRecDepth 100000 in
theorem Yp.step (k : Nat) (ih : ∀ j_ < k, Yh.Spec j_ ∧ Yp.Spec j_ ∧ Y9.Spec j_ ∧ Yc.Spec j_) : ∀ (g : Nat) (s0_0 : ByteArray) (s0_1 : Int) (s0_2 : Int) (s0_3 : Int) (a1 : Int) (r1 : Int) (r2 : ByteArray) (r3 : List ByteArray) (r4 : List (S37)) (r5 : ByteArray) (r6 : Int) (r7 : Int) (r8 : Int) (w0 w : World) (hI : YB w0 w g s0_0 s0_1 s0_2 s0_3) (hB : Below w0.heap.size w0 w) (hT : Tabs w0) (h : Yp.f k s0_0 s0_1 s0_2 s0_3 a1 = some (r1, r2, r3, r4, r5, r6, r7, r8)),
  Calls Tryd.prog 96 #[.pointer (some ⟨g, 0, none⟩), .int .i64 a1] w fun e w' => ∃ v2_ v3_ : Value, e = .returned (.agg #[.int .i64 r1, .string r2, v2_, v3_]) ∧ Kd.R Kd.string 9 w' w.heap.size (fun k_ => (w.heap.size ≤ k_)) v2_ r3 ∧ Kd.N k37 37 w' w.heap.size (fun k_ => (w.heap.size ≤ k_) ∧ some k_ ≠ (v2_ : Value).ownBlock) v3_ r4 ∧ YB w0 w' g r5 r6 r7 r8 ∧ Below w0.heap.size w0 w' ∧ Y1 w w' g none := by
 intro g s0_0 s0_1 s0_2 s0_3 a1 r1 r2 r3 r4 r5 r6 r7 r8 w0 w hI hB hT h
 cases k with
 | zero => exact absurd h (by simp [Yp.f])
 | succ k =>
 simp only [Yp.f] at h
 have HT := Y0.mk hT
 clear hT
 have hu37 := Tryd.underlying37
 have HI0 := Y0.mk hI
 have HK := Y0.mk (Y1.refl w g none)
 have HL := Y0.mk hB.size
 clear hI
 have HW0 := Y0.mk hB.size
 have HB := Y0.mk hB
 clear hB
 have H : ((Y9.f k s0_0 s0_1 s0_2 s0_3 a1).bind fun bt136 => (Yp.l0 k a1 bt136.2.2.2.2.1 bt136.2.2.2.2.2.1 bt136.2.2.2.2.2.2.1 bt136.2.2.2.2.2.2.2 bt136.1 bt136.2.1 bt136.2.2.1 bt136.2.2.2.1)) = some (r1, r2, r3, r4, r5, r6, r7, r8) := h
 clear h
 replace H := Option.bind_eq_some_iff.mp H
 obtain ⟨⟨t136, t137, t138, t141, t144, t145, t146, t147⟩, A30, H⟩ := H
 replace H : (Yp.l0 k a1 t144 t145 t146 t147 t136 t137 t138 t141) = some (r1, r2, r3, r4, r5, r6, r7, r8) := H
 have A3 := Y0.mk A30
 clear A30
 have H' := Y0.mk H
 clear H
 go_enter Tryd.func96, Tryd.ntmps96
 go_wp2_with (first | ((with_reducible refine YF (N := 4) rfl ?_); refine YE ?hg (N := 4) ?hd (cs := #[.int .i64 0, .string (⟨#[]⟩ : ByteArray), .slice none 0 0, .slice none 0 0]) (t := 37) ?hr ?_; (case hd => rfl); (case hg => rfl); (case hr => exact Za); intro gb135 hg w4 hbox hb; have n_ := Y4q (YB.below QI81_0 hb) (Y1.trans QK (Y1.of_below hb g none) (.inl rfl)) (Yb QB hb) (hbox) ((by rw [hg]; exact (Y8 (w := w) (g := g) (row := none) QK) : w.heap.size ≤ gb135)) ((Nat.le_trans HW0.out (by rw [hg]; exact (Y8 (w := w) (g := g) (row := none) QK) : w.heap.size ≤ gb135) : w0.heap.size ≤ gb135)) ((by rw [hg]; exact Nat.ne_of_lt (YB.lt (show YB w0 _ g s0_0 s0_1 s0_2 s0_3 from QI81_0)) : g ≠ gb135)) ((by rw [hg]; exact Nat.ne_of_gt (YB.lt (show YB w0 _ g s0_0 s0_1 s0_2 s0_3 from QI81_0)) : gb135 ≠ g)); clear HI0 HK HB; obtain ⟨HI0, HK, HB, BK135, GW135, GE135, NB0_135, NB135_0⟩ := n_; clear hb hbox hg) | ((with_reducible refine Yn (f := 113) rfl ?_); refine YO (some 8) rfl rfl Tryd.func113 Z6 rfl #[.pointer (some ⟨g, 0, none⟩), .int .i64 a1] rfl Z0 ?_; (with_reducible refine ((ih k (by omega)).2.2.1 g s0_0 s0_1 s0_2 s0_3 a1 t136 t137 t138 t141 t144 t145 t146 t147 w0 _ ?side1 ?side2 ?side3 A3.out).mono ?_); (case side1 => exact Z1n); (case side2 => exact QB); (case side3 => exact Z1O); rintro e w5 ⟨v139, v142, rfl, ho0, ho1, hi, hb, hk⟩; refine ⟨_, rfl, ?_⟩; have n0_ := Y0.mk (Y1.blk hk (g' := gb135) (o := .cells #[.int .i64 0, .string (⟨#[]⟩ : ByteArray), .slice none 0 0, .slice none 0 0] 37 (0, 0)) QQ NB135_0.out (by simp)); have n1_ := Y0.mk (Kd.R_lower (Kd.R_newM (M := fun k_ => (w.heap.size ≤ k_)) (Kd.R_mono (ok' := fun k_ => True) ho0 (fun _ hk_ => trivial)) (Y8 (w := w) (g := g) (row := none) QK) (fun k_ h_ => h_)) (Y8 (w := w) (g := g) (row := none) QK)); have n2_ := Y0.mk (Kd.N_lower (Kd.N_mono (ok' := fun k_ => (w.heap.size ≤ k_) ∧ some k_ ≠ (v139 : Value).ownBlock ∧ k_ ≠ gb135 ∧ k_ ≠ g) ho1 (fun k_ hk_ => ⟨(Nat.le_trans (Y8 (w := w) (g := g) (row := none) QK) hk_.1), hk_.2, (Kd.freshB (g := gb135) (o := .cells #[.int .i64 0, .string (⟨#[]⟩ : ByteArray), .slice none 0 0, .slice none 0 0] 37 (0, 0)) QQ k_ hk_.1), (YB.fresh QI81_0 k_ hk_.1)⟩)) (Y8 (w := w) (g := g) (row := none) QK)); have n3_ := Y0.mk (Y1.trans QK hk (.inl rfl)); have n4_ := Y0.mk (hb); have n5_ := Y0.mk (hi); clear BK135 HK HB HI0; have BK135 := n0_; have HO140 := n1_; have HO143 := n2_; have HK := n3_; have HB := n4_; have HI0 := n5_; clear n0_ n1_ n2_ n3_ n4_ n5_; (try clear hb); (try clear hb2); (try clear hk); (try clear hi); (try clear ho0); (try clear ho1)) | ((with_reducible refine YF (N := 5) rfl ?_); refine YE ?hg (N := 5) ?hd (cs := #[.int .i64 0, .string (⟨#[]⟩ : ByteArray), .slice none 0 0, .slice none 0 0]) (t := 37) ?hr ?_; (case hd => rfl); (case hg => rfl); (case hr => exact Za); intro gb148 hg w6 hbox hb; have n0_ := Y0.mk (Kd.R_below Z1L hb); have n1_ := Y0.mk (Kd.N_below (Kd.N_elderB Z1I gb148 (Nat.le_of_eq hg.symm)) hb); have n2_ := Y0.mk (YB.below QI81_0 hb); have n3_ := Y0.mk (Yu (g := gb135) (o := .cells #[.int .i64 0, .string (⟨#[]⟩ : ByteArray), .slice none 0 0, .slice none 0 0] 37 (0, 0)) QQ hb); have n4_ := Y0.mk (Y1.trans QK (Y1.of_below hb g none) (.inl rfl)); have n5_ := Y0.mk (Yb QB hb); have n6_ := Y0.mk (hbox); have n7_ := Y0.mk ((by rw [hg]; exact (Y8 (w := w) (g := g) (row := none) QK) : w.heap.size ≤ gb148)); have n8_ := Y0.mk ((Nat.le_trans HW0.out (by rw [hg]; exact (Y8 (w := w) (g := g) (row := none) QK) : w.heap.size ≤ gb148) : w0.heap.size ≤ gb148)); have n9_ := Y0.mk ((by rw [hg]; exact Nat.ne_of_lt (Y15 (g := gb135) (o := .cells #[.int .i64 0, .string (⟨#[]⟩ : ByteArray), .slice none 0 0, .slice none 0 0] 37 (0, 0)) QQ) : gb135 ≠ gb148)); have n10_ := Y0.mk ((by rw [hg]; exact Nat.ne_of_gt (Y15 (g := gb135) (o := .cells #[.int .i64 0, .string (⟨#[]⟩ : ByteArray), .slice none 0 0, .slice none 0 0] 37 (0, 0)) QQ) : gb148 ≠ gb135)); have n11_ := Y0.mk ((by rw [hg]; exact Nat.ne_of_lt (YB.lt (show YB w0 _ g t144 t145 t146 t147 from QI81_0)) : g ≠ gb148)); have n12_ := Y0.mk ((by rw [hg]; exact Nat.ne_of_gt (YB.lt (show YB w0 _ g t144 t145 t146 t147 from QI81_0)) : gb148 ≠ g)); clear HO140 HO143 HI0 BK135 HK HB; have HO140 := n0_; have HO143 := n1_; have HI0 := n2_; have BK135 := n3_; have HK := n4_; have HB := n5_; have BK148 := n6_; have GW148 := n7_; have GE148 := n8_; have NB135_148 := n9_; have NB148_135 := n10_; have NB0_148 := n11_; have NB148_0 := n12_; clear n0_ n1_ n2_ n3_ n4_ n5_ n6_ n7_ n8_ n9_ n10_ n11_ n12_ hb hbox hg; have hnb7 := NB148_135.out; have hnc7 := NB135_148.out; have hnb8 := NB148_0.out; have hnc8 := NB0_148.out; obtain ⟨hcz9_0, hcz9_1, hcz9_2, hcz9_3, hfz9_0, hfz9_1, hfz9_2, hfz9_3⟩ := YA BK148.out; obtain ⟨Ao10, co10, eo10⟩ := Kd.R_slice HO140.out; subst eo10; obtain ⟨Ao11, co11, eo11⟩ := Kd.N_slice HO143.out; subst eo11))
 go_loopg [] k (fun kq w' => ∃ (x1000_1 : ByteArray) (x1001_1 : Int) (x1002_1 : Int) (x1003_1 : Int) (x149000_1 : Int) (x149001_1 : ByteArray) (x149002_1 : List ByteArray) (x149003_1 : List (S37)) (u149002 : Value) (u149003 : Value), Y0 (Yp.l0 kq a1 x1000_1 x1001_1 x1002_1 x1003_1 x149000_1 x149001_1 x149002_1 x149003_1 = some (r1, r2, r3, r4, r5, r6, r7, r8)) ∧ Y0 (kq ≤ k) ∧ Y0 (Kd.R Kd.string 9 w' w.heap.size (fun k_ => (w.heap.size ≤ k_)) u149002 x149002_1) ∧ Y0 (Kd.N k37 37 w' w.heap.size (fun k_ => (w.heap.size ≤ k_) ∧ some k_ ≠ (u149002 : Value).ownBlock ∧ k_ ≠ gb135 ∧ k_ ≠ gb148 ∧ k_ ≠ g) u149003 x149003_1) ∧ Y0 (w'.heap[gb135]? = some (.cells #[.int .i64 0, .string (⟨#[]⟩ : ByteArray), (.slice none 0 0), (.slice none 0 0)] 37 (0, 0))) ∧ Y0 (w'.heap[gb148]? = some (.cells #[.int .i64 x149000_1, .string x149001_1, u149002, u149003] 37 (0, 0))) ∧ Y0 (YB w0 w' g x1000_1 x1001_1 x1002_1 x1003_1) ∧ Y0 (Y1 w w' g none) ∧ Y0 (Below w0.heap.size w0 w'))
 case atStart => exact ⟨(t144), (t145), (t146), (t147), (t136), (t137), (t138), (t141), (.slice Ao10 t138.length co10), (.slice Ao11 t141.length co11), H', ⟨Nat.le_refl _⟩, ⟨Z11⟩, ⟨ZK⟩, ⟨Zk⟩, ⟨Z28⟩, ⟨QI81_0⟩, ⟨QK⟩, ⟨QB⟩⟩
 case round =>
  clear H'
  try clear c1
  try clear p2
  try clear c7
  try clear c8
  try clear c9
  try clear c11
  try clear hcz9_0 hcz9_1 hcz9_2 hcz9_3 hfz9_0 hfz9_1 hfz9_2 hfz9_3
  obtain ⟨x1000_1, x1001_1, x1002_1, x1003_1, x149000_1, x149001_1, x149002_1, x149003_1, u149002, u149003, HA, HK1, HO_149002, HO_149003, BK135, BK148, HI0, HK, HB⟩ := hrel
  cases gk with
  | zero => exact absurd HA.out (by simp [Yp.l0])
  | succ k1 =>
   have H := HA.out
   clear HA
   simp only [Yp.l0] at H
   replace H := Option.bind_eq_some_iff.mp H
   obtain ⟨⟨t149, t150, t151, t152, t153⟩, A120, H⟩ := H
   replace H : (if t149 = true then ((Y9.f k1 t150 t151 t152 t153 a1).bind fun bt154 => (Yp.l0 k1 a1 bt154.2.2.2.2.1 bt154.2.2.2.2.2.1 bt154.2.2.2.2.2.2.1 bt154.2.2.2.2.2.2.2 3 (⟨#[]⟩ : ByteArray) ([] : List ByteArray) (([(⟨x149000_1, x149001_1, x149002_1, x149003_1⟩ : S37), (⟨bt154.1, bt154.2.1, bt154.2.2.1, bt154.2.2.2.1⟩ : S37)] : List (S37))))) else (some (x149000_1, x149001_1, x149002_1, x149003_1, t150, t151, t152, t153))) = some (r1, r2, r3, r4, r5, r6, r7, r8) := H
   have A12 := Y0.mk A120
   clear A120
   by_cases c13 : t149 = true
   ·subst c13
    have H1 : ((Y9.f k1 t150 t151 t152 t153 a1).bind fun bt154 => (Yp.l0 k1 a1 bt154.2.2.2.2.1 bt154.2.2.2.2.2.1 bt154.2.2.2.2.2.2.1 bt154.2.2.2.2.2.2.2 3 (⟨#[]⟩ : ByteArray) ([] : List ByteArray) (([(⟨x149000_1, x149001_1, x149002_1, x149003_1⟩ : S37), (⟨bt154.1, bt154.2.1, bt154.2.2.1, bt154.2.2.2.1⟩ : S37)] : List (S37))))) = some (r1, r2, r3, r4, r5, r6, r7, r8) := by rw [if_pos rfl] at H; exact H
    clear H
    have H := H1
    clear H1
    replace H := Option.bind_eq_some_iff.mp H
    obtain ⟨⟨t154, t155, t156, t159, t162, t163, t164, t165⟩, A140, H⟩ := H
    replace H : (Yp.l0 k1 a1 t162 t163 t164 t165 3 (⟨#[]⟩ : ByteArray) ([] : List ByteArray) (([(⟨x149000_1, x149001_1, x149002_1, x149003_1⟩ : S37), (⟨t154, t155, t156, t159⟩ : S37)] : List (S37)))) = some (r1, r2, r3, r4, r5, r6, r7, r8) := H
    have A14 := Y0.mk A140
    clear A140
    obtain ⟨y166, hy166⟩ : ∃ y_ : List (S37), y_ = (([(⟨x149000_1, x149001_1, x149002_1, x149003_1⟩ : S37), (⟨t154, t155, t156, t159⟩ : S37)] : List (S37))) := ⟨_, rfl⟩
    replace H : (Yp.l0 k1 a1 t162 t163 t164 t165 3 (⟨#[]⟩ : ByteArray) ([] : List ByteArray) y166) = some (r1, r2, r3, r4, r5, r6, r7, r8) := by first | (rw [hy166]; with_reducible exact H) | (have H2_ := (Option.bind_some _ _).symm.trans H; rw [hy166]; with_reducible exact H2_) | (have H2_ := (Option.bind_some _ _).symm.trans H; with_reducible exact H2_) | with_reducible exact H | (rw [hy166]; exact H) | exact H
    have Ny166 := Y0.mk hy166
    clear hy166
    have H' := Y0.mk H
    clear H
    try go_wp2_with (first | ((with_reducible refine Yn (f := 97) rfl ?_); refine YO (some 10) rfl rfl Tryd.func97 Z6 rfl #[.pointer (some ⟨g, 0, none⟩), .int .u8 47] rfl Z0 ?_; (with_reducible refine (Yl.calls k1 g x1000_1 x1001_1 x1002_1 x1003_1 47 true t150 t151 t152 t153 w0 _ ?side1 ?side2 A12.out).mono ?_); (case side1 => exact Z1n); (case side2 => exact QB); rintro e w15 ⟨rfl, hi, hb, hk⟩; refine ⟨_, rfl, ?_⟩; have n0_ := Y0.mk (Kd.R_mono (Kd.R_keep (YB.apart (show YB w0 _ g x1000_1 x1001_1 x1002_1 x1003_1 from QI81_0) Zu (by decide)) hk (fun _ h => h.2)) (fun _ h => h.1)); have n1_ := Y0.mk (Kd.N_mono (Kd.N_keep (Kd.N_mono (ok := fun k_ => (((w.heap.size ≤ k_)) ∧ (some k_ ≠ (u149002 : Value).ownBlock ∧ (k_ ≠ gb135 ∧ (k_ ≠ gb148 ∧ k_ ≠ g))))) ZD (fun k_ hk_ => (⟨hk_, hk_.2.2.2.2⟩ : _ ∧ k_ ≠ g))) hk (fun _ h => h.2)) (fun _ h => h.1)); have n2_ := Y0.mk (Y1.blk hk (g' := gb135) (o := .cells #[.int .i64 0, .string (⟨#[]⟩ : ByteArray), .slice none 0 0, .slice none 0 0] 37 (0, 0)) QQ NB135_0.out (by simp)); have n3_ := Y0.mk (Y1.blk hk (g' := gb148) (o := .cells #[.int .i64 x149000_1, .string x149001_1, u149002, u149003] 37 (0, 0)) QQ NB148_0.out (by simp)); have n4_ := Y0.mk (Y1.trans QK hk (.inl rfl)); have n5_ := Y0.mk (hb); have n6_ := Y0.mk (hi); clear HO_149002 HO_149003 BK135 BK148 HK HB HI0; have HO_149002 := n0_; have HO_149003 := n1_; have BK135 := n2_; have BK148 := n3_; have HK := n4_; have HB := n5_; have HI0 := n6_; clear n0_ n1_ n2_ n3_ n4_ n5_ n6_; (try clear hb); (try clear hb2); (try clear hk); (try clear hi)))
    have n_ := put7 (Kd.R_drew HO_149002.out) (Kd.N_drew HO_149003.out) (Ya BK135.out) (Ya BK148.out) (YB.drew HI0.out) (Y1F HK.out) (YP HB.out)
    clear HO_149002
    clear HO_149003
    clear BK135
    clear BK148
    clear HI0
    clear HK
    clear HB
    obtain ⟨HO_149002, HO_149003, BK135, BK148, HI0, HK, HB⟩ := n_
    refine Y1l (n := 7) (S := fun w' => w'.cell? ⟨gb148, 0, none⟩ = some (.int .i64 x149000_1) ∧ w'.cell? ⟨gb148, 1, none⟩ = some (.string x149001_1) ∧ w'.cell? ⟨gb148, 2, none⟩ = some (u149002) ∧ w'.cell? ⟨gb148, 3, none⟩ = some (u149003)) (ds := [6]) bz7_0 Z6 rfl rfl ⟨(Y2 BK148.out 0).trans rfl, (Y2 BK148.out 1).trans rfl, (Y2 BK148.out 2).trans rfl, (Y2 BK148.out 3).trans rfl⟩ (fun hHeld => ?_)
    generalize w15.drew = w16 at HO_149002 HO_149003 BK135 BK148 HI0 HK HB hHeld ⊢
    refine Y42 (i := 1) (N := some 12) (v := ?_) (a' := ?_) bz7_2 rfl rfl Z6 (fun _ _ _ h => h) (Or.inl ⟨by rfl, ?_⟩) ?_ ?_
    rotate_left
    ·intro w'
     go_simp
     with_reducible rfl
    rotate_left
    ·simp only [Act.put, List.setIfInBounds_toArray, List.set_cons_zero, List.set_cons_succ, Y16, Y17]
     rfl
    refine Y42 (i := 2) (N := some 13) (v := ?_) (a' := ?_) bz7_6 rfl rfl Z6 (fun _ _ _ h => h) (Or.inl ⟨by rfl, ?_⟩) ?_ ?_
    rotate_left
    ·intro w'
     go_simp
     with_reducible rfl
    rotate_left
    ·simp only [Act.put, List.setIfInBounds_toArray, List.set_cons_zero, List.set_cons_succ, Y16, Y17]
     rfl
    refine Y64 (i := 0) (N := some 11) (v := ?_) (a' := ?_) bz7_7 rfl rfl Z6 (fun _ _ _ h => h) (Or.inl ⟨by rfl, ?_⟩) hHeld ?_ ?_
    rotate_left
    ·rintro w' ⟨s0, s1, s2, s3⟩
     go_simp
     with_reducible rfl
    rotate_left
    ·simp only [Act.put, List.setIfInBounds_toArray, List.set_cons_zero, List.set_cons_succ, Y16, Y17]
     rfl
    refine Y2T (i := 3) (N := some 14) bz7_f rfl rfl Z6 (by decide) (fun K hK => ?_)
    refine Y21 Tryd.func113 Z6 rfl #[.pointer (some ⟨g, 0, none⟩), .int .i64 a1] (by rfl) rfl rfl Z0 ?_
    with_reducible refine ((ih k1 Z13).2.2.1 g t150 t151 t152 t153 a1 t154 t155 t156 t159 t162 t163 t164 t165 w0 _ ?side1 ?side2 ?side3 A14.out).mono ?_
    (case side1 => exact Z1n)
    (case side2 => exact QB)
    (case side3 => exact Z1O)
    rintro e w17 ⟨v157, v160, rfl, ho0, ho1, hi, hb, hk⟩
    refine ⟨_, rfl, ?_⟩
    have n0_ := Y0.mk (Kd.R_mono (Kd.R_told (Kd.R_oldK (YB.apart (show YB w0 _ g t150 t151 t152 t153 from QI81_0) Zu (by decide)) hk) (Kd.R_base ho0)) (fun _ h_ => h_.1))
    have n1_ := Y0.mk (Kd.N_mono (Kd.N_told (Kd.N_told (Kd.N_oldK (Kd.N_mono (ok := fun k_ => (((w.heap.size ≤ k_)) ∧ (some k_ ≠ (u149002 : Value).ownBlock ∧ (k_ ≠ gb135 ∧ (k_ ≠ gb148 ∧ k_ ≠ g))))) ZD (fun k_ hk_ => (⟨hk_, hk_.2.2.2.2⟩ : _ ∧ k_ ≠ g))) hk) (Kd.R_base ho0)) (Kd.N_base ho1)) (fun _ h_ => h_.1))
    have n2_ := Y0.mk (Y1.blk hk (g' := gb135) (o := .cells #[.int .i64 0, .string (⟨#[]⟩ : ByteArray), .slice none 0 0, .slice none 0 0] 37 (0, 0)) QQ NB135_0.out (by simp))
    have n3_ := Y0.mk (Y1.blk hk (g' := gb148) (o := .cells #[.int .i64 x149000_1, .string x149001_1, u149002, u149003] 37 (0, 0)) QQ NB148_0.out (by simp))
    have n4_ := Y0.mk (Kd.R_lower (Kd.R_new' (Kd.R_newM (M := fun k_ => (w.heap.size ≤ k_)) (Kd.R_mono (ok' := fun k_ => True) ho0 (fun _ hk_ => trivial)) (Y8 (w := w) (g := g) (row := none) QK) (fun k_ h_ => h_)) (Kd.R_lt Zu)) (Y8 (w := w) (g := g) (row := none) QK))
    have n5_ := Y0.mk (Kd.N_lower (Kd.N_mono (ok' := fun k_ => (w.heap.size ≤ k_) ∧ some k_ ≠ (v157 : Value).ownBlock ∧ some k_ ≠ (u149002 : Value).ownBlock ∧ some k_ ≠ (u149003 : Value).ownBlock ∧ k_ ≠ gb135 ∧ k_ ≠ gb148 ∧ k_ ≠ g) ho1 (fun k_ hk_ => ⟨(Nat.le_trans (Y8 (w := w) (g := g) (row := none) QK) hk_.1), hk_.2, (Kd.fresh' (Kd.R_lt Zu) k_ hk_.1), (Kd.fresh' (Kd.N_lt ZD) k_ hk_.1), (Kd.freshB (g := gb135) (o := .cells #[.int .i64 0, .string (⟨#[]⟩ : ByteArray), .slice none 0 0, .slice none 0 0] 37 (0, 0)) QQ k_ hk_.1), (Kd.freshB (g := gb148) (o := .cells #[.int .i64 x149000_1, .string x149001_1, u149002, u149003] 37 (0, 0)) QQ k_ hk_.1), (YB.fresh QI81_0 k_ hk_.1)⟩)) (Y8 (w := w) (g := g) (row := none) QK))
    have n6_ := Y0.mk (Y1.trans QK hk (.inl rfl))
    have n7_ := Y0.mk (hb)
    have n8_ := Y0.mk (hi)
    clear HO_149002
    clear HO_149003
    clear BK135
    clear BK148
    clear HK
    clear HB
    clear HI0
    have HO_149002 := n0_
    have HO_149003 := n1_
    have BK135 := n2_
    have BK148 := n3_
    have HO158 := n4_
    have HO161 := n5_
    have HK := n6_
    have HB := n7_
    have HI0 := n8_
    clear n0_ n1_ n2_ n3_ n4_ n5_ n6_ n7_ n8_
    (try clear hb)
    (try clear hb2)
    (try clear hk)
    (try clear hi)
    (try clear ho0)
    (try clear ho1)
    obtain ⟨Ao18, co18, eo18⟩ := Kd.R_slice HO_149002.out
    (first | subst eo18 | (injection eo18 with f1_ f2_ f3_; have f4_ := f1_.symm; have f5_ := f3_.symm; clear f1_ f2_ f3_; subst f4_; subst f5_))
    obtain ⟨Ao19, co19, eo19⟩ := Kd.N_slice HO_149003.out
    (first | subst eo19 | (injection eo19 with f1_ f2_ f3_; have f4_ := f1_.symm; have f5_ := f3_.symm; clear f1_ f2_ f3_; subst f4_; subst f5_))
    obtain ⟨Ao20, co20, eo20⟩ := Kd.R_slice HO158.out
    (first | subst eo20 | (injection eo20 with f1_ f2_ f3_; have f4_ := f1_.symm; have f5_ := f3_.symm; clear f1_ f2_ f3_; subst f4_; subst f5_))
    obtain ⟨Ao21, co21, eo21⟩ := Kd.N_slice HO161.out
    (first | subst eo21 | (injection eo21 with f1_ f2_ f3_; have f4_ := f1_.symm; have f5_ := f3_.symm; clear f1_ f2_ f3_; subst f4_; subst f5_))
    refine hK.out _ _ ⟨(Y2 BK148.out 0).trans rfl, (Y2 BK148.out 1).trans rfl, (Y2 BK148.out 2).trans rfl, (Y2 BK148.out 3).trans rfl⟩ (fun hHeld => ?_)
    clear hK K
    refine Y1H (a' := ?_) ?_ ?_
    rotate_left
    ·show Act.put _ (some 14) _ = _
     simp only [Act.put, List.setIfInBounds_toArray, List.set_cons_zero, List.set_cons_succ, Y16, Y17]
     rfl
    refine Y2T (i := 4) (N := some 15) Y6k rfl rfl Z6 (by decide) (fun K hK => ?_)
    refine Kd.N_lit_step k37 _ 37 ?hg (N' := 15) ?hd (xs := ([(⟨x149000_1, x149001_1, x149002_1, x149003_1⟩ : S37), (⟨t154, t155, t156, t159⟩ : S37)] : List (S37))) (inner := [.int .i64 x149000_1, .string x149001_1, .slice Ao18 x149002_1.length co18, .slice Ao19 x149003_1.length co19, .int .i64 t154, .string t155, .slice Ao20 t156.length co20, .slice Ao21 t159.length co21]) (ok := (fun k_ => (w.heap.size ≤ k_) ∧ k_ ≠ gb135 ∧ k_ ≠ gb148 ∧ k_ ≠ g)) (okp := (fun k_ => (w.heap.size ≤ k_) ∧ k_ ≠ gb135 ∧ k_ ≠ gb148 ∧ k_ ≠ g)) ?hr ?hp (fun _ hk => hk) ((show ∀ k_, w17.heap.size ≤ k_ → (fun k_ => (w.heap.size ≤ k_) ∧ k_ ≠ gb135 ∧ k_ ≠ gb148 ∧ k_ ≠ g) k_ from fun k_ hk => ⟨(Nat.le_trans (Y8 (w := w) (g := g) (row := none) QK) hk), Kd.freshB (g := gb135) (o := .cells #[.int .i64 0, .string (⟨#[]⟩ : ByteArray), .slice none 0 0, .slice none 0 0] 37 (0, 0)) QQ k_ hk, Kd.freshB (g := gb148) (o := .cells #[.int .i64 x149000_1, .string x149001_1, .slice Ao18 x149002_1.length co18, .slice Ao19 x149003_1.length co19] 37 (0, 0)) QQ k_ hk, YB.fresh QI81_0 k_ hk⟩) _ (Nat.le_refl _)) (Below.refl _ _) (Nat.le_refl _) (by simp) ?_; (case hd => rfl); (case hg => rfl); (case hr => exact Za); (case hp => exact (Y1E.c4 (show Kd.FK k37 _ _ (⟨x149000_1, x149001_1, x149002_1, x149003_1⟩ : S37) [.int .i64 x149000_1, .string x149001_1, .slice Ao18 x149002_1.length co18, .slice Ao19 x149003_1.length co19] from (Y2d _ _ (⟨x149000_1, x149001_1, x149002_1, x149003_1⟩ : S37) (Kd.R_reads' (Kd.R_mono (ok' := (fun k_ => (w.heap.size ≤ k_) ∧ k_ ≠ gb135 ∧ k_ ≠ gb148 ∧ k_ ≠ g)) (YB.apart HI0.out (Kd.R_types (Kd.R_types (HO_149002.out) BK135.out (by decide)) BK148.out (by decide)) (by decide)) (fun k_ hk => ⟨hk.1.1.1.1, ⟨hk.1.1.2, ⟨hk.1.2, hk.2⟩⟩⟩))).2.1 (Kd.R_F (Kd.R_mono (ok' := (fun k_ => (w.heap.size ≤ k_) ∧ k_ ≠ gb135 ∧ k_ ≠ gb148 ∧ k_ ≠ g)) (YB.apart HI0.out (Kd.R_types (Kd.R_types (HO_149002.out) BK135.out (by decide)) BK148.out (by decide)) (by decide)) (fun k_ hk => ⟨hk.1.1.1.1, ⟨hk.1.1.2, ⟨hk.1.2, hk.2⟩⟩⟩))) (Kd.N_reads' (Kd.N_mono (ok' := (fun k_ => (w.heap.size ≤ k_) ∧ k_ ≠ gb135 ∧ k_ ≠ gb148 ∧ k_ ≠ g)) (HO_149003.out) (fun k_ hk => ⟨hk.1.1.1, ⟨hk.1.1.2.2.1, ⟨hk.1.1.2.2.2.1, hk.1.1.2.2.2.2⟩⟩⟩))).2.1 (Kd.N_F (Kd.N_mono (ok' := (fun k_ => (w.heap.size ≤ k_) ∧ k_ ≠ gb135 ∧ k_ ≠ gb148 ∧ k_ ≠ g)) (HO_149003.out) (fun k_ hk => ⟨hk.1.1.1, ⟨hk.1.1.2.2.1, ⟨hk.1.1.2.2.2.1, hk.1.1.2.2.2.2⟩⟩⟩))))) (Y1E.c4 (show Kd.FK k37 _ _ (⟨t154, t155, t156, t159⟩ : S37) [.int .i64 t154, .string t155, .slice Ao20 t156.length co20, .slice Ao21 t159.length co21] from (Y2d _ _ (⟨t154, t155, t156, t159⟩ : S37) (Kd.R_reads' (Kd.R_mono (ok' := (fun k_ => (w.heap.size ≤ k_) ∧ k_ ≠ gb135 ∧ k_ ≠ gb148 ∧ k_ ≠ g)) (YB.apart HI0.out (Kd.R_types (Kd.R_types (HO158.out) BK135.out (by decide)) BK148.out (by decide)) (by decide)) (fun k_ hk => ⟨hk.1.1.1.1.1, ⟨hk.1.1.2, ⟨hk.1.2, hk.2⟩⟩⟩))).2.1 (Kd.R_F (Kd.R_mono (ok' := (fun k_ => (w.heap.size ≤ k_) ∧ k_ ≠ gb135 ∧ k_ ≠ gb148 ∧ k_ ≠ g)) (YB.apart HI0.out (Kd.R_types (Kd.R_types (HO158.out) BK135.out (by decide)) BK148.out (by decide)) (by decide)) (fun k_ hk => ⟨hk.1.1.1.1.1, ⟨hk.1.1.2, ⟨hk.1.2, hk.2⟩⟩⟩))) (Kd.N_reads' (Kd.N_mono (ok' := (fun k_ => (w.heap.size ≤ k_) ∧ k_ ≠ gb135 ∧ k_ ≠ gb148 ∧ k_ ≠ g)) (HO161.out) (fun k_ hk => ⟨hk.1, ⟨hk.2.2.2.2.1, ⟨hk.2.2.2.2.2.1, hk.2.2.2.2.2.2⟩⟩⟩))).2.1 (Kd.N_F (Kd.N_mono (ok' := (fun k_ => (w.heap.size ≤ k_) ∧ k_ ≠ gb135 ∧ k_ ≠ gb148 ∧ k_ ≠ g)) (HO161.out) (fun k_ hk => ⟨hk.1, ⟨hk.2.2.2.2.1, ⟨hk.2.2.2.2.2.1, hk.2.2.2.2.2.2⟩⟩⟩))))) (Y1E.none _ _))))
    intro v167 w22 ho23 hb hg_ hnew_
    clear hg_ hnew_
    (first | rw [← Ny166.out] at ho23 | (simp only [Int.reduceToNat] at ho23; rw [← Ny166.out] at ho23))
    have n_ := Y3w (Kd.N_lower ho23 (Y8 (w := w) (g := g) (row := none) QK)) (Yu (g := gb135) (o := .cells #[.int .i64 0, .string (⟨#[]⟩ : ByteArray), .slice none 0 0, .slice none 0 0] 37 (0, 0)) QQ hb) (Yu (g := gb148) (o := .cells #[.int .i64 x149000_1, .string x149001_1, .slice Ao18 x149002_1.length co18, .slice Ao19 x149003_1.length co19] 37 (0, 0)) QQ hb) (YB.below QI81_0 hb) (Y1.trans QK (Y1.of_below hb g none) (.inl rfl)) (Yb QB hb)
    clear BK135
    clear BK148
    clear HI0
    clear HK
    clear HB
    clear HO158
    clear HO161
    clear HO_149002
    clear HO_149003
    obtain ⟨HO168, BK135, BK148, HI0, HK, HB⟩ := n_
    clear hb ho23
    obtain ⟨Ao24, co24, eo24⟩ := Kd.N_slice HO168.out
    (first | subst eo24 | (injection eo24 with f1_ f2_ f3_; have f4_ := f1_.symm; have f5_ := f3_.symm; clear f1_ f2_ f3_; subst f4_; subst f5_))
    refine hK.out _ _ ⟨(Y2 BK148.out 0).trans rfl, (Y2 BK148.out 1).trans rfl, (Y2 BK148.out 2).trans rfl, (Y2 BK148.out 3).trans rfl⟩ (fun hHeld => ?_)
    clear hK K
    refine Y1H (a' := ?_) ?_ ?_
    rotate_left
    ·show Act.put _ (some 15) _ = _
     simp only [Act.put, List.setIfInBounds_toArray, List.set_cons_zero, List.set_cons_succ, Y16, Y17]
     rfl
    refine Y42 (i := 5) (N := some 16) (v := ?_) (a' := ?_) Y6l rfl rfl Z6 (fun _ _ _ h => h) (Or.inl ⟨by rfl, ?_⟩) ?_ ?_
    rotate_left
    ·intro w'
     go_simp
     with_reducible rfl
    rotate_left
    ·simp only [Act.put, List.setIfInBounds_toArray, List.set_cons_zero, List.set_cons_succ, Y16, Y17]
     rfl
    refine Y6G (i := 6) (N := none) Y6m rfl rfl Z6 (by decide) (fun K hK => ?_)
    have hs25 : w22.cell? ⟨gb148, 0, none⟩ = some (.int .i64 x149000_1) := (Y2 BK148.out 0).trans rfl
    have hfs25 := Y7 BK148.out 0
    have hns25_0 := NB135_148.out
    have hms25_0 := NB148_135.out
    have hs26 : w22.cell? ⟨gb148, 1, none⟩ = some (.string x149001_1) := (Y2 BK148.out 1).trans rfl
    have hfs26 := Y7 BK148.out 1
    have hns26_0 := NB135_148.out
    have hms26_0 := NB148_135.out
    have hs27 : w22.cell? ⟨gb148, 2, none⟩ = some (.slice Ao18 x149002_1.length co18) := (Y2 BK148.out 2).trans rfl
    have hfs27 := Y7 BK148.out 2
    have hns27_0 := NB135_148.out
    have hms27_0 := NB148_135.out
    have hs28 : w22.cell? ⟨gb148, 3, none⟩ = some (.slice Ao19 x149003_1.length co19) := (Y2 BK148.out 3).trans rfl
    have hfs28 := Y7 BK148.out 3
    have hns28_0 := NB135_148.out
    have hms28_0 := NB148_135.out
    refine Y4V (w1 := ?_) (by rfl) rfl ?_ ?_
    rotate_left
    ·go_simp
     rfl
    refine hK.out _ _ ?_
    clear hK K
    refine Y1Q Z6 ?_
    try go_wp2
    go_roundg k1
    case measure => have := HK1.out; omega
    case rel => exact ⟨(t162), (t163), (t164), (t165), (3), ((⟨#[]⟩ : ByteArray)), (([] : List ByteArray)), (y166), (.slice none 0 0), (.slice Ao24 y166.length co24), H', ⟨Z13⟩, ⟨Z5⟩, ⟨ZI⟩, ⟨Zk⟩, ⟨Zv⟩, ⟨QI81_0⟩, ⟨QK⟩, ⟨QB⟩⟩
   ·replace c13 := Bool.eq_false_iff.mpr c13
    subst c13
    have H1 : (some (x149000_1, x149001_1, x149002_1, x149003_1, t150, t151, t152, t153)) = some (r1, r2, r3, r4, r5, r6, r7, r8) := by rw [if_neg (show ¬ (false = true) by decide)] at H; exact H
    clear H
    have H := H1
    clear H1
    simp only [Option.some.injEq, Prod.mk.injEq] at H
    obtain ⟨rfl, rfl, rfl, rfl, rfl, rfl, rfl, rfl⟩ := H
    go_wp2_with (first | ((with_reducible refine Yn (f := 97) rfl ?_); refine YO (some 10) rfl rfl Tryd.func97 Z6 rfl #[.pointer (some ⟨g, 0, none⟩), .int .u8 47] rfl Z0 ?_; (with_reducible refine (Yl.calls k1 g x1000_1 x1001_1 x1002_1 x1003_1 47 false t150 t151 t152 t153 w0 _ ?side1 ?side2 A12.out).mono ?_); (case side1 => exact Z1n); (case side2 => exact QB); rintro e w29 ⟨rfl, hi, hb, hk⟩; refine ⟨_, rfl, ?_⟩; have n0_ := Y0.mk (Kd.R_mono (Kd.R_keep (YB.apart (show YB w0 _ g x1000_1 x1001_1 x1002_1 x1003_1 from QI81_0) Zu (by decide)) hk (fun _ h => h.2)) (fun _ h => h.1)); have n1_ := Y0.mk (Kd.N_mono (Kd.N_keep (Kd.N_mono (ok := fun k_ => (((w.heap.size ≤ k_)) ∧ (some k_ ≠ (u149002 : Value).ownBlock ∧ (k_ ≠ gb135 ∧ (k_ ≠ gb148 ∧ k_ ≠ g))))) ZD (fun k_ hk_ => (⟨hk_, hk_.2.2.2.2⟩ : _ ∧ k_ ≠ g))) hk (fun _ h => h.2)) (fun _ h => h.1)); have n2_ := Y0.mk (Y1.blk hk (g' := gb135) (o := .cells #[.int .i64 0, .string (⟨#[]⟩ : ByteArray), .slice none 0 0, .slice none 0 0] 37 (0, 0)) QQ NB135_0.out (by simp)); have n3_ := Y0.mk (Y1.blk hk (g' := gb148) (o := .cells #[.int .i64 x149000_1, .string x149001_1, u149002, u149003] 37 (0, 0)) QQ NB148_0.out (by simp)); have n4_ := Y0.mk (Y1.trans QK hk (.inl rfl)); have n5_ := Y0.mk (hb); have n6_ := Y0.mk (hi); clear HO_149002 HO_149003 BK135 BK148 HK HB HI0; have HO_149002 := n0_; have HO_149003 := n1_; have BK135 := n2_; have BK148 := n3_; have HK := n4_; have HB := n5_; have HI0 := n6_; clear n0_ n1_ n2_ n3_ n4_ n5_ n6_; (try clear hb); (try clear hb2); (try clear hk); (try clear hi); have hnb30 := NB148_135.out; have hnc30 := NB135_148.out; have hnb31 := NB148_0.out; have hnc31 := NB0_148.out; obtain ⟨hcz32_0, hcz32_1, hcz32_2, hcz32_3, hfz32_0, hfz32_1, hfz32_2, hfz32_3⟩ := YA BK148.out; have hnb33 := NB135_0.out; have hnc33 := NB0_135.out; obtain ⟨hcz34_0, hcz34_1, hcz34_2, hcz34_3, hfz34_0, hfz34_1, hfz34_2, hfz34_3⟩ := YA BK135.out; obtain ⟨Ao35, co35, eo35⟩ := Kd.R_slice HO_149002.out; subst eo35; obtain ⟨Ao36, co36, eo36⟩ := Kd.N_slice HO_149003.out; subst eo36))
    refine bodyPost_ret (results_cell_row rfl _ _ gb135 37 #[.int .i64 x149000_1, .string x149001_1, .slice Ao35 x149002_1.length co35, .slice Ao36 x149003_1.length co36] (0, 0) _ rfl Z23 Tryd.underlying37 rfl Z6) rfl ?_
    exact ⟨_, _, Z2, ZW, ZO, QI81_0, QB, QK⟩
set_option maxHeartbeats 8000000 in
set_option maxRecDepth 100000 in
theorem Y9.step (k : Nat) (ih : ∀ j_ < k, Yh.Spec j_ ∧ Yp.Spec j_ ∧ Y9.Spec j_ ∧ Yc.Spec j_) : ∀ (g : Nat) (s0_0 : ByteArray) (s0_1 : Int) (s0_2 : Int) (s0_3 : Int) (a1 : Int) (r1 : Int) (r2 : ByteArray) (r3 : List ByteArray) (r4 : List (S37)) (r5 : ByteArray) (r6 : Int) (r7 : Int) (r8 : Int) (w0 w : World) (hI : YB w0 w g s0_0 s0_1 s0_2 s0_3) (hB : Below w0.heap.size w0 w) (hT : Tabs w0) (h : Y9.f k s0_0 s0_1 s0_2 s0_3 a1 = some (r1, r2, r3, r4, r5, r6, r7, r8)),
  Calls Tryd.prog 113 #[.pointer (some ⟨g, 0, none⟩), .int .i64 a1] w fun e w' => ∃ v2_ v3_ : Value, e = .returned (.agg #[.int .i64 r1, .string r2, v2_, v3_]) ∧ Kd.R Kd.string 9 w' w.heap.size (fun k_ => (w.heap.size ≤ k_)) v2_ r3 ∧ Kd.N k37 37 w' w.heap.size (fun k_ => (w.heap.size ≤ k_) ∧ some k_ ≠ (v2_ : Value).ownBlock) v3_ r4 ∧ YB w0 w' g r5 r6 r7 r8 ∧ Below w0.heap.size w0 w' ∧ Y1 w w' g none := by
 intro g s0_0 s0_1 s0_2 s0_3 a1 r1 r2 r3 r4 r5 r6 r7 r8 w0 w hI hB hT h
 cases k with
 | zero => exact absurd h (by simp [Y9.f])
 | succ k =>
 simp only [Y9.f] at h
 have HT := Y0.mk hT
 clear hT
 have hu37 := Tryd.underlying37
 have HI0 := Y0.mk hI
 have HK := Y0.mk (Y1.refl w g none)
 have HL := Y0.mk hB.size
 clear hI
 have HW0 := Y0.mk hB.size
 have HB := Y0.mk hB
 clear hB
 have H : ((Yc.f k s0_0 s0_1 s0_2 s0_3 a1).bind fun bt170 => (Y9.l0 k bt170.2.2.2.2.1 bt170.2.2.2.2.2.1 bt170.2.2.2.2.2.2.1 bt170.2.2.2.2.2.2.2 bt170.1 bt170.2.1 bt170.2.2.1 bt170.2.2.2.1)) = some (r1, r2, r3, r4, r5, r6, r7, r8) := h
 clear h
 replace H := Option.bind_eq_some_iff.mp H
 obtain ⟨⟨t170, t171, t172, t175, t178, t179, t180, t181⟩, A30, H⟩ := H
 replace H : (Y9.l0 k t178 t179 t180 t181 t170 t171 t172 t175) = some (r1, r2, r3, r4, r5, r6, r7, r8) := H
 have A3 := Y0.mk A30
 clear A30
 have H' := Y0.mk H
 clear H
 go_enter Tryd.func113, Tryd.ntmps113
 go_wp2_with (first | ((with_reducible refine YF (N := 4) rfl ?_); refine YE ?hg (N := 4) ?hd (cs := #[.int .i64 0, .string (⟨#[]⟩ : ByteArray), .slice none 0 0, .slice none 0 0]) (t := 37) ?hr ?_; (case hd => rfl); (case hg => rfl); (case hr => exact Za); intro gb169 hg w4 hbox hb; have n_ := Y4q (YB.below QI81_0 hb) (Y1.trans QK (Y1.of_below hb g none) (.inl rfl)) (Yb QB hb) (hbox) ((by rw [hg]; exact (Y8 (w := w) (g := g) (row := none) QK) : w.heap.size ≤ gb169)) ((Nat.le_trans HW0.out (by rw [hg]; exact (Y8 (w := w) (g := g) (row := none) QK) : w.heap.size ≤ gb169) : w0.heap.size ≤ gb169)) ((by rw [hg]; exact Nat.ne_of_lt (YB.lt (show YB w0 _ g s0_0 s0_1 s0_2 s0_3 from QI81_0)) : g ≠ gb169)) ((by rw [hg]; exact Nat.ne_of_gt (YB.lt (show YB w0 _ g s0_0 s0_1 s0_2 s0_3 from QI81_0)) : gb169 ≠ g)); clear HI0 HK HB; obtain ⟨HI0, HK, HB, BK169, GW169, GE169, NB0_169, NB169_0⟩ := n_; clear hb hbox hg) | ((with_reducible refine Yn (f := 124) rfl ?_); refine YO (some 8) rfl rfl Tryd.func124 Z6 rfl #[.pointer (some ⟨g, 0, none⟩), .int .i64 a1] rfl Z0 ?_; (with_reducible refine ((ih k (by omega)).2.2.2 g s0_0 s0_1 s0_2 s0_3 a1 t170 t171 t172 t175 t178 t179 t180 t181 w0 _ ?side1 ?side2 ?side3 A3.out).mono ?_); (case side1 => exact Z1n); (case side2 => exact QB); (case side3 => exact Z1O); rintro e w5 ⟨v173, v176, rfl, ho0, ho1, hi, hb, hk⟩; refine ⟨_, rfl, ?_⟩; have n0_ := Y0.mk (Y1.blk hk (g' := gb169) (o := .cells #[.int .i64 0, .string (⟨#[]⟩ : ByteArray), .slice none 0 0, .slice none 0 0] 37 (0, 0)) QQ NB169_0.out (by simp)); have n1_ := Y0.mk (Kd.R_lower (Kd.R_newM (M := fun k_ => (w.heap.size ≤ k_)) (Kd.R_mono (ok' := fun k_ => True) ho0 (fun _ hk_ => trivial)) (Y8 (w := w) (g := g) (row := none) QK) (fun k_ h_ => h_)) (Y8 (w := w) (g := g) (row := none) QK)); have n2_ := Y0.mk (Kd.N_lower (Kd.N_mono (ok' := fun k_ => (w.heap.size ≤ k_) ∧ some k_ ≠ (v173 : Value).ownBlock ∧ k_ ≠ gb169 ∧ k_ ≠ g) ho1 (fun k_ hk_ => ⟨(Nat.le_trans (Y8 (w := w) (g := g) (row := none) QK) hk_.1), hk_.2, (Kd.freshB (g := gb169) (o := .cells #[.int .i64 0, .string (⟨#[]⟩ : ByteArray), .slice none 0 0, .slice none 0 0] 37 (0, 0)) QQ k_ hk_.1), (YB.fresh QI81_0 k_ hk_.1)⟩)) (Y8 (w := w) (g := g) (row := none) QK)); have n3_ := Y0.mk (Y1.trans QK hk (.inl rfl)); have n4_ := Y0.mk (hb); have n5_ := Y0.mk (hi); clear BK169 HK HB HI0; have BK169 := n0_; have HO174 := n1_; have HO177 := n2_; have HK := n3_; have HB := n4_; have HI0 := n5_; clear n0_ n1_ n2_ n3_ n4_ n5_; (try clear hb); (try clear hb2); (try clear hk); (try clear hi); (try clear ho0); (try clear ho1)) | ((with_reducible refine YF (N := 5) rfl ?_); refine YE ?hg (N := 5) ?hd (cs := #[.int .i64 0, .string (⟨#[]⟩ : ByteArray), .slice none 0 0, .slice none 0 0]) (t := 37) ?hr ?_; (case hd => rfl); (case hg => rfl); (case hr => exact Za); intro gb182 hg w6 hbox hb; have n0_ := Y0.mk (Kd.R_below Z1i hb); have n1_ := Y0.mk (Kd.N_below (Kd.N_elderB Z1g gb182 (Nat.le_of_eq hg.symm)) hb); have n2_ := Y0.mk (YB.below QI81_0 hb); have n3_ := Y0.mk (Yu (g := gb169) (o := .cells #[.int .i64 0, .string (⟨#[]⟩ : ByteArray), .slice none 0 0, .slice none 0 0] 37 (0, 0)) QQ hb); have n4_ := Y0.mk (Y1.trans QK (Y1.of_below hb g none) (.inl rfl)); have n5_ := Y0.mk (Yb QB hb); have n6_ := Y0.mk (hbox); have n7_ := Y0.mk ((by rw [hg]; exact (Y8 (w := w) (g := g) (row := none) QK) : w.heap.size ≤ gb182)); have n8_ := Y0.mk ((Nat.le_trans HW0.out (by rw [hg]; exact (Y8 (w := w) (g := g) (row := none) QK) : w.heap.size ≤ gb182) : w0.heap.size ≤ gb182)); have n9_ := Y0.mk ((by rw [hg]; exact Nat.ne_of_lt (Y15 (g := gb169) (o := .cells #[.int .i64 0, .string (⟨#[]⟩ : ByteArray), .slice none 0 0, .slice none 0 0] 37 (0, 0)) QQ) : gb169 ≠ gb182)); have n10_ := Y0.mk ((by rw [hg]; exact Nat.ne_of_gt (Y15 (g := gb169) (o := .cells #[.int .i64 0, .string (⟨#[]⟩ : ByteArray), .slice none 0 0, .slice none 0 0] 37 (0, 0)) QQ) : gb182 ≠ gb169)); have n11_ := Y0.mk ((by rw [hg]; exact Nat.ne_of_lt (YB.lt (show YB w0 _ g t178 t179 t180 t181 from QI81_0)) : g ≠ gb182)); have n12_ := Y0.mk ((by rw [hg]; exact Nat.ne_of_gt (YB.lt (show YB w0 _ g t178 t179 t180 t181 from QI81_0)) : gb182 ≠ g)); clear HO174 HO177 HI0 BK169 HK HB; have HO174 := n0_; have HO177 := n1_; have HI0 := n2_; have BK169 := n3_; have HK := n4_; have HB := n5_; have BK182 := n6_; have GW182 := n7_; have GE182 := n8_; have NB169_182 := n9_; have NB182_169 := n10_; have NB0_182 := n11_; have NB182_0 := n12_; clear n0_ n1_ n2_ n3_ n4_ n5_ n6_ n7_ n8_ n9_ n10_ n11_ n12_ hb hbox hg; have hnb7 := NB182_169.out; have hnc7 := NB169_182.out; have hnb8 := NB182_0.out; have hnc8 := NB0_182.out; obtain ⟨hcz9_0, hcz9_1, hcz9_2, hcz9_3, hfz9_0, hfz9_1, hfz9_2, hfz9_3⟩ := YA BK182.out; obtain ⟨Ao10, co10, eo10⟩ := Kd.R_slice HO174.out; subst eo10; obtain ⟨Ao11, co11, eo11⟩ := Kd.N_slice HO177.out; subst eo11))
 go_loopg [] k (fun kq w' => ∃ (x1000_1 : ByteArray) (x1001_1 : Int) (x1002_1 : Int) (x1003_1 : Int) (x170000_1 : Int) (x170001_1 : ByteArray) (x183000_1 : Int) (x183001_1 : ByteArray) (x183002_1 : List ByteArray) (x183003_1 : List (S37)) (u183002 : Value) (u183003 : Value), Y0 (Y9.l0 kq x1000_1 x1001_1 x1002_1 x1003_1 x183000_1 x183001_1 x183002_1 x183003_1 = some (r1, r2, r3, r4, r5, r6, r7, r8)) ∧ Y0 (kq ≤ k) ∧ Y0 (Kd.R Kd.string 9 w' w.heap.size (fun k_ => (w.heap.size ≤ k_)) u183002 x183002_1) ∧ Y0 (Kd.N k37 37 w' w.heap.size (fun k_ => (w.heap.size ≤ k_) ∧ some k_ ≠ (u183002 : Value).ownBlock ∧ k_ ≠ gb169 ∧ k_ ≠ gb182 ∧ k_ ≠ g) u183003 x183003_1) ∧ Y0 (w'.heap[gb169]? = some (.cells #[.int .i64 x170000_1, .string x170001_1, (.slice none 0 0), (.slice none 0 0)] 37 (0, 0))) ∧ Y0 (w'.heap[gb182]? = some (.cells #[.int .i64 x183000_1, .string x183001_1, u183002, u183003] 37 (0, 0))) ∧ Y0 (YB w0 w' g x1000_1 x1001_1 x1002_1 x1003_1) ∧ Y0 (Y1 w w' g none) ∧ Y0 (Below w0.heap.size w0 w'))
 case atStart => exact ⟨(t178), (t179), (t180), (t181), (0), ((⟨#[]⟩ : ByteArray)), (t170), (t171), (t172), (t175), (.slice Ao10 t172.length co10), (.slice Ao11 t175.length co11), H', ⟨Nat.le_refl _⟩, ⟨Z12⟩, ⟨ZL⟩, ⟨Z9⟩, ⟨Z29⟩, ⟨QI81_0⟩, ⟨QK⟩, ⟨QB⟩⟩
 case round =>
  clear H'
  try clear c1
  try clear p2
  try clear c7
  try clear c8
  try clear c11
  try clear hcz9_0 hcz9_1 hcz9_2 hcz9_3 hfz9_0 hfz9_1 hfz9_2 hfz9_3
  obtain ⟨x1000_1, x1001_1, x1002_1, x1003_1, x170000_1, x170001_1, x183000_1, x183001_1, x183002_1, x183003_1, u183002, u183003, HA, HK1, HO_183002, HO_183003, BK169, BK182, HI0, HK, HB⟩ := hrel
  cases gk with
  | zero => exact absurd HA.out (by simp [Y9.l0])
  | succ k1 =>
   have H := HA.out
   clear HA
   simp only [Y9.l0] at H
   replace H := Option.bind_eq_some_iff.mp H
   obtain ⟨⟨t183, t184, t185, t186, t187⟩, A120, H⟩ := H
   replace H : (if t183 = true then (Y9.l0 k1 t184 t185 t186 t187 5 (⟨#[]⟩ : ByteArray) ([] : List ByteArray) (([(⟨x183000_1, x183001_1, x183002_1, x183003_1⟩ : S37)] : List (S37)))) else ((Yl.f k1 t184 t185 t186 t187 43).bind fun bt191 => (if bt191.1 = true then (Y9.l0 k1 bt191.2.1 bt191.2.2.1 bt191.2.2.2.1 bt191.2.2.2.2 6 (⟨#[]⟩ : ByteArray) ([] : List ByteArray) (([(⟨x183000_1, x183001_1, x183002_1, x183003_1⟩ : S37)] : List (S37)))) else ((Yl.f k1 bt191.2.1 bt191.2.2.1 bt191.2.2.2.1 bt191.2.2.2.2 63).bind fun bt199 => (if bt199.1 = true then (Y9.l0 k1 bt199.2.1 bt199.2.2.1 bt199.2.2.2.1 bt199.2.2.2.2 7 (⟨#[]⟩ : ByteArray) ([] : List ByteArray) (([(⟨x183000_1, x183001_1, x183002_1, x183003_1⟩ : S37)] : List (S37)))) else (some (x183000_1, x183001_1, x183002_1, x183003_1, bt199.2.1, bt199.2.2.1, bt199.2.2.2.1, bt199.2.2.2.2))))))) = some (r1, r2, r3, r4, r5, r6, r7, r8) := H
   have A12 := Y0.mk A120
   clear A120
   by_cases c13 : t183 = true
   ·subst c13
    have H1 : (Y9.l0 k1 t184 t185 t186 t187 5 (⟨#[]⟩ : ByteArray) ([] : List ByteArray) (([(⟨x183000_1, x183001_1, x183002_1, x183003_1⟩ : S37)] : List (S37)))) = some (r1, r2, r3, r4, r5, r6, r7, r8) := by rw [if_pos rfl] at H; exact H
    clear H
    have H := H1
    clear H1
    obtain ⟨y188, hy188⟩ : ∃ y_ : List (S37), y_ = (([(⟨x183000_1, x183001_1, x183002_1, x183003_1⟩ : S37)] : List (S37))) := ⟨_, rfl⟩
    replace H : (Y9.l0 k1 t184 t185 t186 t187 5 (⟨#[]⟩ : ByteArray) ([] : List ByteArray) y188) = some (r1, r2, r3, r4, r5, r6, r7, r8) := by first | (rw [hy188]; with_reducible exact H) | (have H2_ := (Option.bind_some _ _).symm.trans H; rw [hy188]; with_reducible exact H2_) | (have H2_ := (Option.bind_some _ _).symm.trans H; with_reducible exact H2_) | with_reducible exact H | (rw [hy188]; exact H) | exact H
    have Ny188 := Y0.mk hy188
    clear hy188
    have H' := Y0.mk H
    clear H
    go_wp2_with (first | ((with_reducible refine Yn (f := 97) rfl ?_); refine YO (some 12) rfl rfl Tryd.func97 Z6 rfl #[.pointer (some ⟨g, 0, none⟩), .int .u8 42] rfl Z0 ?_; (with_reducible refine (Yl.calls k1 g x1000_1 x1001_1 x1002_1 x1003_1 42 true t184 t185 t186 t187 w0 _ ?side1 ?side2 A12.out).mono ?_); (case side1 => exact Z1n); (case side2 => exact QB); rintro e w14 ⟨rfl, hi, hb, hk⟩; refine ⟨_, rfl, ?_⟩; have n0_ := Y0.mk (Kd.R_mono (Kd.R_keep (YB.apart (show YB w0 _ g x1000_1 x1001_1 x1002_1 x1003_1 from QI81_0) Zn (by decide)) hk (fun _ h => h.2)) (fun _ h => h.1)); have n1_ := Y0.mk (Kd.N_mono (Kd.N_keep (Kd.N_mono (ok := fun k_ => (((w.heap.size ≤ k_)) ∧ (some k_ ≠ (u183002 : Value).ownBlock ∧ (k_ ≠ gb169 ∧ (k_ ≠ gb182 ∧ k_ ≠ g))))) Zm (fun k_ hk_ => (⟨hk_, hk_.2.2.2.2⟩ : _ ∧ k_ ≠ g))) hk (fun _ h => h.2)) (fun _ h => h.1)); have n2_ := Y0.mk (Y1.blk hk (g' := gb169) (o := .cells #[.int .i64 x170000_1, .string x170001_1, .slice none 0 0, .slice none 0 0] 37 (0, 0)) QQ NB169_0.out (by simp)); have n3_ := Y0.mk (Y1.blk hk (g' := gb182) (o := .cells #[.int .i64 x183000_1, .string x183001_1, u183002, u183003] 37 (0, 0)) QQ NB182_0.out (by simp)); have n4_ := Y0.mk (Y1.trans QK hk (.inl rfl)); have n5_ := Y0.mk (hb); have n6_ := Y0.mk (hi); clear HO_183002 HO_183003 BK169 BK182 HK HB HI0; have HO_183002 := n0_; have HO_183003 := n1_; have BK169 := n2_; have BK182 := n3_; have HK := n4_; have HB := n5_; have HI0 := n6_; clear n0_ n1_ n2_ n3_ n4_ n5_ n6_; (try clear hb); (try clear hb2); (try clear hk); (try clear hi); have hnb15 := NB182_169.out; have hnc15 := NB169_182.out; have hnb16 := NB182_0.out; have hnc16 := NB0_182.out; obtain ⟨hcz17_0, hcz17_1, hcz17_2, hcz17_3, hfz17_0, hfz17_1, hfz17_2, hfz17_3⟩ := YA BK182.out; obtain ⟨Ao18, co18, eo18⟩ := Kd.R_slice HO_183002.out; subst eo18; obtain ⟨Ao19, co19, eo19⟩ := Kd.N_slice HO_183003.out; subst eo19) | ((with_reducible refine YF (N := 14) rfl ?_); refine Kd.N_lit k37 _ 37 ?hg (N' := 14) ?hd (xs := ([(⟨x183000_1, x183001_1, x183002_1, x183003_1⟩ : S37)] : List (S37))) (inner := [.int .i64 x183000_1, .string x183001_1, .slice Ao18 x183002_1.length co18, .slice Ao19 x183003_1.length co19]) (ok := (fun k_ => (w.heap.size ≤ k_) ∧ k_ ≠ gb169 ∧ k_ ≠ gb182 ∧ k_ ≠ g)) (okp := (fun k_ => (w.heap.size ≤ k_) ∧ k_ ≠ gb169 ∧ k_ ≠ gb182 ∧ k_ ≠ g)) ?hr ?hp (fun _ hk => hk) ((show ∀ k_, w14.heap.size ≤ k_ → (fun k_ => (w.heap.size ≤ k_) ∧ k_ ≠ gb169 ∧ k_ ≠ gb182 ∧ k_ ≠ g) k_ from fun k_ hk => ⟨(Nat.le_trans (Y8 (w := w) (g := g) (row := none) QK) hk), Kd.freshB (g := gb169) (o := .cells #[.int .i64 x170000_1, .string x170001_1, .slice none 0 0, .slice none 0 0] 37 (0, 0)) QQ k_ hk, Kd.freshB (g := gb182) (o := .cells #[.int .i64 x183000_1, .string x183001_1, .slice Ao18 x183002_1.length co18, .slice Ao19 x183003_1.length co19] 37 (0, 0)) QQ k_ hk, YB.fresh QI81_0 k_ hk⟩) _ (Nat.le_refl _)) (Below.refl _ _) (Nat.le_refl _) (by simp) ?_; (case hd => rfl); (case hg => rfl); (case hr => exact Za); (case hp => exact (Y1E.c4 (show Kd.FK k37 _ _ (⟨x183000_1, x183001_1, x183002_1, x183003_1⟩ : S37) [.int .i64 x183000_1, .string x183001_1, .slice Ao18 x183002_1.length co18, .slice Ao19 x183003_1.length co19] from (Y2d _ _ (⟨x183000_1, x183001_1, x183002_1, x183003_1⟩ : S37) (Kd.R_reads' (Kd.R_mono (ok' := (fun k_ => (w.heap.size ≤ k_) ∧ k_ ≠ gb169 ∧ k_ ≠ gb182 ∧ k_ ≠ g)) (YB.apart HI0.out (Kd.R_types (Kd.R_types (HO_183002.out) BK169.out (by decide)) BK182.out (by decide)) (by decide)) (fun k_ hk => ⟨hk.1.1.1, ⟨hk.1.1.2, ⟨hk.1.2, hk.2⟩⟩⟩))).2.1 (Kd.R_F (Kd.R_mono (ok' := (fun k_ => (w.heap.size ≤ k_) ∧ k_ ≠ gb169 ∧ k_ ≠ gb182 ∧ k_ ≠ g)) (YB.apart HI0.out (Kd.R_types (Kd.R_types (HO_183002.out) BK169.out (by decide)) BK182.out (by decide)) (by decide)) (fun k_ hk => ⟨hk.1.1.1, ⟨hk.1.1.2, ⟨hk.1.2, hk.2⟩⟩⟩))) (Kd.N_reads' (Kd.N_mono (ok' := (fun k_ => (w.heap.size ≤ k_) ∧ k_ ≠ gb169 ∧ k_ ≠ gb182 ∧ k_ ≠ g)) (HO_183003.out) (fun k_ hk => ⟨hk.1, ⟨hk.2.2.1, ⟨hk.2.2.2.1, hk.2.2.2.2⟩⟩⟩))).2.1 (Kd.N_F (Kd.N_mono (ok' := (fun k_ => (w.heap.size ≤ k_) ∧ k_ ≠ gb169 ∧ k_ ≠ gb182 ∧ k_ ≠ g)) (HO_183003.out) (fun k_ hk => ⟨hk.1, ⟨hk.2.2.1, ⟨hk.2.2.2.1, hk.2.2.2.2⟩⟩⟩))))) (Y1E.none _ _))); intro v189 w20 ho21 hb hg_ hnew_; clear hg_ hnew_; (first | rw [← Ny188.out] at ho21 | (simp only [Int.reduceToNat] at ho21; rw [← Ny188.out] at ho21)); have n_ := Y3w (Kd.N_lower ho21 (Y8 (w := w) (g := g) (row := none) QK)) (Yu (g := gb169) (o := .cells #[.int .i64 x170000_1, .string x170001_1, .slice none 0 0, .slice none 0 0] 37 (0, 0)) QQ hb) (Yu (g := gb182) (o := .cells #[.int .i64 x183000_1, .string x183001_1, .slice Ao18 x183002_1.length co18, .slice Ao19 x183003_1.length co19] 37 (0, 0)) QQ hb) (YB.below QI81_0 hb) (Y1.trans QK (Y1.of_below hb g none) (.inl rfl)) (Yb QB hb); clear BK169 BK182 HI0 HK HB HO_183002 HO_183003; obtain ⟨HO190, BK169, BK182, HI0, HK, HB⟩ := n_; clear hb ho21; obtain ⟨Ao22, co22, eo22⟩ := Kd.N_slice HO190.out; subst eo22; obtain ⟨hcz23_0, hcz23_1, hcz23_2, hcz23_3, hfz23_0, hfz23_1, hfz23_2, hfz23_3⟩ := YA BK182.out))
    go_roundg k1
    case measure => have := HK1.out; omega
    case rel => exact ⟨(t184), (t185), (t186), (t187), (x170000_1), (x170001_1), (5), ((⟨#[]⟩ : ByteArray)), (([] : List ByteArray)), (y188), (.slice none 0 0), (.slice Ao22 y188.length co22), H', ⟨Z13⟩, ⟨Z5⟩, ⟨by (with_reducible repeat (first | apply Kd.N_alloc | apply Kd.N_drewN | apply Kd.N_drew)); exact Kd.N_mono (Kd.N_far (p := ⟨gb182, 3, none⟩) (Kd.N_far (p := ⟨gb182, 2, none⟩) (Kd.N_far (p := ⟨gb182, 1, none⟩) (Kd.N_far (p := ⟨gb182, 0, none⟩) (Kd.N_mono HO190.out (fun k_ hk => (⟨hk, hk.2.2.1⟩ : _ ∧ k_ ≠ gb182))) (fun _ hk => hk.2) (.int .i64 5)) (fun _ hk => hk.2) (.string (⟨#[]⟩ : ByteArray))) (fun _ hk => hk.2) (.slice none 0 0)) (fun _ hk => hk.2) (.slice Ao22 y188.length co22)) (fun _ hk => ⟨hk.1.1, ⟨Z2b, ⟨hk.1.2.1, ⟨hk.1.2.2.1, hk.1.2.2.2⟩⟩⟩⟩)⟩, ⟨Z9⟩, ⟨by (with_reducible repeat (first | refine Yg ?_ _ | refine Ya ?_ | refine Ye ?_ _)); exact YD (cs := #[.int .i64 5, .string (⟨#[]⟩ : ByteArray), .slice none 0 0, .slice Ao19 x183003_1.length co19]) (by (with_reducible repeat (first | refine Yg ?_ _ | refine Ya ?_ | refine Ye ?_ _)); exact YD (cs := #[.int .i64 5, .string (⟨#[]⟩ : ByteArray), .slice Ao18 x183002_1.length co18, .slice Ao19 x183003_1.length co19]) (by (with_reducible repeat (first | refine Yg ?_ _ | refine Ya ?_ | refine Ye ?_ _)); exact YD (cs := #[.int .i64 5, .string x183001_1, .slice Ao18 x183002_1.length co18, .slice Ao19 x183003_1.length co19]) (by (with_reducible repeat (first | refine Yg ?_ _ | refine Ya ?_ | refine Ye ?_ _)); exact YD (cs := #[.int .i64 x183000_1, .string x183001_1, .slice Ao18 x183002_1.length co18, .slice Ao19 x183003_1.length co19]) QQ 0 _ rfl) 1 _ rfl) 2 _ rfl) 3 _ rfl⟩, ⟨QI81_0⟩, ⟨QK⟩, ⟨QB⟩⟩
   ·replace c13 := Bool.eq_false_iff.mpr c13
    subst c13
    have H1 : ((Yl.f k1 t184 t185 t186 t187 43).bind fun bt191 => (if bt191.1 = true then (Y9.l0 k1 bt191.2.1 bt191.2.2.1 bt191.2.2.2.1 bt191.2.2.2.2 6 (⟨#[]⟩ : ByteArray) ([] : List ByteArray) (([(⟨x183000_1, x183001_1, x183002_1, x183003_1⟩ : S37)] : List (S37)))) else ((Yl.f k1 bt191.2.1 bt191.2.2.1 bt191.2.2.2.1 bt191.2.2.2.2 63).bind fun bt199 => (if bt199.1 = true then (Y9.l0 k1 bt199.2.1 bt199.2.2.1 bt199.2.2.2.1 bt199.2.2.2.2 7 (⟨#[]⟩ : ByteArray) ([] : List ByteArray) (([(⟨x183000_1, x183001_1, x183002_1, x183003_1⟩ : S37)] : List (S37)))) else (some (x183000_1, x183001_1, x183002_1, x183003_1, bt199.2.1, bt199.2.2.1, bt199.2.2.2.1, bt199.2.2.2.2)))))) = some (r1, r2, r3, r4, r5, r6, r7, r8) := by rw [if_neg (show ¬ (false = true) by decide)] at H; exact H
    clear H
    have H := H1
    clear H1
    replace H := Option.bind_eq_some_iff.mp H
    obtain ⟨⟨t191, t192, t193, t194, t195⟩, A240, H⟩ := H
    replace H : (if t191 = true then (Y9.l0 k1 t192 t193 t194 t195 6 (⟨#[]⟩ : ByteArray) ([] : List ByteArray) (([(⟨x183000_1, x183001_1, x183002_1, x183003_1⟩ : S37)] : List (S37)))) else ((Yl.f k1 t192 t193 t194 t195 63).bind fun bt199 => (if bt199.1 = true then (Y9.l0 k1 bt199.2.1 bt199.2.2.1 bt199.2.2.2.1 bt199.2.2.2.2 7 (⟨#[]⟩ : ByteArray) ([] : List ByteArray) (([(⟨x183000_1, x183001_1, x183002_1, x183003_1⟩ : S37)] : List (S37)))) else (some (x183000_1, x183001_1, x183002_1, x183003_1, bt199.2.1, bt199.2.2.1, bt199.2.2.2.1, bt199.2.2.2.2))))) = some (r1, r2, r3, r4, r5, r6, r7, r8) := H
    have A24 := Y0.mk A240
    clear A240
    by_cases c25 : t191 = true
    ·subst c25
     have H1 : (Y9.l0 k1 t192 t193 t194 t195 6 (⟨#[]⟩ : ByteArray) ([] : List ByteArray) (([(⟨x183000_1, x183001_1, x183002_1, x183003_1⟩ : S37)] : List (S37)))) = some (r1, r2, r3, r4, r5, r6, r7, r8) := by rw [if_pos rfl] at H; exact H
     clear H
     have H := H1
     clear H1
     obtain ⟨y196, hy196⟩ : ∃ y_ : List (S37), y_ = (([(⟨x183000_1, x183001_1, x183002_1, x183003_1⟩ : S37)] : List (S37))) := ⟨_, rfl⟩
     replace H : (Y9.l0 k1 t192 t193 t194 t195 6 (⟨#[]⟩ : ByteArray) ([] : List ByteArray) y196) = some (r1, r2, r3, r4, r5, r6, r7, r8) := by first | (rw [hy196]; with_reducible exact H) | (have H2_ := (Option.bind_some _ _).symm.trans H; rw [hy196]; with_reducible exact H2_) | (have H2_ := (Option.bind_some _ _).symm.trans H; with_reducible exact H2_) | with_reducible exact H | (rw [hy196]; exact H) | exact H
     have Ny196 := Y0.mk hy196
     clear hy196
     have H' := Y0.mk H
     clear H
     go_wp2_with (first | ((with_reducible refine Yn (f := 97) rfl ?_); refine YO (some 12) rfl rfl Tryd.func97 Z6 rfl #[.pointer (some ⟨g, 0, none⟩), .int .u8 42] rfl Z0 ?_; (with_reducible refine (Yl.calls k1 g x1000_1 x1001_1 x1002_1 x1003_1 42 false t184 t185 t186 t187 w0 _ ?side1 ?side2 A12.out).mono ?_); (case side1 => exact Z1n); (case side2 => exact QB); rintro e w26 ⟨rfl, hi, hb, hk⟩; refine ⟨_, rfl, ?_⟩; have n0_ := Y0.mk (Kd.R_mono (Kd.R_keep (YB.apart (show YB w0 _ g x1000_1 x1001_1 x1002_1 x1003_1 from QI81_0) Zn (by decide)) hk (fun _ h => h.2)) (fun _ h => h.1)); have n1_ := Y0.mk (Kd.N_mono (Kd.N_keep (Kd.N_mono (ok := fun k_ => (((w.heap.size ≤ k_)) ∧ (some k_ ≠ (u183002 : Value).ownBlock ∧ (k_ ≠ gb169 ∧ (k_ ≠ gb182 ∧ k_ ≠ g))))) Zm (fun k_ hk_ => (⟨hk_, hk_.2.2.2.2⟩ : _ ∧ k_ ≠ g))) hk (fun _ h => h.2)) (fun _ h => h.1)); have n2_ := Y0.mk (Y1.blk hk (g' := gb169) (o := .cells #[.int .i64 x170000_1, .string x170001_1, .slice none 0 0, .slice none 0 0] 37 (0, 0)) QQ NB169_0.out (by simp)); have n3_ := Y0.mk (Y1.blk hk (g' := gb182) (o := .cells #[.int .i64 x183000_1, .string x183001_1, u183002, u183003] 37 (0, 0)) QQ NB182_0.out (by simp)); have n4_ := Y0.mk (Y1.trans QK hk (.inl rfl)); have n5_ := Y0.mk (hb); have n6_ := Y0.mk (hi); clear HO_183002 HO_183003 BK169 BK182 HK HB HI0; have HO_183002 := n0_; have HO_183003 := n1_; have BK169 := n2_; have BK182 := n3_; have HK := n4_; have HB := n5_; have HI0 := n6_; clear n0_ n1_ n2_ n3_ n4_ n5_ n6_; (try clear hb); (try clear hb2); (try clear hk); (try clear hi)) | ((with_reducible refine Yn (f := 97) rfl ?_); refine YO (some 18) rfl rfl Tryd.func97 Z6 rfl #[.pointer (some ⟨g, 0, none⟩), .int .u8 43] rfl Z0 ?_; (with_reducible refine (Yl.calls k1 g t184 t185 t186 t187 43 true t192 t193 t194 t195 w0 _ ?side1 ?side2 A24.out).mono ?_); (case side1 => exact Z1n); (case side2 => exact QB); rintro e w27 ⟨rfl, hi, hb, hk⟩; refine ⟨_, rfl, ?_⟩; have n0_ := Y0.mk (Kd.R_mono (Kd.R_keep (YB.apart (show YB w0 _ g t184 t185 t186 t187 from QI81_0) Zn (by decide)) hk (fun _ h => h.2)) (fun _ h => h.1)); have n1_ := Y0.mk (Kd.N_mono (Kd.N_keep (Kd.N_mono (ok := fun k_ => (((w.heap.size ≤ k_)) ∧ (some k_ ≠ (u183002 : Value).ownBlock ∧ (k_ ≠ gb169 ∧ (k_ ≠ gb182 ∧ k_ ≠ g))))) Zm (fun k_ hk_ => (⟨hk_, hk_.2.2.2.2⟩ : _ ∧ k_ ≠ g))) hk (fun _ h => h.2)) (fun _ h => h.1)); have n2_ := Y0.mk (Y1.blk hk (g' := gb169) (o := .cells #[.int .i64 x170000_1, .string x170001_1, .slice none 0 0, .slice none 0 0] 37 (0, 0)) QQ NB169_0.out (by simp)); have n3_ := Y0.mk (Y1.blk hk (g' := gb182) (o := .cells #[.int .i64 x183000_1, .string x183001_1, u183002, u183003] 37 (0, 0)) QQ NB182_0.out (by simp)); have n4_ := Y0.mk (Y1.trans QK hk (.inl rfl)); have n5_ := Y0.mk (hb); have n6_ := Y0.mk (hi); clear HO_183002 HO_183003 BK169 BK182 HK HB HI0; have HO_183002 := n0_; have HO_183003 := n1_; have BK169 := n2_; have BK182 := n3_; have HK := n4_; have HB := n5_; have HI0 := n6_; clear n0_ n1_ n2_ n3_ n4_ n5_ n6_; (try clear hb); (try clear hb2); (try clear hk); (try clear hi); have hnb28 := NB182_169.out; have hnc28 := NB169_182.out; have hnb29 := NB182_0.out; have hnc29 := NB0_182.out; obtain ⟨hcz30_0, hcz30_1, hcz30_2, hcz30_3, hfz30_0, hfz30_1, hfz30_2, hfz30_3⟩ := YA BK182.out; obtain ⟨Ao31, co31, eo31⟩ := Kd.R_slice HO_183002.out; subst eo31; obtain ⟨Ao32, co32, eo32⟩ := Kd.N_slice HO_183003.out; subst eo32) | ((with_reducible refine YF (N := 20) rfl ?_); refine Kd.N_lit k37 _ 37 ?hg (N' := 20) ?hd (xs := ([(⟨x183000_1, x183001_1, x183002_1, x183003_1⟩ : S37)] : List (S37))) (inner := [.int .i64 x183000_1, .string x183001_1, .slice Ao31 x183002_1.length co31, .slice Ao32 x183003_1.length co32]) (ok := (fun k_ => (w.heap.size ≤ k_) ∧ k_ ≠ gb169 ∧ k_ ≠ gb182 ∧ k_ ≠ g)) (okp := (fun k_ => (w.heap.size ≤ k_) ∧ k_ ≠ gb169 ∧ k_ ≠ gb182 ∧ k_ ≠ g)) ?hr ?hp (fun _ hk => hk) ((show ∀ k_, w27.heap.size ≤ k_ → (fun k_ => (w.heap.size ≤ k_) ∧ k_ ≠ gb169 ∧ k_ ≠ gb182 ∧ k_ ≠ g) k_ from fun k_ hk => ⟨(Nat.le_trans (Y8 (w := w) (g := g) (row := none) QK) hk), Kd.freshB (g := gb169) (o := .cells #[.int .i64 x170000_1, .string x170001_1, .slice none 0 0, .slice none 0 0] 37 (0, 0)) QQ k_ hk, Kd.freshB (g := gb182) (o := .cells #[.int .i64 x183000_1, .string x183001_1, .slice Ao31 x183002_1.length co31, .slice Ao32 x183003_1.length co32] 37 (0, 0)) QQ k_ hk, YB.fresh QI81_0 k_ hk⟩) _ (Nat.le_refl _)) (Below.refl _ _) (Nat.le_refl _) (by simp) ?_; (case hd => rfl); (case hg => rfl); (case hr => exact Za); (case hp => exact (Y1E.c4 (show Kd.FK k37 _ _ (⟨x183000_1, x183001_1, x183002_1, x183003_1⟩ : S37) [.int .i64 x183000_1, .string x183001_1, .slice Ao31 x183002_1.length co31, .slice Ao32 x183003_1.length co32] from (Y2d _ _ (⟨x183000_1, x183001_1, x183002_1, x183003_1⟩ : S37) (Kd.R_reads' (Kd.R_mono (ok' := (fun k_ => (w.heap.size ≤ k_) ∧ k_ ≠ gb169 ∧ k_ ≠ gb182 ∧ k_ ≠ g)) (YB.apart HI0.out (Kd.R_types (Kd.R_types (HO_183002.out) BK169.out (by decide)) BK182.out (by decide)) (by decide)) (fun k_ hk => ⟨hk.1.1.1, ⟨hk.1.1.2, ⟨hk.1.2, hk.2⟩⟩⟩))).2.1 (Kd.R_F (Kd.R_mono (ok' := (fun k_ => (w.heap.size ≤ k_) ∧ k_ ≠ gb169 ∧ k_ ≠ gb182 ∧ k_ ≠ g)) (YB.apart HI0.out (Kd.R_types (Kd.R_types (HO_183002.out) BK169.out (by decide)) BK182.out (by decide)) (by decide)) (fun k_ hk => ⟨hk.1.1.1, ⟨hk.1.1.2, ⟨hk.1.2, hk.2⟩⟩⟩))) (Kd.N_reads' (Kd.N_mono (ok' := (fun k_ => (w.heap.size ≤ k_) ∧ k_ ≠ gb169 ∧ k_ ≠ gb182 ∧ k_ ≠ g)) (HO_183003.out) (fun k_ hk => ⟨hk.1, ⟨hk.2.2.1, ⟨hk.2.2.2.1, hk.2.2.2.2⟩⟩⟩))).2.1 (Kd.N_F (Kd.N_mono (ok' := (fun k_ => (w.heap.size ≤ k_) ∧ k_ ≠ gb169 ∧ k_ ≠ gb182 ∧ k_ ≠ g)) (HO_183003.out) (fun k_ hk => ⟨hk.1, ⟨hk.2.2.1, ⟨hk.2.2.2.1, hk.2.2.2.2⟩⟩⟩))))) (Y1E.none _ _))); intro v197 w33 ho34 hb hg_ hnew_; clear hg_ hnew_; (first | rw [← Ny196.out] at ho34 | (simp only [Int.reduceToNat] at ho34; rw [← Ny196.out] at ho34)); have n_ := Y3w (Kd.N_lower ho34 (Y8 (w := w) (g := g) (row := none) QK)) (Yu (g := gb169) (o := .cells #[.int .i64 x170000_1, .string x170001_1, .slice none 0 0, .slice none 0 0] 37 (0, 0)) QQ hb) (Yu (g := gb182) (o := .cells #[.int .i64 x183000_1, .string x183001_1, .slice Ao31 x183002_1.length co31, .slice Ao32 x183003_1.length co32] 37 (0, 0)) QQ hb) (YB.below QI81_0 hb) (Y1.trans QK (Y1.of_below hb g none) (.inl rfl)) (Yb QB hb); clear BK169 BK182 HI0 HK HB HO_183002 HO_183003; obtain ⟨HO198, BK169, BK182, HI0, HK, HB⟩ := n_; clear hb ho34; obtain ⟨Ao35, co35, eo35⟩ := Kd.N_slice HO198.out; subst eo35; obtain ⟨hcz36_0, hcz36_1, hcz36_2, hcz36_3, hfz36_0, hfz36_1, hfz36_2, hfz36_3⟩ := YA BK182.out))
     go_roundg k1
     case measure => have := HK1.out; omega
     case rel => exact ⟨(t192), (t193), (t194), (t195), (x170000_1), (x170001_1), (6), ((⟨#[]⟩ : ByteArray)), (([] : List ByteArray)), (y196), (.slice none 0 0), (.slice Ao35 y196.length co35), H', ⟨Z13⟩, ⟨Z5⟩, ⟨by (with_reducible repeat (first | apply Kd.N_alloc | apply Kd.N_drewN | apply Kd.N_drew)); exact Kd.N_mono (Kd.N_far (p := ⟨gb182, 3, none⟩) (Kd.N_far (p := ⟨gb182, 2, none⟩) (Kd.N_far (p := ⟨gb182, 1, none⟩) (Kd.N_far (p := ⟨gb182, 0, none⟩) (Kd.N_mono HO198.out (fun k_ hk => (⟨hk, hk.2.2.1⟩ : _ ∧ k_ ≠ gb182))) (fun _ hk => hk.2) (.int .i64 6)) (fun _ hk => hk.2) (.string (⟨#[]⟩ : ByteArray))) (fun _ hk => hk.2) (.slice none 0 0)) (fun _ hk => hk.2) (.slice Ao35 y196.length co35)) (fun _ hk => ⟨hk.1.1, ⟨Z2b, ⟨hk.1.2.1, ⟨hk.1.2.2.1, hk.1.2.2.2⟩⟩⟩⟩)⟩, ⟨Z9⟩, ⟨by (with_reducible repeat (first | refine Yg ?_ _ | refine Ya ?_ | refine Ye ?_ _)); exact YD (cs := #[.int .i64 6, .string (⟨#[]⟩ : ByteArray), .slice none 0 0, .slice Ao32 x183003_1.length co32]) (by (with_reducible repeat (first | refine Yg ?_ _ | refine Ya ?_ | refine Ye ?_ _)); exact YD (cs := #[.int .i64 6, .string (⟨#[]⟩ : ByteArray), .slice Ao31 x183002_1.length co31, .slice Ao32 x183003_1.length co32]) (by (with_reducible repeat (first | refine Yg ?_ _ | refine Ya ?_ | refine Ye ?_ _)); exact YD (cs := #[.int .i64 6, .string x183001_1, .slice Ao31 x183002_1.length co31, .slice Ao32 x183003_1.length co32]) (by (with_reducible repeat (first | refine Yg ?_ _ | refine Ya ?_ | refine Ye ?_ _)); exact YD (cs := #[.int .i64 x183000_1, .string x183001_1, .slice Ao31 x183002_1.length co31, .slice Ao32 x183003_1.length co32]) QQ 0 _ rfl) 1 _ rfl) 2 _ rfl) 3 _ rfl⟩, ⟨QI81_0⟩, ⟨QK⟩, ⟨QB⟩⟩
    ·replace c25 := Bool.eq_false_iff.mpr c25
     subst c25
     have H1 : ((Yl.f k1 t192 t193 t194 t195 63).bind fun bt199 => (if bt199.1 = true then (Y9.l0 k1 bt199.2.1 bt199.2.2.1 bt199.2.2.2.1 bt199.2.2.2.2 7 (⟨#[]⟩ : ByteArray) ([] : List ByteArray) (([(⟨x183000_1, x183001_1, x183002_1, x183003_1⟩ : S37)] : List (S37)))) else (some (x183000_1, x183001_1, x183002_1, x183003_1, bt199.2.1, bt199.2.2.1, bt199.2.2.2.1, bt199.2.2.2.2)))) = some (r1, r2, r3, r4, r5, r6, r7, r8) := by rw [if_neg (show ¬ (false = true) by decide)] at H; exact H
     clear H
     have H := H1
     clear H1
     replace H := Option.bind_eq_some_iff.mp H
     obtain ⟨⟨t199, t200, t201, t202, t203⟩, A370, H⟩ := H
     replace H : (if t199 = true then (Y9.l0 k1 t200 t201 t202 t203 7 (⟨#[]⟩ : ByteArray) ([] : List ByteArray) (([(⟨x183000_1, x183001_1, x183002_1, x183003_1⟩ : S37)] : List (S37)))) else (some (x183000_1, x183001_1, x183002_1, x183003_1, t200, t201, t202, t203))) = some (r1, r2, r3, r4, r5, r6, r7, r8) := H
     have A37 := Y0.mk A370
     clear A370
     by_cases c38 : t199 = true
     ·subst c38
      have H1 : (Y9.l0 k1 t200 t201 t202 t203 7 (⟨#[]⟩ : ByteArray) ([] : List ByteArray) (([(⟨x183000_1, x183001_1, x183002_1, x183003_1⟩ : S37)] : List (S37)))) = some (r1, r2, r3, r4, r5, r6, r7, r8) := by rw [if_pos rfl] at H; exact H
      clear H
      have H := H1
      clear H1
      obtain ⟨y204, hy204⟩ : ∃ y_ : List (S37), y_ = (([(⟨x183000_1, x183001_1, x183002_1, x183003_1⟩ : S37)] : List (S37))) := ⟨_, rfl⟩
      replace H : (Y9.l0 k1 t200 t201 t202 t203 7 (⟨#[]⟩ : ByteArray) ([] : List ByteArray) y204) = some (r1, r2, r3, r4, r5, r6, r7, r8) := by first | (rw [hy204]; with_reducible exact H) | (have H2_ := (Option.bind_some _ _).symm.trans H; rw [hy204]; with_reducible exact H2_) | (have H2_ := (Option.bind_some _ _).symm.trans H; with_reducible exact H2_) | with_reducible exact H | (rw [hy204]; exact H) | exact H
      have Ny204 := Y0.mk hy204
      clear hy204
      have H' := Y0.mk H
      clear H
      go_wp2_with (first | ((with_reducible refine Yn (f := 97) rfl ?_); refine YO (some 12) rfl rfl Tryd.func97 Z6 rfl #[.pointer (some ⟨g, 0, none⟩), .int .u8 42] rfl Z0 ?_; (with_reducible refine (Yl.calls k1 g x1000_1 x1001_1 x1002_1 x1003_1 42 false t184 t185 t186 t187 w0 _ ?side1 ?side2 A12.out).mono ?_); (case side1 => exact Z1n); (case side2 => exact QB); rintro e w39 ⟨rfl, hi, hb, hk⟩; refine ⟨_, rfl, ?_⟩; have n0_ := Y0.mk (Kd.R_mono (Kd.R_keep (YB.apart (show YB w0 _ g x1000_1 x1001_1 x1002_1 x1003_1 from QI81_0) Zn (by decide)) hk (fun _ h => h.2)) (fun _ h => h.1)); have n1_ := Y0.mk (Kd.N_mono (Kd.N_keep (Kd.N_mono (ok := fun k_ => (((w.heap.size ≤ k_)) ∧ (some k_ ≠ (u183002 : Value).ownBlock ∧ (k_ ≠ gb169 ∧ (k_ ≠ gb182 ∧ k_ ≠ g))))) Zm (fun k_ hk_ => (⟨hk_, hk_.2.2.2.2⟩ : _ ∧ k_ ≠ g))) hk (fun _ h => h.2)) (fun _ h => h.1)); have n2_ := Y0.mk (Y1.blk hk (g' := gb169) (o := .cells #[.int .i64 x170000_1, .string x170001_1, .slice none 0 0, .slice none 0 0] 37 (0, 0)) QQ NB169_0.out (by simp)); have n3_ := Y0.mk (Y1.blk hk (g' := gb182) (o := .cells #[.int .i64 x183000_1, .string x183001_1, u183002, u183003] 37 (0, 0)) QQ NB182_0.out (by simp)); have n4_ := Y0.mk (Y1.trans QK hk (.inl rfl)); have n5_ := Y0.mk (hb); have n6_ := Y0.mk (hi); clear HO_183002 HO_183003 BK169 BK182 HK HB HI0; have HO_183002 := n0_; have HO_183003 := n1_; have BK169 := n2_; have BK182 := n3_; have HK := n4_; have HB := n5_; have HI0 := n6_; clear n0_ n1_ n2_ n3_ n4_ n5_ n6_; (try clear hb); (try clear hb2); (try clear hk); (try clear hi)) | ((with_reducible refine Yn (f := 97) rfl ?_); refine YO (some 18) rfl rfl Tryd.func97 Z6 rfl #[.pointer (some ⟨g, 0, none⟩), .int .u8 43] rfl Z0 ?_; (with_reducible refine (Yl.calls k1 g t184 t185 t186 t187 43 false t192 t193 t194 t195 w0 _ ?side1 ?side2 A24.out).mono ?_); (case side1 => exact Z1n); (case side2 => exact QB); rintro e w40 ⟨rfl, hi, hb, hk⟩; refine ⟨_, rfl, ?_⟩; have n0_ := Y0.mk (Kd.R_mono (Kd.R_keep (YB.apart (show YB w0 _ g t184 t185 t186 t187 from QI81_0) Zn (by decide)) hk (fun _ h => h.2)) (fun _ h => h.1)); have n1_ := Y0.mk (Kd.N_mono (Kd.N_keep (Kd.N_mono (ok := fun k_ => (((w.heap.size ≤ k_)) ∧ (some k_ ≠ (u183002 : Value).ownBlock ∧ (k_ ≠ gb169 ∧ (k_ ≠ gb182 ∧ k_ ≠ g))))) Zm (fun k_ hk_ => (⟨hk_, hk_.2.2.2.2⟩ : _ ∧ k_ ≠ g))) hk (fun _ h => h.2)) (fun _ h => h.1)); have n2_ := Y0.mk (Y1.blk hk (g' := gb169) (o := .cells #[.int .i64 x170000_1, .string x170001_1, .slice none 0 0, .slice none 0 0] 37 (0, 0)) QQ NB169_0.out (by simp)); have n3_ := Y0.mk (Y1.blk hk (g' := gb182) (o := .cells #[.int .i64 x183000_1, .string x183001_1, u183002, u183003] 37 (0, 0)) QQ NB182_0.out (by simp)); have n4_ := Y0.mk (Y1.trans QK hk (.inl rfl)); have n5_ := Y0.mk (hb); have n6_ := Y0.mk (hi); clear HO_183002 HO_183003 BK169 BK182 HK HB HI0; have HO_183002 := n0_; have HO_183003 := n1_; have BK169 := n2_; have BK182 := n3_; have HK := n4_; have HB := n5_; have HI0 := n6_; clear n0_ n1_ n2_ n3_ n4_ n5_ n6_; (try clear hb); (try clear hb2); (try clear hk); (try clear hi)) | ((with_reducible refine Yn (f := 97) rfl ?_); refine YO (some 24) rfl rfl Tryd.func97 Z6 rfl #[.pointer (some ⟨g, 0, none⟩), .int .u8 63] rfl Z0 ?_; (with_reducible refine (Yl.calls k1 g t192 t193 t194 t195 63 true t200 t201 t202 t203 w0 _ ?side1 ?side2 A37.out).mono ?_); (case side1 => exact Z1n); (case side2 => exact QB); rintro e w41 ⟨rfl, hi, hb, hk⟩; refine ⟨_, rfl, ?_⟩; have n0_ := Y0.mk (Kd.R_mono (Kd.R_keep (YB.apart (show YB w0 _ g t192 t193 t194 t195 from QI81_0) Zn (by decide)) hk (fun _ h => h.2)) (fun _ h => h.1)); have n1_ := Y0.mk (Kd.N_mono (Kd.N_keep (Kd.N_mono (ok := fun k_ => (((w.heap.size ≤ k_)) ∧ (some k_ ≠ (u183002 : Value).ownBlock ∧ (k_ ≠ gb169 ∧ (k_ ≠ gb182 ∧ k_ ≠ g))))) Zm (fun k_ hk_ => (⟨hk_, hk_.2.2.2.2⟩ : _ ∧ k_ ≠ g))) hk (fun _ h => h.2)) (fun _ h => h.1)); have n2_ := Y0.mk (Y1.blk hk (g' := gb169) (o := .cells #[.int .i64 x170000_1, .string x170001_1, .slice none 0 0, .slice none 0 0] 37 (0, 0)) QQ NB169_0.out (by simp)); have n3_ := Y0.mk (Y1.blk hk (g' := gb182) (o := .cells #[.int .i64 x183000_1, .string x183001_1, u183002, u183003] 37 (0, 0)) QQ NB182_0.out (by simp)); have n4_ := Y0.mk (Y1.trans QK hk (.inl rfl)); have n5_ := Y0.mk (hb); have n6_ := Y0.mk (hi); clear HO_183002 HO_183003 BK169 BK182 HK HB HI0; have HO_183002 := n0_; have HO_183003 := n1_; have BK169 := n2_; have BK182 := n3_; have HK := n4_; have HB := n5_; have HI0 := n6_; clear n0_ n1_ n2_ n3_ n4_ n5_ n6_; (try clear hb); (try clear hb2); (try clear hk); (try clear hi); have hnb42 := NB182_169.out; have hnc42 := NB169_182.out; have hnb43 := NB182_0.out; have hnc43 := NB0_182.out; obtain ⟨hcz44_0, hcz44_1, hcz44_2, hcz44_3, hfz44_0, hfz44_1, hfz44_2, hfz44_3⟩ := YA BK182.out; obtain ⟨Ao45, co45, eo45⟩ := Kd.R_slice HO_183002.out; subst eo45; obtain ⟨Ao46, co46, eo46⟩ := Kd.N_slice HO_183003.out; subst eo46) | ((with_reducible refine YF (N := 26) rfl ?_); refine Kd.N_lit k37 _ 37 ?hg (N' := 26) ?hd (xs := ([(⟨x183000_1, x183001_1, x183002_1, x183003_1⟩ : S37)] : List (S37))) (inner := [.int .i64 x183000_1, .string x183001_1, .slice Ao45 x183002_1.length co45, .slice Ao46 x183003_1.length co46]) (ok := (fun k_ => (w.heap.size ≤ k_) ∧ k_ ≠ gb169 ∧ k_ ≠ gb182 ∧ k_ ≠ g)) (okp := (fun k_ => (w.heap.size ≤ k_) ∧ k_ ≠ gb169 ∧ k_ ≠ gb182 ∧ k_ ≠ g)) ?hr ?hp (fun _ hk => hk) ((show ∀ k_, w41.heap.size ≤ k_ → (fun k_ => (w.heap.size ≤ k_) ∧ k_ ≠ gb169 ∧ k_ ≠ gb182 ∧ k_ ≠ g) k_ from fun k_ hk => ⟨(Nat.le_trans (Y8 (w := w) (g := g) (row := none) QK) hk), Kd.freshB (g := gb169) (o := .cells #[.int .i64 x170000_1, .string x170001_1, .slice none 0 0, .slice none 0 0] 37 (0, 0)) QQ k_ hk, Kd.freshB (g := gb182) (o := .cells #[.int .i64 x183000_1, .string x183001_1, .slice Ao45 x183002_1.length co45, .slice Ao46 x183003_1.length co46] 37 (0, 0)) QQ k_ hk, YB.fresh QI81_0 k_ hk⟩) _ (Nat.le_refl _)) (Below.refl _ _) (Nat.le_refl _) (by simp) ?_; (case hd => rfl); (case hg => rfl); (case hr => exact Za); (case hp => exact (Y1E.c4 (show Kd.FK k37 _ _ (⟨x183000_1, x183001_1, x183002_1, x183003_1⟩ : S37) [.int .i64 x183000_1, .string x183001_1, .slice Ao45 x183002_1.length co45, .slice Ao46 x183003_1.length co46] from (Y2d _ _ (⟨x183000_1, x183001_1, x183002_1, x183003_1⟩ : S37) (Kd.R_reads' (Kd.R_mono (ok' := (fun k_ => (w.heap.size ≤ k_) ∧ k_ ≠ gb169 ∧ k_ ≠ gb182 ∧ k_ ≠ g)) (YB.apart HI0.out (Kd.R_types (Kd.R_types (HO_183002.out) BK169.out (by decide)) BK182.out (by decide)) (by decide)) (fun k_ hk => ⟨hk.1.1.1, ⟨hk.1.1.2, ⟨hk.1.2, hk.2⟩⟩⟩))).2.1 (Kd.R_F (Kd.R_mono (ok' := (fun k_ => (w.heap.size ≤ k_) ∧ k_ ≠ gb169 ∧ k_ ≠ gb182 ∧ k_ ≠ g)) (YB.apart HI0.out (Kd.R_types (Kd.R_types (HO_183002.out) BK169.out (by decide)) BK182.out (by decide)) (by decide)) (fun k_ hk => ⟨hk.1.1.1, ⟨hk.1.1.2, ⟨hk.1.2, hk.2⟩⟩⟩))) (Kd.N_reads' (Kd.N_mono (ok' := (fun k_ => (w.heap.size ≤ k_) ∧ k_ ≠ gb169 ∧ k_ ≠ gb182 ∧ k_ ≠ g)) (HO_183003.out) (fun k_ hk => ⟨hk.1, ⟨hk.2.2.1, ⟨hk.2.2.2.1, hk.2.2.2.2⟩⟩⟩))).2.1 (Kd.N_F (Kd.N_mono (ok' := (fun k_ => (w.heap.size ≤ k_) ∧ k_ ≠ gb169 ∧ k_ ≠ gb182 ∧ k_ ≠ g)) (HO_183003.out) (fun k_ hk => ⟨hk.1, ⟨hk.2.2.1, ⟨hk.2.2.2.1, hk.2.2.2.2⟩⟩⟩))))) (Y1E.none _ _))); intro v205 w47 ho48 hb hg_ hnew_; clear hg_ hnew_; (first | rw [← Ny204.out] at ho48 | (simp only [Int.reduceToNat] at ho48; rw [← Ny204.out] at ho48)); have n_ := Y3w (Kd.N_lower ho48 (Y8 (w := w) (g := g) (row := none) QK)) (Yu (g := gb169) (o := .cells #[.int .i64 x170000_1, .string x170001_1, .slice none 0 0, .slice none 0 0] 37 (0, 0)) QQ hb) (Yu (g := gb182) (o := .cells #[.int .i64 x183000_1, .string x183001_1, .slice Ao45 x183002_1.length co45, .slice Ao46 x183003_1.length co46] 37 (0, 0)) QQ hb) (YB.below QI81_0 hb) (Y1.trans QK (Y1.of_below hb g none) (.inl rfl)) (Yb QB hb); clear BK169 BK182 HI0 HK HB HO_183002 HO_183003; obtain ⟨HO206, BK169, BK182, HI0, HK, HB⟩ := n_; clear hb ho48; obtain ⟨Ao49, co49, eo49⟩ := Kd.N_slice HO206.out; subst eo49; obtain ⟨hcz50_0, hcz50_1, hcz50_2, hcz50_3, hfz50_0, hfz50_1, hfz50_2, hfz50_3⟩ := YA BK182.out))
      go_roundg k1
      case measure => have := HK1.out; omega
      case rel => exact ⟨(t200), (t201), (t202), (t203), (x170000_1), (x170001_1), (7), ((⟨#[]⟩ : ByteArray)), (([] : List ByteArray)), (y204), (.slice none 0 0), (.slice Ao49 y204.length co49), H', ⟨Z13⟩, ⟨Z5⟩, ⟨by (with_reducible repeat (first | apply Kd.N_alloc | apply Kd.N_drewN | apply Kd.N_drew)); exact Kd.N_mono (Kd.N_far (p := ⟨gb182, 3, none⟩) (Kd.N_far (p := ⟨gb182, 2, none⟩) (Kd.N_far (p := ⟨gb182, 1, none⟩) (Kd.N_far (p := ⟨gb182, 0, none⟩) (Kd.N_mono HO206.out (fun k_ hk => (⟨hk, hk.2.2.1⟩ : _ ∧ k_ ≠ gb182))) (fun _ hk => hk.2) (.int .i64 7)) (fun _ hk => hk.2) (.string (⟨#[]⟩ : ByteArray))) (fun _ hk => hk.2) (.slice none 0 0)) (fun _ hk => hk.2) (.slice Ao49 y204.length co49)) (fun _ hk => ⟨hk.1.1, ⟨Z2b, ⟨hk.1.2.1, ⟨hk.1.2.2.1, hk.1.2.2.2⟩⟩⟩⟩)⟩, ⟨Z9⟩, ⟨by (with_reducible repeat (first | refine Yg ?_ _ | refine Ya ?_ | refine Ye ?_ _)); exact YD (cs := #[.int .i64 7, .string (⟨#[]⟩ : ByteArray), .slice none 0 0, .slice Ao46 x183003_1.length co46]) (by (with_reducible repeat (first | refine Yg ?_ _ | refine Ya ?_ | refine Ye ?_ _)); exact YD (cs := #[.int .i64 7, .string (⟨#[]⟩ : ByteArray), .slice Ao45 x183002_1.length co45, .slice Ao46 x183003_1.length co46]) (by (with_reducible repeat (first | refine Yg ?_ _ | refine Ya ?_ | refine Ye ?_ _)); exact YD (cs := #[.int .i64 7, .string x183001_1, .slice Ao45 x183002_1.length co45, .slice Ao46 x183003_1.length co46]) (by (with_reducible repeat (first | refine Yg ?_ _ | refine Ya ?_ | refine Ye ?_ _)); exact YD (cs := #[.int .i64 x183000_1, .string x183001_1, .slice Ao45 x183002_1.length co45, .slice Ao46 x183003_1.length co46]) QQ 0 _ rfl) 1 _ rfl) 2 _ rfl) 3 _ rfl⟩, ⟨QI81_0⟩, ⟨QK⟩, ⟨QB⟩⟩
     ·replace c38 := Bool.eq_false_iff.mpr c38
      subst c38
      have H1 : (some (x183000_1, x183001_1, x183002_1, x183003_1, t200, t201, t202, t203)) = some (r1, r2, r3, r4, r5, r6, r7, r8) := by rw [if_neg (show ¬ (false = true) by decide)] at H; exact H
      clear H
      have H := H1
      clear H1
      simp only [Option.some.injEq, Prod.mk.injEq] at H
      obtain ⟨rfl, rfl, rfl, rfl, rfl, rfl, rfl, rfl⟩ := H
      go_wp2_with (first | ((with_reducible refine Yn (f := 97) rfl ?_); refine YO (some 12) rfl rfl Tryd.func97 Z6 rfl #[.pointer (some ⟨g, 0, none⟩), .int .u8 42] rfl Z0 ?_; (with_reducible refine (Yl.calls k1 g x1000_1 x1001_1 x1002_1 x1003_1 42 false t184 t185 t186 t187 w0 _ ?side1 ?side2 A12.out).mono ?_); (case side1 => exact Z1n); (case side2 => exact QB); rintro e w51 ⟨rfl, hi, hb, hk⟩; refine ⟨_, rfl, ?_⟩; have n0_ := Y0.mk (Kd.R_mono (Kd.R_keep (YB.apart (show YB w0 _ g x1000_1 x1001_1 x1002_1 x1003_1 from QI81_0) Zn (by decide)) hk (fun _ h => h.2)) (fun _ h => h.1)); have n1_ := Y0.mk (Kd.N_mono (Kd.N_keep (Kd.N_mono (ok := fun k_ => (((w.heap.size ≤ k_)) ∧ (some k_ ≠ (u183002 : Value).ownBlock ∧ (k_ ≠ gb169 ∧ (k_ ≠ gb182 ∧ k_ ≠ g))))) Zm (fun k_ hk_ => (⟨hk_, hk_.2.2.2.2⟩ : _ ∧ k_ ≠ g))) hk (fun _ h => h.2)) (fun _ h => h.1)); have n2_ := Y0.mk (Y1.blk hk (g' := gb169) (o := .cells #[.int .i64 x170000_1, .string x170001_1, .slice none 0 0, .slice none 0 0] 37 (0, 0)) QQ NB169_0.out (by simp)); have n3_ := Y0.mk (Y1.blk hk (g' := gb182) (o := .cells #[.int .i64 x183000_1, .string x183001_1, u183002, u183003] 37 (0, 0)) QQ NB182_0.out (by simp)); have n4_ := Y0.mk (Y1.trans QK hk (.inl rfl)); have n5_ := Y0.mk (hb); have n6_ := Y0.mk (hi); clear HO_183002 HO_183003 BK169 BK182 HK HB HI0; have HO_183002 := n0_; have HO_183003 := n1_; have BK169 := n2_; have BK182 := n3_; have HK := n4_; have HB := n5_; have HI0 := n6_; clear n0_ n1_ n2_ n3_ n4_ n5_ n6_; (try clear hb); (try clear hb2); (try clear hk); (try clear hi)) | ((with_reducible refine Yn (f := 97) rfl ?_); refine YO (some 18) rfl rfl Tryd.func97 Z6 rfl #[.pointer (some ⟨g, 0, none⟩), .int .u8 43] rfl Z0 ?_; (with_reducible refine (Yl.calls k1 g t184 t185 t186 t187 43 false t192 t193 t194 t195 w0 _ ?side1 ?side2 A24.out).mono ?_); (case side1 => exact Z1n); (case side2 => exact QB); rintro e w52 ⟨rfl, hi, hb, hk⟩; refine ⟨_, rfl, ?_⟩; have n0_ := Y0.mk (Kd.R_mono (Kd.R_keep (YB.apart (show YB w0 _ g t184 t185 t186 t187 from QI81_0) Zn (by decide)) hk (fun _ h => h.2)) (fun _ h => h.1)); have n1_ := Y0.mk (Kd.N_mono (Kd.N_keep (Kd.N_mono (ok := fun k_ => (((w.heap.size ≤ k_)) ∧ (some k_ ≠ (u183002 : Value).ownBlock ∧ (k_ ≠ gb169 ∧ (k_ ≠ gb182 ∧ k_ ≠ g))))) Zm (fun k_ hk_ => (⟨hk_, hk_.2.2.2.2⟩ : _ ∧ k_ ≠ g))) hk (fun _ h => h.2)) (fun _ h => h.1)); have n2_ := Y0.mk (Y1.blk hk (g' := gb169) (o := .cells #[.int .i64 x170000_1, .string x170001_1, .slice none 0 0, .slice none 0 0] 37 (0, 0)) QQ NB169_0.out (by simp)); have n3_ := Y0.mk (Y1.blk hk (g' := gb182) (o := .cells #[.int .i64 x183000_1, .string x183001_1, u183002, u183003] 37 (0, 0)) QQ NB182_0.out (by simp)); have n4_ := Y0.mk (Y1.trans QK hk (.inl rfl)); have n5_ := Y0.mk (hb); have n6_ := Y0.mk (hi); clear HO_183002 HO_183003 BK169 BK182 HK HB HI0; have HO_183002 := n0_; have HO_183003 := n1_; have BK169 := n2_; have BK182 := n3_; have HK := n4_; have HB := n5_; have HI0 := n6_; clear n0_ n1_ n2_ n3_ n4_ n5_ n6_; (try clear hb); (try clear hb2); (try clear hk); (try clear hi)) | ((with_reducible refine Yn (f := 97) rfl ?_); refine YO (some 24) rfl rfl Tryd.func97 Z6 rfl #[.pointer (some ⟨g, 0, none⟩), .int .u8 63] rfl Z0 ?_; (with_reducible refine (Yl.calls k1 g t192 t193 t194 t195 63 false t200 t201 t202 t203 w0 _ ?side1 ?side2 A37.out).mono ?_); (case side1 => exact Z1n); (case side2 => exact QB); rintro e w53 ⟨rfl, hi, hb, hk⟩; refine ⟨_, rfl, ?_⟩; have n0_ := Y0.mk (Kd.R_mono (Kd.R_keep (YB.apart (show YB w0 _ g t192 t193 t194 t195 from QI81_0) Zn (by decide)) hk (fun _ h => h.2)) (fun _ h => h.1)); have n1_ := Y0.mk (Kd.N_mono (Kd.N_keep (Kd.N_mono (ok := fun k_ => (((w.heap.size ≤ k_)) ∧ (some k_ ≠ (u183002 : Value).ownBlock ∧ (k_ ≠ gb169 ∧ (k_ ≠ gb182 ∧ k_ ≠ g))))) Zm (fun k_ hk_ => (⟨hk_, hk_.2.2.2.2⟩ : _ ∧ k_ ≠ g))) hk (fun _ h => h.2)) (fun _ h => h.1)); have n2_ := Y0.mk (Y1.blk hk (g' := gb169) (o := .cells #[.int .i64 x170000_1, .string x170001_1, .slice none 0 0, .slice none 0 0] 37 (0, 0)) QQ NB169_0.out (by simp)); have n3_ := Y0.mk (Y1.blk hk (g' := gb182) (o := .cells #[.int .i64 x183000_1, .string x183001_1, u183002, u183003] 37 (0, 0)) QQ NB182_0.out (by simp)); have n4_ := Y0.mk (Y1.trans QK hk (.inl rfl)); have n5_ := Y0.mk (hb); have n6_ := Y0.mk (hi); clear HO_183002 HO_183003 BK169 BK182 HK HB HI0; have HO_183002 := n0_; have HO_183003 := n1_; have BK169 := n2_; have BK182 := n3_; have HK := n4_; have HB := n5_; have HI0 := n6_; clear n0_ n1_ n2_ n3_ n4_ n5_ n6_; (try clear hb); (try clear hb2); (try clear hk); (try clear hi); have hnb54 := NB182_169.out; have hnc54 := NB169_182.out; have hnb55 := NB182_0.out; have hnc55 := NB0_182.out; obtain ⟨hcz56_0, hcz56_1, hcz56_2, hcz56_3, hfz56_0, hfz56_1, hfz56_2, hfz56_3⟩ := YA BK182.out; have hnb57 := NB169_0.out; have hnc57 := NB0_169.out; obtain ⟨hcz58_0, hcz58_1, hcz58_2, hcz58_3, hfz58_0, hfz58_1, hfz58_2, hfz58_3⟩ := YA BK169.out; obtain ⟨Ao59, co59, eo59⟩ := Kd.R_slice HO_183002.out; subst eo59; obtain ⟨Ao60, co60, eo60⟩ := Kd.N_slice HO_183003.out; subst eo60))
      refine bodyPost_ret (results_cell_row rfl _ _ gb169 37 #[.int .i64 x183000_1, .string x183001_1, .slice Ao59 x183002_1.length co59, .slice Ao60 x183003_1.length co60] (0, 0) _ rfl (by (with_reducible repeat (first | refine Yg ?_ _ | refine Ya ?_ | refine Ye ?_ _)); exact YD (cs := #[.int .i64 x183000_1, .string x183001_1, .slice Ao59 x183002_1.length co59, .slice none 0 0]) (by (with_reducible repeat (first | refine Yg ?_ _ | refine Ya ?_ | refine Ye ?_ _)); exact YD (cs := #[.int .i64 x183000_1, .string x183001_1, .slice none 0 0, .slice none 0 0]) (by (with_reducible repeat (first | refine Yg ?_ _ | refine Ya ?_ | refine Ye ?_ _)); exact YD (cs := #[.int .i64 x183000_1, .string x170001_1, .slice none 0 0, .slice none 0 0]) (by (with_reducible repeat (first | refine Yg ?_ _ | refine Ya ?_ | refine Ye ?_ _)); exact YD (cs := #[.int .i64 x170000_1, .string x170001_1, .slice none 0 0, .slice none 0 0]) QQ 0 _ rfl) 1 _ rfl) 2 _ rfl) 3 _ rfl) Tryd.underlying37 rfl Z6) rfl ?_
      exact ⟨_, _, Z2, by (with_reducible repeat (first | apply Kd.R_alloc | apply Kd.R_drewN | apply Kd.R_drew)); exact Kd.R_mono (Kd.R_far (p := ⟨gb169, 3, none⟩) (Kd.R_far (p := ⟨gb169, 2, none⟩) (Kd.R_far (p := ⟨gb169, 1, none⟩) (Kd.R_far (p := ⟨gb169, 0, none⟩) (Kd.R_types HO_183002.out BK169.out (by decide)) (fun _ hk => hk.2) (.int .i64 x183000_1)) (fun _ hk => hk.2) (.string x183001_1)) (fun _ hk => hk.2) (.slice Ao59 x183002_1.length co59)) (fun _ hk => hk.2) (.slice Ao60 x183003_1.length co60)) (fun _ hk => hk.1), by (with_reducible repeat (first | apply Kd.N_alloc | apply Kd.N_drewN | apply Kd.N_drew)); exact Kd.N_mono (Kd.N_far (p := ⟨gb169, 3, none⟩) (Kd.N_far (p := ⟨gb169, 2, none⟩) (Kd.N_far (p := ⟨gb169, 1, none⟩) (Kd.N_far (p := ⟨gb169, 0, none⟩) (Kd.N_mono HO_183003.out (fun k_ hk => (⟨hk, hk.2.2.1⟩ : _ ∧ k_ ≠ gb169))) (fun _ hk => hk.2) (.int .i64 x183000_1)) (fun _ hk => hk.2) (.string x183001_1)) (fun _ hk => hk.2) (.slice Ao59 x183002_1.length co59)) (fun _ hk => hk.2) (.slice Ao60 x183003_1.length co60)) (fun _ hk => ⟨hk.1.1, hk.1.2.1⟩), QI81_0, QB, QK⟩
set_option maxHeartbeats 8000000 in
set_option maxRecDepth 100000 in
theorem Yc.step (k : Nat) (ih : ∀ j_ < k, Yh.Spec j_ ∧ Yp.Spec j_ ∧ Y9.Spec j_ ∧ Yc.Spec j_) : ∀ (g : Nat) (s0_0 : ByteArray) (s0_1 : Int) (s0_2 : Int) (s0_3 : Int) (a1 : Int) (r1 : Int) (r2 : ByteArray) (r3 : List ByteArray) (r4 : List (S37)) (r5 : ByteArray) (r6 : Int) (r7 : Int) (r8 : Int) (w0 w : World) (hI : YB w0 w g s0_0 s0_1 s0_2 s0_3) (hB : Below w0.heap.size w0 w) (hT : Tabs w0) (h : Yc.f k s0_0 s0_1 s0_2 s0_3 a1 = some (r1, r2, r3, r4, r5, r6, r7, r8)),
  Calls Tryd.prog 124 #[.pointer (some ⟨g, 0, none⟩), .int .i64 a1] w fun e w' => ∃ v2_ v3_ : Value, e = .returned (.agg #[.int .i64 r1, .string r2, v2_, v3_]) ∧ Kd.R Kd.string 9 w' w.heap.size (fun k_ => (w.heap.size ≤ k_)) v2_ r3 ∧ Kd.N k37 37 w' w.heap.size (fun k_ => (w.heap.size ≤ k_) ∧ some k_ ≠ (v2_ : Value).ownBlock) v3_ r4 ∧ YB w0 w' g r5 r6 r7 r8 ∧ Below w0.heap.size w0 w' ∧ Y1 w w' g none := by
 intro g s0_0 s0_1 s0_2 s0_3 a1 r1 r2 r3 r4 r5 r6 r7 r8 w0 w hI hB hT h
 cases k with
 | zero => exact absurd h (by simp [Yc.f])
 | succ k =>
 simp only [Yc.f] at h
 have HT := Y0.mk hT
 clear hT
 have hu37 := Tryd.underlying37
 have HI0 := Y0.mk hI
 have HK := Y0.mk (Y1.refl w g none)
 have HL := Y0.mk hB.size
 clear hI
 have HW0 := Y0.mk hB.size
 have HB := Y0.mk hB
 clear hB
 have H : ((Yd.f k s0_0 s0_1 s0_2 s0_3).bind fun bt208 => (if bt208.1 = 94 then (Yc.j0 k a1 bt208.1 bt208.1 (bt208.1 == 94) bt208.2.1 bt208.2.2.1 bt208.2.2.2.1 bt208.2.2.2.2) else (Yc.j0 k a1 bt208.1 bt208.1 (bt208.1 == 40) bt208.2.1 bt208.2.2.1 bt208.2.2.2.1 bt208.2.2.2.2))) = some (r1, r2, r3, r4, r5, r6, r7, r8) := h
 clear h
 replace H := Option.bind_eq_some_iff.mp H
 obtain ⟨⟨t208, t209, t210, t211, t212⟩, A30, H⟩ := H
 replace H : (if t208 = 94 then (Yc.j0 k a1 t208 t208 (t208 == 94) t209 t210 t211 t212) else (Yc.j0 k a1 t208 t208 (t208 == 40) t209 t210 t211 t212)) = some (r1, r2, r3, r4, r5, r6, r7, r8) := H
 have A3 := Y0.mk A30
 clear A30
 have HC4 := Y0.mk H
 clear H
 go_enter Tryd.func124, Tryd.ntmps124
 go_upto_if 10 with (first | ((with_reducible refine YF (N := 4) rfl ?_); refine YE ?hg (N := 4) ?hd (cs := #[.int .i64 0, .string (⟨#[]⟩ : ByteArray), .slice none 0 0, .slice none 0 0]) (t := 37) ?hr ?_; (case hd => rfl); (case hg => rfl); (case hr => exact Za); intro gb207 hg w5 hbox hb; have n_ := Y4q (YB.below QI81_0 hb) (Y1.trans QK (Y1.of_below hb g none) (.inl rfl)) (Yb QB hb) (hbox) ((by rw [hg]; exact (Y8 (w := w) (g := g) (row := none) QK) : w.heap.size ≤ gb207)) ((Nat.le_trans HW0.out (by rw [hg]; exact (Y8 (w := w) (g := g) (row := none) QK) : w.heap.size ≤ gb207) : w0.heap.size ≤ gb207)) ((by rw [hg]; exact Nat.ne_of_lt (YB.lt (show YB w0 _ g s0_0 s0_1 s0_2 s0_3 from QI81_0)) : g ≠ gb207)) ((by rw [hg]; exact Nat.ne_of_gt (YB.lt (show YB w0 _ g s0_0 s0_1 s0_2 s0_3 from QI81_0)) : gb207 ≠ g)); clear HI0 HK HB; obtain ⟨HI0, HK, HB, BK207, GW207, GE207, NB0_207, NB207_0⟩ := n_; clear hb hbox hg) | ((with_reducible refine Yn (f := 56) rfl ?_); refine YO (some 8) rfl rfl Tryd.func56 Z6 rfl #[.pointer (some ⟨g, 0, none⟩)] rfl Z0 ?_; (with_reducible refine (Yd.calls k g s0_0 s0_1 s0_2 s0_3 t208 t209 t210 t211 t212 w0 _ ?side1 ?side2 A3.out).mono ?_); (case side1 => exact Z1n); (case side2 => exact QB); rintro e w6 ⟨rfl, hi, hb, hk⟩; refine ⟨_, rfl, ?_⟩; have n_ := Y31 (Y1.blk hk (g' := gb207) (o := .cells #[.int .i64 0, .string (⟨#[]⟩ : ByteArray), .slice none 0 0, .slice none 0 0] 37 (0, 0)) QQ NB207_0.out (by simp)) (Y1.trans QK hk (.inl rfl)) (hb) (hi); clear BK207 HK HB HI0; obtain ⟨BK207, HK, HB, HI0⟩ := n_; (try clear hb); (try clear hb2); (try clear hk); (try clear hi)))
 (try simp only [Act.put, List.setIfInBounds_toArray, List.set_cons_zero, List.set_cons_succ])
 go_cut [10] (fun v10 wc => ∃ (kq : Nat) (x10_3 : Bool), v10 = .bool x10_3 ∧ Y0 (Yc.j0 kq a1 t208 t208 x10_3 t209 t210 t211 t212 = some (r1, r2, r3, r4, r5, r6, r7, r8)) ∧ Y0 (kq ≤ k) ∧ Y0 (wc.heap[gb207]? = some (.cells #[.int .i64 0, .string (⟨#[]⟩ : ByteArray), (.slice none 0 0), (.slice none 0 0)] 37 (0, 0))) ∧ Y0 (YB w0 wc g t209 t210 t211 t212) ∧ Y0 (Y1 w wc g none) ∧ Y0 (Below w0.heap.size w0 wc))
 case first =>
  have H := HC4.out
  clear HC4
  by_cases c7 : t208 = 94
  ·rw [if_pos c7] at H
   have c7b0 : (t208 == 94) = true := beq_iff_eq.mpr c7
   have c7b1 : (t208 != 94) = false := bne_eq_false_iff_eq.mpr c7
   clear c7
   (first | rw [c7b0] | (simp only [Y16, Y17]; rw [c7b0]) | skip)
   have H' := Y0.mk H
   clear H
   go_wp2
   go_meet
   case rel => exact ⟨_, ((t208 == 94)), Z7, H', ⟨Zr⟩, ⟨Z1E⟩, ⟨QI81_0⟩, ⟨QK⟩, ⟨QB⟩⟩
  ·rw [if_neg c7] at H
   have c7b0 : (t208 == 94) = false := beq_eq_false_iff_ne.mpr c7
   have c7b1 : (t208 != 94) = true := bne_iff_ne.mpr c7
   (first | rw [c7b0] | (simp only [Y16, Y17]; rw [c7b0]) | skip)
   have H' := Y0.mk H
   clear H
   go_wp2
   go_meet
   case rel => exact ⟨_, ((t208 == 40)), Z7, H', ⟨Zr⟩, ⟨Z1E⟩, ⟨QI81_0⟩, ⟨QK⟩, ⟨QB⟩⟩
 case rest =>
  clear HC4
  try clear c1
  try clear p2
  try clear c5
  try clear c7
  try clear c7b0
  try clear c7b1
  obtain ⟨kq, x10_3, rfl, HA, HJ3, BK207, HI0, HK, HB⟩ := hcut
  cases kq with
  | zero => exact absurd HA.out (by simp [Yc.j0])
  | succ kj3 =>
   have H := HA.out
   clear HA
   simp only [Yc.j0] at H
   by_cases c8 : x10_3 = true
   ·subst c8
    have H1 : (if a1 ≥ 5 then ((Yt.f t209 t210 t211 t212 t210 3).bind fun bt213 => (some (bt213.1, bt213.2.1, bt213.2.2.1, bt213.2.2.2.1, bt213.2.2.2.2.1, bt213.2.2.2.2.2.1, bt213.2.2.2.2.2.2.1, bt213.2.2.2.2.2.2.2))) else (if t208 = 94 then ((Yc.f kj3 t209 (wrap64 (t210 + 1)) t211 t212 (wrap64 (a1 + 1))).bind fun bt225 => (some (2, (⟨#[]⟩ : ByteArray), ([] : List ByteArray), (([(⟨bt225.1, bt225.2.1, bt225.2.2.1, bt225.2.2.2.1⟩ : S37)] : List (S37))), bt225.2.2.2.2.1, bt225.2.2.2.2.2.1, bt225.2.2.2.2.2.2.1, bt225.2.2.2.2.2.2.2))) else ((Yh.f kj3 t209 (wrap64 (t210 + 1)) t211 t212 (wrap64 (a1 + 1))).bind fun bt240 => ((Yl.f kj3 bt240.2.2.2.2.1 bt240.2.2.2.2.2.1 bt240.2.2.2.2.2.2.1 bt240.2.2.2.2.2.2.2 41).bind fun bt253 => (if bt253.1 = true then (some (bt240.1, bt240.2.1, bt240.2.2.1, bt240.2.2.2.1, bt253.2.1, bt253.2.2.1, bt253.2.2.2.1, bt253.2.2.2.2)) else ((Yt.f bt253.2.1 bt253.2.2.1 bt253.2.2.2.1 bt253.2.2.2.2 bt253.2.2.1 2).bind fun bt258 => (some (bt258.1, bt258.2.1, bt258.2.2.1, bt258.2.2.2.1, bt258.2.2.2.2.1, bt258.2.2.2.2.2.1, bt258.2.2.2.2.2.2.1, bt258.2.2.2.2.2.2.2)))))))) = some (r1, r2, r3, r4, r5, r6, r7, r8) := by rw [if_pos rfl] at H; exact H
    clear H
    have H := H1
    clear H1
    by_cases c9 : a1 ≥ 5
    ·rw [if_pos c9] at H
     have c9b0 : decide (5 ≤ a1) = true := decide_eq_true c9
     clear c9
     replace H := Option.bind_eq_some_iff.mp H
     obtain ⟨⟨t213, t214, t215, t218, t221, t222, t223, t224⟩, A100, H⟩ := H
     replace H : (some (t213, t214, t215, t218, t221, t222, t223, t224)) = some (r1, r2, r3, r4, r5, r6, r7, r8) := H
     have A10 := Y0.mk A100
     clear A100
     simp only [Option.some.injEq, Prod.mk.injEq] at H
     obtain ⟨rfl, rfl, rfl, rfl, rfl, rfl, rfl, rfl⟩ := H
     obtain ⟨hcz11_0, hcz11_1, hcz11_2, hcz11_3, hfz11_0, hfz11_1, hfz11_2, hfz11_3⟩ := YA HI0.out.1
     go_wp2_with (first | ((with_reducible refine Yn (f := 57) rfl ?_); refine YO (some 20) rfl rfl Tryd.func57 Z6 rfl #[.pointer (some ⟨g, 0, none⟩), .int .i64 t210, .int .i64 3] rfl Z0 ?_; (with_reducible refine (Yt.calls g t209 t210 t211 t212 t210 3 t213 t214 t215 t218 t221 t222 t223 t224 w0 _ ?side1 ?side2 A10.out).mono ?_); (case side1 => exact Z1n); (case side2 => exact QB); rintro e w12 ⟨v216, v219, rfl, ho0, ho1, hi, hb, hk⟩; refine ⟨_, rfl, ?_⟩; have n0_ := Y0.mk (Y1.blk hk (g' := gb207) (o := .cells #[.int .i64 0, .string (⟨#[]⟩ : ByteArray), .slice none 0 0, .slice none 0 0] 37 (0, 0)) QQ NB207_0.out (by simp)); have n1_ := Y0.mk (Kd.R_lower (Kd.R_newM (M := fun k_ => (w.heap.size ≤ k_)) (Kd.R_mono (ok' := fun k_ => True) ho0 (fun _ hk_ => trivial)) (Y8 (w := w) (g := g) (row := none) QK) (fun k_ h_ => h_)) (Y8 (w := w) (g := g) (row := none) QK)); have n2_ := Y0.mk (Kd.N_lower (Kd.N_mono (ok' := fun k_ => (w.heap.size ≤ k_) ∧ some k_ ≠ (v216 : Value).ownBlock ∧ k_ ≠ gb207 ∧ k_ ≠ g) ho1 (fun k_ hk_ => ⟨(Nat.le_trans (Y8 (w := w) (g := g) (row := none) QK) hk_.1), hk_.2, (Kd.freshB (g := gb207) (o := .cells #[.int .i64 0, .string (⟨#[]⟩ : ByteArray), .slice none 0 0, .slice none 0 0] 37 (0, 0)) QQ k_ hk_.1), (YB.fresh QI81_0 k_ hk_.1)⟩)) (Y8 (w := w) (g := g) (row := none) QK)); have n3_ := Y0.mk (Y1.trans QK hk (.inl rfl)); have n4_ := Y0.mk (hb); have n5_ := Y0.mk (hi); clear BK207 HK HB HI0; have BK207 := n0_; have HO217 := n1_; have HO220 := n2_; have HK := n3_; have HB := n4_; have HI0 := n5_; clear n0_ n1_ n2_ n3_ n4_ n5_; (try clear hb); (try clear hb2); (try clear hk); (try clear hi); (try clear ho0); (try clear ho1); have hnb13 := NB207_0.out; have hnc13 := NB0_207.out; obtain ⟨hcz14_0, hcz14_1, hcz14_2, hcz14_3, hfz14_0, hfz14_1, hfz14_2, hfz14_3⟩ := YA BK207.out; obtain ⟨Ao15, co15, eo15⟩ := Kd.R_slice HO217.out; subst eo15; obtain ⟨Ao16, co16, eo16⟩ := Kd.N_slice HO220.out; subst eo16))
     refine bodyPost_ret (results_cell_row rfl _ _ gb207 37 #[.int .i64 t213, .string t214, .slice Ao15 t215.length co15, .slice Ao16 t218.length co16] (0, 0) _ rfl (by (with_reducible repeat (first | refine Yg ?_ _ | refine Ya ?_ | refine Ye ?_ _)); exact YD (cs := #[.int .i64 t213, .string t214, .slice Ao15 t215.length co15, .slice none 0 0]) (by (with_reducible repeat (first | refine Yg ?_ _ | refine Ya ?_ | refine Ye ?_ _)); exact YD (cs := #[.int .i64 t213, .string t214, .slice none 0 0, .slice none 0 0]) (by (with_reducible repeat (first | refine Yg ?_ _ | refine Ya ?_ | refine Ye ?_ _)); exact YD (cs := #[.int .i64 t213, .string (⟨#[]⟩ : ByteArray), .slice none 0 0, .slice none 0 0]) Z1 1 _ rfl) 2 _ rfl) 3 _ rfl) Tryd.underlying37 rfl Z6) rfl ?_
     exact ⟨_, _, Z2, by (with_reducible repeat (first | apply Kd.R_alloc | apply Kd.R_drewN | apply Kd.R_drew)); exact Kd.R_mono (Kd.R_far (p := ⟨gb207, 3, none⟩) (Kd.R_far (p := ⟨gb207, 2, none⟩) (Kd.R_far (p := ⟨gb207, 1, none⟩) (Kd.R_far (p := ⟨gb207, 0, none⟩) (Kd.R_types HO217.out BK207.out (by decide)) (fun _ hk => hk.2) (.int .i64 t213)) (fun _ hk => hk.2) (.string t214)) (fun _ hk => hk.2) (.slice Ao15 t215.length co15)) (fun _ hk => hk.2) (.slice Ao16 t218.length co16)) (fun _ hk => hk.1.1), by (with_reducible repeat (first | apply Kd.N_alloc | apply Kd.N_drewN | apply Kd.N_drew)); exact Kd.N_mono (Kd.N_far (p := ⟨gb207, 3, none⟩) (Kd.N_far (p := ⟨gb207, 2, none⟩) (Kd.N_far (p := ⟨gb207, 1, none⟩) (Kd.N_far (p := ⟨gb207, 0, none⟩) (Kd.N_mono HO220.out (fun k_ hk => (⟨hk, hk.2.2.1⟩ : _ ∧ k_ ≠ gb207))) (fun _ hk => hk.2) (.int .i64 t213)) (fun _ hk => hk.2) (.string t214)) (fun _ hk => hk.2) (.slice Ao15 t215.length co15)) (fun _ hk => hk.2) (.slice Ao16 t218.length co16)) (fun _ hk => ⟨hk.1.1, hk.1.2.1⟩), QI81_0, QB, QK⟩
    ·rw [if_neg c9] at H
     have c9b0 : decide (5 ≤ a1) = false := decide_eq_false c9
     clear c9
     by_cases c17 : t208 = 94
     ·rw [if_pos c17] at H
      have c17b0 : (t208 == 94) = true := beq_iff_eq.mpr c17
      have c17b1 : (t208 != 94) = false := bne_eq_false_iff_eq.mpr c17
      clear c17
      replace H := Option.bind_eq_some_iff.mp H
      obtain ⟨⟨t225, t226, t227, t230, t233, t234, t235, t236⟩, A180, H⟩ := H
      replace H : (some (2, (⟨#[]⟩ : ByteArray), ([] : List ByteArray), (([(⟨t225, t226, t227, t230⟩ : S37)] : List (S37))), t233, t234, t235, t236)) = some (r1, r2, r3, r4, r5, r6, r7, r8) := H
      have A18 := Y0.mk A180
      clear A180
      obtain ⟨y237, hy237⟩ : ∃ y_ : List (S37), y_ = (([(⟨t225, t226, t227, t230⟩ : S37)] : List (S37))) := ⟨_, rfl⟩
      replace H : (some (2, (⟨#[]⟩ : ByteArray), ([] : List ByteArray), y237, t233, t234, t235, t236)) = some (r1, r2, r3, r4, r5, r6, r7, r8) := by first | (rw [hy237]; with_reducible exact H) | (have H2_ := (Option.bind_some _ _).symm.trans H; rw [hy237]; with_reducible exact H2_) | (have H2_ := (Option.bind_some _ _).symm.trans H; with_reducible exact H2_) | with_reducible exact H | (rw [hy237]; exact H) | exact H
      have Ny237 := Y0.mk hy237
      clear hy237
      simp only [Option.some.injEq, Prod.mk.injEq] at H
      obtain ⟨rfl, rfl, rfl, rfl, rfl, rfl, rfl, rfl⟩ := H
      obtain ⟨hcz19_0, hcz19_1, hcz19_2, hcz19_3, hfz19_0, hfz19_1, hfz19_2, hfz19_3⟩ := YA HI0.out.1
      go_wp2_with (first | ((with_reducible refine Yn (f := 124) rfl ?_); refine YO (some 33) rfl rfl Tryd.func124 Z6 rfl #[.pointer (some ⟨g, 0, none⟩), .int .i64 (wrap64 (a1 + 1))] rfl Z0 ?_; (with_reducible refine ((ih kj3 (by have := HJ3.out; omega)).2.2.2 g t209 (wrap64 (t210 + 1)) t211 t212 (wrap64 (a1 + 1)) t225 t226 t227 t230 t233 t234 t235 t236 w0 _ ?side1 ?side2 ?side3 A18.out).mono ?_); (case side1 => exact Z1n); (case side2 => exact QB); (case side3 => exact Z1O); rintro e w20 ⟨v228, v231, rfl, ho0, ho1, hi, hb, hk⟩; refine ⟨_, rfl, ?_⟩; have n0_ := Y0.mk (Y1.blk hk (g' := gb207) (o := .cells #[.int .i64 0, .string (⟨#[]⟩ : ByteArray), .slice none 0 0, .slice none 0 0] 37 (0, 0)) Zy NB207_0.out (by simp)); have n1_ := Y0.mk (Kd.R_lower (Kd.R_newM (M := fun k_ => (w.heap.size ≤ k_)) (Kd.R_mono (ok' := fun k_ => True) ho0 (fun _ hk_ => trivial)) (Y8 (w := w) (g := g) (row := none) QK) (fun k_ h_ => h_)) (Y8 (w := w) (g := g) (row := none) QK)); have n2_ := Y0.mk (Kd.N_lower (Kd.N_mono (ok' := fun k_ => (w.heap.size ≤ k_) ∧ some k_ ≠ (v228 : Value).ownBlock ∧ k_ ≠ gb207 ∧ k_ ≠ g) ho1 (fun k_ hk_ => ⟨(Nat.le_trans (Y8 (w := w) (g := g) (row := none) QK) hk_.1), hk_.2, (Kd.freshB (g := gb207) (o := .cells #[.int .i64 0, .string (⟨#[]⟩ : ByteArray), .slice none 0 0, .slice none 0 0] 37 (0, 0)) Zy k_ hk_.1), (YB.fresh QI81_0 k_ hk_.1)⟩)) (Y8 (w := w) (g := g) (row := none) QK)); have n3_ := Y0.mk (Y1.trans QK hk (.inl rfl)); have n4_ := Y0.mk (hb); have n5_ := Y0.mk (hi); clear BK207 HK HB HI0; have BK207 := n0_; have HO229 := n1_; have HO232 := n2_; have HK := n3_; have HB := n4_; have HI0 := n5_; clear n0_ n1_ n2_ n3_ n4_ n5_; (try clear hb); (try clear hb2); (try clear hk); (try clear hi); (try clear ho0); (try clear ho1); obtain ⟨Ao21, co21, eo21⟩ := Kd.R_slice HO229.out; subst eo21; obtain ⟨Ao22, co22, eo22⟩ := Kd.N_slice HO232.out; subst eo22) | ((with_reducible refine YF (N := 34) rfl ?_); refine Kd.N_lit k37 _ 37 ?hg (N' := 34) ?hd (xs := ([(⟨t225, t226, t227, t230⟩ : S37)] : List (S37))) (inner := [.int .i64 t225, .string t226, .slice Ao21 t227.length co21, .slice Ao22 t230.length co22]) (ok := (fun k_ => (w.heap.size ≤ k_) ∧ k_ ≠ gb207 ∧ k_ ≠ g)) (okp := (fun k_ => (w.heap.size ≤ k_) ∧ k_ ≠ gb207 ∧ k_ ≠ g)) ?hr ?hp (fun _ hk => hk) ((show ∀ k_, w20.heap.size ≤ k_ → (fun k_ => (w.heap.size ≤ k_) ∧ k_ ≠ gb207 ∧ k_ ≠ g) k_ from fun k_ hk => ⟨(Nat.le_trans (Y8 (w := w) (g := g) (row := none) QK) hk), Kd.freshB (g := gb207) (o := .cells #[.int .i64 0, .string (⟨#[]⟩ : ByteArray), .slice none 0 0, .slice none 0 0] 37 (0, 0)) QQ k_ hk, YB.fresh QI81_0 k_ hk⟩) _ (Nat.le_refl _)) (Below.refl _ _) (Nat.le_refl _) (by simp) ?_; (case hd => rfl); (case hg => rfl); (case hr => exact Za); (case hp => exact (Y1E.c4 (show Kd.FK k37 _ _ (⟨t225, t226, t227, t230⟩ : S37) [.int .i64 t225, .string t226, .slice Ao21 t227.length co21, .slice Ao22 t230.length co22] from (Y2d _ _ (⟨t225, t226, t227, t230⟩ : S37) (Kd.R_reads' (Kd.R_mono (ok' := (fun k_ => (w.heap.size ≤ k_) ∧ k_ ≠ gb207 ∧ k_ ≠ g)) (YB.apart HI0.out (Kd.R_types (HO229.out) BK207.out (by decide)) (by decide)) (fun k_ hk => ⟨hk.1.1.1, ⟨hk.1.2, hk.2⟩⟩))).2.1 (Kd.R_F (Kd.R_mono (ok' := (fun k_ => (w.heap.size ≤ k_) ∧ k_ ≠ gb207 ∧ k_ ≠ g)) (YB.apart HI0.out (Kd.R_types (HO229.out) BK207.out (by decide)) (by decide)) (fun k_ hk => ⟨hk.1.1.1, ⟨hk.1.2, hk.2⟩⟩))) (Kd.N_reads' (Kd.N_mono (ok' := (fun k_ => (w.heap.size ≤ k_) ∧ k_ ≠ gb207 ∧ k_ ≠ g)) (HO232.out) (fun k_ hk => ⟨hk.1, ⟨hk.2.2.1, hk.2.2.2⟩⟩))).2.1 (Kd.N_F (Kd.N_mono (ok' := (fun k_ => (w.heap.size ≤ k_) ∧ k_ ≠ gb207 ∧ k_ ≠ g)) (HO232.out) (fun k_ hk => ⟨hk.1, ⟨hk.2.2.1, hk.2.2.2⟩⟩))))) (Y1E.none _ _))); intro v238 w23 ho24 hb hg_ hnew_; clear hg_ hnew_; (first | rw [← Ny237.out] at ho24 | (simp only [Int.reduceToNat] at ho24; rw [← Ny237.out] at ho24)); have n_ := Y4k (Kd.N_lower ho24 (Y8 (w := w) (g := g) (row := none) QK)) (Yu (g := gb207) (o := .cells #[.int .i64 0, .string (⟨#[]⟩ : ByteArray), .slice none 0 0, .slice none 0 0] 37 (0, 0)) QQ hb) (YB.below QI81_0 hb) (Y1.trans QK (Y1.of_below hb g none) (.inl rfl)) (Yb QB hb); clear BK207 HI0 HK HB HO229 HO232; obtain ⟨HO239, BK207, HI0, HK, HB⟩ := n_; clear hb ho24; obtain ⟨Ao25, co25, eo25⟩ := Kd.N_slice HO239.out; subst eo25; have hnb26 := NB207_0.out; have hnc26 := NB0_207.out; obtain ⟨hcz27_0, hcz27_1, hcz27_2, hcz27_3, hfz27_0, hfz27_1, hfz27_2, hfz27_3⟩ := YA BK207.out))
      refine bodyPost_ret (results_cell_row rfl _ _ gb207 37 #[.int .i64 2, .string (⟨#[]⟩ : ByteArray), .slice none 0 0, .slice Ao25 y237.length co25] (0, 0) _ rfl Z24 Tryd.underlying37 rfl Z6) rfl ?_
      exact ⟨_, _, Z2, Z5, by (with_reducible repeat (first | apply Kd.N_alloc | apply Kd.N_drewN | apply Kd.N_drew)); exact Kd.N_mono (Kd.N_far (p := ⟨gb207, 3, none⟩) (Kd.N_far (p := ⟨gb207, 2, none⟩) (Kd.N_far (p := ⟨gb207, 1, none⟩) (Kd.N_far (p := ⟨gb207, 0, none⟩) (Kd.N_mono HO239.out (fun k_ hk => (⟨hk, hk.2.1⟩ : _ ∧ k_ ≠ gb207))) (fun _ hk => hk.2) (.int .i64 2)) (fun _ hk => hk.2) (.string (⟨#[]⟩ : ByteArray))) (fun _ hk => hk.2) (.slice none 0 0)) (fun _ hk => hk.2) (.slice Ao25 y237.length co25)) (fun _ hk => ⟨hk.1.1, Z2b⟩), QI81_0, QB, QK⟩
     ·rw [if_neg c17] at H
      have c17b0 : (t208 == 94) = false := beq_eq_false_iff_ne.mpr c17
      have c17b1 : (t208 != 94) = true := bne_iff_ne.mpr c17
      replace H := Option.bind_eq_some_iff.mp H
      obtain ⟨⟨t240, t241, t242, t245, t248, t249, t250, t251⟩, A280, H⟩ := H
      replace H : ((Yl.f kj3 t248 t249 t250 t251 41).bind fun bt253 => (if bt253.1 = true then (some (t240, t241, t242, t245, bt253.2.1, bt253.2.2.1, bt253.2.2.2.1, bt253.2.2.2.2)) else ((Yt.f bt253.2.1 bt253.2.2.1 bt253.2.2.2.1 bt253.2.2.2.2 bt253.2.2.1 2).bind fun bt258 => (some (bt258.1, bt258.2.1, bt258.2.2.1, bt258.2.2.2.1, bt258.2.2.2.2.1, bt258.2.2.2.2.2.1, bt258.2.2.2.2.2.2.1, bt258.2.2.2.2.2.2.2))))) = some (r1, r2, r3, r4, r5, r6, r7, r8) := H
      have A28 := Y0.mk A280
      clear A280
      replace H := Option.bind_eq_some_iff.mp H
      obtain ⟨⟨t253, t254, t255, t256, t257⟩, A290, H⟩ := H
      replace H : (if t253 = true then (some (t240, t241, t242, t245, t254, t255, t256, t257)) else ((Yt.f t254 t255 t256 t257 t255 2).bind fun bt258 => (some (bt258.1, bt258.2.1, bt258.2.2.1, bt258.2.2.2.1, bt258.2.2.2.2.1, bt258.2.2.2.2.2.1, bt258.2.2.2.2.2.2.1, bt258.2.2.2.2.2.2.2)))) = some (r1, r2, r3, r4, r5, r6, r7, r8) := H
      have A29 := Y0.mk A290
      clear A290
      by_cases c30 : t253 = true
      ·subst c30
       have H1 : (some (t240, t241, t242, t245, t254, t255, t256, t257)) = some (r1, r2, r3, r4, r5, r6, r7, r8) := by rw [if_pos rfl] at H; exact H
       clear H
       have H := H1
       clear H1
       simp only [Option.some.injEq, Prod.mk.injEq] at H
       obtain ⟨rfl, rfl, rfl, rfl, rfl, rfl, rfl, rfl⟩ := H
       obtain ⟨hcz31_0, hcz31_1, hcz31_2, hcz31_3, hfz31_0, hfz31_1, hfz31_2, hfz31_3⟩ := YA HI0.out.1
       go_wp2_with (first | ((with_reducible refine Yn (f := 55) rfl ?_); refine YO (some 39) rfl rfl Tryd.func55 Z6 rfl #[.pointer (some ⟨g, 0, none⟩), .int .i64 (wrap64 (a1 + 1))] rfl Z0 ?_; (with_reducible refine ((ih kj3 (by have := HJ3.out; omega)).1 g t209 (wrap64 (t210 + 1)) t211 t212 (wrap64 (a1 + 1)) t240 t241 t242 t245 t248 t249 t250 t251 w0 _ ?side1 ?side2 ?side3 A28.out).mono ?_); (case side1 => exact Z1n); (case side2 => exact QB); (case side3 => exact Z1O); rintro e w32 ⟨v243, v246, rfl, ho0, ho1, hi, hb, hk⟩; refine ⟨_, rfl, ?_⟩; have n0_ := Y0.mk (Y1.blk hk (g' := gb207) (o := .cells #[.int .i64 0, .string (⟨#[]⟩ : ByteArray), .slice none 0 0, .slice none 0 0] 37 (0, 0)) Zy NB207_0.out (by simp)); have n1_ := Y0.mk (Kd.R_lower (Kd.R_newM (M := fun k_ => (w.heap.size ≤ k_)) (Kd.R_mono (ok' := fun k_ => True) ho0 (fun _ hk_ => trivial)) (Y8 (w := w) (g := g) (row := none) QK) (fun k_ h_ => h_)) (Y8 (w := w) (g := g) (row := none) QK)); have n2_ := Y0.mk (Kd.N_lower (Kd.N_mono (ok' := fun k_ => (w.heap.size ≤ k_) ∧ some k_ ≠ (v243 : Value).ownBlock ∧ k_ ≠ gb207 ∧ k_ ≠ g) ho1 (fun k_ hk_ => ⟨(Nat.le_trans (Y8 (w := w) (g := g) (row := none) QK) hk_.1), hk_.2, (Kd.freshB (g := gb207) (o := .cells #[.int .i64 0, .string (⟨#[]⟩ : ByteArray), .slice none 0 0, .slice none 0 0] 37 (0, 0)) Zy k_ hk_.1), (YB.fresh QI81_0 k_ hk_.1)⟩)) (Y8 (w := w) (g := g) (row := none) QK)); have n3_ := Y0.mk (Y1.trans QK hk (.inl rfl)); have n4_ := Y0.mk (hb); have n5_ := Y0.mk (hi); clear BK207 HK HB HI0; have BK207 := n0_; have HO244 := n1_; have HO247 := n2_; have HK := n3_; have HB := n4_; have HI0 := n5_; clear n0_ n1_ n2_ n3_ n4_ n5_; (try clear hb); (try clear hb2); (try clear hk); (try clear hi); (try clear ho0); (try clear ho1)) | ((with_reducible refine YF (N := 6) rfl ?_); refine YE ?hg (N := 6) ?hd (cs := #[.int .i64 0, .string (⟨#[]⟩ : ByteArray), .slice none 0 0, .slice none 0 0]) (t := 37) ?hr ?_; (case hd => rfl); (case hg => rfl); (case hr => exact Za); intro gb252 hg w33 hbox hb; have n0_ := Y0.mk (Kd.R_below Z15 hb); have n1_ := Y0.mk (Kd.N_below (Kd.N_elderB Z19 gb252 (Nat.le_of_eq hg.symm)) hb); have n2_ := Y0.mk (Yu (g := gb207) (o := .cells #[.int .i64 0, .string (⟨#[]⟩ : ByteArray), .slice none 0 0, .slice none 0 0] 37 (0, 0)) QQ hb); have n3_ := Y0.mk (YB.below QI81_0 hb); have n4_ := Y0.mk (Y1.trans QK (Y1.of_below hb g none) (.inl rfl)); have n5_ := Y0.mk (Yb QB hb); have n6_ := Y0.mk (hbox); have n7_ := Y0.mk ((by rw [hg]; exact (Y8 (w := w) (g := g) (row := none) QK) : w.heap.size ≤ gb252)); have n8_ := Y0.mk ((Nat.le_trans HW0.out (by rw [hg]; exact (Y8 (w := w) (g := g) (row := none) QK) : w.heap.size ≤ gb252) : w0.heap.size ≤ gb252)); have n9_ := Y0.mk ((by rw [hg]; exact Nat.ne_of_lt (Y15 (g := gb207) (o := .cells #[.int .i64 0, .string (⟨#[]⟩ : ByteArray), .slice none 0 0, .slice none 0 0] 37 (0, 0)) QQ) : gb207 ≠ gb252)); have n10_ := Y0.mk ((by rw [hg]; exact Nat.ne_of_gt (Y15 (g := gb207) (o := .cells #[.int .i64 0, .string (⟨#[]⟩ : ByteArray), .slice none 0 0, .slice none 0 0] 37 (0, 0)) QQ) : gb252 ≠ gb207)); have n11_ := Y0.mk ((by rw [hg]; exact Nat.ne_of_lt (YB.lt (show YB w0 _ g t248 t249 t250 t251 from QI81_0)) : g ≠ gb252)); have n12_ := Y0.mk ((by rw [hg]; exact Nat.ne_of_gt (YB.lt (show YB w0 _ g t248 t249 t250 t251 from QI81_0)) : gb252 ≠ g)); clear HO244 HO247 BK207 HI0 HK HB; have HO244 := n0_; have HO247 := n1_; have BK207 := n2_; have HI0 := n3_; have HK := n4_; have HB := n5_; have BK252 := n6_; have GW252 := n7_; have GE252 := n8_; have NB207_252 := n9_; have NB252_207 := n10_; have NB0_252 := n11_; have NB252_0 := n12_; clear n0_ n1_ n2_ n3_ n4_ n5_ n6_ n7_ n8_ n9_ n10_ n11_ n12_ hb hbox hg; have hnb34 := NB252_207.out; have hnc34 := NB207_252.out; have hnb35 := NB252_0.out; have hnc35 := NB0_252.out; obtain ⟨hcz36_0, hcz36_1, hcz36_2, hcz36_3, hfz36_0, hfz36_1, hfz36_2, hfz36_3⟩ := YA BK252.out; obtain ⟨Ao37, co37, eo37⟩ := Kd.R_slice HO244.out; subst eo37; obtain ⟨Ao38, co38, eo38⟩ := Kd.N_slice HO247.out; subst eo38) | ((with_reducible refine Yn (f := 97) rfl ?_); refine YO (some 41) rfl rfl Tryd.func97 Z6 rfl #[.pointer (some ⟨g, 0, none⟩), .int .u8 41] rfl Z0 ?_; (with_reducible refine (Yl.calls kj3 g t248 t249 t250 t251 41 true t254 t255 t256 t257 w0 _ ?side1 ?side2 A29.out).mono ?_); (case side1 => exact Z1n); (case side2 => exact QB); rintro e w39 ⟨rfl, hi, hb, hk⟩; refine ⟨_, rfl, ?_⟩; have n0_ := Y0.mk (Y1.blk hk (g' := gb207) (o := .cells #[.int .i64 0, .string (⟨#[]⟩ : ByteArray), .slice none 0 0, .slice none 0 0] 37 (0, 0)) ZM NB207_0.out (by simp)); have n1_ := Y0.mk (Kd.R_mono (Kd.R_keep (YB.apart (show YB w0 _ g t248 t249 t250 t251 from QI81_0) (by (with_reducible repeat (first | apply Kd.R_alloc | apply Kd.R_drewN | apply Kd.R_drew)); exact (Kd.R_mono (Kd.R_far (p := ⟨gb252, 3, none⟩) (Kd.R_far (p := ⟨gb252, 2, none⟩) (Kd.R_far (p := ⟨gb252, 1, none⟩) (Kd.R_far (p := ⟨gb252, 0, none⟩) (Kd.R_types HO244.out BK252.out (by decide)) (fun _ hk => hk.2) (.int .i64 t240)) (fun _ hk => hk.2) (.string t241)) (fun _ hk => hk.2) (.slice Ao37 t242.length co37)) (fun _ hk => hk.2) (.slice Ao38 t245.length co38)) (fun _ h_ => h_.1))) (by decide)) hk (fun _ h => h.2)) (fun _ h => h.1)); have n2_ := Y0.mk (Kd.N_mono (Kd.N_keep (Kd.N_mono (ok := fun k_ => ((((w.heap.size ≤ k_)) ∧ (some k_ ≠ (.slice Ao37 t242.length co37 : Value).ownBlock ∧ (k_ ≠ gb207 ∧ k_ ≠ g))) ∧ k_ ≠ gb252)) (by (with_reducible repeat (first | apply Kd.N_alloc | apply Kd.N_drewN | apply Kd.N_drew)); exact (Kd.N_mono (Kd.N_far (p := ⟨gb252, 3, none⟩) (Kd.N_far (p := ⟨gb252, 2, none⟩) (Kd.N_far (p := ⟨gb252, 1, none⟩) (Kd.N_far (p := ⟨gb252, 0, none⟩) (Kd.N_mono HO247.out (fun k_ hk => (⟨hk, hk.2⟩ : _ ∧ k_ ≠ gb252))) (fun _ hk => hk.2) (.int .i64 t240)) (fun _ hk => hk.2) (.string t241)) (fun _ hk => hk.2) (.slice Ao37 t242.length co37)) (fun _ hk => hk.2) (.slice Ao38 t245.length co38)) (fun _ h_ => h_.1))) (fun k_ hk_ => (⟨hk_, hk_.1.2.2.2⟩ : _ ∧ k_ ≠ g))) hk (fun _ h => h.2)) (fun _ h => h.1)); have n3_ := Y0.mk (Y1.blk hk (g' := gb252) (o := .cells #[.int .i64 t240, .string t241, .slice Ao37 t242.length co37, .slice Ao38 t245.length co38] 37 (0, 0)) Z2q NB252_0.out (by simp)); have n4_ := Y0.mk (Y1.trans QK hk (.inl rfl)); have n5_ := Y0.mk (hb); have n6_ := Y0.mk (hi); clear BK207 HO244 HO247 BK252 HK HB HI0; have BK207 := n0_; have HO244 := n1_; have HO247 := n2_; have BK252 := n3_; have HK := n4_; have HB := n5_; have HI0 := n6_; clear n0_ n1_ n2_ n3_ n4_ n5_ n6_; (try clear hb); (try clear hb2); (try clear hk); (try clear hi); obtain ⟨hcz40_0, hcz40_1, hcz40_2, hcz40_3, hfz40_0, hfz40_1, hfz40_2, hfz40_3⟩ := YA BK252.out; have hnb41 := NB207_0.out; have hnc41 := NB0_207.out; obtain ⟨hcz42_0, hcz42_1, hcz42_2, hcz42_3, hfz42_0, hfz42_1, hfz42_2, hfz42_3⟩ := YA BK207.out))
       refine bodyPost_ret (results_cell_row rfl _ _ gb207 37 #[.int .i64 t240, .string t241, .slice Ao37 t242.length co37, .slice Ao38 t245.length co38] (0, 0) _ rfl Z2q Tryd.underlying37 rfl Z6) rfl ?_
       exact ⟨_, _, Z2, by (with_reducible repeat (first | apply Kd.R_alloc | apply Kd.R_drewN | apply Kd.R_drew)); exact Kd.R_mono (Kd.R_far (p := ⟨gb207, 3, none⟩) (Kd.R_far (p := ⟨gb207, 2, none⟩) (Kd.R_far (p := ⟨gb207, 1, none⟩) (Kd.R_far (p := ⟨gb207, 0, none⟩) (Kd.R_types HO244.out BK207.out (by decide)) (fun _ hk => hk.2) (.int .i64 t240)) (fun _ hk => hk.2) (.string t241)) (fun _ hk => hk.2) (.slice Ao37 t242.length co37)) (fun _ hk => hk.2) (.slice Ao38 t245.length co38)) (fun _ hk => hk.1.1), by (with_reducible repeat (first | apply Kd.N_alloc | apply Kd.N_drewN | apply Kd.N_drew)); exact Kd.N_mono (Kd.N_far (p := ⟨gb207, 3, none⟩) (Kd.N_far (p := ⟨gb207, 2, none⟩) (Kd.N_far (p := ⟨gb207, 1, none⟩) (Kd.N_far (p := ⟨gb207, 0, none⟩) (Kd.N_mono HO247.out (fun k_ hk => (⟨hk, hk.1.2.2.1⟩ : _ ∧ k_ ≠ gb207))) (fun _ hk => hk.2) (.int .i64 t240)) (fun _ hk => hk.2) (.string t241)) (fun _ hk => hk.2) (.slice Ao37 t242.length co37)) (fun _ hk => hk.2) (.slice Ao38 t245.length co38)) (fun _ hk => ⟨hk.1.1.1, hk.1.1.2.1⟩), QI81_0, QB, QK⟩
      ·replace c30 := Bool.eq_false_iff.mpr c30
       subst c30
       have H1 : ((Yt.f t254 t255 t256 t257 t255 2).bind fun bt258 => (some (bt258.1, bt258.2.1, bt258.2.2.1, bt258.2.2.2.1, bt258.2.2.2.2.1, bt258.2.2.2.2.2.1, bt258.2.2.2.2.2.2.1, bt258.2.2.2.2.2.2.2))) = some (r1, r2, r3, r4, r5, r6, r7, r8) := by rw [if_neg (show ¬ (false = true) by decide)] at H; exact H
       clear H
       have H := H1
       clear H1
       replace H := Option.bind_eq_some_iff.mp H
       obtain ⟨⟨t258, t259, t260, t263, t266, t267, t268, t269⟩, A430, H⟩ := H
       replace H : (some (t258, t259, t260, t263, t266, t267, t268, t269)) = some (r1, r2, r3, r4, r5, r6, r7, r8) := H
       have A43 := Y0.mk A430
       clear A430
       simp only [Option.some.injEq, Prod.mk.injEq] at H
       obtain ⟨rfl, rfl, rfl, rfl, rfl, rfl, rfl, rfl⟩ := H
       obtain ⟨hcz44_0, hcz44_1, hcz44_2, hcz44_3, hfz44_0, hfz44_1, hfz44_2, hfz44_3⟩ := YA HI0.out.1
       go_wp2_with (first | ((with_reducible refine Yn (f := 55) rfl ?_); refine YO (some 39) rfl rfl Tryd.func55 Z6 rfl #[.pointer (some ⟨g, 0, none⟩), .int .i64 (wrap64 (a1 + 1))] rfl Z0 ?_; (with_reducible refine ((ih kj3 (by have := HJ3.out; omega)).1 g t209 (wrap64 (t210 + 1)) t211 t212 (wrap64 (a1 + 1)) t240 t241 t242 t245 t248 t249 t250 t251 w0 _ ?side1 ?side2 ?side3 A28.out).mono ?_); (case side1 => exact Z1n); (case side2 => exact QB); (case side3 => exact Z1O); rintro e w45 ⟨v243, v246, rfl, ho0, ho1, hi, hb, hk⟩; refine ⟨_, rfl, ?_⟩; have n0_ := Y0.mk (Y1.blk hk (g' := gb207) (o := .cells #[.int .i64 0, .string (⟨#[]⟩ : ByteArray), .slice none 0 0, .slice none 0 0] 37 (0, 0)) Zy NB207_0.out (by simp)); have n1_ := Y0.mk (Kd.R_lower (Kd.R_newM (M := fun k_ => (w.heap.size ≤ k_)) (Kd.R_mono (ok' := fun k_ => True) ho0 (fun _ hk_ => trivial)) (Y8 (w := w) (g := g) (row := none) QK) (fun k_ h_ => h_)) (Y8 (w := w) (g := g) (row := none) QK)); have n2_ := Y0.mk (Kd.N_lower (Kd.N_mono (ok' := fun k_ => (w.heap.size ≤ k_) ∧ some k_ ≠ (v243 : Value).ownBlock ∧ k_ ≠ gb207 ∧ k_ ≠ g) ho1 (fun k_ hk_ => ⟨(Nat.le_trans (Y8 (w := w) (g := g) (row := none) QK) hk_.1), hk_.2, (Kd.freshB (g := gb207) (o := .cells #[.int .i64 0, .string (⟨#[]⟩ : ByteArray), .slice none 0 0, .slice none 0 0] 37 (0, 0)) Zy k_ hk_.1), (YB.fresh QI81_0 k_ hk_.1)⟩)) (Y8 (w := w) (g := g) (row := none) QK)); have n3_ := Y0.mk (Y1.trans QK hk (.inl rfl)); have n4_ := Y0.mk (hb); have n5_ := Y0.mk (hi); clear BK207 HK HB HI0; have BK207 := n0_; have HO244 := n1_; have HO247 := n2_; have HK := n3_; have HB := n4_; have HI0 := n5_; clear n0_ n1_ n2_ n3_ n4_ n5_; (try clear hb); (try clear hb2); (try clear hk); (try clear hi); (try clear ho0); (try clear ho1)) | ((with_reducible refine YF (N := 6) rfl ?_); refine YE ?hg (N := 6) ?hd (cs := #[.int .i64 0, .string (⟨#[]⟩ : ByteArray), .slice none 0 0, .slice none 0 0]) (t := 37) ?hr ?_; (case hd => rfl); (case hg => rfl); (case hr => exact Za); intro gb252 hg w46 hbox hb; have n0_ := Y0.mk (Kd.R_below Z15 hb); have n1_ := Y0.mk (Kd.N_below (Kd.N_elderB Z19 gb252 (Nat.le_of_eq hg.symm)) hb); have n2_ := Y0.mk (Yu (g := gb207) (o := .cells #[.int .i64 0, .string (⟨#[]⟩ : ByteArray), .slice none 0 0, .slice none 0 0] 37 (0, 0)) QQ hb); have n3_ := Y0.mk (YB.below QI81_0 hb); have n4_ := Y0.mk (Y1.trans QK (Y1.of_below hb g none) (.inl rfl)); have n5_ := Y0.mk (Yb QB hb); have n6_ := Y0.mk (hbox); have n7_ := Y0.mk ((by rw [hg]; exact (Y8 (w := w) (g := g) (row := none) QK) : w.heap.size ≤ gb252)); have n8_ := Y0.mk ((Nat.le_trans HW0.out (by rw [hg]; exact (Y8 (w := w) (g := g) (row := none) QK) : w.heap.size ≤ gb252) : w0.heap.size ≤ gb252)); have n9_ := Y0.mk ((by rw [hg]; exact Nat.ne_of_lt (Y15 (g := gb207) (o := .cells #[.int .i64 0, .string (⟨#[]⟩ : ByteArray), .slice none 0 0, .slice none 0 0] 37 (0, 0)) QQ) : gb207 ≠ gb252)); have n10_ := Y0.mk ((by rw [hg]; exact Nat.ne_of_gt (Y15 (g := gb207) (o := .cells #[.int .i64 0, .string (⟨#[]⟩ : ByteArray), .slice none 0 0, .slice none 0 0] 37 (0, 0)) QQ) : gb252 ≠ gb207)); have n11_ := Y0.mk ((by rw [hg]; exact Nat.ne_of_lt (YB.lt (show YB w0 _ g t248 t249 t250 t251 from QI81_0)) : g ≠ gb252)); have n12_ := Y0.mk ((by rw [hg]; exact Nat.ne_of_gt (YB.lt (show YB w0 _ g t248 t249 t250 t251 from QI81_0)) : gb252 ≠ g)); clear HO244 HO247 BK207 HI0 HK HB; have HO244 := n0_; have HO247 := n1_; have BK207 := n2_; have HI0 := n3_; have HK := n4_; have HB := n5_; have BK252 := n6_; have GW252 := n7_; have GE252 := n8_; have NB207_252 := n9_; have NB252_207 := n10_; have NB0_252 := n11_; have NB252_0 := n12_; clear n0_ n1_ n2_ n3_ n4_ n5_ n6_ n7_ n8_ n9_ n10_ n11_ n12_ hb hbox hg; have hnb47 := NB252_207.out; have hnc47 := NB207_252.out; have hnb48 := NB252_0.out; have hnc48 := NB0_252.out; obtain ⟨hcz49_0, hcz49_1, hcz49_2, hcz49_3, hfz49_0, hfz49_1, hfz49_2, hfz49_3⟩ := YA BK252.out; obtain ⟨Ao50, co50, eo50⟩ := Kd.R_slice HO244.out; subst eo50; obtain ⟨Ao51, co51, eo51⟩ := Kd.N_slice HO247.out; subst eo51) | ((with_reducible refine Yn (f := 97) rfl ?_); refine YO (some 41) rfl rfl Tryd.func97 Z6 rfl #[.pointer (some ⟨g, 0, none⟩), .int .u8 41] rfl Z0 ?_; (with_reducible refine (Yl.calls kj3 g t248 t249 t250 t251 41 false t254 t255 t256 t257 w0 _ ?side1 ?side2 A29.out).mono ?_); (case side1 => exact Z1n); (case side2 => exact QB); rintro e w52 ⟨rfl, hi, hb, hk⟩; refine ⟨_, rfl, ?_⟩; have n0_ := Y0.mk (Y1.blk hk (g' := gb207) (o := .cells #[.int .i64 0, .string (⟨#[]⟩ : ByteArray), .slice none 0 0, .slice none 0 0] 37 (0, 0)) ZM NB207_0.out (by simp)); have n1_ := Y0.mk (Kd.R_mono (Kd.R_keep (YB.apart (show YB w0 _ g t248 t249 t250 t251 from QI81_0) (by (with_reducible repeat (first | apply Kd.R_alloc | apply Kd.R_drewN | apply Kd.R_drew)); exact (Kd.R_mono (Kd.R_far (p := ⟨gb252, 3, none⟩) (Kd.R_far (p := ⟨gb252, 2, none⟩) (Kd.R_far (p := ⟨gb252, 1, none⟩) (Kd.R_far (p := ⟨gb252, 0, none⟩) (Kd.R_types HO244.out BK252.out (by decide)) (fun _ hk => hk.2) (.int .i64 t240)) (fun _ hk => hk.2) (.string t241)) (fun _ hk => hk.2) (.slice Ao50 t242.length co50)) (fun _ hk => hk.2) (.slice Ao51 t245.length co51)) (fun _ h_ => h_.1))) (by decide)) hk (fun _ h => h.2)) (fun _ h => h.1)); have n2_ := Y0.mk (Kd.N_mono (Kd.N_keep (Kd.N_mono (ok := fun k_ => ((((w.heap.size ≤ k_)) ∧ (some k_ ≠ (.slice Ao50 t242.length co50 : Value).ownBlock ∧ (k_ ≠ gb207 ∧ k_ ≠ g))) ∧ k_ ≠ gb252)) (by (with_reducible repeat (first | apply Kd.N_alloc | apply Kd.N_drewN | apply Kd.N_drew)); exact (Kd.N_mono (Kd.N_far (p := ⟨gb252, 3, none⟩) (Kd.N_far (p := ⟨gb252, 2, none⟩) (Kd.N_far (p := ⟨gb252, 1, none⟩) (Kd.N_far (p := ⟨gb252, 0, none⟩) (Kd.N_mono HO247.out (fun k_ hk => (⟨hk, hk.2⟩ : _ ∧ k_ ≠ gb252))) (fun _ hk => hk.2) (.int .i64 t240)) (fun _ hk => hk.2) (.string t241)) (fun _ hk => hk.2) (.slice Ao50 t242.length co50)) (fun _ hk => hk.2) (.slice Ao51 t245.length co51)) (fun _ h_ => h_.1))) (fun k_ hk_ => (⟨hk_, hk_.1.2.2.2⟩ : _ ∧ k_ ≠ g))) hk (fun _ h => h.2)) (fun _ h => h.1)); have n3_ := Y0.mk (Y1.blk hk (g' := gb252) (o := .cells #[.int .i64 t240, .string t241, .slice Ao50 t242.length co50, .slice Ao51 t245.length co51] 37 (0, 0)) (by (with_reducible repeat (first | refine Yg ?_ _ | refine Ya ?_ | refine Ye ?_ _)); exact YD (cs := #[.int .i64 t240, .string t241, .slice Ao50 t242.length co50, .slice none 0 0]) Z20 3 _ rfl) NB252_0.out (by simp)); have n4_ := Y0.mk (Y1.trans QK hk (.inl rfl)); have n5_ := Y0.mk (hb); have n6_ := Y0.mk (hi); clear BK207 HO244 HO247 BK252 HK HB HI0; have BK207 := n0_; have HO244 := n1_; have HO247 := n2_; have BK252 := n3_; have HK := n4_; have HB := n5_; have HI0 := n6_; clear n0_ n1_ n2_ n3_ n4_ n5_ n6_; (try clear hb); (try clear hb2); (try clear hk); (try clear hi); obtain ⟨HGz53, hgz53⟩ := HI0.out; have hcz53_0 := Y1r HGz53; have hcz53_1 := Y1s HGz53; have hcz53_2 := Y1t HGz53; have hcz53_3 := Y1u HGz53; have hfz53_0 := Y7 HGz53 0; have hfz53_1 := Y7 HGz53 1; have hfz53_2 := Y7 HGz53 2; have hfz53_3 := Y7 HGz53 3; clear HGz53 hgz53) | ((with_reducible refine Yn (f := 57) rfl ?_); refine YO (some 48) rfl rfl Tryd.func57 Z6 rfl #[.pointer (some ⟨g, 0, none⟩), .int .i64 t255, .int .i64 2] rfl Z0 ?_; (with_reducible refine (Yt.calls g t254 t255 t256 t257 t255 2 t258 t259 t260 t263 t266 t267 t268 t269 w0 _ ?side1 ?side2 A43.out).mono ?_); (case side1 => exact Z1n); (case side2 => exact QB); rintro e w54 ⟨v261, v264, rfl, ho0, ho1, hi, hb, hk⟩; refine ⟨_, rfl, ?_⟩; have n0_ := Y0.mk (Y1.blk hk (g' := gb207) (o := .cells #[.int .i64 0, .string (⟨#[]⟩ : ByteArray), .slice none 0 0, .slice none 0 0] 37 (0, 0)) QQ NB207_0.out (by simp)); have n1_ := Y0.mk (Kd.R_mono (Kd.R_told (Kd.R_oldK (YB.apart (show YB w0 _ g t254 t255 t256 t257 from QI81_0) Z15 (by decide)) hk) (Kd.R_base ho0)) (fun _ h_ => h_.1)); have n2_ := Y0.mk (Kd.N_mono (Kd.N_told (Kd.N_told (Kd.N_oldK (Kd.N_mono (ok := fun k_ => ((((w.heap.size ≤ k_)) ∧ (some k_ ≠ (.slice Ao50 t242.length co50 : Value).ownBlock ∧ (k_ ≠ gb207 ∧ k_ ≠ g))) ∧ k_ ≠ gb252)) Z19 (fun k_ hk_ => (⟨hk_, hk_.1.2.2.2⟩ : _ ∧ k_ ≠ g))) hk) (Kd.R_base ho0)) (Kd.N_base ho1)) (fun _ h_ => h_.1)); have n3_ := Y0.mk (Y1.blk hk (g' := gb252) (o := .cells #[.int .i64 t240, .string t241, .slice Ao50 t242.length co50, .slice Ao51 t245.length co51] 37 (0, 0)) QQ NB252_0.out (by simp)); have n4_ := Y0.mk (Kd.R_lower (Kd.R_new' (Kd.R_newM (M := fun k_ => (w.heap.size ≤ k_)) (Kd.R_mono (ok' := fun k_ => True) ho0 (fun _ hk_ => trivial)) (Y8 (w := w) (g := g) (row := none) QK) (fun k_ h_ => h_)) (Kd.R_lt Z15)) (Y8 (w := w) (g := g) (row := none) QK)); have n5_ := Y0.mk (Kd.N_lower (Kd.N_mono (ok' := fun k_ => (w.heap.size ≤ k_) ∧ some k_ ≠ (v261 : Value).ownBlock ∧ some k_ ≠ (.slice Ao50 t242.length co50 : Value).ownBlock ∧ some k_ ≠ (.slice Ao51 t245.length co51 : Value).ownBlock ∧ k_ ≠ gb207 ∧ k_ ≠ gb252 ∧ k_ ≠ g) ho1 (fun k_ hk_ => ⟨(Nat.le_trans (Y8 (w := w) (g := g) (row := none) QK) hk_.1), hk_.2, (Kd.fresh' (Kd.R_lt Z15) k_ hk_.1), (Kd.fresh' (Kd.N_lt Z19) k_ hk_.1), (Kd.freshB (g := gb207) (o := .cells #[.int .i64 0, .string (⟨#[]⟩ : ByteArray), .slice none 0 0, .slice none 0 0] 37 (0, 0)) QQ k_ hk_.1), (Kd.freshB (g := gb252) (o := .cells #[.int .i64 t240, .string t241, .slice Ao50 t242.length co50, .slice Ao51 t245.length co51] 37 (0, 0)) QQ k_ hk_.1), (YB.fresh QI81_0 k_ hk_.1)⟩)) (Y8 (w := w) (g := g) (row := none) QK)); have n6_ := Y0.mk (Y1.trans QK hk (.inl rfl)); have n7_ := Y0.mk (hb); have n8_ := Y0.mk (hi); clear BK207 HO244 HO247 BK252 HK HB HI0; have BK207 := n0_; have HO244 := n1_; have HO247 := n2_; have BK252 := n3_; have HO262 := n4_; have HO265 := n5_; have HK := n6_; have HB := n7_; have HI0 := n8_; clear n0_ n1_ n2_ n3_ n4_ n5_ n6_ n7_ n8_; (try clear hb); (try clear hb2); (try clear hk); (try clear hi); (try clear ho0); (try clear ho1); have hnb55 := NB207_0.out; have hnc55 := NB0_207.out; obtain ⟨hcz56_0, hcz56_1, hcz56_2, hcz56_3, hfz56_0, hfz56_1, hfz56_2, hfz56_3⟩ := YA BK207.out; obtain ⟨Ao57, co57, eo57⟩ := Kd.R_slice HO262.out; subst eo57; obtain ⟨Ao58, co58, eo58⟩ := Kd.N_slice HO265.out; subst eo58))
       refine bodyPost_ret (results_cell_row rfl _ _ gb207 37 #[.int .i64 t258, .string t259, .slice Ao57 t260.length co57, .slice Ao58 t263.length co58] (0, 0) _ rfl (by (with_reducible repeat (first | refine Yg ?_ _ | refine Ya ?_ | refine Ye ?_ _)); exact YD (cs := #[.int .i64 t258, .string t259, .slice Ao57 t260.length co57, .slice none 0 0]) (by (with_reducible repeat (first | refine Yg ?_ _ | refine Ya ?_ | refine Ye ?_ _)); exact YD (cs := #[.int .i64 t258, .string t259, .slice none 0 0, .slice none 0 0]) (by (with_reducible repeat (first | refine Yg ?_ _ | refine Ya ?_ | refine Ye ?_ _)); exact YD (cs := #[.int .i64 t258, .string (⟨#[]⟩ : ByteArray), .slice none 0 0, .slice none 0 0]) Z1 1 _ rfl) 2 _ rfl) 3 _ rfl) Tryd.underlying37 rfl Z6) rfl ?_
       exact ⟨_, _, Z2, by (with_reducible repeat (first | apply Kd.R_alloc | apply Kd.R_drewN | apply Kd.R_drew)); exact Kd.R_mono (Kd.R_far (p := ⟨gb207, 3, none⟩) (Kd.R_far (p := ⟨gb207, 2, none⟩) (Kd.R_far (p := ⟨gb207, 1, none⟩) (Kd.R_far (p := ⟨gb207, 0, none⟩) (Kd.R_types HO262.out BK207.out (by decide)) (fun _ hk => hk.2) (.int .i64 t258)) (fun _ hk => hk.2) (.string t259)) (fun _ hk => hk.2) (.slice Ao57 t260.length co57)) (fun _ hk => hk.2) (.slice Ao58 t263.length co58)) (fun _ hk => hk.1.1.1), by (with_reducible repeat (first | apply Kd.N_alloc | apply Kd.N_drewN | apply Kd.N_drew)); exact Kd.N_mono (Kd.N_far (p := ⟨gb207, 3, none⟩) (Kd.N_far (p := ⟨gb207, 2, none⟩) (Kd.N_far (p := ⟨gb207, 1, none⟩) (Kd.N_far (p := ⟨gb207, 0, none⟩) (Kd.N_mono HO265.out (fun k_ hk => (⟨hk, hk.2.2.2.2.1⟩ : _ ∧ k_ ≠ gb207))) (fun _ hk => hk.2) (.int .i64 t258)) (fun _ hk => hk.2) (.string t259)) (fun _ hk => hk.2) (.slice Ao57 t260.length co57)) (fun _ hk => hk.2) (.slice Ao58 t263.length co58)) (fun _ hk => ⟨hk.1.1, hk.1.2.1⟩), QI81_0, QB, QK⟩
   ·replace c8 := Bool.eq_false_iff.mpr c8
    subst c8
    have H1 : (if t208 = 33 then ((Y4.f kj3 t209 (wrap64 (t210 + 1)) t211 t212).bind fun bt270 => (some (bt270.1, bt270.2.1, bt270.2.2.1, bt270.2.2.2.1, bt270.2.2.2.2.1, bt270.2.2.2.2.2.1, bt270.2.2.2.2.2.2.1, bt270.2.2.2.2.2.2.2))) else ((Y3.f kj3 t209 t210 t211 t212).bind fun bt282 => (some (1, bt282.1, ([] : List ByteArray), ([] : List (S37)), bt282.2.1, bt282.2.2.1, bt282.2.2.2.1, bt282.2.2.2.2)))) = some (r1, r2, r3, r4, r5, r6, r7, r8) := by rw [if_neg (show ¬ (false = true) by decide)] at H; exact H
    clear H
    have H := H1
    clear H1
    by_cases c59 : t208 = 33
    ·rw [if_pos c59] at H
     have c59b0 : (t208 == 33) = true := beq_iff_eq.mpr c59
     have c59b1 : (t208 != 33) = false := bne_eq_false_iff_eq.mpr c59
     clear c59
     replace H := Option.bind_eq_some_iff.mp H
     obtain ⟨⟨t270, t271, t272, t275, t278, t279, t280, t281⟩, A600, H⟩ := H
     replace H : (some (t270, t271, t272, t275, t278, t279, t280, t281)) = some (r1, r2, r3, r4, r5, r6, r7, r8) := H
     have A60 := Y0.mk A600
     clear A600
     simp only [Option.some.injEq, Prod.mk.injEq] at H
     obtain ⟨rfl, rfl, rfl, rfl, rfl, rfl, rfl, rfl⟩ := H
     obtain ⟨hcz61_0, hcz61_1, hcz61_2, hcz61_3, hfz61_0, hfz61_1, hfz61_2, hfz61_3⟩ := YA HI0.out.1
     go_wp2_with (first | ((with_reducible refine Yn (f := 135) rfl ?_); refine YO (some 60) rfl rfl Tryd.func135 Z6 rfl #[.pointer (some ⟨g, 0, none⟩)] rfl Z0 ?_; (with_reducible refine (Y4.calls kj3 g t209 (wrap64 (t210 + 1)) t211 t212 t270 t271 t272 t275 t278 t279 t280 t281 w0 _ ?side1 ?side2 ?side3 A60.out).mono ?_); (case side1 => exact Z1n); (case side2 => exact QB); (case side3 => exact Z1O); rintro e w62 ⟨v273, v276, rfl, ho0, ho1, hi, hb, hk⟩; refine ⟨_, rfl, ?_⟩; have n0_ := Y0.mk (Y1.blk hk (g' := gb207) (o := .cells #[.int .i64 0, .string (⟨#[]⟩ : ByteArray), .slice none 0 0, .slice none 0 0] 37 (0, 0)) Zy NB207_0.out (by simp)); have n1_ := Y0.mk (Kd.R_lower (Kd.R_newM (M := fun k_ => (w.heap.size ≤ k_)) (Kd.R_mono (ok' := fun k_ => True) ho0 (fun _ hk_ => trivial)) (Y8 (w := w) (g := g) (row := none) QK) (fun k_ h_ => h_)) (Y8 (w := w) (g := g) (row := none) QK)); have n2_ := Y0.mk (Kd.N_lower (Kd.N_mono (ok' := fun k_ => (w.heap.size ≤ k_) ∧ some k_ ≠ (v273 : Value).ownBlock ∧ k_ ≠ gb207 ∧ k_ ≠ g) ho1 (fun k_ hk_ => ⟨(Nat.le_trans (Y8 (w := w) (g := g) (row := none) QK) hk_.1), hk_.2, (Kd.freshB (g := gb207) (o := .cells #[.int .i64 0, .string (⟨#[]⟩ : ByteArray), .slice none 0 0, .slice none 0 0] 37 (0, 0)) Zy k_ hk_.1), (YB.fresh QI81_0 k_ hk_.1)⟩)) (Y8 (w := w) (g := g) (row := none) QK)); have n3_ := Y0.mk (Y1.trans QK hk (.inl rfl)); have n4_ := Y0.mk (hb); have n5_ := Y0.mk (hi); clear BK207 HK HB HI0; have BK207 := n0_; have HO274 := n1_; have HO277 := n2_; have HK := n3_; have HB := n4_; have HI0 := n5_; clear n0_ n1_ n2_ n3_ n4_ n5_; (try clear hb); (try clear hb2); (try clear hk); (try clear hi); (try clear ho0); (try clear ho1); have hnb63 := NB207_0.out; have hnc63 := NB0_207.out; obtain ⟨hcz64_0, hcz64_1, hcz64_2, hcz64_3, hfz64_0, hfz64_1, hfz64_2, hfz64_3⟩ := YA BK207.out; obtain ⟨Ao65, co65, eo65⟩ := Kd.R_slice HO274.out; subst eo65; obtain ⟨Ao66, co66, eo66⟩ := Kd.N_slice HO277.out; subst eo66))
     refine bodyPost_ret (results_cell_row rfl _ _ gb207 37 #[.int .i64 t270, .string t271, .slice Ao65 t272.length co65, .slice Ao66 t275.length co66] (0, 0) _ rfl (by (with_reducible repeat (first | refine Yg ?_ _ | refine Ya ?_ | refine Ye ?_ _)); exact YD (cs := #[.int .i64 t270, .string t271, .slice Ao65 t272.length co65, .slice none 0 0]) (by (with_reducible repeat (first | refine Yg ?_ _ | refine Ya ?_ | refine Ye ?_ _)); exact YD (cs := #[.int .i64 t270, .string t271, .slice none 0 0, .slice none 0 0]) (by (with_reducible repeat (first | refine Yg ?_ _ | refine Ya ?_ | refine Ye ?_ _)); exact YD (cs := #[.int .i64 t270, .string (⟨#[]⟩ : ByteArray), .slice none 0 0, .slice none 0 0]) Z1 1 _ rfl) 2 _ rfl) 3 _ rfl) Tryd.underlying37 rfl Z6) rfl ?_
     exact ⟨_, _, Z2, by (with_reducible repeat (first | apply Kd.R_alloc | apply Kd.R_drewN | apply Kd.R_drew)); exact Kd.R_mono (Kd.R_far (p := ⟨gb207, 3, none⟩) (Kd.R_far (p := ⟨gb207, 2, none⟩) (Kd.R_far (p := ⟨gb207, 1, none⟩) (Kd.R_far (p := ⟨gb207, 0, none⟩) (Kd.R_types HO274.out BK207.out (by decide)) (fun _ hk => hk.2) (.int .i64 t270)) (fun _ hk => hk.2) (.string t271)) (fun _ hk => hk.2) (.slice Ao65 t272.length co65)) (fun _ hk => hk.2) (.slice Ao66 t275.length co66)) (fun _ hk => hk.1.1), by (with_reducible repeat (first | apply Kd.N_alloc | apply Kd.N_drewN | apply Kd.N_drew)); exact Kd.N_mono (Kd.N_far (p := ⟨gb207, 3, none⟩) (Kd.N_far (p := ⟨gb207, 2, none⟩) (Kd.N_far (p := ⟨gb207, 1, none⟩) (Kd.N_far (p := ⟨gb207, 0, none⟩) (Kd.N_mono HO277.out (fun k_ hk => (⟨hk, hk.2.2.1⟩ : _ ∧ k_ ≠ gb207))) (fun _ hk => hk.2) (.int .i64 t270)) (fun _ hk => hk.2) (.string t271)) (fun _ hk => hk.2) (.slice Ao65 t272.length co65)) (fun _ hk => hk.2) (.slice Ao66 t275.length co66)) (fun _ hk => ⟨hk.1.1, hk.1.2.1⟩), QI81_0, QB, QK⟩
    ·rw [if_neg c59] at H
     have c59b0 : (t208 == 33) = false := beq_eq_false_iff_ne.mpr c59
     have c59b1 : (t208 != 33) = true := bne_iff_ne.mpr c59
     replace H := Option.bind_eq_some_iff.mp H
     obtain ⟨⟨t282, t283, t284, t285, t286⟩, A670, H⟩ := H
     replace H : (some (1, t282, ([] : List ByteArray), ([] : List (S37)), t283, t284, t285, t286)) = some (r1, r2, r3, r4, r5, r6, r7, r8) := H
     have A67 := Y0.mk A670
     clear A670
     simp only [Option.some.injEq, Prod.mk.injEq] at H
     obtain ⟨rfl, rfl, rfl, rfl, rfl, rfl, rfl, rfl⟩ := H
     go_wp2_with (first | ((with_reducible refine Yn (f := 136) rfl ?_); refine YO (some 62) rfl rfl Tryd.func136 Z6 rfl #[.pointer (some ⟨g, 0, none⟩)] rfl Z0 ?_; (with_reducible refine (Y3.calls kj3 g t209 t210 t211 t212 t282 t283 t284 t285 t286 w0 _ ?side1 ?side2 ?side3 A67.out).mono ?_); (case side1 => exact Z1n); (case side2 => exact QB); (case side3 => exact Z1O); rintro e w68 ⟨rfl, hi, hb, hk⟩; refine ⟨_, rfl, ?_⟩; have n_ := Y31 (Y1.blk hk (g' := gb207) (o := .cells #[.int .i64 0, .string (⟨#[]⟩ : ByteArray), .slice none 0 0, .slice none 0 0] 37 (0, 0)) QQ NB207_0.out (by simp)) (Y1.trans QK hk (.inl rfl)) (hb) (hi); clear BK207 HK HB HI0; obtain ⟨BK207, HK, HB, HI0⟩ := n_; (try clear hb); (try clear hb2); (try clear hk); (try clear hi); have hnb69 := NB207_0.out; have hnc69 := NB0_207.out; obtain ⟨hcz70_0, hcz70_1, hcz70_2, hcz70_3, hfz70_0, hfz70_1, hfz70_2, hfz70_3⟩ := YA BK207.out))
     refine bodyPost_ret (results_cell_row rfl _ _ gb207 37 #[.int .i64 1, .string t282, .slice none 0 0, .slice none 0 0] (0, 0) _ rfl (by (with_reducible repeat (first | refine Yg ?_ _ | refine Ya ?_ | refine Ye ?_ _)); exact YD (cs := #[.int .i64 1, .string t282, .slice none 0 0, .slice none 0 0]) (by (with_reducible repeat (first | refine Yg ?_ _ | refine Ya ?_ | refine Ye ?_ _)); exact YD (cs := #[.int .i64 1, .string t282, .slice none 0 0, .slice none 0 0]) Z2e 2 _ rfl) 3 _ rfl) Tryd.underlying37 rfl Z6) rfl ?_
     exact ⟨_, _, Z2, Z5, Z5, QI81_0, QB, QK⟩
theorem Yh.joint : ∀ k, Yh.Spec k ∧ Yp.Spec k ∧ Y9.Spec k ∧ Yc.Spec k := by
 intro k
 induction k using Nat.strongRecOn with
 | _ k ih => exact ⟨Yh.step k ih, Yp.step k ih, Y9.step k ih, Yc.step k ih⟩
theorem Yh.calls (k : Nat) : Yh.Spec k := (Yh.joint k).1
def YC.j0 : Nat → ByteArray → Bool → ByteArray → Int → Int → Int → Int → ByteArray → List ByteArray → List (S37) → Option (Int × ByteArray × List ByteArray × (List (S37)) × Int × Int)
 | 0, _, _, _, _, _, _, _, _, _, _ => none
 | k + 1, x0, x31, x103000, x103001, x103002, x103003, x116000, x116001, x116002, x116003 => if x31 = true then ((Yt.f x103000 x103001 x103002 x103003 x103001 2).bind fun bt121 => (if bt121.2.2.2.2.2.2.1 = 0 then (some (x116000, x116001, x116002, x116003, (x0.size : Int), 0)) else (some (0, (⟨#[]⟩ : ByteArray), ([] : List ByteArray), ([] : List (S37)), bt121.2.2.2.2.2.2.2, bt121.2.2.2.2.2.2.1)))) else (if x103002 = 0 then (some (x116000, x116001, x116002, x116003, (x0.size : Int), 0)) else (some (0, (⟨#[]⟩ : ByteArray), ([] : List ByteArray), ([] : List (S37)), x103003, x103002)))
def YC.f (k : Nat) (a0 : ByteArray) : Option (Int × ByteArray × List ByteArray × (List (S37)) × Int × Int) := if (a0.size : Int) > 600 then (some (0, (⟨#[]⟩ : ByteArray), ([] : List ByteArray), ([] : List (S37)), 0, 4)) else ((Yh.f k a0 0 0 0 0).bind fun bt103 => ((Yd.f k bt103.2.2.2.2.1 bt103.2.2.2.2.2.1 bt103.2.2.2.2.2.2.1 bt103.2.2.2.2.2.2.2).bind fun bt116 => (if bt116.2.2.2.1 = 0 then (YC.j0 k a0 (decide (bt116.2.2.1 < (a0.size : Int))) bt116.2.1 bt116.2.2.1 bt116.2.2.2.1 bt116.2.2.2.2 bt103.1 bt103.2.1 bt103.2.2.1 bt103.2.2.2.1) else (YC.j0 k a0 false bt116.2.1 bt116.2.2.1 bt116.2.2.2.1 bt116.2.2.2.2 bt103.1 bt103.2.1 bt103.2.2.1 bt103.2.2.2.1))))
def YC.T9 : Bool × List (List Nat × List Nat) := (true, [([], []), ([], []), ([1], [1]), ([2], [2]), ([3], [3]), ([], []), ([5], [5]), ([6], [6]), ([7], [7]), ([0, 0], [0]), ([4, 9, 0, 1, 2, 3, 4, 9], [4]), ([8, 10, 0, 1, 2, 3, 4, 5, 6, 7, 8, 9, 10], [8])])
def YC.B9 : List Nat := [0, 0, 2, 6, 14, 0, 32, 96, 224, 1, 543, 2047]
theorem YC.tab9 : Y3G .any (Y3Z Tryd.f26 9) = YC.T9 := by kernel_rfl
theorem YC.bits9 : Y22 YC.T9.2 YC.B9 = true := by kernel_rfl
end Go.Proofs.YtbpbfboaofkpaaaDoor.Print
end
