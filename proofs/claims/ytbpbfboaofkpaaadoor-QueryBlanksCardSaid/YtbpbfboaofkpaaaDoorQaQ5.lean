/- Proofs for this claim: printed by our driver and joined by pack.py; the last text holds the statement. -/
import Derived.Test.YtbpbfboaofkpaaaDoorQaQ4
section
namespace Go.Proofs.YtbpbfboaofkpaaaDoor.Print
open Go.RowKit Go.Proofs.YtbpbfboaofkpaaaDoorW.PrintWords Go.Proofs.YtbpbfboaofkpaaaDoorW.PrintLast Go.Proofs.YtbpbfboaofkpaaaDoorW.PrintMore
attribute [local go_sem] max2_int min2_int max_two min_two max_three min_three max_four min_four
set_option linter.unusedVariables false
set_option linter.unusedSimpArgs false
set_option maxHeartbeats 8000000 in
set_option maxRecDepth 100000 in
theorem Y3.calls (k : Nat) : ∀ (a0_0 : Int) (a0_1 : ByteArray) (A0_2 : Option Addr) (c0_2 : Nat) (l0_2 : List ByteArray) (A0_3 : Option Addr) (c0_3 : Nat) (l0_3 : List (S37)) (a1_0 : Int) (a1_1 : ByteArray) (A1_2 : Option Addr) (c1_2 : Nat) (l1_2 : List ByteArray) (A1_3 : Option Addr) (c1_3 : Nat) (l1_3 : List (S37)) (r : Bool) (w : World) (hr0_2 : Kd.C Kd.string w A0_2 l0_2.length l0_2) (hc0_2 : l0_2.length ≤ c0_2) (hr0_3 : Kd.C k37 w A0_3 l0_3.length l0_3) (hc0_3 : l0_3.length ≤ c0_3) (hr1_2 : Kd.C Kd.string w A1_2 l1_2.length l1_2) (hc1_2 : l1_2.length ≤ c1_2) (hr1_3 : Kd.C k37 w A1_3 l1_3.length l1_3) (hc1_3 : l1_3.length ≤ c1_3) (h : Y3.f k a0_0 a0_1 l0_2 l0_3 a1_0 a1_1 l1_2 l1_3 = some r),
  Calls Tryd.prog 28 #[.agg #[.int .i64 a0_0, .string a0_1, .slice A0_2 l0_2.length c0_2, .slice A0_3 l0_3.length c0_3], .agg #[.int .i64 a1_0, .string a1_1, .slice A1_2 l1_2.length c1_2, .slice A1_3 l1_3.length c1_3]] w fun e w' => e = .returned (.bool r) ∧ Below w.heap.size w w' := by
 induction k using Nat.strongRecOn with
 | _ k ih =>
 intro a0_0 a0_1 A0_2 c0_2 l0_2 A0_3 c0_3 l0_3 a1_0 a1_1 A1_2 c1_2 l1_2 A1_3 c1_3 l1_3 r w hr0_2 hc0_2 hr0_3 hc0_3 hr1_2 hc1_2 hr1_3 hc1_3 h
 cases k with
 | zero => exact absurd h (by simp [Y3.f])
 | succ k =>
 simp only [Y3.f] at h
 have hu37 := Tryd.underlying37
 have HR0_2 := Y0.mk hr0_2
 have HC0_2 := Y0.mk hc0_2
 clear hr0_2 hc0_2
 have HR0_3 := Y0.mk hr0_3
 have HC0_3 := Y0.mk hc0_3
 clear hr0_3 hc0_3
 have HR1_2 := Y0.mk hr1_2
 have HC1_2 := Y0.mk hc1_2
 clear hr1_2 hc1_2
 have HR1_3 := Y0.mk hr1_3
 have HC1_3 := Y0.mk hc1_3
 clear hr1_3 hc1_3
 have HB := Y0.mk (Below.refl w.heap.size w)
 have H : (if a0_0 = a1_0 then (if a0_1.toList = a1_1.toList then (if (l0_2.length : Int) = (l1_2.length : Int) then (Y3.j0 k ((l0_3.length : Int) != (l1_3.length : Int)) a0_0 a0_1 l0_2 l0_3 a1_0 a1_1 l1_2 l1_3) else (Y3.j0 k true a0_0 a0_1 l0_2 l0_3 a1_0 a1_1 l1_2 l1_3)) else (Y3.j0 k true a0_0 a0_1 l0_2 l0_3 a1_0 a1_1 l1_2 l1_3)) else (Y3.j0 k true a0_0 a0_1 l0_2 l0_3 a1_0 a1_1 l1_2 l1_3)) = some r := h
 clear h
 have HC3 := Y0.mk H
 clear H
 go_enter Tryd.func28, Tryd.ntmps28
 go_upto_region 1 with (first | ((with_reducible refine Yz (N := 2) rfl ?_); (try (refine YR (by rfl) ?_; dsimp only)); refine Yu ?hg (N := 2) ?hd (cs := #[.int .i64 a0_0, .string a0_1, .slice A0_2 l0_2.length c0_2, .slice A0_3 l0_3.length c0_3]) (t := 37) ?hr ?_; (case hd => rfl); (case hg => rfl); (case hr => exact Z9); intro gb101 hg w4 hbox hb; have n_ := Y2n (Y6 QB hb) (hbox) ((by rw [hg]; exact (Y5 QB) : w.heap.size ≤ gb101)) ((by rw [hg]; exact (Y5 QB) : w.heap.size ≤ gb101)); clear HB; obtain ⟨HB, BK101, GW101, GE101⟩ := n_; clear hb hbox hg) | ((with_reducible refine Yz (N := 3) rfl ?_); (try (refine YR (by rfl) ?_; dsimp only)); refine Yu ?hg (N := 3) ?hd (cs := #[.int .i64 a1_0, .string a1_1, .slice A1_2 l1_2.length c1_2, .slice A1_3 l1_3.length c1_3]) (t := 37) ?hr ?_; (case hd => rfl); (case hg => rfl); (case hr => exact Z9); intro gb102 hg w5 hbox hb; have n_ := put7 (Yg (g := gb101) (o := .cells #[.int .i64 a0_0, .string a0_1, .slice A0_2 l0_2.length c0_2, .slice A0_3 l0_3.length c0_3] 37 (0, 0)) QQ hb) (Y6 QB hb) (hbox) ((by rw [hg]; exact (Y5 QB) : w.heap.size ≤ gb102)) ((by rw [hg]; exact (Y5 QB) : w.heap.size ≤ gb102)) ((by rw [hg]; exact Nat.ne_of_lt (YT (g := gb101) (o := .cells #[.int .i64 a0_0, .string a0_1, .slice A0_2 l0_2.length c0_2, .slice A0_3 l0_3.length c0_3] 37 (0, 0)) QQ) : gb101 ≠ gb102)) ((by rw [hg]; exact Nat.ne_of_gt (YT (g := gb101) (o := .cells #[.int .i64 a0_0, .string a0_1, .slice A0_2 l0_2.length c0_2, .slice A0_3 l0_3.length c0_3] 37 (0, 0)) QQ) : gb102 ≠ gb101)); clear BK101 HB; obtain ⟨BK101, HB, BK102, GW102, GE102, NB101_102, NB102_101⟩ := n_; clear hb hbox hg))
 (try simp only [Act.put, List.setIfInBounds_toArray, List.set_cons_zero, List.set_cons_succ])
 go_cut [36] (fun v36 wc => ∃ (kq : Nat) (x36_2 : Bool), v36 = .bool x36_2 ∧ Y0 (Y3.j0 kq x36_2 a0_0 a0_1 l0_2 l0_3 a1_0 a1_1 l1_2 l1_3 = some r) ∧ Y0 (kq ≤ k) ∧ Y0 (wc.heap[gb101]? = some (.cells #[.int .i64 a0_0, .string a0_1, (.slice A0_2 l0_2.length c0_2), (.slice A0_3 l0_3.length c0_3)] 37 (0, 0))) ∧ Y0 (wc.heap[gb102]? = some (.cells #[.int .i64 a1_0, .string a1_1, (.slice A1_2 l1_2.length c1_2), (.slice A1_3 l1_3.length c1_3)] 37 (0, 0))) ∧ Y0 (Below w.heap.size w wc))
 case first =>
  have H := HC3.out
  clear HC3
  by_cases c6 : a0_0 = a1_0
  ·rw [if_pos c6] at H
   have c6b0 : (a0_0 == a1_0) = true := beq_iff_eq.mpr c6
   have c6b1 : (a0_0 != a1_0) = false := bne_eq_false_iff_eq.mpr c6
   clear c6
   (first | rw [c6b0] | (simp only [Y15, Y16]; rw [c6b0]) | skip)
   by_cases c7 : a0_1.toList = a1_1.toList
   ·rw [if_pos c7] at H
    have c7b0 : (a0_1.toList == a1_1.toList) = true := beq_iff_eq.mpr c7
    have c7b1 : (a0_1.toList != a1_1.toList) = false := bne_eq_false_iff_eq.mpr c7
    clear c7
    by_cases c8 : (l0_2.length : Int) = (l1_2.length : Int)
    ·rw [if_pos c8] at H
     have c8b0 : ((l0_2.length : Int) == (l1_2.length : Int)) = true := beq_iff_eq.mpr c8
     have c8b1 : ((l0_2.length : Int) != (l1_2.length : Int)) = false := bne_eq_false_iff_eq.mpr c8
     have c8b2 : (l0_2.length == l1_2.length) = true := by first | simpa using c8 | (simp at c8 ⊢; omega)
     clear c8
     have H' := Y0.mk H
     clear H
     have hnb9 := NB101_102.out
     have hnc9 := NB102_101.out
     obtain ⟨hcz10_0, hcz10_1, hcz10_2, hcz10_3, hfz10_0, hfz10_1, hfz10_2, hfz10_3⟩ := Yx BK101.out
     obtain ⟨hcz11_0, hcz11_1, hcz11_2, hcz11_3, hfz11_0, hfz11_1, hfz11_2, hfz11_3⟩ := Yx BK102.out
     go_wp2
     go_meet
     case rel => exact ⟨_, (((l0_3.length : Int) != (l1_3.length : Int))), Z7, H', ⟨Zz⟩, ⟨Z5⟩, ⟨Zm⟩, ⟨QB⟩⟩
    ·rw [if_neg c8] at H
     have c8b0 : ((l0_2.length : Int) == (l1_2.length : Int)) = false := beq_eq_false_iff_ne.mpr c8
     have c8b1 : ((l0_2.length : Int) != (l1_2.length : Int)) = true := bne_iff_ne.mpr c8
     have c8b2 : (l0_2.length == l1_2.length) = false := by first | simpa using c8 | (simp at c8 ⊢; omega)
     have H' := Y0.mk H
     clear H
     have hnb12 := NB101_102.out
     have hnc12 := NB102_101.out
     obtain ⟨hcz13_0, hcz13_1, hcz13_2, hcz13_3, hfz13_0, hfz13_1, hfz13_2, hfz13_3⟩ := Yx BK101.out
     obtain ⟨hcz14_0, hcz14_1, hcz14_2, hcz14_3, hfz14_0, hfz14_1, hfz14_2, hfz14_3⟩ := Yx BK102.out
     go_wp2
     go_meet
     case rel => exact Z2m
   ·rw [if_neg c7] at H
    have c7b0 : (a0_1.toList == a1_1.toList) = false := beq_eq_false_iff_ne.mpr c7
    have c7b1 : (a0_1.toList != a1_1.toList) = true := bne_iff_ne.mpr c7
    have H' := Y0.mk H
    clear H
    have hnb15 := NB101_102.out
    have hnc15 := NB102_101.out
    obtain ⟨hcz16_0, hcz16_1, hcz16_2, hcz16_3, hfz16_0, hfz16_1, hfz16_2, hfz16_3⟩ := Yx BK101.out
    obtain ⟨hcz17_0, hcz17_1, hcz17_2, hcz17_3, hfz17_0, hfz17_1, hfz17_2, hfz17_3⟩ := Yx BK102.out
    go_wp2
    go_meet
    case rel => exact Z2m
  ·rw [if_neg c6] at H
   have c6b0 : (a0_0 == a1_0) = false := beq_eq_false_iff_ne.mpr c6
   have c6b1 : (a0_0 != a1_0) = true := bne_iff_ne.mpr c6
   (first | rw [c6b0] | (simp only [Y15, Y16]; rw [c6b0]) | skip)
   have H' := Y0.mk H
   clear H
   have hnb18 := NB101_102.out
   have hnc18 := NB102_101.out
   obtain ⟨hcz19_0, hcz19_1, hcz19_2, hcz19_3, hfz19_0, hfz19_1, hfz19_2, hfz19_3⟩ := Yx BK101.out
   obtain ⟨hcz20_0, hcz20_1, hcz20_2, hcz20_3, hfz20_0, hfz20_1, hfz20_2, hfz20_3⟩ := Yx BK102.out
   go_wp2
   go_meet
   case rel => exact Z2m
 case rest =>
  clear HC3
  try clear c1
  try clear c2
  try clear p2
  try clear c6
  try clear c6b0
  try clear c6b1
  try clear c7
  try clear c7b0
  try clear c7b1
  try clear c8
  try clear c8b0
  try clear c8b1
  try clear c8b2
  try clear c9
  try clear c12
  try clear c15
  try clear c18
  try clear hcz10_0 hcz10_1 hcz10_2 hcz10_3
  try clear hcz11_0 hcz11_1 hcz11_2 hcz11_3
  try clear hcz13_0 hcz13_1 hcz13_2 hcz13_3
  try clear hcz14_0 hcz14_1 hcz14_2 hcz14_3
  try clear hcz16_0 hcz16_1 hcz16_2 hcz16_3
  try clear hcz17_0 hcz17_1 hcz17_2 hcz17_3
  try clear hcz19_0 hcz19_1 hcz19_2 hcz19_3
  try clear hcz20_0 hcz20_1 hcz20_2 hcz20_3
  try clear hfz10_0
  try clear hfz10_1
  try clear hfz10_2
  try clear hfz10_3
  try clear hfz11_0
  try clear hfz11_1
  try clear hfz11_2
  try clear hfz11_3
  try clear hfz13_0
  try clear hfz13_1
  try clear hfz13_2
  try clear hfz13_3
  try clear hfz14_0
  try clear hfz14_1
  try clear hfz14_2
  try clear hfz14_3
  try clear hfz16_0
  try clear hfz16_1
  try clear hfz16_2
  try clear hfz16_3
  try clear hfz17_0
  try clear hfz17_1
  try clear hfz17_2
  try clear hfz17_3
  try clear hfz19_0
  try clear hfz19_1
  try clear hfz19_2
  try clear hfz19_3
  try clear hfz20_0
  try clear hfz20_1
  try clear hfz20_2
  try clear hfz20_3
  obtain ⟨kq, x36_2, rfl, HA, HJ2, BK101, BK102, HB⟩ := hcut
  cases kq with
  | zero => exact absurd HA.out (by simp [Y3.j0])
  | succ kj2 =>
   have H := HA.out
   clear HA
   simp only [Y3.j0] at H
   by_cases c21 : x36_2 = true
   ·subst c21
    have H1 : (some false) = some r := by rw [if_pos rfl] at H; exact H
    clear H
    have H := H1
    clear H1
    obtain rfl := Option.some.inj H
    go_wp2
    go_ret
    exact Z2h
   ·replace c21 := Bool.eq_false_iff.mpr c21
    subst c21
    have H1 : (Y3.l0 kj2 0 a0_0 a0_1 l0_2 l0_3 a1_0 a1_1 l1_2 l1_3) = some r := by rw [if_neg (show ¬ (false = true) by decide)] at H; exact H
    clear H
    have H := H1
    clear H1
    have H' := Y0.mk H
    clear H
    go_wp2
    go_loopg [5] kj2 (fun kq v5 w' => ∃ (x5_2 : Int), v5 = .int .i64 x5_2 ∧ Y0 (Y3.l0 kq x5_2 a0_0 a0_1 l0_2 l0_3 a1_0 a1_1 l1_2 l1_3 = some r) ∧ Y0 (kq ≤ kj2) ∧ Y0 (w'.heap[gb101]? = some (.cells #[.int .i64 a0_0, .string a0_1, (.slice A0_2 l0_2.length c0_2), (.slice A0_3 l0_3.length c0_3)] 37 (0, 0))) ∧ Y0 (w'.heap[gb102]? = some (.cells #[.int .i64 a1_0, .string a1_1, (.slice A1_2 l1_2.length c1_2), (.slice A1_3 l1_3.length c1_3)] 37 (0, 0))) ∧ Y0 (Below w.heap.size w w'))
    case atStart => exact ⟨(0), Z7, H', ⟨Nat.le_refl _⟩, ⟨Z5⟩, ⟨Zm⟩, ⟨QB⟩⟩
    case round =>
     clear H'
     try clear c1
     try clear c2
     try clear p2
     try clear c6
     try clear c6b0
     try clear c6b1
     try clear c7
     try clear c7b0
     try clear c7b1
     try clear c8
     try clear c8b0
     try clear c8b1
     try clear c8b2
     try clear c9
     try clear c12
     try clear c15
     try clear c18
     try clear c21
     try clear hcz10_0 hcz10_1 hcz10_2 hcz10_3
     try clear hcz11_0 hcz11_1 hcz11_2 hcz11_3
     try clear hcz13_0 hcz13_1 hcz13_2 hcz13_3
     try clear hcz14_0 hcz14_1 hcz14_2 hcz14_3
     try clear hcz16_0 hcz16_1 hcz16_2 hcz16_3
     try clear hcz17_0 hcz17_1 hcz17_2 hcz17_3
     try clear hcz19_0 hcz19_1 hcz19_2 hcz19_3
     try clear hcz20_0 hcz20_1 hcz20_2 hcz20_3
     try clear hfz10_0
     try clear hfz10_1
     try clear hfz10_2
     try clear hfz10_3
     try clear hfz11_0
     try clear hfz11_1
     try clear hfz11_2
     try clear hfz11_3
     try clear hfz13_0
     try clear hfz13_1
     try clear hfz13_2
     try clear hfz13_3
     try clear hfz14_0
     try clear hfz14_1
     try clear hfz14_2
     try clear hfz14_3
     try clear hfz16_0
     try clear hfz16_1
     try clear hfz16_2
     try clear hfz16_3
     try clear hfz17_0
     try clear hfz17_1
     try clear hfz17_2
     try clear hfz17_3
     try clear hfz19_0
     try clear hfz19_1
     try clear hfz19_2
     try clear hfz19_3
     try clear hfz20_0
     try clear hfz20_1
     try clear hfz20_2
     try clear hfz20_3
     try clear p2
     obtain ⟨x5_2, rfl, HA, HK2, BK101, BK102, HB⟩ := hrel
     cases gk with
     | zero => exact absurd HA.out (by simp [Y3.l0])
     | succ k2 =>
      have H := HA.out
      clear HA
      simp only [Y3.l0] at H
      by_cases c22 : x5_2 < (l0_2.length : Int)
      ·rw [if_pos c22] at H
       have c22b0 : decide (x5_2 < (l0_2.length : Int)) = true := decide_eq_true c22
       clear c22
       by_cases c23 : 0 ≤ x5_2
       ·rw [if_pos c23] at H
        have c23b0 : decide (0 ≤ x5_2) = true := decide_eq_true c23
        clear c23
        by_cases c24 : x5_2 < (l1_2.length : Int)
        ·rw [if_pos c24] at H
         have c24b0 : decide (x5_2 < (l1_2.length : Int)) = true := decide_eq_true c24
         clear c24
         by_cases c25 : (Y2m ByteArray.empty l0_2 x5_2).toList = (Y2m ByteArray.empty l1_2 x5_2).toList
         ·rw [if_pos c25] at H
          have c25b0 : ((Y2m ByteArray.empty l0_2 x5_2).toList == (Y2m ByteArray.empty l1_2 x5_2).toList) = true := beq_iff_eq.mpr c25
          have c25b1 : ((Y2m ByteArray.empty l0_2 x5_2).toList != (Y2m ByteArray.empty l1_2 x5_2).toList) = false := bne_eq_false_iff_eq.mpr c25
          clear c25
          have H' := Y0.mk H
          clear H
          have hnb26 := NB101_102.out
          have hnc26 := NB102_101.out
          obtain ⟨hcz27_0, hcz27_1, hcz27_2, hcz27_3, hfz27_0, hfz27_1, hfz27_2, hfz27_3⟩ := Yx BK101.out
          try go_wp2
          have n_ := Y33 (Yd BK101.out) (Yd BK102.out) (YQ HB.out)
          clear BK101
          clear BK102
          clear HB
          obtain ⟨BK101, BK102, HB⟩ := n_
          have p103 : 0 ≤ (x5_2 : Int) := of_decide_eq_true Z6
          have q103 : x5_2 < (l0_2.length : Int) := of_decide_eq_true Z6
          obtain ⟨ad103, e103, hx103_0⟩ := Kd.at_string HR0_2.out x5_2 p103 q103
          have hw103_0 := hx103_0
          cases e103
          replace hx103_0 := YU HB.out hx103_0
          replace p103 := eq_true p103
          replace q103 := eq_true q103
          have p104 : 0 ≤ (x5_2 : Int) := of_decide_eq_true Z6
          have q104 : x5_2 < (l1_2.length : Int) := of_decide_eq_true Z6
          obtain ⟨ad104, e104, hx104_0⟩ := Kd.at_string HR1_2.out x5_2 p104 q104
          have hw104_0 := hx104_0
          cases e104
          replace hx104_0 := YU HB.out hx104_0
          replace p104 := eq_true p104
          replace q104 := eq_true q104
          refine Y1t (n := 11) (S := fun w' => w'.cell? ⟨gb101, 0, none⟩ = some (.int .i64 a0_0) ∧ w'.cell? ⟨gb101, 1, none⟩ = some (.string a0_1) ∧ w'.cell? ⟨gb101, 2, none⟩ = some (.slice (some ad103) l0_2.length c0_2) ∧ w'.cell? ⟨gb101, 3, none⟩ = some (.slice A0_3 l0_3.length c0_3) ∧ w'.cell? ⟨gb102, 0, none⟩ = some (.int .i64 a1_0) ∧ w'.cell? ⟨gb102, 1, none⟩ = some (.string a1_1) ∧ w'.cell? ⟨gb102, 2, none⟩ = some (.slice (some ad104) l1_2.length c1_2) ∧ w'.cell? ⟨gb102, 3, none⟩ = some (.slice A1_3 l1_3.length c1_3) ∧ w'.cell? (ad103.add (x5_2).toNat) = some (.string (Y2m ByteArray.empty l0_2 x5_2)) ∧ w'.cell? (ad104.add (x5_2).toNat) = some (.string (Y2m ByteArray.empty l1_2 x5_2))) (ds := []) bz11_0 Z8 rfl rfl ⟨(Y1 BK101.out 0).trans rfl, (Y1 BK101.out 1).trans rfl, (Y1 BK101.out 2).trans rfl, (Y1 BK101.out 3).trans rfl, (Y1 BK102.out 0).trans rfl, (Y1 BK102.out 1).trans rfl, (Y1 BK102.out 2).trans rfl, (Y1 BK102.out 3).trans rfl, ((HB.out.cell (World.block_lt_of_cell? w _ hw103_0)).trans hw103_0), ((HB.out.cell (World.block_lt_of_cell? w _ hw104_0)).trans hw104_0)⟩ (fun hHeld => ?_); refine Y11 Y3.tab6 Y3.bits6 (fun HT_ HW_ => ?_)
          generalize wr.drew = w28 at BK101 BK102 HB hx103_0 hx104_0 hHeld ⊢
          refine pY 0 44 bz11_1 ?_
          refine pY 2 46 bz11_5 ?_
          refine pY 5 49 bz11_25 ?_
          refine pY 7 51 bz11_a5 ?_
          refine pT 1 45 bz11_a7 ?_
          refine pY 3 47 bz11_af ?_
          refine pT 4 48 bz11_bf ?_
          refine pT 6 50 bz11_ff ?_
          refine pY 8 52 Y5E ?_
          refine pT 9 53 Y5F ?_
          refine pY 10 54 Y5G ?_
          refine Y22 (Y1g HT_.out Z8) ?_
          try go_wp2
          go_roundg k2
          case measure => have := HJ2.out; have := HK2.out; omega
          case rel => exact ⟨(wrap64 (x5_2 + 1)), Z7, H', ⟨by have := HJ2.out; have := HK2.out; omega⟩, ⟨Z5⟩, ⟨Zm⟩, ⟨QB⟩⟩
         ·rw [if_neg c25] at H
          have c25b0 : ((Y2m ByteArray.empty l0_2 x5_2).toList == (Y2m ByteArray.empty l1_2 x5_2).toList) = false := beq_eq_false_iff_ne.mpr c25
          have c25b1 : ((Y2m ByteArray.empty l0_2 x5_2).toList != (Y2m ByteArray.empty l1_2 x5_2).toList) = true := bne_iff_ne.mpr c25
          obtain rfl := Option.some.inj H
          have hnb29 := NB101_102.out
          have hnc29 := NB102_101.out
          obtain ⟨hcz30_0, hcz30_1, hcz30_2, hcz30_3, hfz30_0, hfz30_1, hfz30_2, hfz30_3⟩ := Yx BK101.out
          try go_wp2
          have n_ := Y33 (Yd BK101.out) (Yd BK102.out) (YQ HB.out)
          clear BK101
          clear BK102
          clear HB
          obtain ⟨BK101, BK102, HB⟩ := n_
          have p103 : 0 ≤ (x5_2 : Int) := of_decide_eq_true Z6
          have q103 : x5_2 < (l0_2.length : Int) := of_decide_eq_true Z6
          obtain ⟨ad103, e103, hx103_0⟩ := Kd.at_string HR0_2.out x5_2 p103 q103
          have hw103_0 := hx103_0
          cases e103
          replace hx103_0 := YU HB.out hx103_0
          replace p103 := eq_true p103
          replace q103 := eq_true q103
          have p104 : 0 ≤ (x5_2 : Int) := of_decide_eq_true Z6
          have q104 : x5_2 < (l1_2.length : Int) := of_decide_eq_true Z6
          obtain ⟨ad104, e104, hx104_0⟩ := Kd.at_string HR1_2.out x5_2 p104 q104
          have hw104_0 := hx104_0
          cases e104
          replace hx104_0 := YU HB.out hx104_0
          replace p104 := eq_true p104
          replace q104 := eq_true q104
          refine Y1t (n := 11) (S := fun w' => w'.cell? ⟨gb101, 0, none⟩ = some (.int .i64 a0_0) ∧ w'.cell? ⟨gb101, 1, none⟩ = some (.string a0_1) ∧ w'.cell? ⟨gb101, 2, none⟩ = some (.slice (some ad103) l0_2.length c0_2) ∧ w'.cell? ⟨gb101, 3, none⟩ = some (.slice A0_3 l0_3.length c0_3) ∧ w'.cell? ⟨gb102, 0, none⟩ = some (.int .i64 a1_0) ∧ w'.cell? ⟨gb102, 1, none⟩ = some (.string a1_1) ∧ w'.cell? ⟨gb102, 2, none⟩ = some (.slice (some ad104) l1_2.length c1_2) ∧ w'.cell? ⟨gb102, 3, none⟩ = some (.slice A1_3 l1_3.length c1_3) ∧ w'.cell? (ad103.add (x5_2).toNat) = some (.string (Y2m ByteArray.empty l0_2 x5_2)) ∧ w'.cell? (ad104.add (x5_2).toNat) = some (.string (Y2m ByteArray.empty l1_2 x5_2))) (ds := []) bz11_0 Z8 rfl rfl ⟨(Y1 BK101.out 0).trans rfl, (Y1 BK101.out 1).trans rfl, (Y1 BK101.out 2).trans rfl, (Y1 BK101.out 3).trans rfl, (Y1 BK102.out 0).trans rfl, (Y1 BK102.out 1).trans rfl, (Y1 BK102.out 2).trans rfl, (Y1 BK102.out 3).trans rfl, ((HB.out.cell (World.block_lt_of_cell? w _ hw103_0)).trans hw103_0), ((HB.out.cell (World.block_lt_of_cell? w _ hw104_0)).trans hw104_0)⟩ (fun hHeld => ?_); refine Y11 Y3.tab6 Y3.bits6 (fun HT_ HW_ => ?_)
          generalize wr.drew = w31 at BK101 BK102 HB hx103_0 hx104_0 hHeld ⊢
          refine pY 0 44 bz11_1 ?_
          refine pY 2 46 bz11_5 ?_
          refine pY 5 49 bz11_25 ?_
          refine pY 7 51 bz11_a5 ?_
          refine pT 1 45 bz11_a7 ?_
          refine pY 3 47 bz11_af ?_
          refine pT 4 48 bz11_bf ?_
          refine pT 6 50 bz11_ff ?_
          refine pY 8 52 Y5E ?_
          refine pT 9 53 Y5F ?_
          refine pY 10 54 Y5G ?_
          refine Y22 (Y1g HT_.out Z8) ?_
          try go_wp2
          go_ret
          exact Z2h
        ·rw [if_neg c24] at H
         exact Zl
       ·rw [if_neg c23] at H
        exact Zl
      ·rw [if_neg c22] at H
       have c22b0 : decide (x5_2 < (l0_2.length : Int)) = false := decide_eq_false c22
       clear c22
       have H' := Y0.mk H
       clear H
       have hnb32 := NB101_102.out
       have hnc32 := NB102_101.out
       obtain ⟨hcz33_0, hcz33_1, hcz33_2, hcz33_3, hfz33_0, hfz33_1, hfz33_2, hfz33_3⟩ := Yx BK101.out
       go_wp2
       go_loopg [6] k2 (fun kq v6 w' => ∃ (x6_3 : Int), v6 = .int .i64 x6_3 ∧ Y0 (Y3.l1 kq x6_3 a0_0 a0_1 l0_2 l0_3 a1_0 a1_1 l1_2 l1_3 = some r) ∧ Y0 (kq ≤ k2) ∧ Y0 (w'.heap[gb101]? = some (.cells #[.int .i64 a0_0, .string a0_1, (.slice A0_2 l0_2.length c0_2), (.slice A0_3 l0_3.length c0_3)] 37 (0, 0))) ∧ Y0 (w'.heap[gb102]? = some (.cells #[.int .i64 a1_0, .string a1_1, (.slice A1_2 l1_2.length c1_2), (.slice A1_3 l1_3.length c1_3)] 37 (0, 0))) ∧ Y0 (Below w.heap.size w w'))
       case atStart => exact ⟨(0), Z7, H', ⟨Nat.le_refl _⟩, ⟨Z5⟩, ⟨Zm⟩, ⟨QB⟩⟩
       case round =>
        clear H'
        try clear c1
        try clear p1
        try clear q1
        try clear hx1
        try clear c2
        try clear p2
        try clear c3
        try clear c6
        try clear c6b0
        try clear c6b1
        try clear p6
        try clear c7
        try clear c7b0
        try clear c7b1
        try clear c8
        try clear c8b0
        try clear c8b1
        try clear c8b2
        try clear c9
        try clear p10
        try clear q10
        try clear hx10
        try clear c12
        try clear c15
        try clear c18
        try clear c21
        try clear c22
        try clear c22b0
        try clear c23
        try clear c23b0
        try clear c24
        try clear c24b0
        try clear c25
        try clear c25b0
        try clear c25b1
        try clear c26
        try clear c29
        try clear c32
        try clear hcz10_0 hcz10_1 hcz10_2 hcz10_3
        try clear hcz11_0 hcz11_1 hcz11_2 hcz11_3
        try clear hcz13_0 hcz13_1 hcz13_2 hcz13_3
        try clear hcz14_0 hcz14_1 hcz14_2 hcz14_3
        try clear hcz16_0 hcz16_1 hcz16_2 hcz16_3
        try clear hcz17_0 hcz17_1 hcz17_2 hcz17_3
        try clear hcz19_0 hcz19_1 hcz19_2 hcz19_3
        try clear hcz20_0 hcz20_1 hcz20_2 hcz20_3
        try clear hcz27_0 hcz27_1 hcz27_2 hcz27_3
        try clear hcz30_0 hcz30_1 hcz30_2 hcz30_3
        try clear hcz33_0 hcz33_1 hcz33_2 hcz33_3
        try clear hfz10_0
        try clear hfz10_1
        try clear hfz10_2
        try clear hfz10_3
        try clear hfz11_0
        try clear hfz11_1
        try clear hfz11_2
        try clear hfz11_3
        try clear hfz13_0
        try clear hfz13_1
        try clear hfz13_2
        try clear hfz13_3
        try clear hfz14_0
        try clear hfz14_1
        try clear hfz14_2
        try clear hfz14_3
        try clear hfz16_0
        try clear hfz16_1
        try clear hfz16_2
        try clear hfz16_3
        try clear hfz17_0
        try clear hfz17_1
        try clear hfz17_2
        try clear hfz17_3
        try clear hfz19_0
        try clear hfz19_1
        try clear hfz19_2
        try clear hfz19_3
        try clear hfz20_0
        try clear hfz20_1
        try clear hfz20_2
        try clear hfz20_3
        try clear hfz27_0
        try clear hfz27_1
        try clear hfz27_2
        try clear hfz27_3
        try clear hfz30_0
        try clear hfz30_1
        try clear hfz30_2
        try clear hfz30_3
        try clear hfz33_0
        try clear hfz33_1
        try clear hfz33_2
        try clear hfz33_3
        try clear hx103_0
        try clear hx104_0
        try clear p103
        try clear p104
        try clear p2
        try clear q103
        try clear q104
        obtain ⟨x6_3, rfl, HA, HK3, BK101, BK102, HB⟩ := hrel
        cases gk with
        | zero => exact absurd HA.out (by simp [Y3.l1])
        | succ k3 =>
         have H := HA.out
         clear HA
         simp only [Y3.l1] at H
         by_cases c34 : x6_3 < (l0_3.length : Int)
         ·rw [if_pos c34] at H
          have c34b0 : decide (x6_3 < (l0_3.length : Int)) = true := decide_eq_true c34
          clear c34
          by_cases c35 : 0 ≤ x6_3
          ·rw [if_pos c35] at H
           have c35b0 : decide (0 ≤ x6_3) = true := decide_eq_true c35
           clear c35
           by_cases c36 : x6_3 < (l1_3.length : Int)
           ·rw [if_pos c36] at H
            have c36b0 : decide (x6_3 < (l1_3.length : Int)) = true := decide_eq_true c36
            clear c36
            replace H := Option.bind_eq_some_iff.mp H
            obtain ⟨t107, A370, H⟩ := H
            replace H : (if t107 = true then (Y3.l1 k3 (wrap64 (x6_3 + 1)) a0_0 a0_1 l0_2 l0_3 a1_0 a1_1 l1_2 l1_3) else (some false)) = some r := H
            have A37 := Y0.mk A370
            clear A370
            by_cases c38 : t107 = true
            ·subst c38
             have H1 : (Y3.l1 k3 (wrap64 (x6_3 + 1)) a0_0 a0_1 l0_2 l0_3 a1_0 a1_1 l1_2 l1_3) = some r := by rw [if_pos rfl] at H; exact H
             clear H
             have H := H1
             clear H1
             have H' := Y0.mk H
             clear H
             have hnb39 := NB101_102.out
             have hnc39 := NB102_101.out
             obtain ⟨hcz40_0, hcz40_1, hcz40_2, hcz40_3, hfz40_0, hfz40_1, hfz40_2, hfz40_3⟩ := Yx BK101.out
             try go_wp2
             have n_ := Y33 (Yd BK101.out) (Yd BK102.out) (YQ HB.out)
             clear BK101
             clear BK102
             clear HB
             obtain ⟨BK101, BK102, HB⟩ := n_
             have p105 : 0 ≤ (x6_3 : Int) := of_decide_eq_true Z6
             have q105 : x6_3 < (l0_3.length : Int) := of_decide_eq_true Z6
             obtain ⟨ad105, A105_2, c105_2, A105_3, c105_3, e105, hx105_0, hx105_1, hx105_2, hx105_3, hl105_2, hi105_2, hl105_3, hi105_3⟩ := Y1J HR0_3.out x6_3 p105 q105
             have hw105_3 := hx105_3
             have hw105_2 := hx105_2
             have hw105_1 := hx105_1
             have hw105_0 := hx105_0
             cases e105
             replace hx105_0 := YU HB.out hx105_0
             replace hx105_1 := YU HB.out hx105_1
             replace hx105_2 := YU HB.out hx105_2
             replace hx105_3 := YU HB.out hx105_3
             have HR105_2 := Y0.mk hi105_2
             have HC105_2 := Y0.mk hl105_2
             clear hi105_2 hl105_2
             have HR105_3 := Y0.mk hi105_3
             have HC105_3 := Y0.mk hl105_3
             clear hi105_3 hl105_3
             replace p105 := eq_true p105
             replace q105 := eq_true q105
             have p106 : 0 ≤ (x6_3 : Int) := of_decide_eq_true Z6
             have q106 : x6_3 < (l1_3.length : Int) := of_decide_eq_true Z6
             obtain ⟨ad106, A106_2, c106_2, A106_3, c106_3, e106, hx106_0, hx106_1, hx106_2, hx106_3, hl106_2, hi106_2, hl106_3, hi106_3⟩ := Y1J HR1_3.out x6_3 p106 q106
             have hw106_3 := hx106_3
             have hw106_2 := hx106_2
             have hw106_1 := hx106_1
             have hw106_0 := hx106_0
             cases e106
             replace hx106_0 := YU HB.out hx106_0
             replace hx106_1 := YU HB.out hx106_1
             replace hx106_2 := YU HB.out hx106_2
             replace hx106_3 := YU HB.out hx106_3
             have HR106_2 := Y0.mk hi106_2
             have HC106_2 := Y0.mk hl106_2
             clear hi106_2 hl106_2
             have HR106_3 := Y0.mk hi106_3
             have HC106_3 := Y0.mk hl106_3
             clear hi106_3 hl106_3
             replace p106 := eq_true p106
             replace q106 := eq_true q106
             refine Y1t (n := 12) (S := fun w' => w'.cell? ⟨gb101, 0, none⟩ = some (.int .i64 a0_0) ∧ w'.cell? ⟨gb101, 1, none⟩ = some (.string a0_1) ∧ w'.cell? ⟨gb101, 2, none⟩ = some (.slice A0_2 l0_2.length c0_2) ∧ w'.cell? ⟨gb101, 3, none⟩ = some (.slice (some ad105) l0_3.length c0_3) ∧ w'.cell? ⟨gb102, 0, none⟩ = some (.int .i64 a1_0) ∧ w'.cell? ⟨gb102, 1, none⟩ = some (.string a1_1) ∧ w'.cell? ⟨gb102, 2, none⟩ = some (.slice A1_2 l1_2.length c1_2) ∧ w'.cell? ⟨gb102, 3, none⟩ = some (.slice (some ad106) l1_3.length c1_3) ∧ w'.cell? (ad105.add ((x6_3).toNat * 4)) = some (.int .i64 ((Y4 l0_3 x6_3).f0)) ∧ w'.cell? ⟨(ad105.add ((x6_3).toNat * 4)).block, (ad105.add ((x6_3).toNat * 4)).off + 1, none⟩ = some (.string ((Y4 l0_3 x6_3).f1)) ∧ w'.cell? ⟨(ad105.add ((x6_3).toNat * 4)).block, (ad105.add ((x6_3).toNat * 4)).off + 2, none⟩ = some (.slice A105_2 ((Y4 l0_3 x6_3).f2).length c105_2) ∧ w'.cell? ⟨(ad105.add ((x6_3).toNat * 4)).block, (ad105.add ((x6_3).toNat * 4)).off + 3, none⟩ = some (.slice A105_3 ((Y4 l0_3 x6_3).f3).length c105_3) ∧ w'.cell? (ad106.add ((x6_3).toNat * 4)) = some (.int .i64 ((Y4 l1_3 x6_3).f0)) ∧ w'.cell? ⟨(ad106.add ((x6_3).toNat * 4)).block, (ad106.add ((x6_3).toNat * 4)).off + 1, none⟩ = some (.string ((Y4 l1_3 x6_3).f1)) ∧ w'.cell? ⟨(ad106.add ((x6_3).toNat * 4)).block, (ad106.add ((x6_3).toNat * 4)).off + 2, none⟩ = some (.slice A106_2 ((Y4 l1_3 x6_3).f2).length c106_2) ∧ w'.cell? ⟨(ad106.add ((x6_3).toNat * 4)).block, (ad106.add ((x6_3).toNat * 4)).off + 3, none⟩ = some (.slice A106_3 ((Y4 l1_3 x6_3).f3).length c106_3)) (ds := []) Y5H Z8 rfl rfl ⟨(Y1 BK101.out 0).trans rfl, (Y1 BK101.out 1).trans rfl, (Y1 BK101.out 2).trans rfl, (Y1 BK101.out 3).trans rfl, (Y1 BK102.out 0).trans rfl, (Y1 BK102.out 1).trans rfl, (Y1 BK102.out 2).trans rfl, (Y1 BK102.out 3).trans rfl, ((HB.out.cell (World.block_lt_of_cell? w _ hw105_0)).trans hw105_0), ((HB.out.cell (World.block_lt_of_cell? w _ hw105_1)).trans hw105_1), ((HB.out.cell (World.block_lt_of_cell? w _ hw105_2)).trans hw105_2), ((HB.out.cell (World.block_lt_of_cell? w _ hw105_3)).trans hw105_3), ((HB.out.cell (World.block_lt_of_cell? w _ hw106_0)).trans hw106_0), ((HB.out.cell (World.block_lt_of_cell? w _ hw106_1)).trans hw106_1), ((HB.out.cell (World.block_lt_of_cell? w _ hw106_2)).trans hw106_2), ((HB.out.cell (World.block_lt_of_cell? w _ hw106_3)).trans hw106_3)⟩ (fun hHeld => ?_); refine Y11 Y3.tab11 Y3.bits11 (fun HT_ HW_ => ?_)
             generalize wr.drew = w41 at BK101 BK102 HB HR105_2 HR105_3 HR106_2 HR106_3 hx105_0 hx105_1 hx105_2 hx105_3 hx106_0 hx106_1 hx106_2 hx106_3 hHeld ⊢
             refine pY 0 62 Y5I ?_
             refine pY 2 64 bz12_5 ?_
             refine pY 5 67 bz12_25 ?_
             refine pY 7 69 bz12_a5 ?_
             refine pT 1 63 bz12_a7 ?_
             refine pY 3 65 bz12_af ?_
             refine pT 4 66 bz12_bf ?_
             refine pT 6 68 Y4D ?_
             refine pY 8 70 Y3O ?_
             refine pT 9 71 Y3P ?_
             refine Y2J (i := 10) (N := some 72) Y3Q rfl rfl (Y1h HT_.out Z8) (by decide) (fun K hK => ?_)
             refine Y1Q Tryd.func28 Z8 rfl #[.agg #[.int .i64 ((Y4 l0_3 x6_3).f0), .string ((Y4 l0_3 x6_3).f1), .slice A105_2 ((Y4 l0_3 x6_3).f2).length c105_2, .slice A105_3 ((Y4 l0_3 x6_3).f3).length c105_3], .agg #[.int .i64 ((Y4 l1_3 x6_3).f0), .string ((Y4 l1_3 x6_3).f1), .slice A106_2 ((Y4 l1_3 x6_3).f2).length c106_2, .slice A106_3 ((Y4 l1_3 x6_3).f3).length c106_3]] (by rfl) rfl rfl Z0 ?_
             with_reducible refine (ih k3 Z1p ((Y4 l0_3 x6_3).f0) ((Y4 l0_3 x6_3).f1) _ _ ((Y4 l0_3 x6_3).f2) _ _ ((Y4 l0_3 x6_3).f3) ((Y4 l1_3 x6_3).f0) ((Y4 l1_3 x6_3).f1) _ _ ((Y4 l1_3 x6_3).f2) _ _ ((Y4 l1_3 x6_3).f3) true _ ?side1 ?side2 ?side3 ?side4 ?side5 ?side6 ?side7 ?side8 A37.out).mono ?_
             (case side1 => exact Z1D)
             (case side2 => exact HC105_2.out)
             (case side3 => exact Z1E)
             (case side4 => exact HC105_3.out)
             (case side5 => exact ZB)
             (case side6 => exact HC106_2.out)
             (case side7 => exact ZC)
             (case side8 => exact HC106_3.out)
             rintro e w42 ⟨rfl, hb⟩
             refine ⟨_, rfl, ?_⟩
             have n_ := Y33 (Yg (g := gb101) (o := .cells #[.int .i64 a0_0, .string a0_1, .slice A0_2 l0_2.length c0_2, .slice (some ad105) l0_3.length c0_3] 37 (0, 0)) QQ hb) (Yg (g := gb102) (o := .cells #[.int .i64 a1_0, .string a1_1, .slice A1_2 l1_2.length c1_2, .slice (some ad106) l1_3.length c1_3] 37 (0, 0)) QQ hb) (Y6 QB hb)
             clear BK101
             clear BK102
             clear HB
             obtain ⟨BK101, BK102, HB⟩ := n_
             (try clear hb)
             (try clear hb2)
             (try clear hk)
             (try clear hi)
             refine hK.out _ _ ⟨(Y1 BK101.out 0).trans rfl, (Y1 BK101.out 1).trans rfl, (Y1 BK101.out 2).trans rfl, (Y1 BK101.out 3).trans rfl, (Y1 BK102.out 0).trans rfl, (Y1 BK102.out 1).trans rfl, (Y1 BK102.out 2).trans rfl, (Y1 BK102.out 3).trans rfl, ((HB.out.cell (World.block_lt_of_cell? w _ hw105_0)).trans hw105_0), ((HB.out.cell (World.block_lt_of_cell? w _ hw105_1)).trans hw105_1), ((HB.out.cell (World.block_lt_of_cell? w _ hw105_2)).trans hw105_2), ((HB.out.cell (World.block_lt_of_cell? w _ hw105_3)).trans hw105_3), ((HB.out.cell (World.block_lt_of_cell? w _ hw106_0)).trans hw106_0), ((HB.out.cell (World.block_lt_of_cell? w _ hw106_1)).trans hw106_1), ((HB.out.cell (World.block_lt_of_cell? w _ hw106_2)).trans hw106_2), ((HB.out.cell (World.block_lt_of_cell? w _ hw106_3)).trans hw106_3)⟩ (fun hHeld => ?_)
             clear hK K
             refine Y1F (a' := ?_) ?_ ?_
             rotate_left
             ·show Act.put _ (some 72) _ = _
              simp only [Act.put, List.setIfInBounds_toArray, List.set_cons_zero, List.set_cons_succ, Y15, Y16]
              rfl
             refine pY 11 73 Y3R ?_
             refine Y22 (Y1g HT_.out Z8) ?_
             try go_wp2
             go_roundg k3
             case measure => have := HJ2.out; have := HK2.out; have := HK3.out; omega
             case rel => exact ⟨(wrap64 (x6_3 + 1)), Z7, H', ⟨Z1p⟩, ⟨Z5⟩, ⟨Zm⟩, ⟨QB⟩⟩
            ·replace c38 := Bool.eq_false_iff.mpr c38
             subst c38
             have H1 : (some false) = some r := by rw [if_neg (show ¬ (false = true) by decide)] at H; exact H
             clear H
             have H := H1
             clear H1
             obtain rfl := Option.some.inj H
             have hnb43 := NB101_102.out
             have hnc43 := NB102_101.out
             obtain ⟨hcz44_0, hcz44_1, hcz44_2, hcz44_3, hfz44_0, hfz44_1, hfz44_2, hfz44_3⟩ := Yx BK101.out
             try go_wp2
             have n_ := Y33 (Yd BK101.out) (Yd BK102.out) (YQ HB.out)
             clear BK101
             clear BK102
             clear HB
             obtain ⟨BK101, BK102, HB⟩ := n_
             have p105 : 0 ≤ (x6_3 : Int) := of_decide_eq_true Z6
             have q105 : x6_3 < (l0_3.length : Int) := of_decide_eq_true Z6
             obtain ⟨ad105, A105_2, c105_2, A105_3, c105_3, e105, hx105_0, hx105_1, hx105_2, hx105_3, hl105_2, hi105_2, hl105_3, hi105_3⟩ := Y1J HR0_3.out x6_3 p105 q105
             have hw105_3 := hx105_3
             have hw105_2 := hx105_2
             have hw105_1 := hx105_1
             have hw105_0 := hx105_0
             cases e105
             replace hx105_0 := YU HB.out hx105_0
             replace hx105_1 := YU HB.out hx105_1
             replace hx105_2 := YU HB.out hx105_2
             replace hx105_3 := YU HB.out hx105_3
             have HR105_2 := Y0.mk hi105_2
             have HC105_2 := Y0.mk hl105_2
             clear hi105_2 hl105_2
             have HR105_3 := Y0.mk hi105_3
             have HC105_3 := Y0.mk hl105_3
             clear hi105_3 hl105_3
             replace p105 := eq_true p105
             replace q105 := eq_true q105
             have p106 : 0 ≤ (x6_3 : Int) := of_decide_eq_true Z6
             have q106 : x6_3 < (l1_3.length : Int) := of_decide_eq_true Z6
             obtain ⟨ad106, A106_2, c106_2, A106_3, c106_3, e106, hx106_0, hx106_1, hx106_2, hx106_3, hl106_2, hi106_2, hl106_3, hi106_3⟩ := Y1J HR1_3.out x6_3 p106 q106
             have hw106_3 := hx106_3
             have hw106_2 := hx106_2
             have hw106_1 := hx106_1
             have hw106_0 := hx106_0
             cases e106
             replace hx106_0 := YU HB.out hx106_0
             replace hx106_1 := YU HB.out hx106_1
             replace hx106_2 := YU HB.out hx106_2
             replace hx106_3 := YU HB.out hx106_3
             have HR106_2 := Y0.mk hi106_2
             have HC106_2 := Y0.mk hl106_2
             clear hi106_2 hl106_2
             have HR106_3 := Y0.mk hi106_3
             have HC106_3 := Y0.mk hl106_3
             clear hi106_3 hl106_3
             replace p106 := eq_true p106
             replace q106 := eq_true q106
             refine Y1t (n := 12) (S := fun w' => w'.cell? ⟨gb101, 0, none⟩ = some (.int .i64 a0_0) ∧ w'.cell? ⟨gb101, 1, none⟩ = some (.string a0_1) ∧ w'.cell? ⟨gb101, 2, none⟩ = some (.slice A0_2 l0_2.length c0_2) ∧ w'.cell? ⟨gb101, 3, none⟩ = some (.slice (some ad105) l0_3.length c0_3) ∧ w'.cell? ⟨gb102, 0, none⟩ = some (.int .i64 a1_0) ∧ w'.cell? ⟨gb102, 1, none⟩ = some (.string a1_1) ∧ w'.cell? ⟨gb102, 2, none⟩ = some (.slice A1_2 l1_2.length c1_2) ∧ w'.cell? ⟨gb102, 3, none⟩ = some (.slice (some ad106) l1_3.length c1_3) ∧ w'.cell? (ad105.add ((x6_3).toNat * 4)) = some (.int .i64 ((Y4 l0_3 x6_3).f0)) ∧ w'.cell? ⟨(ad105.add ((x6_3).toNat * 4)).block, (ad105.add ((x6_3).toNat * 4)).off + 1, none⟩ = some (.string ((Y4 l0_3 x6_3).f1)) ∧ w'.cell? ⟨(ad105.add ((x6_3).toNat * 4)).block, (ad105.add ((x6_3).toNat * 4)).off + 2, none⟩ = some (.slice A105_2 ((Y4 l0_3 x6_3).f2).length c105_2) ∧ w'.cell? ⟨(ad105.add ((x6_3).toNat * 4)).block, (ad105.add ((x6_3).toNat * 4)).off + 3, none⟩ = some (.slice A105_3 ((Y4 l0_3 x6_3).f3).length c105_3) ∧ w'.cell? (ad106.add ((x6_3).toNat * 4)) = some (.int .i64 ((Y4 l1_3 x6_3).f0)) ∧ w'.cell? ⟨(ad106.add ((x6_3).toNat * 4)).block, (ad106.add ((x6_3).toNat * 4)).off + 1, none⟩ = some (.string ((Y4 l1_3 x6_3).f1)) ∧ w'.cell? ⟨(ad106.add ((x6_3).toNat * 4)).block, (ad106.add ((x6_3).toNat * 4)).off + 2, none⟩ = some (.slice A106_2 ((Y4 l1_3 x6_3).f2).length c106_2) ∧ w'.cell? ⟨(ad106.add ((x6_3).toNat * 4)).block, (ad106.add ((x6_3).toNat * 4)).off + 3, none⟩ = some (.slice A106_3 ((Y4 l1_3 x6_3).f3).length c106_3)) (ds := []) Y5H Z8 rfl rfl ⟨(Y1 BK101.out 0).trans rfl, (Y1 BK101.out 1).trans rfl, (Y1 BK101.out 2).trans rfl, (Y1 BK101.out 3).trans rfl, (Y1 BK102.out 0).trans rfl, (Y1 BK102.out 1).trans rfl, (Y1 BK102.out 2).trans rfl, (Y1 BK102.out 3).trans rfl, ((HB.out.cell (World.block_lt_of_cell? w _ hw105_0)).trans hw105_0), ((HB.out.cell (World.block_lt_of_cell? w _ hw105_1)).trans hw105_1), ((HB.out.cell (World.block_lt_of_cell? w _ hw105_2)).trans hw105_2), ((HB.out.cell (World.block_lt_of_cell? w _ hw105_3)).trans hw105_3), ((HB.out.cell (World.block_lt_of_cell? w _ hw106_0)).trans hw106_0), ((HB.out.cell (World.block_lt_of_cell? w _ hw106_1)).trans hw106_1), ((HB.out.cell (World.block_lt_of_cell? w _ hw106_2)).trans hw106_2), ((HB.out.cell (World.block_lt_of_cell? w _ hw106_3)).trans hw106_3)⟩ (fun hHeld => ?_); refine Y11 Y3.tab11 Y3.bits11 (fun HT_ HW_ => ?_)
             generalize wr.drew = w45 at BK101 BK102 HB HR105_2 HR105_3 HR106_2 HR106_3 hx105_0 hx105_1 hx105_2 hx105_3 hx106_0 hx106_1 hx106_2 hx106_3 hHeld ⊢
             refine pY 0 62 Y5I ?_
             refine pY 2 64 bz12_5 ?_
             refine pY 5 67 bz12_25 ?_
             refine pY 7 69 bz12_a5 ?_
             refine pT 1 63 bz12_a7 ?_
             refine pY 3 65 bz12_af ?_
             refine pT 4 66 bz12_bf ?_
             refine pT 6 68 Y4D ?_
             refine pY 8 70 Y3O ?_
             refine pT 9 71 Y3P ?_
             refine Y2J (i := 10) (N := some 72) Y3Q rfl rfl (Y1h HT_.out Z8) (by decide) (fun K hK => ?_)
             refine Y1Q Tryd.func28 Z8 rfl #[.agg #[.int .i64 ((Y4 l0_3 x6_3).f0), .string ((Y4 l0_3 x6_3).f1), .slice A105_2 ((Y4 l0_3 x6_3).f2).length c105_2, .slice A105_3 ((Y4 l0_3 x6_3).f3).length c105_3], .agg #[.int .i64 ((Y4 l1_3 x6_3).f0), .string ((Y4 l1_3 x6_3).f1), .slice A106_2 ((Y4 l1_3 x6_3).f2).length c106_2, .slice A106_3 ((Y4 l1_3 x6_3).f3).length c106_3]] (by rfl) rfl rfl Z0 ?_
             with_reducible refine (ih k3 Z1p ((Y4 l0_3 x6_3).f0) ((Y4 l0_3 x6_3).f1) _ _ ((Y4 l0_3 x6_3).f2) _ _ ((Y4 l0_3 x6_3).f3) ((Y4 l1_3 x6_3).f0) ((Y4 l1_3 x6_3).f1) _ _ ((Y4 l1_3 x6_3).f2) _ _ ((Y4 l1_3 x6_3).f3) false _ ?side1 ?side2 ?side3 ?side4 ?side5 ?side6 ?side7 ?side8 A37.out).mono ?_
             (case side1 => exact Z1D)
             (case side2 => exact HC105_2.out)
             (case side3 => exact Z1E)
             (case side4 => exact HC105_3.out)
             (case side5 => exact ZB)
             (case side6 => exact HC106_2.out)
             (case side7 => exact ZC)
             (case side8 => exact HC106_3.out)
             rintro e w46 ⟨rfl, hb⟩
             refine ⟨_, rfl, ?_⟩
             have n_ := Y33 (Yg (g := gb101) (o := .cells #[.int .i64 a0_0, .string a0_1, .slice A0_2 l0_2.length c0_2, .slice (some ad105) l0_3.length c0_3] 37 (0, 0)) QQ hb) (Yg (g := gb102) (o := .cells #[.int .i64 a1_0, .string a1_1, .slice A1_2 l1_2.length c1_2, .slice (some ad106) l1_3.length c1_3] 37 (0, 0)) QQ hb) (Y6 QB hb)
             clear BK101
             clear BK102
             clear HB
             obtain ⟨BK101, BK102, HB⟩ := n_
             (try clear hb)
             (try clear hb2)
             (try clear hk)
             (try clear hi)
             refine hK.out _ _ ⟨(Y1 BK101.out 0).trans rfl, (Y1 BK101.out 1).trans rfl, (Y1 BK101.out 2).trans rfl, (Y1 BK101.out 3).trans rfl, (Y1 BK102.out 0).trans rfl, (Y1 BK102.out 1).trans rfl, (Y1 BK102.out 2).trans rfl, (Y1 BK102.out 3).trans rfl, ((HB.out.cell (World.block_lt_of_cell? w _ hw105_0)).trans hw105_0), ((HB.out.cell (World.block_lt_of_cell? w _ hw105_1)).trans hw105_1), ((HB.out.cell (World.block_lt_of_cell? w _ hw105_2)).trans hw105_2), ((HB.out.cell (World.block_lt_of_cell? w _ hw105_3)).trans hw105_3), ((HB.out.cell (World.block_lt_of_cell? w _ hw106_0)).trans hw106_0), ((HB.out.cell (World.block_lt_of_cell? w _ hw106_1)).trans hw106_1), ((HB.out.cell (World.block_lt_of_cell? w _ hw106_2)).trans hw106_2), ((HB.out.cell (World.block_lt_of_cell? w _ hw106_3)).trans hw106_3)⟩ (fun hHeld => ?_)
             clear hK K
             refine Y1F (a' := ?_) ?_ ?_
             rotate_left
             ·show Act.put _ (some 72) _ = _
              simp only [Act.put, List.setIfInBounds_toArray, List.set_cons_zero, List.set_cons_succ, Y15, Y16]
              rfl
             refine pY 11 73 Y3R ?_
             refine Y22 (Y1g HT_.out Z8) ?_
             try go_wp2
             go_ret
             exact Z2h
           ·rw [if_neg c36] at H
            exact Zl
          ·rw [if_neg c35] at H
           exact Zl
         ·rw [if_neg c34] at H
          have c34b0 : decide (x6_3 < (l0_3.length : Int)) = false := decide_eq_false c34
          clear c34
          obtain rfl := Option.some.inj H
          have hnb47 := NB101_102.out
          have hnc47 := NB102_101.out
          obtain ⟨hcz48_0, hcz48_1, hcz48_2, hcz48_3, hfz48_0, hfz48_1, hfz48_2, hfz48_3⟩ := Yx BK101.out
          go_wp2
          go_ret
          exact Z2h
def Y19.f (a0 : Int) : Option (ByteArray) := if a0 = 5 then (some (⟨#[42]⟩ : ByteArray)) else (if a0 = 6 then (some (⟨#[43]⟩ : ByteArray)) else (some (⟨#[63]⟩ : ByteArray)))
set_option maxHeartbeats 8000000 in
set_option maxRecDepth 100000 in
theorem Y19.calls (a0 : Int) (r : ByteArray) (w : World) (h : Y19.f a0 = some r) :
  Calls Tryd.prog 59 #[.int .i64 a0] w fun e w' => e = .returned (.string r) ∧ Y2i w w' := by
 have H : (if a0 = 5 then (some (⟨#[42]⟩ : ByteArray)) else (if a0 = 6 then (some (⟨#[43]⟩ : ByteArray)) else (some (⟨#[63]⟩ : ByteArray)))) = some r := h
 clear h
 by_cases c2 : a0 = 5
 ·rw [if_pos c2] at H
  have c2b0 : (a0 == 5) = true := beq_iff_eq.mpr c2
  have c2b1 : (a0 != 5) = false := bne_eq_false_iff_eq.mpr c2
  clear c2
  obtain rfl := Option.some.inj H
  go_enter Tryd.func59, Tryd.ntmps59
  go_wp2
  go_ret
  exact ⟨Z7, Zk⟩
 ·rw [if_neg c2] at H
  have c2b0 : (a0 == 5) = false := beq_eq_false_iff_ne.mpr c2
  have c2b1 : (a0 != 5) = true := bne_iff_ne.mpr c2
  by_cases c3 : a0 = 6
  ·rw [if_pos c3] at H
   have c3b0 : (a0 == 6) = true := beq_iff_eq.mpr c3
   have c3b1 : (a0 != 6) = false := bne_eq_false_iff_eq.mpr c3
   clear c3
   obtain rfl := Option.some.inj H
   go_enter Tryd.func59, Tryd.ntmps59
   go_wp2
   go_ret
   exact ⟨Z7, Zk⟩
  ·rw [if_neg c3] at H
   have c3b0 : (a0 == 6) = false := beq_eq_false_iff_ne.mpr c3
   have c3b1 : (a0 != 6) = true := bne_iff_ne.mpr c3
   obtain rfl := Option.some.inj H
   go_enter Tryd.func59, Tryd.ntmps59
   go_wp2
   go_ret
   exact ⟨Z7, Zk⟩
mutual
def Y8.l0 : Nat → ByteArray → Int → Int → ByteArray → List ByteArray → List (S37) → Option (ByteArray)
 | 0, _, _, _, _, _, _ => none
 | k + 1, x3, x4, x102000, x102001, x102002, x102003 => if x4 < (x102002.length : Int) then (if x4 > 0 then (if x3.size + 1 ≤ 9223372036854775807 then (if x3.size + 1 + 1 ≤ 9223372036854775807 then (if 0 ≤ x4 then (if x3.size + 1 + 1 + (Y2m ByteArray.empty x102002 x4).size ≤ 9223372036854775807 then (if x3.size + 1 + 1 + ((Y2m ByteArray.empty x102002 x4).size) + 1 ≤ 9223372036854775807 then (Y8.l0 k ((((x3 ++ (⟨#[124]⟩ : ByteArray)) ++ (⟨#[60]⟩ : ByteArray)) ++ (Y2m ByteArray.empty x102002 x4)) ++ (⟨#[62]⟩ : ByteArray)) (wrap64 (x4 + 1)) x102000 x102001 x102002 x102003) else (none)) else (none)) else (none)) else (none)) else (none)) else (if x3.size + 1 ≤ 9223372036854775807 then (if 0 ≤ x4 then (if x3.size + 1 + (Y2m ByteArray.empty x102002 x4).size ≤ 9223372036854775807 then (if x3.size + 1 + ((Y2m ByteArray.empty x102002 x4).size) + 1 ≤ 9223372036854775807 then (Y8.l0 k (((x3 ++ (⟨#[60]⟩ : ByteArray)) ++ (Y2m ByteArray.empty x102002 x4)) ++ (⟨#[62]⟩ : ByteArray)) (wrap64 (x4 + 1)) x102000 x102001 x102002 x102003) else (none)) else (none)) else (none)) else (none))) else (if x3.size + 1 ≤ 9223372036854775807 then (some (x3 ++ (⟨#[41]⟩ : ByteArray))) else (none))
def Y8.f : Nat → Int → ByteArray → List ByteArray → List (S37) → Option (ByteArray)
 | 0, _, _, _, _ => none
 | k + 1, a0_0, a0_1, l0_2, l0_3 => if a0_0 = 1 then (if 1 + a0_1.size ≤ 9223372036854775807 then (if 1 + a0_1.size + 1 ≤ 9223372036854775807 then (some (((⟨#[60]⟩ : ByteArray) ++ a0_1) ++ (⟨#[62]⟩ : ByteArray))) else (none)) else (none)) else (if a0_0 = 2 then (if 0 < (l0_3.length : Int) then ((Yv.f k ((Y4 l0_3 0).f0) ((Y4 l0_3 0).f1) ((Y4 l0_3 0).f2) ((Y4 l0_3 0).f3)).bind fun t103 => (if 1 + t103.size ≤ 9223372036854775807 then (some ((⟨#[94]⟩ : ByteArray) ++ t103)) else (none))) else (none)) else (if a0_0 = 3 then (if 0 < (l0_3.length : Int) then ((Yv.f k ((Y4 l0_3 0).f0) ((Y4 l0_3 0).f1) ((Y4 l0_3 0).f2) ((Y4 l0_3 0).f3)).bind fun t105 => (if t105.size + 1 ≤ 9223372036854775807 then (if 1 < (l0_3.length : Int) then ((Yv.f k ((Y4 l0_3 1).f0) ((Y4 l0_3 1).f1) ((Y4 l0_3 1).f2) ((Y4 l0_3 1).f3)).bind fun t107 => (if t105.size + 1 + t107.size ≤ 9223372036854775807 then (some ((t105 ++ (⟨#[47]⟩ : ByteArray)) ++ t107)) else (none))) else (none)) else (none))) else (none)) else (if a0_0 = 4 then (if 0 < (l0_3.length : Int) then ((Yv.f k ((Y4 l0_3 0).f0) ((Y4 l0_3 0).f1) ((Y4 l0_3 0).f2) ((Y4 l0_3 0).f3)).bind fun t109 => (if t109.size + 1 ≤ 9223372036854775807 then (if 1 < (l0_3.length : Int) then ((Yv.f k ((Y4 l0_3 1).f0) ((Y4 l0_3 1).f1) ((Y4 l0_3 1).f2) ((Y4 l0_3 1).f3)).bind fun t111 => (if t109.size + 1 + t111.size ≤ 9223372036854775807 then (some ((t109 ++ (⟨#[124]⟩ : ByteArray)) ++ t111)) else (none))) else (none)) else (none))) else (none)) else (if a0_0 = 8 then (Y8.l0 k (⟨#[33, 40]⟩ : ByteArray) 0 a0_0 a0_1 l0_2 l0_3) else (if 0 < (l0_3.length : Int) then ((Yv.f k ((Y4 l0_3 0).f0) ((Y4 l0_3 0).f1) ((Y4 l0_3 0).f2) ((Y4 l0_3 0).f3)).bind fun t115 => ((Y19.f a0_0).bind fun t116 => (if t115.size + t116.size ≤ 9223372036854775807 then (some (t115 ++ t116)) else (none)))) else (none))))))
def Yv.f : Nat → Int → ByteArray → List ByteArray → List (S37) → Option (ByteArray)
 | 0, _, _, _, _ => none
 | k + 1, a0_0, a0_1, l0_2, l0_3 => if a0_0 = 1 then ((Y8.f k a0_0 a0_1 l0_2 l0_3).bind fun t118 => (some t118)) else ((Y8.f k a0_0 a0_1 l0_2 l0_3).bind fun t119 => (if 1 + t119.size ≤ 9223372036854775807 then (if 1 + t119.size + 1 ≤ 9223372036854775807 then (some (((⟨#[40]⟩ : ByteArray) ++ t119) ++ (⟨#[41]⟩ : ByteArray))) else (none)) else (none)))
end
theorem Y8.mono_j : ∀ k, (∀ y0 y1 y2 y3, LeO (Y8.f k y0 y1 y2 y3) (Y8.f (k + 1) y0 y1 y2 y3)) ∧ (∀ y0 y1 y2 y3 y4 y5, LeO (Y8.l0 k y0 y1 y2 y3 y4 y5) (Y8.l0 (k + 1) y0 y1 y2 y3 y4 y5)) ∧ (∀ y0 y1 y2 y3, LeO (Yv.f k y0 y1 y2 y3) (Yv.f (k + 1) y0 y1 y2 y3))
 | 0 => ⟨fun _ _ _ _ r h => by simp [Y8.f] at h, fun _ _ _ _ _ _ r h => by simp [Y8.l0] at h, fun _ _ _ _ r h => by simp [Yv.f] at h⟩
 | k + 1 => by
  obtain ⟨ih0, ih1, ih2⟩ := Y8.mono_j k
  refine ⟨?_, ?_, ?_⟩
  ·intro y0 y1 y2 y3
   unfold Y8.f
   exact QM
  ·intro y0 y1 y2 y3 y4 y5
   unfold Y8.l0
   exact QM
  ·intro y0 y1 y2 y3
   unfold Yv.f
   exact QM
abbrev Y8.Spec (k : Nat) : Prop := ∀ (a0_0 : Int) (a0_1 : ByteArray) (A0_2 : Option Addr) (c0_2 : Nat) (l0_2 : List ByteArray) (A0_3 : Option Addr) (c0_3 : Nat) (l0_3 : List (S37)) (r : ByteArray) (w : World) (hr0_2 : Kd.C Kd.string w A0_2 l0_2.length l0_2) (hc0_2 : l0_2.length ≤ c0_2) (hr0_3 : Kd.C k37 w A0_3 l0_3.length l0_3) (hc0_3 : l0_3.length ≤ c0_3) (h : Y8.f k a0_0 a0_1 l0_2 l0_3 = some r),
  Calls Tryd.prog 29 #[.agg #[.int .i64 a0_0, .string a0_1, .slice A0_2 l0_2.length c0_2, .slice A0_3 l0_3.length c0_3]] w fun e w' => e = .returned (.string r) ∧ Below w.heap.size w w'
abbrev Yv.Spec (k : Nat) : Prop := ∀ (a0_0 : Int) (a0_1 : ByteArray) (A0_2 : Option Addr) (c0_2 : Nat) (l0_2 : List ByteArray) (A0_3 : Option Addr) (c0_3 : Nat) (l0_3 : List (S37)) (r : ByteArray) (w : World) (hr0_2 : Kd.C Kd.string w A0_2 l0_2.length l0_2) (hc0_2 : l0_2.length ≤ c0_2) (hr0_3 : Kd.C k37 w A0_3 l0_3.length l0_3) (hc0_3 : l0_3.length ≤ c0_3) (h : Yv.f k a0_0 a0_1 l0_2 l0_3 = some r),
  Calls Tryd.prog 58 #[.agg #[.int .i64 a0_0, .string a0_1, .slice A0_2 l0_2.length c0_2, .slice A0_3 l0_3.length c0_3]] w fun e w' => e = .returned (.string r) ∧ Below w.heap.size w w'
set_option maxHeartbeats 8000000 in
def Y8.T7 : Bool × List (List Nat × List Nat) := (true, [([], []), ([0], [0]), ([1], [1]), ([2], [2]), ([3], [3]), ([4], [4]), ([], []), ([6], [6]), ([7], [7]), ([8], [8]), ([9, 4], [9]), ([5, 10], [5, 10]), ([11, 10, 0, 1, 2, 3, 4, 5, 6, 7, 8, 9, 10, 11], [11])])
def Y8.B7 : List Nat := [0, 1, 3, 7, 15, 31, 0, 64, 192, 448, 991, 2047, 4095]
theorem Y8.tab7 : Y3k .any (Y3M Tryd.f29 7) = Y8.T7 := by kernel_rfl
theorem Y8.bits7 : Y23 Y8.T7.2 Y8.B7 = true := by kernel_rfl
def Y8.T9 : Bool × List (List Nat × List Nat) := (true, [([], []), ([0], [0]), ([1], [1]), ([2], [2]), ([3], [3]), ([4], [4]), ([], []), ([6], [6]), ([7], [7]), ([8], [8]), ([9, 4], [9]), ([5, 10], [5, 10]), ([11, 10, 0, 1, 2, 3, 4, 5, 6, 7, 8, 9, 10, 11], [11])])
def Y8.B9 : List Nat := [0, 1, 3, 7, 15, 31, 0, 64, 192, 448, 991, 2047, 4095]
theorem Y8.tab9 : Y3k .any (Y3M Tryd.f29 9) = Y8.T9 := by kernel_rfl
theorem Y8.bits9 : Y23 Y8.T9.2 Y8.B9 = true := by kernel_rfl
def Y8.T19 : Bool × List (List Nat × List Nat) := (true, [([], []), ([0], [0]), ([1], [1]), ([2], [2]), ([3], [3]), ([], []), ([5], [5]), ([6, 4], [6]), ([4, 7], [4, 7]), ([8, 7, 0, 1, 2, 3, 4, 5, 6, 7, 8], [8])])
def Y8.B19 : List Nat := [0, 1, 3, 7, 15, 0, 32, 127, 255, 511]
theorem Y8.tab19 : Y3k .any (Y3M Tryd.f29 19) = Y8.T19 := by kernel_rfl
theorem Y8.bits19 : Y23 Y8.T19.2 Y8.B19 = true := by kernel_rfl
set_option maxRecDepth 100000 in
theorem Y8.step (k : Nat) (ih : ∀ j_ < k, Y8.Spec j_ ∧ Yv.Spec j_) : ∀ (a0_0 : Int) (a0_1 : ByteArray) (A0_2 : Option Addr) (c0_2 : Nat) (l0_2 : List ByteArray) (A0_3 : Option Addr) (c0_3 : Nat) (l0_3 : List (S37)) (r : ByteArray) (w : World) (hr0_2 : Kd.C Kd.string w A0_2 l0_2.length l0_2) (hc0_2 : l0_2.length ≤ c0_2) (hr0_3 : Kd.C k37 w A0_3 l0_3.length l0_3) (hc0_3 : l0_3.length ≤ c0_3) (h : Y8.f k a0_0 a0_1 l0_2 l0_3 = some r),
  Calls Tryd.prog 29 #[.agg #[.int .i64 a0_0, .string a0_1, .slice A0_2 l0_2.length c0_2, .slice A0_3 l0_3.length c0_3]] w fun e w' => e = .returned (.string r) ∧ Below w.heap.size w w' := by
 intro a0_0 a0_1 A0_2 c0_2 l0_2 A0_3 c0_3 l0_3 r w hr0_2 hc0_2 hr0_3 hc0_3 h
 cases k with
 | zero => exact absurd h (by simp [Y8.f])
 | succ k =>
 simp only [Y8.f] at h
 have hu37 := Tryd.underlying37
 have HR0_2 := Y0.mk hr0_2
 have HC0_2 := Y0.mk hc0_2
 clear hr0_2 hc0_2
 have HR0_3 := Y0.mk hr0_3
 have HC0_3 := Y0.mk hc0_3
 clear hr0_3 hc0_3
 have HB := Y0.mk (Below.refl w.heap.size w)
 have H : (if a0_0 = 1 then (if 1 + a0_1.size ≤ 9223372036854775807 then (if 1 + a0_1.size + 1 ≤ 9223372036854775807 then (some (((⟨#[60]⟩ : ByteArray) ++ a0_1) ++ (⟨#[62]⟩ : ByteArray))) else (none)) else (none)) else (if a0_0 = 2 then (if 0 < (l0_3.length : Int) then ((Yv.f k ((Y4 l0_3 0).f0) ((Y4 l0_3 0).f1) ((Y4 l0_3 0).f2) ((Y4 l0_3 0).f3)).bind fun t103 => (if 1 + t103.size ≤ 9223372036854775807 then (some ((⟨#[94]⟩ : ByteArray) ++ t103)) else (none))) else (none)) else (if a0_0 = 3 then (if 0 < (l0_3.length : Int) then ((Yv.f k ((Y4 l0_3 0).f0) ((Y4 l0_3 0).f1) ((Y4 l0_3 0).f2) ((Y4 l0_3 0).f3)).bind fun t105 => (if t105.size + 1 ≤ 9223372036854775807 then (if 1 < (l0_3.length : Int) then ((Yv.f k ((Y4 l0_3 1).f0) ((Y4 l0_3 1).f1) ((Y4 l0_3 1).f2) ((Y4 l0_3 1).f3)).bind fun t107 => (if t105.size + 1 + t107.size ≤ 9223372036854775807 then (some ((t105 ++ (⟨#[47]⟩ : ByteArray)) ++ t107)) else (none))) else (none)) else (none))) else (none)) else (if a0_0 = 4 then (if 0 < (l0_3.length : Int) then ((Yv.f k ((Y4 l0_3 0).f0) ((Y4 l0_3 0).f1) ((Y4 l0_3 0).f2) ((Y4 l0_3 0).f3)).bind fun t109 => (if t109.size + 1 ≤ 9223372036854775807 then (if 1 < (l0_3.length : Int) then ((Yv.f k ((Y4 l0_3 1).f0) ((Y4 l0_3 1).f1) ((Y4 l0_3 1).f2) ((Y4 l0_3 1).f3)).bind fun t111 => (if t109.size + 1 + t111.size ≤ 9223372036854775807 then (some ((t109 ++ (⟨#[124]⟩ : ByteArray)) ++ t111)) else (none))) else (none)) else (none))) else (none)) else (if a0_0 = 8 then (Y8.l0 k (⟨#[33, 40]⟩ : ByteArray) 0 a0_0 a0_1 l0_2 l0_3) else (if 0 < (l0_3.length : Int) then ((Yv.f k ((Y4 l0_3 0).f0) ((Y4 l0_3 0).f1) ((Y4 l0_3 0).f2) ((Y4 l0_3 0).f3)).bind fun t115 => ((Y19.f a0_0).bind fun t116 => (if t115.size + t116.size ≤ 9223372036854775807 then (some (t115 ++ t116)) else (none)))) else (none))))))) = some r := h
 clear h
 by_cases c2 : a0_0 = 1
 ·rw [if_pos c2] at H
  have c2b0 : (a0_0 == 1) = true := beq_iff_eq.mpr c2
  have c2b1 : (a0_0 != 1) = false := bne_eq_false_iff_eq.mpr c2
  clear c2
  by_cases c3 : 1 + a0_1.size ≤ 9223372036854775807
  ·rw [if_pos c3] at H
   have c3b0 := eq_true c3
   have c3b1 : decide (1 + a0_1.size ≤ 9223372036854775807) = true := decide_eq_true c3
   try have c3b2 : (9223372036854775807 < 1 + a0_1.size) = False := eq_false (Nat.not_lt.2 c3)
   by_cases c4 : 1 + a0_1.size + 1 ≤ 9223372036854775807
   ·rw [if_pos c4] at H
    have c4b0 := eq_true c4
    have c4b1 : decide (1 + a0_1.size + 1 ≤ 9223372036854775807) = true := decide_eq_true c4
    try have c4b2 : (9223372036854775807 < 1 + a0_1.size + 1) = False := eq_false (Nat.not_lt.2 c4)
    obtain rfl := Option.some.inj H
    go_enter Tryd.func29, Tryd.ntmps29
    go_wp2_with (first | ((with_reducible refine Yz (N := 1) rfl ?_); refine Yu ?hg (N := 1) ?hd (cs := #[.int .i64 a0_0, .string a0_1, .slice A0_2 l0_2.length c0_2, .slice A0_3 l0_3.length c0_3]) (t := 37) ?hr ?_; (case hd => rfl); (case hg => rfl); (case hr => exact Z9); intro gb101 hg w5 hbox hb; have n_ := Y2n (Y6 QB hb) (hbox) ((by rw [hg]; exact (Y5 QB) : w.heap.size ≤ gb101)) ((by rw [hg]; exact (Y5 QB) : w.heap.size ≤ gb101)); clear HB; obtain ⟨HB, BK101, GW101, GE101⟩ := n_; clear hb hbox hg; obtain ⟨hcz6_0, hcz6_1, hcz6_2, hcz6_3, hfz6_0, hfz6_1, hfz6_2, hfz6_3⟩ := Yx BK101.out))
    go_ret
    exact Z2h
   ·rw [if_neg c4] at H
    exact Zl
  ·rw [if_neg c3] at H
   exact Zl
 ·rw [if_neg c2] at H
  have c2b0 : (a0_0 == 1) = false := beq_eq_false_iff_ne.mpr c2
  have c2b1 : (a0_0 != 1) = true := bne_iff_ne.mpr c2
  by_cases c7 : a0_0 = 2
  ·rw [if_pos c7] at H
   have c7b0 : (a0_0 == 2) = true := beq_iff_eq.mpr c7
   have c7b1 : (a0_0 != 2) = false := bne_eq_false_iff_eq.mpr c7
   clear c7
   by_cases c8 : 0 < (l0_3.length : Int)
   ·rw [if_pos c8] at H
    have c8b0 : decide (0 < (l0_3.length : Int)) = true := decide_eq_true c8
    have c8b1 : decide (0 < l0_3.length) = true := decide_eq_true (by omega)
    clear c8
    replace H := Option.bind_eq_some_iff.mp H
    obtain ⟨t103, A90, H⟩ := H
    replace H : (if 1 + t103.size ≤ 9223372036854775807 then (some ((⟨#[94]⟩ : ByteArray) ++ t103)) else (none)) = some r := H
    have A9 := Y0.mk A90
    clear A90
    by_cases c10 : 1 + t103.size ≤ 9223372036854775807
    ·rw [if_pos c10] at H
     have c10b0 := eq_true c10
     have c10b1 : decide (1 + t103.size ≤ 9223372036854775807) = true := decide_eq_true c10
     try have c10b2 : (9223372036854775807 < 1 + t103.size) = False := eq_false (Nat.not_lt.2 c10)
     obtain rfl := Option.some.inj H
     go_enter Tryd.func29, Tryd.ntmps29
     go_wp2_with (first | ((with_reducible refine Yz (N := 1) rfl ?_); refine Yu ?hg (N := 1) ?hd (cs := #[.int .i64 a0_0, .string a0_1, .slice A0_2 l0_2.length c0_2, .slice A0_3 l0_3.length c0_3]) (t := 37) ?hr ?_; (case hd => rfl); (case hg => rfl); (case hr => exact Z9); intro gb101 hg w11 hbox hb; have n_ := Y2n (Y6 QB hb) (hbox) ((by rw [hg]; exact (Y5 QB) : w.heap.size ≤ gb101)) ((by rw [hg]; exact (Y5 QB) : w.heap.size ≤ gb101)); clear HB; obtain ⟨HB, BK101, GW101, GE101⟩ := n_; clear hb hbox hg; obtain ⟨hcz12_0, hcz12_1, hcz12_2, hcz12_3, hfz12_0, hfz12_1, hfz12_2, hfz12_3⟩ := Yx BK101.out; have p102 : 0 ≤ (0 : Int) := (by omega); have q102 : 0 < (l0_3.length : Int) := of_decide_eq_true Z6; obtain ⟨ad102, A102_2, c102_2, A102_3, c102_3, e102, hx102_0, hx102_1, hx102_2, hx102_3, hl102_2, hi102_2, hl102_3, hi102_3⟩ := Y1J HR0_3.out 0 p102 q102; cases e102; have qi102 : (0 < l0_3.length) = True := eq_true (by omega); (try rw [show ((0 : Int)).toNat = 0 from rfl] at hx102_0 hx102_1 hx102_2 hx102_3); (try rw [show 0 * 4 = 0 from rfl] at hx102_0 hx102_1 hx102_2 hx102_3); (try rw [Addr.add_zero'] at hx102_0 hx102_1 hx102_2 hx102_3); replace hx102_0 := YU HB.out hx102_0; replace hx102_1 := YU HB.out hx102_1; replace hx102_2 := YU HB.out hx102_2; replace hx102_3 := YU HB.out hx102_3; have HR102_2 := Y0.mk hi102_2; have HC102_2 := Y0.mk hl102_2; clear hi102_2 hl102_2; have HR102_3 := Y0.mk hi102_3; have HC102_3 := Y0.mk hl102_3; clear hi102_3 hl102_3; replace p102 := eq_true p102; replace q102 := eq_true q102) | ((with_reducible refine Ym (f := 58) rfl ?_); refine YP (some 19) rfl rfl Tryd.func58 Z8 rfl #[.agg #[.int .i64 ((Y4 l0_3 0).f0), .string ((Y4 l0_3 0).f1), .slice A102_2 ((Y4 l0_3 0).f2).length c102_2, .slice A102_3 ((Y4 l0_3 0).f3).length c102_3]] rfl Z0 ?_; (with_reducible refine ((ih k (by omega)).2 ((Y4 l0_3 0).f0) ((Y4 l0_3 0).f1) _ _ ((Y4 l0_3 0).f2) _ _ ((Y4 l0_3 0).f3) t103 _ ?side1 ?side2 ?side3 ?side4 A9.out).mono ?_); (case side1 => exact Z1x); (case side2 => exact HC102_2.out); (case side3 => exact Z1y); (case side4 => exact HC102_3.out); rintro e w13 ⟨rfl, hb⟩; refine ⟨_, rfl, ?_⟩; have n_ := Y24 (Yg (g := gb101) (o := .cells #[.int .i64 a0_0, .string a0_1, .slice A0_2 l0_2.length c0_2, .slice (some ad102) l0_3.length c0_3] 37 (0, 0)) QQ hb) (Y6 QB hb); clear BK101 HB; obtain ⟨BK101, HB⟩ := n_; (try clear hb); (try clear hb2); (try clear hk); (try clear hi)))
     go_ret
     exact Z2h
    ·rw [if_neg c10] at H
     exact Zl
   ·rw [if_neg c8] at H
    exact Zl
  ·rw [if_neg c7] at H
   have c7b0 : (a0_0 == 2) = false := beq_eq_false_iff_ne.mpr c7
   have c7b1 : (a0_0 != 2) = true := bne_iff_ne.mpr c7
   by_cases c14 : a0_0 = 3
   ·rw [if_pos c14] at H
    have c14b0 : (a0_0 == 3) = true := beq_iff_eq.mpr c14
    have c14b1 : (a0_0 != 3) = false := bne_eq_false_iff_eq.mpr c14
    clear c14
    by_cases c15 : 0 < (l0_3.length : Int)
    ·rw [if_pos c15] at H
     have c15b0 : decide (0 < (l0_3.length : Int)) = true := decide_eq_true c15
     have c15b1 : decide (0 < l0_3.length) = true := decide_eq_true (by omega)
     clear c15
     replace H := Option.bind_eq_some_iff.mp H
     obtain ⟨t105, A160, H⟩ := H
     replace H : (if t105.size + 1 ≤ 9223372036854775807 then (if 1 < (l0_3.length : Int) then ((Yv.f k ((Y4 l0_3 1).f0) ((Y4 l0_3 1).f1) ((Y4 l0_3 1).f2) ((Y4 l0_3 1).f3)).bind fun t107 => (if t105.size + 1 + t107.size ≤ 9223372036854775807 then (some ((t105 ++ (⟨#[47]⟩ : ByteArray)) ++ t107)) else (none))) else (none)) else (none)) = some r := H
     have A16 := Y0.mk A160
     clear A160
     by_cases c17 : t105.size + 1 ≤ 9223372036854775807
     ·rw [if_pos c17] at H
      have c17b0 := eq_true c17
      have c17b1 : decide (t105.size + 1 ≤ 9223372036854775807) = true := decide_eq_true c17
      try have c17b2 : (9223372036854775807 < t105.size + 1) = False := eq_false (Nat.not_lt.2 c17)
      by_cases c18 : 1 < (l0_3.length : Int)
      ·rw [if_pos c18] at H
       have c18b0 : decide (1 < (l0_3.length : Int)) = true := decide_eq_true c18
       have c18b1 : decide (1 < l0_3.length) = true := decide_eq_true (by omega)
       clear c18
       replace H := Option.bind_eq_some_iff.mp H
       obtain ⟨t107, A190, H⟩ := H
       replace H : (if t105.size + 1 + t107.size ≤ 9223372036854775807 then (some ((t105 ++ (⟨#[47]⟩ : ByteArray)) ++ t107)) else (none)) = some r := H
       have A19 := Y0.mk A190
       clear A190
       by_cases c20 : t105.size + 1 + t107.size ≤ 9223372036854775807
       ·rw [if_pos c20] at H
        have c20b0 := eq_true c20
        have c20b1 : decide (t105.size + 1 + t107.size ≤ 9223372036854775807) = true := decide_eq_true c20
        try have c20b2 : (9223372036854775807 < t105.size + 1 + t107.size) = False := eq_false (Nat.not_lt.2 c20)
        obtain rfl := Option.some.inj H
        go_enter Tryd.func29, Tryd.ntmps29
        try go_wp2_with (first | ((with_reducible refine Yz (N := 1) rfl ?_); refine Yu ?hg (N := 1) ?hd (cs := #[.int .i64 a0_0, .string a0_1, .slice A0_2 l0_2.length c0_2, .slice A0_3 l0_3.length c0_3]) (t := 37) ?hr ?_; (case hd => rfl); (case hg => rfl); (case hr => exact Z9); intro gb101 hg w21 hbox hb; have n_ := Y2n (Y6 QB hb) (hbox) ((by rw [hg]; exact (Y5 QB) : w.heap.size ≤ gb101)) ((by rw [hg]; exact (Y5 QB) : w.heap.size ≤ gb101)); clear HB; obtain ⟨HB, BK101, GW101, GE101⟩ := n_; clear hb hbox hg; obtain ⟨hcz22_0, hcz22_1, hcz22_2, hcz22_3, hfz22_0, hfz22_1, hfz22_2, hfz22_3⟩ := Yx BK101.out))
        have n_ := Y24 (Yd BK101.out) (YQ HB.out)
        clear BK101
        clear HB
        obtain ⟨BK101, HB⟩ := n_
        have p104 : 0 ≤ (0 : Int) := (by omega)
        have q104 : 0 < (l0_3.length : Int) := of_decide_eq_true Z6
        obtain ⟨ad104, A104_2, c104_2, A104_3, c104_3, e104, hx104_0, hx104_1, hx104_2, hx104_3, hl104_2, hi104_2, hl104_3, hi104_3⟩ := Y1J HR0_3.out 0 p104 q104
        have hw104_3 := hx104_3
        (try rw [show ((0 : Int)).toNat = 0 from rfl] at hw104_3)
        (try rw [show 0 * 4 = 0 from rfl] at hw104_3)
        (try rw [Addr.add_zero'] at hw104_3)
        have hw104_2 := hx104_2
        (try rw [show ((0 : Int)).toNat = 0 from rfl] at hw104_2)
        (try rw [show 0 * 4 = 0 from rfl] at hw104_2)
        (try rw [Addr.add_zero'] at hw104_2)
        have hw104_1 := hx104_1
        (try rw [show ((0 : Int)).toNat = 0 from rfl] at hw104_1)
        (try rw [show 0 * 4 = 0 from rfl] at hw104_1)
        (try rw [Addr.add_zero'] at hw104_1)
        have hw104_0 := hx104_0
        (try rw [show ((0 : Int)).toNat = 0 from rfl] at hw104_0)
        (try rw [show 0 * 4 = 0 from rfl] at hw104_0)
        (try rw [Addr.add_zero'] at hw104_0)
        cases e104
        have qi104 : (0 < l0_3.length) = True := eq_true (by omega)
        (try rw [show ((0 : Int)).toNat = 0 from rfl] at hx104_0)
        (try rw [show 0 * 4 = 0 from rfl] at hx104_0)
        (try rw [Addr.add_zero'] at hx104_0)
        (try rw [show ((0 : Int)).toNat = 0 from rfl] at hx104_1)
        (try rw [show 0 * 4 = 0 from rfl] at hx104_1)
        (try rw [Addr.add_zero'] at hx104_1)
        (try rw [show ((0 : Int)).toNat = 0 from rfl] at hx104_2)
        (try rw [show 0 * 4 = 0 from rfl] at hx104_2)
        (try rw [Addr.add_zero'] at hx104_2)
        (try rw [show ((0 : Int)).toNat = 0 from rfl] at hx104_3)
        (try rw [show 0 * 4 = 0 from rfl] at hx104_3)
        (try rw [Addr.add_zero'] at hx104_3)
        replace hx104_0 := YU HB.out hx104_0
        replace hx104_1 := YU HB.out hx104_1
        replace hx104_2 := YU HB.out hx104_2
        replace hx104_3 := YU HB.out hx104_3
        have HR104_2 := Y0.mk hi104_2
        have HC104_2 := Y0.mk hl104_2
        clear hi104_2 hl104_2
        have HR104_3 := Y0.mk hi104_3
        have HC104_3 := Y0.mk hl104_3
        clear hi104_3 hl104_3
        replace p104 := eq_true p104
        replace q104 := eq_true q104
        have p106 : 0 ≤ (1 : Int) := (by omega)
        have q106 : 1 < (l0_3.length : Int) := of_decide_eq_true Z6
        obtain ⟨ad106, A106_2, c106_2, A106_3, c106_3, e106, hx106_0, hx106_1, hx106_2, hx106_3, hl106_2, hi106_2, hl106_3, hi106_3⟩ := Y1J HR0_3.out 1 p106 q106
        have hw106_3 := hx106_3
        (try rw [show ((1 : Int)).toNat = 1 from rfl] at hw106_3)
        (try rw [show 1 * 4 = 4 from rfl] at hw106_3)
        (try simp only [Nat.reduceMul, Nat.reduceEqDiff, Go.Addr.add, ↓reduceIte] at hw106_3)
        have hw106_2 := hx106_2
        (try rw [show ((1 : Int)).toNat = 1 from rfl] at hw106_2)
        (try rw [show 1 * 4 = 4 from rfl] at hw106_2)
        (try simp only [Nat.reduceMul, Nat.reduceEqDiff, Go.Addr.add, ↓reduceIte] at hw106_2)
        have hw106_1 := hx106_1
        (try rw [show ((1 : Int)).toNat = 1 from rfl] at hw106_1)
        (try rw [show 1 * 4 = 4 from rfl] at hw106_1)
        (try simp only [Nat.reduceMul, Nat.reduceEqDiff, Go.Addr.add, ↓reduceIte] at hw106_1)
        have hw106_0 := hx106_0
        (try rw [show ((1 : Int)).toNat = 1 from rfl] at hw106_0)
        (try rw [show 1 * 4 = 4 from rfl] at hw106_0)
        (try simp only [Nat.reduceMul, Nat.reduceEqDiff, Go.Addr.add, ↓reduceIte] at hw106_0)
        obtain rfl : ad104 = ad106 := (by injection e106)
        (try simp only [show (1 : Int).toNat = 1 from rfl, Nat.reduceMul, Nat.reduceEqDiff, Go.Addr.add, ↓reduceIte] at hx106_0)
        (try simp only [show (1 : Int).toNat = 1 from rfl, Nat.reduceMul, Nat.reduceEqDiff, Go.Addr.add, ↓reduceIte] at hx106_1)
        (try simp only [show (1 : Int).toNat = 1 from rfl, Nat.reduceMul, Nat.reduceEqDiff, Go.Addr.add, ↓reduceIte] at hx106_2)
        (try simp only [show (1 : Int).toNat = 1 from rfl, Nat.reduceMul, Nat.reduceEqDiff, Go.Addr.add, ↓reduceIte] at hx106_3)
        have qi106 : (1 < l0_3.length) = True := eq_true (by omega)
        (try rw [show ((1 : Int)).toNat = 1 from rfl] at hx106_0)
        (try rw [show 1 * 4 = 4 from rfl] at hx106_0)
        (try rw [show ((1 : Int)).toNat = 1 from rfl] at hx106_1)
        (try rw [show 1 * 4 = 4 from rfl] at hx106_1)
        (try rw [show ((1 : Int)).toNat = 1 from rfl] at hx106_2)
        (try rw [show 1 * 4 = 4 from rfl] at hx106_2)
        (try rw [show ((1 : Int)).toNat = 1 from rfl] at hx106_3)
        (try rw [show 1 * 4 = 4 from rfl] at hx106_3)
        replace hx106_0 := YU HB.out hx106_0
        replace hx106_1 := YU HB.out hx106_1
        replace hx106_2 := YU HB.out hx106_2
        replace hx106_3 := YU HB.out hx106_3
        have HR106_2 := Y0.mk hi106_2
        have HC106_2 := Y0.mk hl106_2
        clear hi106_2 hl106_2
        have HR106_3 := Y0.mk hi106_3
        have HC106_3 := Y0.mk hl106_3
        clear hi106_3 hl106_3
        replace p106 := eq_true p106
        replace q106 := eq_true q106
        refine Y1t (n := 13) (S := fun w' => w'.cell? ⟨gb101, 0, none⟩ = some (.int .i64 a0_0) ∧ w'.cell? ⟨gb101, 1, none⟩ = some (.string a0_1) ∧ w'.cell? ⟨gb101, 2, none⟩ = some (.slice A0_2 l0_2.length c0_2) ∧ w'.cell? ⟨gb101, 3, none⟩ = some (.slice (some ad104) l0_3.length c0_3) ∧ w'.cell? ad104 = some (.int .i64 ((Y4 l0_3 0).f0)) ∧ w'.cell? ⟨ad104.block, ad104.off + 1, none⟩ = some (.string ((Y4 l0_3 0).f1)) ∧ w'.cell? ⟨ad104.block, ad104.off + 2, none⟩ = some (.slice A104_2 ((Y4 l0_3 0).f2).length c104_2) ∧ w'.cell? ⟨ad104.block, ad104.off + 3, none⟩ = some (.slice A104_3 ((Y4 l0_3 0).f3).length c104_3) ∧ w'.cell? ⟨ad104.block, ad104.off + 4, none⟩ = some (.int .i64 ((Y4 l0_3 1).f0)) ∧ w'.cell? ⟨ad104.block, ad104.off + 4 + 1, none⟩ = some (.string ((Y4 l0_3 1).f1)) ∧ w'.cell? ⟨ad104.block, ad104.off + 4 + 2, none⟩ = some (.slice A106_2 ((Y4 l0_3 1).f2).length c106_2) ∧ w'.cell? ⟨ad104.block, ad104.off + 4 + 3, none⟩ = some (.slice A106_3 ((Y4 l0_3 1).f3).length c106_3)) (ds := []) Y5J Z8 rfl rfl ⟨(Y1 BK101.out 0).trans rfl, (Y1 BK101.out 1).trans rfl, (Y1 BK101.out 2).trans rfl, (Y1 BK101.out 3).trans rfl, ((HB.out.cell (World.block_lt_of_cell? w _ hw104_0)).trans hw104_0), ((HB.out.cell (World.block_lt_of_cell? w _ hw104_1)).trans hw104_1), ((HB.out.cell (World.block_lt_of_cell? w _ hw104_2)).trans hw104_2), ((HB.out.cell (World.block_lt_of_cell? w _ hw104_3)).trans hw104_3), ((HB.out.cell (World.block_lt_of_cell? w _ hw106_0)).trans hw106_0), ((HB.out.cell (World.block_lt_of_cell? w _ hw106_1)).trans hw106_1), ((HB.out.cell (World.block_lt_of_cell? w _ hw106_2)).trans hw106_2), ((HB.out.cell (World.block_lt_of_cell? w _ hw106_3)).trans hw106_3)⟩ (fun hHeld => ?_); refine Y11 Y8.tab7 Y8.bits7 (fun HT_ HW_ => ?_)
        generalize w21.drew = w23 at BK101 HB HR104_2 HR104_3 HR106_2 HR106_3 hx104_0 hx104_1 hx104_2 hx104_3 hx106_0 hx106_1 hx106_2 hx106_3 hHeld ⊢
        refine pY 0 23 Y5K ?_
        refine pY 6 29 Y4E ?_
        refine pT 1 24 Y4F ?_
        refine pY 2 25 Y4G ?_
        refine pT 3 26 Y4H ?_
        refine pT 7 30 Y4I ?_
        refine pY 8 31 Y3S ?_
        refine pT 9 32 Y3T ?_
        refine Y2J (i := 4) (N := some 27) Y3U rfl rfl (Y1h HT_.out Z8) (by decide) (fun K hK => ?_)
        refine Y1Q Tryd.func58 Z8 rfl #[.agg #[.int .i64 ((Y4 l0_3 0).f0), .string ((Y4 l0_3 0).f1), .slice A104_2 ((Y4 l0_3 0).f2).length c104_2, .slice A104_3 ((Y4 l0_3 0).f3).length c104_3]] (by rfl) rfl rfl Z0 ?_
        with_reducible refine ((ih k (by omega)).2 ((Y4 l0_3 0).f0) ((Y4 l0_3 0).f1) _ _ ((Y4 l0_3 0).f2) _ _ ((Y4 l0_3 0).f3) t105 _ ?side1 ?side2 ?side3 ?side4 A16.out).mono ?_
        (case side1 => exact Z1B)
        (case side2 => exact HC104_2.out)
        (case side3 => exact Z1C)
        (case side4 => exact HC104_3.out)
        rintro e w24 ⟨rfl, hb⟩
        refine ⟨_, rfl, ?_⟩
        have n_ := Y24 (Yg (g := gb101) (o := .cells #[.int .i64 a0_0, .string a0_1, .slice A0_2 l0_2.length c0_2, .slice (some ad104) l0_3.length c0_3] 37 (0, 0)) QQ hb) (Y6 QB hb)
        clear BK101
        clear HB
        obtain ⟨BK101, HB⟩ := n_
        (try clear hb)
        (try clear hb2)
        (try clear hk)
        (try clear hi)
        refine hK.out _ _ ⟨(Y1 BK101.out 0).trans rfl, (Y1 BK101.out 1).trans rfl, (Y1 BK101.out 2).trans rfl, (Y1 BK101.out 3).trans rfl, ((HB.out.cell (World.block_lt_of_cell? w _ hw104_0)).trans hw104_0), ((HB.out.cell (World.block_lt_of_cell? w _ hw104_1)).trans hw104_1), ((HB.out.cell (World.block_lt_of_cell? w _ hw104_2)).trans hw104_2), ((HB.out.cell (World.block_lt_of_cell? w _ hw104_3)).trans hw104_3), ((HB.out.cell (World.block_lt_of_cell? w _ hw106_0)).trans hw106_0), ((HB.out.cell (World.block_lt_of_cell? w _ hw106_1)).trans hw106_1), ((HB.out.cell (World.block_lt_of_cell? w _ hw106_2)).trans hw106_2), ((HB.out.cell (World.block_lt_of_cell? w _ hw106_3)).trans hw106_3)⟩ (fun hHeld => ?_)
        clear hK K
        refine Y1F (a' := ?_) ?_ ?_
        rotate_left
        ·show Act.put _ (some 27) _ = _
         simp only [Act.put, List.setIfInBounds_toArray, List.set_cons_zero, List.set_cons_succ, Y15, Y16]
         rfl
        refine pY 5 28 Y3V ?_
        refine Y2J (i := 10) (N := some 33) Y3W rfl rfl (Y1h HT_.out Z8) (by decide) (fun K hK => ?_)
        refine Y1Q Tryd.func58 Z8 rfl #[.agg #[.int .i64 ((Y4 l0_3 1).f0), .string ((Y4 l0_3 1).f1), .slice A106_2 ((Y4 l0_3 1).f2).length c106_2, .slice A106_3 ((Y4 l0_3 1).f3).length c106_3]] (by rfl) rfl rfl Z0 ?_
        with_reducible refine ((ih k (by omega)).2 ((Y4 l0_3 1).f0) ((Y4 l0_3 1).f1) _ _ ((Y4 l0_3 1).f2) _ _ ((Y4 l0_3 1).f3) t107 _ ?side1 ?side2 ?side3 ?side4 A19.out).mono ?_
        (case side1 => exact ZB)
        (case side2 => exact HC106_2.out)
        (case side3 => exact ZC)
        (case side4 => exact HC106_3.out)
        rintro e w25 ⟨rfl, hb⟩
        refine ⟨_, rfl, ?_⟩
        have n_ := Y24 (Yg (g := gb101) (o := .cells #[.int .i64 a0_0, .string a0_1, .slice A0_2 l0_2.length c0_2, .slice (some ad104) l0_3.length c0_3] 37 (0, 0)) QQ hb) (Y6 QB hb)
        clear BK101
        clear HB
        obtain ⟨BK101, HB⟩ := n_
        (try clear hb)
        (try clear hb2)
        (try clear hk)
        (try clear hi)
        refine hK.out _ _ ⟨(Y1 BK101.out 0).trans rfl, (Y1 BK101.out 1).trans rfl, (Y1 BK101.out 2).trans rfl, (Y1 BK101.out 3).trans rfl, ((HB.out.cell (World.block_lt_of_cell? w _ hw104_0)).trans hw104_0), ((HB.out.cell (World.block_lt_of_cell? w _ hw104_1)).trans hw104_1), ((HB.out.cell (World.block_lt_of_cell? w _ hw104_2)).trans hw104_2), ((HB.out.cell (World.block_lt_of_cell? w _ hw104_3)).trans hw104_3), ((HB.out.cell (World.block_lt_of_cell? w _ hw106_0)).trans hw106_0), ((HB.out.cell (World.block_lt_of_cell? w _ hw106_1)).trans hw106_1), ((HB.out.cell (World.block_lt_of_cell? w _ hw106_2)).trans hw106_2), ((HB.out.cell (World.block_lt_of_cell? w _ hw106_3)).trans hw106_3)⟩ (fun hHeld => ?_)
        clear hK K
        refine Y1F (a' := ?_) ?_ ?_
        rotate_left
        ·show Act.put _ (some 33) _ = _
         simp only [Act.put, List.setIfInBounds_toArray, List.set_cons_zero, List.set_cons_succ, Y15, Y16]
         rfl
        refine pY 11 34 Y3X ?_
        refine pY 12 2 Y3v ?_
        refine Y22 (Y1g HT_.out Z8) ?_
        try go_wp2
        go_ret
        exact Z2h
       ·rw [if_neg c20] at H
        exact Zl
      ·rw [if_neg c18] at H
       exact Zl
     ·rw [if_neg c17] at H
      exact Zl
    ·rw [if_neg c15] at H
     exact Zl
   ·rw [if_neg c14] at H
    have c14b0 : (a0_0 == 3) = false := beq_eq_false_iff_ne.mpr c14
    have c14b1 : (a0_0 != 3) = true := bne_iff_ne.mpr c14
    by_cases c26 : a0_0 = 4
    ·rw [if_pos c26] at H
     have c26b0 : (a0_0 == 4) = true := beq_iff_eq.mpr c26
     have c26b1 : (a0_0 != 4) = false := bne_eq_false_iff_eq.mpr c26
     clear c26
     by_cases c27 : 0 < (l0_3.length : Int)
     ·rw [if_pos c27] at H
      have c27b0 : decide (0 < (l0_3.length : Int)) = true := decide_eq_true c27
      have c27b1 : decide (0 < l0_3.length) = true := decide_eq_true (by omega)
      clear c27
      replace H := Option.bind_eq_some_iff.mp H
      obtain ⟨t109, A280, H⟩ := H
      replace H : (if t109.size + 1 ≤ 9223372036854775807 then (if 1 < (l0_3.length : Int) then ((Yv.f k ((Y4 l0_3 1).f0) ((Y4 l0_3 1).f1) ((Y4 l0_3 1).f2) ((Y4 l0_3 1).f3)).bind fun t111 => (if t109.size + 1 + t111.size ≤ 9223372036854775807 then (some ((t109 ++ (⟨#[124]⟩ : ByteArray)) ++ t111)) else (none))) else (none)) else (none)) = some r := H
      have A28 := Y0.mk A280
      clear A280
      by_cases c29 : t109.size + 1 ≤ 9223372036854775807
      ·rw [if_pos c29] at H
       have c29b0 := eq_true c29
       have c29b1 : decide (t109.size + 1 ≤ 9223372036854775807) = true := decide_eq_true c29
       try have c29b2 : (9223372036854775807 < t109.size + 1) = False := eq_false (Nat.not_lt.2 c29)
       by_cases c30 : 1 < (l0_3.length : Int)
       ·rw [if_pos c30] at H
        have c30b0 : decide (1 < (l0_3.length : Int)) = true := decide_eq_true c30
        have c30b1 : decide (1 < l0_3.length) = true := decide_eq_true (by omega)
        clear c30
        replace H := Option.bind_eq_some_iff.mp H
        obtain ⟨t111, A310, H⟩ := H
        replace H : (if t109.size + 1 + t111.size ≤ 9223372036854775807 then (some ((t109 ++ (⟨#[124]⟩ : ByteArray)) ++ t111)) else (none)) = some r := H
        have A31 := Y0.mk A310
        clear A310
        by_cases c32 : t109.size + 1 + t111.size ≤ 9223372036854775807
        ·rw [if_pos c32] at H
         have c32b0 := eq_true c32
         have c32b1 : decide (t109.size + 1 + t111.size ≤ 9223372036854775807) = true := decide_eq_true c32
         try have c32b2 : (9223372036854775807 < t109.size + 1 + t111.size) = False := eq_false (Nat.not_lt.2 c32)
         obtain rfl := Option.some.inj H
         go_enter Tryd.func29, Tryd.ntmps29
         try go_wp2_with (first | ((with_reducible refine Yz (N := 1) rfl ?_); refine Yu ?hg (N := 1) ?hd (cs := #[.int .i64 a0_0, .string a0_1, .slice A0_2 l0_2.length c0_2, .slice A0_3 l0_3.length c0_3]) (t := 37) ?hr ?_; (case hd => rfl); (case hg => rfl); (case hr => exact Z9); intro gb101 hg w33 hbox hb; have n_ := Y2n (Y6 QB hb) (hbox) ((by rw [hg]; exact (Y5 QB) : w.heap.size ≤ gb101)) ((by rw [hg]; exact (Y5 QB) : w.heap.size ≤ gb101)); clear HB; obtain ⟨HB, BK101, GW101, GE101⟩ := n_; clear hb hbox hg; obtain ⟨hcz34_0, hcz34_1, hcz34_2, hcz34_3, hfz34_0, hfz34_1, hfz34_2, hfz34_3⟩ := Yx BK101.out))
         have n_ := Y24 (Yd BK101.out) (YQ HB.out)
         clear BK101
         clear HB
         obtain ⟨BK101, HB⟩ := n_
         have p108 : 0 ≤ (0 : Int) := (by omega)
         have q108 : 0 < (l0_3.length : Int) := of_decide_eq_true Z6
         obtain ⟨ad108, A108_2, c108_2, A108_3, c108_3, e108, hx108_0, hx108_1, hx108_2, hx108_3, hl108_2, hi108_2, hl108_3, hi108_3⟩ := Y1J HR0_3.out 0 p108 q108
         have hw108_3 := hx108_3
         (try rw [show ((0 : Int)).toNat = 0 from rfl] at hw108_3)
         (try rw [show 0 * 4 = 0 from rfl] at hw108_3)
         (try rw [Addr.add_zero'] at hw108_3)
         have hw108_2 := hx108_2
         (try rw [show ((0 : Int)).toNat = 0 from rfl] at hw108_2)
         (try rw [show 0 * 4 = 0 from rfl] at hw108_2)
         (try rw [Addr.add_zero'] at hw108_2)
         have hw108_1 := hx108_1
         (try rw [show ((0 : Int)).toNat = 0 from rfl] at hw108_1)
         (try rw [show 0 * 4 = 0 from rfl] at hw108_1)
         (try rw [Addr.add_zero'] at hw108_1)
         have hw108_0 := hx108_0
         (try rw [show ((0 : Int)).toNat = 0 from rfl] at hw108_0)
         (try rw [show 0 * 4 = 0 from rfl] at hw108_0)
         (try rw [Addr.add_zero'] at hw108_0)
         cases e108
         have qi108 : (0 < l0_3.length) = True := eq_true (by omega)
         (try rw [show ((0 : Int)).toNat = 0 from rfl] at hx108_0)
         (try rw [show 0 * 4 = 0 from rfl] at hx108_0)
         (try rw [Addr.add_zero'] at hx108_0)
         (try rw [show ((0 : Int)).toNat = 0 from rfl] at hx108_1)
         (try rw [show 0 * 4 = 0 from rfl] at hx108_1)
         (try rw [Addr.add_zero'] at hx108_1)
         (try rw [show ((0 : Int)).toNat = 0 from rfl] at hx108_2)
         (try rw [show 0 * 4 = 0 from rfl] at hx108_2)
         (try rw [Addr.add_zero'] at hx108_2)
         (try rw [show ((0 : Int)).toNat = 0 from rfl] at hx108_3)
         (try rw [show 0 * 4 = 0 from rfl] at hx108_3)
         (try rw [Addr.add_zero'] at hx108_3)
         replace hx108_0 := YU HB.out hx108_0
         replace hx108_1 := YU HB.out hx108_1
         replace hx108_2 := YU HB.out hx108_2
         replace hx108_3 := YU HB.out hx108_3
         have HR108_2 := Y0.mk hi108_2
         have HC108_2 := Y0.mk hl108_2
         clear hi108_2 hl108_2
         have HR108_3 := Y0.mk hi108_3
         have HC108_3 := Y0.mk hl108_3
         clear hi108_3 hl108_3
         replace p108 := eq_true p108
         replace q108 := eq_true q108
         have p110 : 0 ≤ (1 : Int) := (by omega)
         have q110 : 1 < (l0_3.length : Int) := of_decide_eq_true Z6
         obtain ⟨ad110, A110_2, c110_2, A110_3, c110_3, e110, hx110_0, hx110_1, hx110_2, hx110_3, hl110_2, hi110_2, hl110_3, hi110_3⟩ := Y1J HR0_3.out 1 p110 q110
         have hw110_3 := hx110_3
         (try rw [show ((1 : Int)).toNat = 1 from rfl] at hw110_3)
         (try rw [show 1 * 4 = 4 from rfl] at hw110_3)
         (try simp only [Nat.reduceMul, Nat.reduceEqDiff, Go.Addr.add, ↓reduceIte] at hw110_3)
         have hw110_2 := hx110_2
         (try rw [show ((1 : Int)).toNat = 1 from rfl] at hw110_2)
         (try rw [show 1 * 4 = 4 from rfl] at hw110_2)
         (try simp only [Nat.reduceMul, Nat.reduceEqDiff, Go.Addr.add, ↓reduceIte] at hw110_2)
         have hw110_1 := hx110_1
         (try rw [show ((1 : Int)).toNat = 1 from rfl] at hw110_1)
         (try rw [show 1 * 4 = 4 from rfl] at hw110_1)
         (try simp only [Nat.reduceMul, Nat.reduceEqDiff, Go.Addr.add, ↓reduceIte] at hw110_1)
         have hw110_0 := hx110_0
         (try rw [show ((1 : Int)).toNat = 1 from rfl] at hw110_0)
         (try rw [show 1 * 4 = 4 from rfl] at hw110_0)
         (try simp only [Nat.reduceMul, Nat.reduceEqDiff, Go.Addr.add, ↓reduceIte] at hw110_0)
         obtain rfl : ad108 = ad110 := (by injection e110)
         (try simp only [show (1 : Int).toNat = 1 from rfl, Nat.reduceMul, Nat.reduceEqDiff, Go.Addr.add, ↓reduceIte] at hx110_0)
         (try simp only [show (1 : Int).toNat = 1 from rfl, Nat.reduceMul, Nat.reduceEqDiff, Go.Addr.add, ↓reduceIte] at hx110_1)
         (try simp only [show (1 : Int).toNat = 1 from rfl, Nat.reduceMul, Nat.reduceEqDiff, Go.Addr.add, ↓reduceIte] at hx110_2)
         (try simp only [show (1 : Int).toNat = 1 from rfl, Nat.reduceMul, Nat.reduceEqDiff, Go.Addr.add, ↓reduceIte] at hx110_3)
         have qi110 : (1 < l0_3.length) = True := eq_true (by omega)
         (try rw [show ((1 : Int)).toNat = 1 from rfl] at hx110_0)
         (try rw [show 1 * 4 = 4 from rfl] at hx110_0)
         (try rw [show ((1 : Int)).toNat = 1 from rfl] at hx110_1)
         (try rw [show 1 * 4 = 4 from rfl] at hx110_1)
         (try rw [show ((1 : Int)).toNat = 1 from rfl] at hx110_2)
         (try rw [show 1 * 4 = 4 from rfl] at hx110_2)
         (try rw [show ((1 : Int)).toNat = 1 from rfl] at hx110_3)
         (try rw [show 1 * 4 = 4 from rfl] at hx110_3)
         replace hx110_0 := YU HB.out hx110_0
         replace hx110_1 := YU HB.out hx110_1
         replace hx110_2 := YU HB.out hx110_2
         replace hx110_3 := YU HB.out hx110_3
         have HR110_2 := Y0.mk hi110_2
         have HC110_2 := Y0.mk hl110_2
         clear hi110_2 hl110_2
         have HR110_3 := Y0.mk hi110_3
         have HC110_3 := Y0.mk hl110_3
         clear hi110_3 hl110_3
         replace p110 := eq_true p110
         replace q110 := eq_true q110
         refine Y1t (n := 13) (S := fun w' => w'.cell? ⟨gb101, 0, none⟩ = some (.int .i64 a0_0) ∧ w'.cell? ⟨gb101, 1, none⟩ = some (.string a0_1) ∧ w'.cell? ⟨gb101, 2, none⟩ = some (.slice A0_2 l0_2.length c0_2) ∧ w'.cell? ⟨gb101, 3, none⟩ = some (.slice (some ad108) l0_3.length c0_3) ∧ w'.cell? ad108 = some (.int .i64 ((Y4 l0_3 0).f0)) ∧ w'.cell? ⟨ad108.block, ad108.off + 1, none⟩ = some (.string ((Y4 l0_3 0).f1)) ∧ w'.cell? ⟨ad108.block, ad108.off + 2, none⟩ = some (.slice A108_2 ((Y4 l0_3 0).f2).length c108_2) ∧ w'.cell? ⟨ad108.block, ad108.off + 3, none⟩ = some (.slice A108_3 ((Y4 l0_3 0).f3).length c108_3) ∧ w'.cell? ⟨ad108.block, ad108.off + 4, none⟩ = some (.int .i64 ((Y4 l0_3 1).f0)) ∧ w'.cell? ⟨ad108.block, ad108.off + 4 + 1, none⟩ = some (.string ((Y4 l0_3 1).f1)) ∧ w'.cell? ⟨ad108.block, ad108.off + 4 + 2, none⟩ = some (.slice A110_2 ((Y4 l0_3 1).f2).length c110_2) ∧ w'.cell? ⟨ad108.block, ad108.off + 4 + 3, none⟩ = some (.slice A110_3 ((Y4 l0_3 1).f3).length c110_3)) (ds := []) Y5J Z8 rfl rfl ⟨(Y1 BK101.out 0).trans rfl, (Y1 BK101.out 1).trans rfl, (Y1 BK101.out 2).trans rfl, (Y1 BK101.out 3).trans rfl, ((HB.out.cell (World.block_lt_of_cell? w _ hw108_0)).trans hw108_0), ((HB.out.cell (World.block_lt_of_cell? w _ hw108_1)).trans hw108_1), ((HB.out.cell (World.block_lt_of_cell? w _ hw108_2)).trans hw108_2), ((HB.out.cell (World.block_lt_of_cell? w _ hw108_3)).trans hw108_3), ((HB.out.cell (World.block_lt_of_cell? w _ hw110_0)).trans hw110_0), ((HB.out.cell (World.block_lt_of_cell? w _ hw110_1)).trans hw110_1), ((HB.out.cell (World.block_lt_of_cell? w _ hw110_2)).trans hw110_2), ((HB.out.cell (World.block_lt_of_cell? w _ hw110_3)).trans hw110_3)⟩ (fun hHeld => ?_); refine Y11 Y8.tab9 Y8.bits9 (fun HT_ HW_ => ?_)
         generalize w33.drew = w35 at BK101 HB HR108_2 HR108_3 HR110_2 HR110_3 hx108_0 hx108_1 hx108_2 hx108_3 hx110_0 hx110_1 hx110_2 hx110_3 hHeld ⊢
         refine pY 0 37 Y5K ?_
         refine pY 6 43 Y4E ?_
         refine pT 1 38 Y4F ?_
         refine pY 2 39 Y4G ?_
         refine pT 3 40 Y4H ?_
         refine pT 7 44 Y4I ?_
         refine pY 8 45 Y3S ?_
         refine pT 9 46 Y3T ?_
         refine Y2J (i := 4) (N := some 41) Y3U rfl rfl (Y1h HT_.out Z8) (by decide) (fun K hK => ?_)
         refine Y1Q Tryd.func58 Z8 rfl #[.agg #[.int .i64 ((Y4 l0_3 0).f0), .string ((Y4 l0_3 0).f1), .slice A108_2 ((Y4 l0_3 0).f2).length c108_2, .slice A108_3 ((Y4 l0_3 0).f3).length c108_3]] (by rfl) rfl rfl Z0 ?_
         with_reducible refine ((ih k (by omega)).2 ((Y4 l0_3 0).f0) ((Y4 l0_3 0).f1) _ _ ((Y4 l0_3 0).f2) _ _ ((Y4 l0_3 0).f3) t109 _ ?side1 ?side2 ?side3 ?side4 A28.out).mono ?_
         (case side1 => exact Z1F)
         (case side2 => exact HC108_2.out)
         (case side3 => exact Z1G)
         (case side4 => exact HC108_3.out)
         rintro e w36 ⟨rfl, hb⟩
         refine ⟨_, rfl, ?_⟩
         have n_ := Y24 (Yg (g := gb101) (o := .cells #[.int .i64 a0_0, .string a0_1, .slice A0_2 l0_2.length c0_2, .slice (some ad108) l0_3.length c0_3] 37 (0, 0)) QQ hb) (Y6 QB hb)
         clear BK101
         clear HB
         obtain ⟨BK101, HB⟩ := n_
         (try clear hb)
         (try clear hb2)
         (try clear hk)
         (try clear hi)
         refine hK.out _ _ ⟨(Y1 BK101.out 0).trans rfl, (Y1 BK101.out 1).trans rfl, (Y1 BK101.out 2).trans rfl, (Y1 BK101.out 3).trans rfl, ((HB.out.cell (World.block_lt_of_cell? w _ hw108_0)).trans hw108_0), ((HB.out.cell (World.block_lt_of_cell? w _ hw108_1)).trans hw108_1), ((HB.out.cell (World.block_lt_of_cell? w _ hw108_2)).trans hw108_2), ((HB.out.cell (World.block_lt_of_cell? w _ hw108_3)).trans hw108_3), ((HB.out.cell (World.block_lt_of_cell? w _ hw110_0)).trans hw110_0), ((HB.out.cell (World.block_lt_of_cell? w _ hw110_1)).trans hw110_1), ((HB.out.cell (World.block_lt_of_cell? w _ hw110_2)).trans hw110_2), ((HB.out.cell (World.block_lt_of_cell? w _ hw110_3)).trans hw110_3)⟩ (fun hHeld => ?_)
         clear hK K
         refine Y1F (a' := ?_) ?_ ?_
         rotate_left
         ·show Act.put _ (some 41) _ = _
          simp only [Act.put, List.setIfInBounds_toArray, List.set_cons_zero, List.set_cons_succ, Y15, Y16]
          rfl
         refine pY 5 42 Y3V ?_
         refine Y2J (i := 10) (N := some 47) Y3W rfl rfl (Y1h HT_.out Z8) (by decide) (fun K hK => ?_)
         refine Y1Q Tryd.func58 Z8 rfl #[.agg #[.int .i64 ((Y4 l0_3 1).f0), .string ((Y4 l0_3 1).f1), .slice A110_2 ((Y4 l0_3 1).f2).length c110_2, .slice A110_3 ((Y4 l0_3 1).f3).length c110_3]] (by rfl) rfl rfl Z0 ?_
         with_reducible refine ((ih k (by omega)).2 ((Y4 l0_3 1).f0) ((Y4 l0_3 1).f1) _ _ ((Y4 l0_3 1).f2) _ _ ((Y4 l0_3 1).f3) t111 _ ?side1 ?side2 ?side3 ?side4 A31.out).mono ?_
         (case side1 => exact Z1H)
         (case side2 => exact HC110_2.out)
         (case side3 => exact Z1I)
         (case side4 => exact HC110_3.out)
         rintro e w37 ⟨rfl, hb⟩
         refine ⟨_, rfl, ?_⟩
         have n_ := Y24 (Yg (g := gb101) (o := .cells #[.int .i64 a0_0, .string a0_1, .slice A0_2 l0_2.length c0_2, .slice (some ad108) l0_3.length c0_3] 37 (0, 0)) QQ hb) (Y6 QB hb)
         clear BK101
         clear HB
         obtain ⟨BK101, HB⟩ := n_
         (try clear hb)
         (try clear hb2)
         (try clear hk)
         (try clear hi)
         refine hK.out _ _ ⟨(Y1 BK101.out 0).trans rfl, (Y1 BK101.out 1).trans rfl, (Y1 BK101.out 2).trans rfl, (Y1 BK101.out 3).trans rfl, ((HB.out.cell (World.block_lt_of_cell? w _ hw108_0)).trans hw108_0), ((HB.out.cell (World.block_lt_of_cell? w _ hw108_1)).trans hw108_1), ((HB.out.cell (World.block_lt_of_cell? w _ hw108_2)).trans hw108_2), ((HB.out.cell (World.block_lt_of_cell? w _ hw108_3)).trans hw108_3), ((HB.out.cell (World.block_lt_of_cell? w _ hw110_0)).trans hw110_0), ((HB.out.cell (World.block_lt_of_cell? w _ hw110_1)).trans hw110_1), ((HB.out.cell (World.block_lt_of_cell? w _ hw110_2)).trans hw110_2), ((HB.out.cell (World.block_lt_of_cell? w _ hw110_3)).trans hw110_3)⟩ (fun hHeld => ?_)
         clear hK K
         refine Y1F (a' := ?_) ?_ ?_
         rotate_left
         ·show Act.put _ (some 47) _ = _
          simp only [Act.put, List.setIfInBounds_toArray, List.set_cons_zero, List.set_cons_succ, Y15, Y16]
          rfl
         refine pY 11 48 Y3X ?_
         refine pY 12 2 Y3v ?_
         refine Y22 (Y1g HT_.out Z8) ?_
         try go_wp2
         go_ret
         exact Z2h
        ·rw [if_neg c32] at H
         exact Zl
       ·rw [if_neg c30] at H
        exact Zl
      ·rw [if_neg c29] at H
       exact Zl
     ·rw [if_neg c27] at H
      exact Zl
    ·rw [if_neg c26] at H
     have c26b0 : (a0_0 == 4) = false := beq_eq_false_iff_ne.mpr c26
     have c26b1 : (a0_0 != 4) = true := bne_iff_ne.mpr c26
     by_cases c38 : a0_0 = 8
     ·rw [if_pos c38] at H
      have c38b0 : (a0_0 == 8) = true := beq_iff_eq.mpr c38
      have c38b1 : (a0_0 != 8) = false := bne_eq_false_iff_eq.mpr c38
      clear c38
      have H' := Y0.mk H
      clear H
      go_enter Tryd.func29, Tryd.ntmps29
      go_wp2_with (first | ((with_reducible refine Yz (N := 1) rfl ?_); refine Yu ?hg (N := 1) ?hd (cs := #[.int .i64 a0_0, .string a0_1, .slice A0_2 l0_2.length c0_2, .slice A0_3 l0_3.length c0_3]) (t := 37) ?hr ?_; (case hd => rfl); (case hg => rfl); (case hr => exact Z9); intro gb101 hg w39 hbox hb; have n_ := Y2n (Y6 QB hb) (hbox) ((by rw [hg]; exact (Y5 QB) : w.heap.size ≤ gb101)) ((by rw [hg]; exact (Y5 QB) : w.heap.size ≤ gb101)); clear HB; obtain ⟨HB, BK101, GW101, GE101⟩ := n_; clear hb hbox hg; obtain ⟨hcz40_0, hcz40_1, hcz40_2, hcz40_3, hfz40_0, hfz40_1, hfz40_2, hfz40_3⟩ := Yx BK101.out))
      go_loopg [3, 4] k (fun kq v3 v4 w' => ∃ (x3_1 : ByteArray) (x4_1 : Int), v3 = .string x3_1 ∧ v4 = .int .i64 x4_1 ∧ Y0 (Y8.l0 kq x3_1 x4_1 a0_0 a0_1 l0_2 l0_3 = some r) ∧ Y0 (kq ≤ k) ∧ Y0 (w'.heap[gb101]? = some (.cells #[.int .i64 a0_0, .string a0_1, (.slice A0_2 l0_2.length c0_2), (.slice A0_3 l0_3.length c0_3)] 37 (0, 0))) ∧ Y0 (Below w.heap.size w w'))
      case atStart => exact ⟨((⟨#[33, 40]⟩ : ByteArray)), (0), Z7, Z7, H', ⟨Nat.le_refl _⟩, ⟨Z5⟩, ⟨QB⟩⟩
      case round =>
       clear H'
       try clear c1
       try clear p1
       try clear q1
       try clear hx1
       try clear qi1
       try clear c2
       try clear p2
       try clear c3
       try clear c5
       try clear c10
       try clear p10
       try clear q10
       try clear hx10
       try clear qi10
       try clear c11
       try clear p11
       try clear q11
       try clear hx11
       try clear qi11
       try clear c14
       try clear c14b0
       try clear c14b1
       try clear c15
       try clear c15b0
       try clear c15b1
       try clear c17
       try clear c17b0
       try clear c17b1
       try clear c17b2
       try clear c18
       try clear c18b0
       try clear c18b1
       try clear c20
       try clear c20b0
       try clear c20b1
       try clear c20b2
       try clear c26
       try clear c26b0
       try clear c26b1
       try clear c27
       try clear c27b0
       try clear c27b1
       try clear c29
       try clear c29b0
       try clear c29b1
       try clear c29b2
       try clear c30
       try clear c30b0
       try clear c30b1
       try clear c32
       try clear c32b0
       try clear c32b1
       try clear c32b2
       try clear c38
       try clear c38b0
       try clear c38b1
       try clear hcz22_0 hcz22_1 hcz22_2 hcz22_3
       try clear hcz34_0 hcz34_1 hcz34_2 hcz34_3
       try clear hcz40_0 hcz40_1 hcz40_2 hcz40_3
       try clear hfz22_0
       try clear hfz22_1
       try clear hfz22_2
       try clear hfz22_3
       try clear hfz34_0
       try clear hfz34_1
       try clear hfz34_2
       try clear hfz34_3
       try clear hfz40_0
       try clear hfz40_1
       try clear hfz40_2
       try clear hfz40_3
       try clear hx104_0
       try clear hx104_1
       try clear hx104_2
       try clear hx104_3
       try clear hx106_0
       try clear hx106_1
       try clear hx106_2
       try clear hx106_3
       try clear hx108_0
       try clear hx108_1
       try clear hx108_2
       try clear hx108_3
       try clear hx110_0
       try clear hx110_1
       try clear hx110_2
       try clear hx110_3
       try clear p104
       try clear p106
       try clear p108
       try clear p110
       try clear q104
       try clear q106
       try clear q108
       try clear q110
       obtain ⟨x3_1, x4_1, rfl, rfl, HA, HK1, BK101, HB⟩ := hrel
       cases gk with
       | zero => exact absurd HA.out (by simp [Y8.l0])
       | succ k1 =>
        have H := HA.out
        clear HA
        simp only [Y8.l0] at H
        by_cases c41 : x4_1 < (l0_2.length : Int)
        ·rw [if_pos c41] at H
         have c41b0 : decide (x4_1 < (l0_2.length : Int)) = true := decide_eq_true c41
         clear c41
         by_cases c42 : x4_1 > 0
         ·rw [if_pos c42] at H
          have c42b0 : decide (0 < x4_1) = true := decide_eq_true c42
          clear c42
          by_cases c43 : x3_1.size + 1 ≤ 9223372036854775807
          ·rw [if_pos c43] at H
           have c43b0 := eq_true c43
           have c43b1 : decide (x3_1.size + 1 ≤ 9223372036854775807) = true := decide_eq_true c43
           try have c43b2 : (9223372036854775807 < x3_1.size + 1) = False := eq_false (Nat.not_lt.2 c43)
           by_cases c44 : x3_1.size + 1 + 1 ≤ 9223372036854775807
           ·rw [if_pos c44] at H
            have c44b0 := eq_true c44
            have c44b1 : decide (x3_1.size + 1 + 1 ≤ 9223372036854775807) = true := decide_eq_true c44
            try have c44b2 : (9223372036854775807 < x3_1.size + 1 + 1) = False := eq_false (Nat.not_lt.2 c44)
            by_cases c45 : 0 ≤ x4_1
            ·rw [if_pos c45] at H
             have c45b0 : decide (0 ≤ x4_1) = true := decide_eq_true c45
             clear c45
             by_cases c46 : x3_1.size + 1 + 1 + (Y2m ByteArray.empty l0_2 x4_1).size ≤ 9223372036854775807
             ·rw [if_pos c46] at H
              have c46b0 := eq_true c46
              have c46b1 : decide (x3_1.size + 1 + 1 + (Y2m ByteArray.empty l0_2 x4_1).size ≤ 9223372036854775807) = true := decide_eq_true c46
              try have c46b2 : (9223372036854775807 < x3_1.size + 1 + 1 + (Y2m ByteArray.empty l0_2 x4_1).size) = False := eq_false (Nat.not_lt.2 c46)
              by_cases c47 : x3_1.size + 1 + 1 + ((Y2m ByteArray.empty l0_2 x4_1).size) + 1 ≤ 9223372036854775807
              ·rw [if_pos c47] at H
               have c47b0 := eq_true c47
               have c47b1 : decide (x3_1.size + 1 + 1 + ((Y2m ByteArray.empty l0_2 x4_1).size) + 1 ≤ 9223372036854775807) = true := decide_eq_true c47
               try have c47b2 : (9223372036854775807 < x3_1.size + 1 + 1 + ((Y2m ByteArray.empty l0_2 x4_1).size) + 1) = False := eq_false (Nat.not_lt.2 c47)
               have H' := Y0.mk H
               clear H
               obtain ⟨hcz48_0, hcz48_1, hcz48_2, hcz48_3, hfz48_0, hfz48_1, hfz48_2, hfz48_3⟩ := Yx BK101.out
               have p112 : 0 ≤ (x4_1 : Int) := of_decide_eq_true Z6
               have q112 : x4_1 < (l0_2.length : Int) := of_decide_eq_true Z6
               obtain ⟨ad112, e112, hx112_0⟩ := Kd.at_string HR0_2.out x4_1 p112 q112
               cases e112
               replace hx112_0 := YU HB.out hx112_0
               replace p112 := eq_true p112
               replace q112 := eq_true q112
               go_wp2
               go_roundg k1
               case measure => have := HK1.out; omega
               case rel => exact ⟨((((x3_1 ++ (⟨#[124]⟩ : ByteArray)) ++ (⟨#[60]⟩ : ByteArray)) ++ (Y2m ByteArray.empty l0_2 x4_1)) ++ (⟨#[62]⟩ : ByteArray)), (wrap64 (x4_1 + 1)), Z7, Z7, H', ⟨Z1n⟩, ⟨Z5⟩, ⟨QB⟩⟩
              ·rw [if_neg c47] at H
               exact Zl
             ·rw [if_neg c46] at H
              exact Zl
            ·rw [if_neg c45] at H
             exact Zl
           ·rw [if_neg c44] at H
            exact Zl
          ·rw [if_neg c43] at H
           exact Zl
         ·rw [if_neg c42] at H
          have c42b0 : decide (0 < x4_1) = false := decide_eq_false c42
          clear c42
          by_cases c49 : x3_1.size + 1 ≤ 9223372036854775807
          ·rw [if_pos c49] at H
           have c49b0 := eq_true c49
           have c49b1 : decide (x3_1.size + 1 ≤ 9223372036854775807) = true := decide_eq_true c49
           try have c49b2 : (9223372036854775807 < x3_1.size + 1) = False := eq_false (Nat.not_lt.2 c49)
           by_cases c50 : 0 ≤ x4_1
           ·rw [if_pos c50] at H
            have c50b0 : decide (0 ≤ x4_1) = true := decide_eq_true c50
            clear c50
            by_cases c51 : x3_1.size + 1 + (Y2m ByteArray.empty l0_2 x4_1).size ≤ 9223372036854775807
            ·rw [if_pos c51] at H
             have c51b0 := eq_true c51
             have c51b1 : decide (x3_1.size + 1 + (Y2m ByteArray.empty l0_2 x4_1).size ≤ 9223372036854775807) = true := decide_eq_true c51
             try have c51b2 : (9223372036854775807 < x3_1.size + 1 + (Y2m ByteArray.empty l0_2 x4_1).size) = False := eq_false (Nat.not_lt.2 c51)
             by_cases c52 : x3_1.size + 1 + ((Y2m ByteArray.empty l0_2 x4_1).size) + 1 ≤ 9223372036854775807
             ·rw [if_pos c52] at H
              have c52b0 := eq_true c52
              have c52b1 : decide (x3_1.size + 1 + ((Y2m ByteArray.empty l0_2 x4_1).size) + 1 ≤ 9223372036854775807) = true := decide_eq_true c52
              try have c52b2 : (9223372036854775807 < x3_1.size + 1 + ((Y2m ByteArray.empty l0_2 x4_1).size) + 1) = False := eq_false (Nat.not_lt.2 c52)
              have H' := Y0.mk H
              clear H
              obtain ⟨hcz53_0, hcz53_1, hcz53_2, hcz53_3, hfz53_0, hfz53_1, hfz53_2, hfz53_3⟩ := Yx BK101.out
              have p113 : 0 ≤ (x4_1 : Int) := of_decide_eq_true Z6
              have q113 : x4_1 < (l0_2.length : Int) := of_decide_eq_true Z6
              obtain ⟨ad113, e113, hx113_0⟩ := Kd.at_string HR0_2.out x4_1 p113 q113
              cases e113
              replace hx113_0 := YU HB.out hx113_0
              replace p113 := eq_true p113
              replace q113 := eq_true q113
              go_wp2
              go_roundg k1
              case measure => have := HK1.out; omega
              case rel => exact ⟨(((x3_1 ++ (⟨#[60]⟩ : ByteArray)) ++ (Y2m ByteArray.empty l0_2 x4_1)) ++ (⟨#[62]⟩ : ByteArray)), (wrap64 (x4_1 + 1)), Z7, Z7, H', ⟨Z1n⟩, ⟨Z5⟩, ⟨QB⟩⟩
             ·rw [if_neg c52] at H
              exact Zl
            ·rw [if_neg c51] at H
             exact Zl
           ·rw [if_neg c50] at H
            exact Zl
          ·rw [if_neg c49] at H
           exact Zl
        ·rw [if_neg c41] at H
         have c41b0 : decide (x4_1 < (l0_2.length : Int)) = false := decide_eq_false c41
         clear c41
         by_cases c54 : x3_1.size + 1 ≤ 9223372036854775807
         ·rw [if_pos c54] at H
          have c54b0 := eq_true c54
          have c54b1 : decide (x3_1.size + 1 ≤ 9223372036854775807) = true := decide_eq_true c54
          try have c54b2 : (9223372036854775807 < x3_1.size + 1) = False := eq_false (Nat.not_lt.2 c54)
          obtain rfl := Option.some.inj H
          obtain ⟨hcz55_0, hcz55_1, hcz55_2, hcz55_3, hfz55_0, hfz55_1, hfz55_2, hfz55_3⟩ := Yx BK101.out
          go_wp2
          go_ret
          exact Z2h
         ·rw [if_neg c54] at H
          exact Zl
     ·rw [if_neg c38] at H
      have c38b0 : (a0_0 == 8) = false := beq_eq_false_iff_ne.mpr c38
      have c38b1 : (a0_0 != 8) = true := bne_iff_ne.mpr c38
      by_cases c56 : 0 < (l0_3.length : Int)
      ·rw [if_pos c56] at H
       have c56b0 : decide (0 < (l0_3.length : Int)) = true := decide_eq_true c56
       have c56b1 : decide (0 < l0_3.length) = true := decide_eq_true (by omega)
       clear c56
       replace H := Option.bind_eq_some_iff.mp H
       obtain ⟨t115, A570, H⟩ := H
       replace H : ((Y19.f a0_0).bind fun t116 => (if t115.size + t116.size ≤ 9223372036854775807 then (some (t115 ++ t116)) else (none))) = some r := H
       have A57 := Y0.mk A570
       clear A570
       replace H := Option.bind_eq_some_iff.mp H
       obtain ⟨t116, A580, H⟩ := H
       replace H : (if t115.size + t116.size ≤ 9223372036854775807 then (some (t115 ++ t116)) else (none)) = some r := H
       have A58 := Y0.mk A580
       clear A580
       by_cases c59 : t115.size + t116.size ≤ 9223372036854775807
       ·rw [if_pos c59] at H
        have c59b0 := eq_true c59
        have c59b1 : decide (t115.size + t116.size ≤ 9223372036854775807) = true := decide_eq_true c59
        try have c59b2 : (9223372036854775807 < t115.size + t116.size) = False := eq_false (Nat.not_lt.2 c59)
        obtain rfl := Option.some.inj H
        go_enter Tryd.func29, Tryd.ntmps29
        try go_wp2_with (first | ((with_reducible refine Yz (N := 1) rfl ?_); refine Yu ?hg (N := 1) ?hd (cs := #[.int .i64 a0_0, .string a0_1, .slice A0_2 l0_2.length c0_2, .slice A0_3 l0_3.length c0_3]) (t := 37) ?hr ?_; (case hd => rfl); (case hg => rfl); (case hr => exact Z9); intro gb101 hg w60 hbox hb; have n_ := Y2n (Y6 QB hb) (hbox) ((by rw [hg]; exact (Y5 QB) : w.heap.size ≤ gb101)) ((by rw [hg]; exact (Y5 QB) : w.heap.size ≤ gb101)); clear HB; obtain ⟨HB, BK101, GW101, GE101⟩ := n_; clear hb hbox hg; obtain ⟨hcz61_0, hcz61_1, hcz61_2, hcz61_3, hfz61_0, hfz61_1, hfz61_2, hfz61_3⟩ := Yx BK101.out))
        have n_ := Y24 (Yd BK101.out) (YQ HB.out)
        clear BK101
        clear HB
        obtain ⟨BK101, HB⟩ := n_
        have p114 : 0 ≤ (0 : Int) := (by omega)
        have q114 : 0 < (l0_3.length : Int) := of_decide_eq_true Z6
        obtain ⟨ad114, A114_2, c114_2, A114_3, c114_3, e114, hx114_0, hx114_1, hx114_2, hx114_3, hl114_2, hi114_2, hl114_3, hi114_3⟩ := Y1J HR0_3.out 0 p114 q114
        have hw114_3 := hx114_3
        (try rw [show ((0 : Int)).toNat = 0 from rfl] at hw114_3)
        (try rw [show 0 * 4 = 0 from rfl] at hw114_3)
        (try rw [Addr.add_zero'] at hw114_3)
        have hw114_2 := hx114_2
        (try rw [show ((0 : Int)).toNat = 0 from rfl] at hw114_2)
        (try rw [show 0 * 4 = 0 from rfl] at hw114_2)
        (try rw [Addr.add_zero'] at hw114_2)
        have hw114_1 := hx114_1
        (try rw [show ((0 : Int)).toNat = 0 from rfl] at hw114_1)
        (try rw [show 0 * 4 = 0 from rfl] at hw114_1)
        (try rw [Addr.add_zero'] at hw114_1)
        have hw114_0 := hx114_0
        (try rw [show ((0 : Int)).toNat = 0 from rfl] at hw114_0)
        (try rw [show 0 * 4 = 0 from rfl] at hw114_0)
        (try rw [Addr.add_zero'] at hw114_0)
        cases e114
        have qi114 : (0 < l0_3.length) = True := eq_true (by omega)
        (try rw [show ((0 : Int)).toNat = 0 from rfl] at hx114_0)
        (try rw [show 0 * 4 = 0 from rfl] at hx114_0)
        (try rw [Addr.add_zero'] at hx114_0)
        (try rw [show ((0 : Int)).toNat = 0 from rfl] at hx114_1)
        (try rw [show 0 * 4 = 0 from rfl] at hx114_1)
        (try rw [Addr.add_zero'] at hx114_1)
        (try rw [show ((0 : Int)).toNat = 0 from rfl] at hx114_2)
        (try rw [show 0 * 4 = 0 from rfl] at hx114_2)
        (try rw [Addr.add_zero'] at hx114_2)
        (try rw [show ((0 : Int)).toNat = 0 from rfl] at hx114_3)
        (try rw [show 0 * 4 = 0 from rfl] at hx114_3)
        (try rw [Addr.add_zero'] at hx114_3)
        replace hx114_0 := YU HB.out hx114_0
        replace hx114_1 := YU HB.out hx114_1
        replace hx114_2 := YU HB.out hx114_2
        replace hx114_3 := YU HB.out hx114_3
        have HR114_2 := Y0.mk hi114_2
        have HC114_2 := Y0.mk hl114_2
        clear hi114_2 hl114_2
        have HR114_3 := Y0.mk hi114_3
        have HC114_3 := Y0.mk hl114_3
        clear hi114_3 hl114_3
        replace p114 := eq_true p114
        replace q114 := eq_true q114
        refine Y1t (n := 10) (S := fun w' => w'.cell? ⟨gb101, 0, none⟩ = some (.int .i64 a0_0) ∧ w'.cell? ⟨gb101, 1, none⟩ = some (.string a0_1) ∧ w'.cell? ⟨gb101, 2, none⟩ = some (.slice A0_2 l0_2.length c0_2) ∧ w'.cell? ⟨gb101, 3, none⟩ = some (.slice (some ad114) l0_3.length c0_3) ∧ w'.cell? ad114 = some (.int .i64 ((Y4 l0_3 0).f0)) ∧ w'.cell? ⟨ad114.block, ad114.off + 1, none⟩ = some (.string ((Y4 l0_3 0).f1)) ∧ w'.cell? ⟨ad114.block, ad114.off + 2, none⟩ = some (.slice A114_2 ((Y4 l0_3 0).f2).length c114_2) ∧ w'.cell? ⟨ad114.block, ad114.off + 3, none⟩ = some (.slice A114_3 ((Y4 l0_3 0).f3).length c114_3)) (ds := []) bz10_0 Z8 rfl rfl ⟨(Y1 BK101.out 0).trans rfl, (Y1 BK101.out 1).trans rfl, (Y1 BK101.out 2).trans rfl, (Y1 BK101.out 3).trans rfl, ((HB.out.cell (World.block_lt_of_cell? w _ hw114_0)).trans hw114_0), ((HB.out.cell (World.block_lt_of_cell? w _ hw114_1)).trans hw114_1), ((HB.out.cell (World.block_lt_of_cell? w _ hw114_2)).trans hw114_2), ((HB.out.cell (World.block_lt_of_cell? w _ hw114_3)).trans hw114_3)⟩ (fun hHeld => ?_); refine Y11 Y8.tab19 Y8.bits19 (fun HT_ HW_ => ?_)
        generalize w60.drew = w62 at BK101 HB HR114_2 HR114_3 hx114_0 hx114_1 hx114_2 hx114_3 hHeld ⊢
        refine pY 0 73 bz10_1 ?_
        refine pY 5 78 bz10_21 ?_
        refine pT 1 74 bz10_23 ?_
        refine pY 2 75 bz10_27 ?_
        refine pT 3 76 bz10_2f ?_
        refine pT 6 79 bz10_6f ?_
        refine Y2J (i := 4) (N := some 77) bz10_7f rfl rfl (Y1h HT_.out Z8) (by decide) (fun K hK => ?_)
        refine Y1Q Tryd.func58 Z8 rfl #[.agg #[.int .i64 ((Y4 l0_3 0).f0), .string ((Y4 l0_3 0).f1), .slice A114_2 ((Y4 l0_3 0).f2).length c114_2, .slice A114_3 ((Y4 l0_3 0).f3).length c114_3]] (by rfl) rfl rfl Z0 ?_
        with_reducible refine ((ih k (by omega)).2 ((Y4 l0_3 0).f0) ((Y4 l0_3 0).f1) _ _ ((Y4 l0_3 0).f2) _ _ ((Y4 l0_3 0).f3) t115 _ ?side1 ?side2 ?side3 ?side4 A57.out).mono ?_
        (case side1 => exact Z1J)
        (case side2 => exact HC114_2.out)
        (case side3 => exact Z1K)
        (case side4 => exact HC114_3.out)
        rintro e w63 ⟨rfl, hb⟩
        refine ⟨_, rfl, ?_⟩
        have n_ := Y24 (Yg (g := gb101) (o := .cells #[.int .i64 a0_0, .string a0_1, .slice A0_2 l0_2.length c0_2, .slice (some ad114) l0_3.length c0_3] 37 (0, 0)) QQ hb) (Y6 QB hb)
        clear BK101
        clear HB
        obtain ⟨BK101, HB⟩ := n_
        (try clear hb)
        (try clear hb2)
        (try clear hk)
        (try clear hi)
        refine hK.out _ _ ⟨(Y1 BK101.out 0).trans rfl, (Y1 BK101.out 1).trans rfl, (Y1 BK101.out 2).trans rfl, (Y1 BK101.out 3).trans rfl, ((HB.out.cell (World.block_lt_of_cell? w _ hw114_0)).trans hw114_0), ((HB.out.cell (World.block_lt_of_cell? w _ hw114_1)).trans hw114_1), ((HB.out.cell (World.block_lt_of_cell? w _ hw114_2)).trans hw114_2), ((HB.out.cell (World.block_lt_of_cell? w _ hw114_3)).trans hw114_3)⟩ (fun hHeld => ?_)
        clear hK K
        refine Y1F (a' := ?_) ?_ ?_
        rotate_left
        ·show Act.put _ (some 77) _ = _
         simp only [Act.put, List.setIfInBounds_toArray, List.set_cons_zero, List.set_cons_succ, Y15, Y16]
         rfl
        refine Y2J (i := 7) (N := some 80) bz10_ff rfl rfl (Y1h HT_.out Z8) (by decide) (fun K hK => ?_)
        refine Y1Q Tryd.func59 Z8 rfl #[.int .i64 a0_0] (by rfl) rfl rfl Z0 ?_
        with_reducible refine (Y19.calls a0_0 t116 _ A58.out).mono ?_
        rintro e w' ⟨rfl, ⟨nd, rfl⟩⟩
        refine ⟨_, rfl, ?_⟩
        refine hK.out _ _ ⟨(Y1 BK101.out 0).trans rfl, (Y1 BK101.out 1).trans rfl, (Y1 BK101.out 2).trans rfl, (Y1 BK101.out 3).trans rfl, ((HB.out.cell (World.block_lt_of_cell? w _ hw114_0)).trans hw114_0), ((HB.out.cell (World.block_lt_of_cell? w _ hw114_1)).trans hw114_1), ((HB.out.cell (World.block_lt_of_cell? w _ hw114_2)).trans hw114_2), ((HB.out.cell (World.block_lt_of_cell? w _ hw114_3)).trans hw114_3)⟩ (fun hHeld => ?_)
        clear hK K
        refine Y1F (a' := ?_) ?_ ?_
        rotate_left
        ·show Act.put _ (some 80) _ = _
         simp only [Act.put, List.setIfInBounds_toArray, List.set_cons_zero, List.set_cons_succ, Y15, Y16]
         rfl
        refine pY 8 81 bz10_1ff ?_
        refine pY 9 2 bz10_3ff ?_
        refine Y22 (Y1g HT_.out Z8) ?_
        try go_wp2
        go_ret
        exact Z2h
       ·rw [if_neg c59] at H
        exact Zl
      ·rw [if_neg c56] at H
       exact Zl
set_option maxHeartbeats 8000000 in
set_option maxRecDepth 100000 in
theorem Yv.step (k : Nat) (ih : ∀ j_ < k, Y8.Spec j_ ∧ Yv.Spec j_) : ∀ (a0_0 : Int) (a0_1 : ByteArray) (A0_2 : Option Addr) (c0_2 : Nat) (l0_2 : List ByteArray) (A0_3 : Option Addr) (c0_3 : Nat) (l0_3 : List (S37)) (r : ByteArray) (w : World) (hr0_2 : Kd.C Kd.string w A0_2 l0_2.length l0_2) (hc0_2 : l0_2.length ≤ c0_2) (hr0_3 : Kd.C k37 w A0_3 l0_3.length l0_3) (hc0_3 : l0_3.length ≤ c0_3) (h : Yv.f k a0_0 a0_1 l0_2 l0_3 = some r),
  Calls Tryd.prog 58 #[.agg #[.int .i64 a0_0, .string a0_1, .slice A0_2 l0_2.length c0_2, .slice A0_3 l0_3.length c0_3]] w fun e w' => e = .returned (.string r) ∧ Below w.heap.size w w' := by
 intro a0_0 a0_1 A0_2 c0_2 l0_2 A0_3 c0_3 l0_3 r w hr0_2 hc0_2 hr0_3 hc0_3 h
 cases k with
 | zero => exact absurd h (by simp [Yv.f])
 | succ k =>
 simp only [Yv.f] at h
 have hu37 := Tryd.underlying37
 have HR0_2 := Y0.mk hr0_2
 have HC0_2 := Y0.mk hc0_2
 clear hr0_2 hc0_2
 have HR0_3 := Y0.mk hr0_3
 have HC0_3 := Y0.mk hc0_3
 clear hr0_3 hc0_3
 have HB := Y0.mk (Below.refl w.heap.size w)
 have H : (if a0_0 = 1 then ((Y8.f k a0_0 a0_1 l0_2 l0_3).bind fun t118 => (some t118)) else ((Y8.f k a0_0 a0_1 l0_2 l0_3).bind fun t119 => (if 1 + t119.size ≤ 9223372036854775807 then (if 1 + t119.size + 1 ≤ 9223372036854775807 then (some (((⟨#[40]⟩ : ByteArray) ++ t119) ++ (⟨#[41]⟩ : ByteArray))) else (none)) else (none)))) = some r := h
 clear h
 by_cases c2 : a0_0 = 1
 ·rw [if_pos c2] at H
  have c2b0 : (a0_0 == 1) = true := beq_iff_eq.mpr c2
  have c2b1 : (a0_0 != 1) = false := bne_eq_false_iff_eq.mpr c2
  clear c2
  replace H := Option.bind_eq_some_iff.mp H
  obtain ⟨t118, A30, H⟩ := H
  replace H : (some t118) = some r := H
  have A3 := Y0.mk A30
  clear A30
  obtain rfl := Option.some.inj H
  go_enter Tryd.func58, Tryd.ntmps58
  go_wp2_with (first | ((with_reducible refine Yz (N := 1) rfl ?_); refine Yu ?hg (N := 1) ?hd (cs := #[.int .i64 a0_0, .string a0_1, .slice A0_2 l0_2.length c0_2, .slice A0_3 l0_3.length c0_3]) (t := 37) ?hr ?_; (case hd => rfl); (case hg => rfl); (case hr => exact Z9); intro gb117 hg w4 hbox hb; have n_ := Y2n (Y6 QB hb) (hbox) ((by rw [hg]; exact (Y5 QB) : w.heap.size ≤ gb117)) ((by rw [hg]; exact (Y5 QB) : w.heap.size ≤ gb117)); clear HB; obtain ⟨HB, BK117, GW117, GE117⟩ := n_; clear hb hbox hg; obtain ⟨hcz5_0, hcz5_1, hcz5_2, hcz5_3, hfz5_0, hfz5_1, hfz5_2, hfz5_3⟩ := Yx BK117.out) | ((with_reducible refine Ym (f := 29) rfl ?_); refine YP (some 7) rfl rfl Tryd.func29 Z8 rfl #[.agg #[.int .i64 a0_0, .string a0_1, .slice A0_2 l0_2.length c0_2, .slice A0_3 l0_3.length c0_3]] rfl Z0 ?_; (with_reducible refine ((ih k (by omega)).1 a0_0 a0_1 _ _ l0_2 _ _ l0_3 t118 _ ?side1 ?side2 ?side3 ?side4 A3.out).mono ?_); (case side1 => exact Zb); (case side2 => exact Z1V); (case side3 => exact Zf); (case side4 => exact Z22); rintro e w6 ⟨rfl, hb⟩; refine ⟨_, rfl, ?_⟩; have n_ := Y24 (Yg (g := gb117) (o := .cells #[.int .i64 a0_0, .string a0_1, .slice A0_2 l0_2.length c0_2, .slice A0_3 l0_3.length c0_3] 37 (0, 0)) QQ hb) (Y6 QB hb); clear BK117 HB; obtain ⟨BK117, HB⟩ := n_; (try clear hb); (try clear hb2); (try clear hk); (try clear hi)))
  go_ret
  exact Z2h
 ·rw [if_neg c2] at H
  have c2b0 : (a0_0 == 1) = false := beq_eq_false_iff_ne.mpr c2
  have c2b1 : (a0_0 != 1) = true := bne_iff_ne.mpr c2
  replace H := Option.bind_eq_some_iff.mp H
  obtain ⟨t119, A70, H⟩ := H
  replace H : (if 1 + t119.size ≤ 9223372036854775807 then (if 1 + t119.size + 1 ≤ 9223372036854775807 then (some (((⟨#[40]⟩ : ByteArray) ++ t119) ++ (⟨#[41]⟩ : ByteArray))) else (none)) else (none)) = some r := H
  have A7 := Y0.mk A70
  clear A70
  by_cases c8 : 1 + t119.size ≤ 9223372036854775807
  ·rw [if_pos c8] at H
   have c8b0 := eq_true c8
   have c8b1 : decide (1 + t119.size ≤ 9223372036854775807) = true := decide_eq_true c8
   try have c8b2 : (9223372036854775807 < 1 + t119.size) = False := eq_false (Nat.not_lt.2 c8)
   by_cases c9 : 1 + t119.size + 1 ≤ 9223372036854775807
   ·rw [if_pos c9] at H
    have c9b0 := eq_true c9
    have c9b1 : decide (1 + t119.size + 1 ≤ 9223372036854775807) = true := decide_eq_true c9
    try have c9b2 : (9223372036854775807 < 1 + t119.size + 1) = False := eq_false (Nat.not_lt.2 c9)
    obtain rfl := Option.some.inj H
    go_enter Tryd.func58, Tryd.ntmps58
    go_wp2_with (first | ((with_reducible refine Yz (N := 1) rfl ?_); refine Yu ?hg (N := 1) ?hd (cs := #[.int .i64 a0_0, .string a0_1, .slice A0_2 l0_2.length c0_2, .slice A0_3 l0_3.length c0_3]) (t := 37) ?hr ?_; (case hd => rfl); (case hg => rfl); (case hr => exact Z9); intro gb117 hg w10 hbox hb; have n_ := Y2n (Y6 QB hb) (hbox) ((by rw [hg]; exact (Y5 QB) : w.heap.size ≤ gb117)) ((by rw [hg]; exact (Y5 QB) : w.heap.size ≤ gb117)); clear HB; obtain ⟨HB, BK117, GW117, GE117⟩ := n_; clear hb hbox hg; obtain ⟨hcz11_0, hcz11_1, hcz11_2, hcz11_3, hfz11_0, hfz11_1, hfz11_2, hfz11_3⟩ := Yx BK117.out) | ((with_reducible refine Ym (f := 29) rfl ?_); refine YP (some 9) rfl rfl Tryd.func29 Z8 rfl #[.agg #[.int .i64 a0_0, .string a0_1, .slice A0_2 l0_2.length c0_2, .slice A0_3 l0_3.length c0_3]] rfl Z0 ?_; (with_reducible refine ((ih k (by omega)).1 a0_0 a0_1 _ _ l0_2 _ _ l0_3 t119 _ ?side1 ?side2 ?side3 ?side4 A7.out).mono ?_); (case side1 => exact Zb); (case side2 => exact Z1V); (case side3 => exact Zf); (case side4 => exact Z22); rintro e w12 ⟨rfl, hb⟩; refine ⟨_, rfl, ?_⟩; have n_ := Y24 (Yg (g := gb117) (o := .cells #[.int .i64 a0_0, .string a0_1, .slice A0_2 l0_2.length c0_2, .slice A0_3 l0_3.length c0_3] 37 (0, 0)) QQ hb) (Y6 QB hb); clear BK117 HB; obtain ⟨BK117, HB⟩ := n_; (try clear hb); (try clear hb2); (try clear hk); (try clear hi)))
    go_ret
    exact Z2h
   ·rw [if_neg c9] at H
    exact Zl
  ·rw [if_neg c8] at H
   exact Zl
theorem Y8.joint : ∀ k, Y8.Spec k ∧ Yv.Spec k := by
 intro k
 induction k using Nat.strongRecOn with
 | _ k ih => exact ⟨Y8.step k ih, Yv.step k ih⟩
theorem Y8.calls (k : Nat) : Y8.Spec k := (Y8.joint k).1
mutual
def triviumlaw12_QueryBlanks.j0 : Nat → Bool → Int → ByteArray → List ByteArray → List (S37) → Option (Bool)
 | 0, _, _, _, _, _ => none
 | k + 1, x19, x102000, x102001, x102002, x102003 => if x19 = true then (some true) else ((Y8.f k x102000 x102001 x102002 x102003).bind fun t104 => (triviumlaw12_QueryBlanks.l0 k t104 (⟨#[32]⟩ : ByteArray) false 0))
def triviumlaw12_QueryBlanks.l0 : Nat → ByteArray → ByteArray → Bool → Int → Option (Bool)
 | 0, _, _, _, _ => none
 | k + 1, x3, x4, x5, x6 => if x6 < (x3.size : Int) then (if 0 ≤ x6 then (if (bt x3 x6) = 60 then (if x6 ≤ (wrap64 (x6 + 1)) then (if (wrap64 (x6 + 1)) ≤ (x3.size : Int) then (if x4.size + (wrap64 (x6 + 1)).toNat - x6.toNat ≤ 9223372036854775807 then (triviumlaw12_QueryBlanks.l0 k x3 (x4 ++ (x3.extract (x6 : Int).toNat ((wrap64 (x6 + 1)) : Int).toNat)) true (wrap64 (x6 + 1))) else (none)) else (none)) else (none)) else (if x5 = true then (if x6 ≤ (wrap64 (x6 + 1)) then (if (wrap64 (x6 + 1)) ≤ (x3.size : Int) then (if x4.size + (wrap64 (x6 + 1)).toNat - x6.toNat ≤ 9223372036854775807 then (if (bt x3 x6) = 62 then (if (bt x3 x6) = 33 then (triviumlaw12_QueryBlanks.l0 k x3 (x4 ++ (x3.extract (x6 : Int).toNat ((wrap64 (x6 + 1)) : Int).toNat)) ((bt x3 x6) != 62) (wrap64 (x6 + 1))) else (if x4.size + ((wrap64 (x6 + 1)).toNat - x6.toNat) + 2 ≤ 9223372036854775807 then (triviumlaw12_QueryBlanks.l0 k x3 ((x4 ++ (x3.extract (x6 : Int).toNat ((wrap64 (x6 + 1)) : Int).toNat)) ++ (⟨#[32, 32]⟩ : ByteArray)) ((bt x3 x6) != 62) (wrap64 (x6 + 1))) else (none))) else (triviumlaw12_QueryBlanks.l0 k x3 (x4 ++ (x3.extract (x6 : Int).toNat ((wrap64 (x6 + 1)) : Int).toNat)) ((bt x3 x6) != 62) (wrap64 (x6 + 1)))) else (none)) else (none)) else (none)) else (if x6 ≤ (wrap64 (x6 + 1)) then (if (wrap64 (x6 + 1)) ≤ (x3.size : Int) then (if x4.size + (wrap64 (x6 + 1)).toNat - x6.toNat ≤ 9223372036854775807 then (if (bt x3 x6) = 33 then (triviumlaw12_QueryBlanks.l0 k x3 (x4 ++ (x3.extract (x6 : Int).toNat ((wrap64 (x6 + 1)) : Int).toNat)) false (wrap64 (x6 + 1))) else (if x4.size + ((wrap64 (x6 + 1)).toNat - x6.toNat) + 2 ≤ 9223372036854775807 then (triviumlaw12_QueryBlanks.l0 k x3 ((x4 ++ (x3.extract (x6 : Int).toNat ((wrap64 (x6 + 1)) : Int).toNat)) ++ (⟨#[32, 32]⟩ : ByteArray)) false (wrap64 (x6 + 1))) else (none))) else (none)) else (none)) else (none)))) else (none)) else ((Yt.f k x3).bind fun bt105 => ((Yt.f k x4).bind fun bt116 => (if (x4.size : Int) > 600 then (if bt116.2.2.2.2.2 = 4 then (if bt116.2.2.2.2.1 = 0 then ((YH.f k).bind fun t127 => (some t127)) else (some false)) else (some false)) else (if bt105.2.2.2.2.2 = bt116.2.2.2.2.2 then ((Y3.f k bt105.1 bt105.2.1 bt105.2.2.1 bt105.2.2.2.1 bt116.1 bt116.2.1 bt116.2.2.1 bt116.2.2.2.1).bind fun t128 => (if t128 = true then (if bt116.2.2.2.2.2 = 0 then (if bt116.2.2.2.2.1 = (x4.size : Int) then ((YH.f k).bind fun t129 => (some t129)) else (some false)) else ((YH.f k).bind fun t130 => (some t130))) else (some false))) else (some false)))))
end
def triviumlaw12_QueryBlanks.f (k : Nat) (a0_0 : Int) (a0_1 : ByteArray) (l0_2 : List ByteArray) (l0_3 : List (S37)) : Option (Bool) := (Yn.f k a0_0 a0_1 l0_2 l0_3 0).bind fun t102 => (if t102 = true then (triviumlaw12_QueryBlanks.j0 k true a0_0 a0_1 l0_2 l0_3) else ((Y18.f k a0_0 a0_1 l0_2 l0_3).bind fun t103 => (triviumlaw12_QueryBlanks.j0 k (!t103) a0_0 a0_1 l0_2 l0_3)))
set_option maxHeartbeats 8000000 in
set_option maxRecDepth 100000 in
theorem triviumlaw12_QueryBlanks.calls (k : Nat) (a0_0 : Int) (a0_1 : ByteArray) (A0_2 : Option Addr) (c0_2 : Nat) (l0_2 : List ByteArray) (A0_3 : Option Addr) (c0_3 : Nat) (l0_3 : List (S37)) (r : Bool) (w : World) (hT : Tabs w) (hr0_2 : Kd.C Kd.string w A0_2 l0_2.length l0_2) (hc0_2 : l0_2.length ≤ c0_2) (hr0_3 : Kd.C k37 w A0_3 l0_3.length l0_3) (hc0_3 : l0_3.length ≤ c0_3) (h : triviumlaw12_QueryBlanks.f k a0_0 a0_1 l0_2 l0_3 = some r) :
  Calls Tryd.prog 6 #[.agg #[.int .i64 a0_0, .string a0_1, .slice A0_2 l0_2.length c0_2, .slice A0_3 l0_3.length c0_3]] w fun e w' => e = .returned (.bool r) ∧ Below w.heap.size w w' := by
 have HT := Y0.mk hT
 clear hT
 have hu37 := Tryd.underlying37
 have HR0_2 := Y0.mk hr0_2
 have HC0_2 := Y0.mk hc0_2
 clear hr0_2 hc0_2
 have HR0_3 := Y0.mk hr0_3
 have HC0_3 := Y0.mk hc0_3
 clear hr0_3 hc0_3
 have HB := Y0.mk (Below.refl w.heap.size w)
 have H : ((Yn.f k a0_0 a0_1 l0_2 l0_3 0).bind fun t102 => (if t102 = true then (triviumlaw12_QueryBlanks.j0 k true a0_0 a0_1 l0_2 l0_3) else ((Y18.f k a0_0 a0_1 l0_2 l0_3).bind fun t103 => (triviumlaw12_QueryBlanks.j0 k (!t103) a0_0 a0_1 l0_2 l0_3)))) = some r := h
 clear h
 have HC2 := Y0.mk H
 clear H
 go_enter Tryd.func6, Tryd.ntmps6
 go_upto_region 1 with (first | ((with_reducible refine Yz (N := 1) rfl ?_); (try (refine YR (by rfl) ?_; dsimp only)); refine Yu ?hg (N := 1) ?hd (cs := #[.int .i64 a0_0, .string a0_1, .slice A0_2 l0_2.length c0_2, .slice A0_3 l0_3.length c0_3]) (t := 37) ?hr ?_; (case hd => rfl); (case hg => rfl); (case hr => exact Z9); intro gb101 hg w3 hbox hb; have n_ := Y2n (Y6 QB hb) (hbox) ((by rw [hg]; exact (Y5 QB) : w.heap.size ≤ gb101)) ((by rw [hg]; exact (Y5 QB) : w.heap.size ≤ gb101)); clear HB; obtain ⟨HB, BK101, GW101, GE101⟩ := n_; clear hb hbox hg))
 (try simp only [Act.put, List.setIfInBounds_toArray, List.set_cons_zero, List.set_cons_succ])
 go_cut [19] (fun v19 wc => ∃ (kq : Nat) (x19_1 : Bool), v19 = .bool x19_1 ∧ Y0 (triviumlaw12_QueryBlanks.j0 kq x19_1 a0_0 a0_1 l0_2 l0_3 = some r) ∧ Y0 (kq ≤ k) ∧ Y0 (wc.heap[gb101]? = some (.cells #[.int .i64 a0_0, .string a0_1, (.slice A0_2 l0_2.length c0_2), (.slice A0_3 l0_3.length c0_3)] 37 (0, 0))) ∧ Y0 (Below w.heap.size w wc))
 case first =>
  have H := HC2.out
  clear HC2
  replace H := Option.bind_eq_some_iff.mp H
  obtain ⟨t102, A40, H⟩ := H
  replace H : (if t102 = true then (triviumlaw12_QueryBlanks.j0 k true a0_0 a0_1 l0_2 l0_3) else ((Y18.f k a0_0 a0_1 l0_2 l0_3).bind fun t103 => (triviumlaw12_QueryBlanks.j0 k (!t103) a0_0 a0_1 l0_2 l0_3))) = some r := H
  have A4 := Y0.mk A40
  clear A40
  by_cases c5 : t102 = true
  ·subst c5
   have H1 : (triviumlaw12_QueryBlanks.j0 k true a0_0 a0_1 l0_2 l0_3) = some r := by rw [if_pos rfl] at H; exact H
   clear H
   have H := H1
   clear H1
   have H' := Y0.mk H
   clear H
   obtain ⟨hcz6_0, hcz6_1, hcz6_2, hcz6_3, hfz6_0, hfz6_1, hfz6_2, hfz6_3⟩ := Yx BK101.out
   go_wp2_with (first | ((with_reducible refine Ym (f := 22) rfl ?_); refine YP (some 14) rfl rfl Tryd.func22 Z8 rfl #[.agg #[.int .i64 a0_0, .string a0_1, .slice A0_2 l0_2.length c0_2, .slice A0_3 l0_3.length c0_3], .int .i64 0] rfl Z0 ?_; (with_reducible refine (Yn.calls k a0_0 a0_1 _ _ l0_2 _ _ l0_3 0 true _ ?side1 ?side2 ?side3 ?side4 A4.out).mono ?_); (case side1 => exact Zb); (case side2 => exact Z1V); (case side3 => exact Zf); (case side4 => exact Z22); rintro e w7 ⟨rfl, hb⟩; refine ⟨_, rfl, ?_⟩; have n_ := Y24 (Yg (g := gb101) (o := .cells #[.int .i64 a0_0, .string a0_1, .slice A0_2 l0_2.length c0_2, .slice A0_3 l0_3.length c0_3] 37 (0, 0)) QQ hb) (Y6 QB hb); clear BK101 HB; obtain ⟨BK101, HB⟩ := n_; (try clear hb); (try clear hb2); (try clear hk); (try clear hi)))
   go_meet
   case rel => exact Z2i
  ·replace c5 := Bool.eq_false_iff.mpr c5
   subst c5
   have H1 : ((Y18.f k a0_0 a0_1 l0_2 l0_3).bind fun t103 => (triviumlaw12_QueryBlanks.j0 k (!t103) a0_0 a0_1 l0_2 l0_3)) = some r := by rw [if_neg (show ¬ (false = true) by decide)] at H; exact H
   clear H
   have H := H1
   clear H1
   replace H := Option.bind_eq_some_iff.mp H
   obtain ⟨t103, A80, H⟩ := H
   replace H : (triviumlaw12_QueryBlanks.j0 k (!t103) a0_0 a0_1 l0_2 l0_3) = some r := H
   have A8 := Y0.mk A80
   clear A80
   have H' := Y0.mk H
   clear H
   obtain ⟨hcz9_0, hcz9_1, hcz9_2, hcz9_3, hfz9_0, hfz9_1, hfz9_2, hfz9_3⟩ := Yx BK101.out
   go_wp2_with (first | ((with_reducible refine Ym (f := 22) rfl ?_); refine YP (some 14) rfl rfl Tryd.func22 Z8 rfl #[.agg #[.int .i64 a0_0, .string a0_1, .slice A0_2 l0_2.length c0_2, .slice A0_3 l0_3.length c0_3], .int .i64 0] rfl Z0 ?_; (with_reducible refine (Yn.calls k a0_0 a0_1 _ _ l0_2 _ _ l0_3 0 false _ ?side1 ?side2 ?side3 ?side4 A4.out).mono ?_); (case side1 => exact Zb); (case side2 => exact Z1V); (case side3 => exact Zf); (case side4 => exact Z22); rintro e w10 ⟨rfl, hb⟩; refine ⟨_, rfl, ?_⟩; have n_ := Y24 (Yg (g := gb101) (o := .cells #[.int .i64 a0_0, .string a0_1, .slice A0_2 l0_2.length c0_2, .slice A0_3 l0_3.length c0_3] 37 (0, 0)) QQ hb) (Y6 QB hb); clear BK101 HB; obtain ⟨BK101, HB⟩ := n_; (try clear hb); (try clear hb2); (try clear hk); (try clear hi); obtain ⟨hcz11_0, hcz11_1, hcz11_2, hcz11_3, hfz11_0, hfz11_1, hfz11_2, hfz11_3⟩ := Yx BK101.out) | (go_at_call 23; (with_reducible refine (Y18.calls k a0_0 a0_1 _ _ l0_2 _ _ l0_3 t103 _ ?side1 ?side2 ?side3 ?side4 ?side5 A8.out).mono ?_); (case side1 => exact Z3); (case side2 => exact Zb); (case side3 => exact Z1V); (case side4 => exact Zf); (case side5 => exact Z22); rintro e w12 ⟨rfl, hb⟩; have n_ := Y24 (Yg (g := gb101) (o := .cells #[.int .i64 a0_0, .string a0_1, .slice A0_2 l0_2.length c0_2, .slice A0_3 l0_3.length c0_3] 37 (0, 0)) QQ hb) (Y6 QB hb); clear BK101 HB; obtain ⟨BK101, HB⟩ := n_; (try clear hb); (try clear hb2); (try clear hk); (try clear hi)))
   go_meet
   case rel => exact ⟨_, (!t103), Z7, H', ⟨Zz⟩, ⟨Z5⟩, ⟨QB⟩⟩
 case rest =>
  clear HC2
  try clear c2
  try clear p2
  try clear c5
  try clear c6
  try clear hcz11_0 hcz11_1 hcz11_2 hcz11_3
  try clear hcz6_0 hcz6_1 hcz6_2 hcz6_3
  try clear hcz9_0 hcz9_1 hcz9_2 hcz9_3
  try clear hfz11_0
  try clear hfz11_1
  try clear hfz11_2
  try clear hfz11_3
  try clear hfz6_0
  try clear hfz6_1
  try clear hfz6_2
  try clear hfz6_3
  try clear hfz9_0
  try clear hfz9_1
  try clear hfz9_2
  try clear hfz9_3
  obtain ⟨kq, x19_1, rfl, HA, HJ1, BK101, HB⟩ := hcut
  cases kq with
  | zero => exact absurd HA.out (by simp [triviumlaw12_QueryBlanks.j0])
  | succ kj1 =>
   have H := HA.out
   clear HA
   simp only [triviumlaw12_QueryBlanks.j0] at H
   by_cases c13 : x19_1 = true
   ·subst c13
    have H1 : (some true) = some r := by rw [if_pos rfl] at H; exact H
    clear H
    have H := H1
    clear H1
    obtain rfl := Option.some.inj H
    go_wp2
    go_ret
    exact Z2h
   ·replace c13 := Bool.eq_false_iff.mpr c13
    subst c13
    have H1 : ((Y8.f kj1 a0_0 a0_1 l0_2 l0_3).bind fun t104 => (triviumlaw12_QueryBlanks.l0 kj1 t104 (⟨#[32]⟩ : ByteArray) false 0)) = some r := by rw [if_neg (show ¬ (false = true) by decide)] at H; exact H
    clear H
    have H := H1
    clear H1
    replace H := Option.bind_eq_some_iff.mp H
    obtain ⟨t104, A140, H⟩ := H
    replace H : (triviumlaw12_QueryBlanks.l0 kj1 t104 (⟨#[32]⟩ : ByteArray) false 0) = some r := H
    have A14 := Y0.mk A140
    clear A140
    have H' := Y0.mk H
    clear H
    obtain ⟨hcz15_0, hcz15_1, hcz15_2, hcz15_3, hfz15_0, hfz15_1, hfz15_2, hfz15_3⟩ := Yx BK101.out
    go_wp2_with (first | ((with_reducible refine Ym (f := 29) rfl ?_); refine YP (some 21) rfl rfl Tryd.func29 Z8 rfl #[.agg #[.int .i64 a0_0, .string a0_1, .slice A0_2 l0_2.length c0_2, .slice A0_3 l0_3.length c0_3]] rfl Z0 ?_; (with_reducible refine (Y8.calls kj1 a0_0 a0_1 _ _ l0_2 _ _ l0_3 t104 _ ?side1 ?side2 ?side3 ?side4 A14.out).mono ?_); (case side1 => exact Zb); (case side2 => exact Z1V); (case side3 => exact Zf); (case side4 => exact Z22); rintro e w16 ⟨rfl, hb⟩; refine ⟨_, rfl, ?_⟩; have n_ := Y24 (Yg (g := gb101) (o := .cells #[.int .i64 a0_0, .string a0_1, .slice A0_2 l0_2.length c0_2, .slice A0_3 l0_3.length c0_3] 37 (0, 0)) QQ hb) (Y6 QB hb); clear BK101 HB; obtain ⟨BK101, HB⟩ := n_; (try clear hb); (try clear hb2); (try clear hk); (try clear hi)))
    go_loopg [4, 5, 6] kj1 (fun kq v4 v5 v6 w' => ∃ (x4_2 : ByteArray) (x5_2 : Bool) (x6_2 : Int), v4 = .string x4_2 ∧ v5 = .bool x5_2 ∧ v6 = .int .i64 x6_2 ∧ Y0 (triviumlaw12_QueryBlanks.l0 kq t104 x4_2 x5_2 x6_2 = some r) ∧ Y0 (kq ≤ kj1) ∧ Y0 (w'.heap[gb101]? = some (.cells #[.int .i64 a0_0, .string a0_1, (.slice A0_2 l0_2.length c0_2), (.slice A0_3 l0_3.length c0_3)] 37 (0, 0))) ∧ Y0 (Below w.heap.size w w'))
    case atStart => exact ⟨((⟨#[32]⟩ : ByteArray)), (false), (0), Z7, Z7, Z7, H', ⟨Nat.le_refl _⟩, ⟨Z5⟩, ⟨QB⟩⟩
    case round =>
     clear H'
     try clear c1
     try clear c2
     try clear p2
     try clear c5
     try clear c6
     try clear c13
     try clear hcz11_0 hcz11_1 hcz11_2 hcz11_3
     try clear hcz15_0 hcz15_1 hcz15_2 hcz15_3
     try clear hcz6_0 hcz6_1 hcz6_2 hcz6_3
     try clear hcz9_0 hcz9_1 hcz9_2 hcz9_3
     try clear hfz11_0
     try clear hfz11_1
     try clear hfz11_2
     try clear hfz11_3
     try clear hfz15_0
     try clear hfz15_1
     try clear hfz15_2
     try clear hfz15_3
     try clear hfz6_0
     try clear hfz6_1
     try clear hfz6_2
     try clear hfz6_3
     try clear hfz9_0
     try clear hfz9_1
     try clear hfz9_2
     try clear hfz9_3
     try clear p2
     obtain ⟨x4_2, x5_2, x6_2, rfl, rfl, rfl, HA, HK2, BK101, HB⟩ := hrel
     cases gk with
     | zero => exact absurd HA.out (by simp [triviumlaw12_QueryBlanks.l0])
     | succ k2 =>
      have H := HA.out
      clear HA
      simp only [triviumlaw12_QueryBlanks.l0] at H
      by_cases c17 : x6_2 < (t104.size : Int)
      ·rw [if_pos c17] at H
       have c17b0 : decide (x6_2 < (t104.size : Int)) = true := decide_eq_true c17
       clear c17
       by_cases c18 : 0 ≤ x6_2
       ·rw [if_pos c18] at H
        have c18b0 : decide (0 ≤ x6_2) = true := decide_eq_true c18
        clear c18
        by_cases c20 : (bt t104 x6_2) = 60
        ·rw [if_pos c20] at H
         have c20b0 : ((bt t104 x6_2) == 60) = true := beq_iff_eq.mpr c20
         have c20b1 : ((bt t104 x6_2) != 60) = false := bne_eq_false_iff_eq.mpr c20
         clear c20
         have c21b0 := eq_true (of_decide_eq_true Z6 : 0 ≤ x6_2)
         by_cases c22 : x6_2 ≤ (wrap64 (x6_2 + 1))
         ·rw [if_pos c22] at H
          have c22b0 := eq_true c22
          have c22b1 : decide (x6_2 ≤ (wrap64 (x6_2 + 1))) = true := decide_eq_true c22
          by_cases c23 : (wrap64 (x6_2 + 1)) ≤ (t104.size : Int)
          ·rw [if_pos c23] at H
           have c23b0 := eq_true c23
           have c23b1 : decide ((wrap64 (x6_2 + 1)) ≤ (t104.size : Int)) = true := decide_eq_true c23
           by_cases c24 : x4_2.size + (wrap64 (x6_2 + 1)).toNat - x6_2.toNat ≤ 9223372036854775807
           ·rw [if_pos c24] at H
            have c24b0 := eq_true c24
            have c24b1 : decide (x4_2.size + (wrap64 (x6_2 + 1)).toNat - x6_2.toNat ≤ 9223372036854775807) = true := decide_eq_true c24
            try have c24b2 : (9223372036854775807 < x4_2.size + (wrap64 (x6_2 + 1)).toNat - x6_2.toNat) = False := eq_false (Nat.not_lt.2 c24)
            have H' := Y0.mk H
            clear H
            have p19 : 0 ≤ (x6_2 : Int) := of_decide_eq_true Z6
            have q19 : x6_2 < (t104.size : Int) := of_decide_eq_true Z6
            have hx19 := Y32 t104 x6_2
            replace p19 := eq_true p19
            replace q19 := eq_true q19
            go_wp2
            go_roundg k2
            case measure => have := HJ1.out; have := HK2.out; omega
            case rel => exact ⟨(x4_2 ++ (t104.extract (x6_2 : Int).toNat ((wrap64 (x6_2 + 1)) : Int).toNat)), (true), (wrap64 (x6_2 + 1)), Z7, Z7, Z7, H', ⟨Z1s⟩, ⟨Z5⟩, ⟨QB⟩⟩
           ·rw [if_neg c24] at H
            exact Zl
          ·rw [if_neg c23] at H
           exact Zl
         ·rw [if_neg c22] at H
          exact Zl
        ·rw [if_neg c20] at H
         have c20b0 : ((bt t104 x6_2) == 60) = false := beq_eq_false_iff_ne.mpr c20
         have c20b1 : ((bt t104 x6_2) != 60) = true := bne_iff_ne.mpr c20
         by_cases c25 : x5_2 = true
         ·subst c25
          have H1 : (if x6_2 ≤ (wrap64 (x6_2 + 1)) then (if (wrap64 (x6_2 + 1)) ≤ (t104.size : Int) then (if x4_2.size + (wrap64 (x6_2 + 1)).toNat - x6_2.toNat ≤ 9223372036854775807 then (if (bt t104 x6_2) = 62 then (if (bt t104 x6_2) = 33 then (triviumlaw12_QueryBlanks.l0 k2 t104 (x4_2 ++ (t104.extract (x6_2 : Int).toNat ((wrap64 (x6_2 + 1)) : Int).toNat)) ((bt t104 x6_2) != 62) (wrap64 (x6_2 + 1))) else (if x4_2.size + ((wrap64 (x6_2 + 1)).toNat - x6_2.toNat) + 2 ≤ 9223372036854775807 then (triviumlaw12_QueryBlanks.l0 k2 t104 ((x4_2 ++ (t104.extract (x6_2 : Int).toNat ((wrap64 (x6_2 + 1)) : Int).toNat)) ++ (⟨#[32, 32]⟩ : ByteArray)) ((bt t104 x6_2) != 62) (wrap64 (x6_2 + 1))) else (none))) else (triviumlaw12_QueryBlanks.l0 k2 t104 (x4_2 ++ (t104.extract (x6_2 : Int).toNat ((wrap64 (x6_2 + 1)) : Int).toNat)) ((bt t104 x6_2) != 62) (wrap64 (x6_2 + 1)))) else (none)) else (none)) else (none)) = some r := by rw [if_pos rfl] at H; exact H
          clear H
          have H := H1
          clear H1
          have c27b0 := eq_true (of_decide_eq_true Z6 : 0 ≤ x6_2)
          by_cases c28 : x6_2 ≤ (wrap64 (x6_2 + 1))
          ·rw [if_pos c28] at H
           have c28b0 := eq_true c28
           have c28b1 : decide (x6_2 ≤ (wrap64 (x6_2 + 1))) = true := decide_eq_true c28
           by_cases c29 : (wrap64 (x6_2 + 1)) ≤ (t104.size : Int)
           ·rw [if_pos c29] at H
            have c29b0 := eq_true c29
            have c29b1 : decide ((wrap64 (x6_2 + 1)) ≤ (t104.size : Int)) = true := decide_eq_true c29
            by_cases c30 : x4_2.size + (wrap64 (x6_2 + 1)).toNat - x6_2.toNat ≤ 9223372036854775807
            ·rw [if_pos c30] at H
             have c30b0 := eq_true c30
             have c30b1 : decide (x4_2.size + (wrap64 (x6_2 + 1)).toNat - x6_2.toNat ≤ 9223372036854775807) = true := decide_eq_true c30
             try have c30b2 : (9223372036854775807 < x4_2.size + (wrap64 (x6_2 + 1)).toNat - x6_2.toNat) = False := eq_false (Nat.not_lt.2 c30)
             by_cases c31 : (bt t104 x6_2) = 62
             ·rw [if_pos c31] at H
              have c31b0 : ((bt t104 x6_2) == 62) = true := beq_iff_eq.mpr c31
              have c31b1 : ((bt t104 x6_2) != 62) = false := bne_eq_false_iff_eq.mpr c31
              clear c31
              by_cases c33 : (bt t104 x6_2) = 33
              ·rw [if_pos c33] at H
               have c33b0 : ((bt t104 x6_2) == 33) = true := beq_iff_eq.mpr c33
               have c33b1 : ((bt t104 x6_2) != 33) = false := bne_eq_false_iff_eq.mpr c33
               clear c33
               have H' := Y0.mk H
               clear H
               have p19 : 0 ≤ (x6_2 : Int) := of_decide_eq_true Z6
               have q19 : x6_2 < (t104.size : Int) := of_decide_eq_true Z6
               have hx19 := Y32 t104 x6_2
               replace p19 := eq_true p19
               replace q19 := eq_true q19
               have p26 : 0 ≤ (x6_2 : Int) := of_decide_eq_true Z6
               have q26 : x6_2 < (t104.size : Int) := of_decide_eq_true Z6
               have hx26 := Y32 t104 x6_2
               replace p26 := eq_true p26
               replace q26 := eq_true q26
               have p32 : 0 ≤ (x6_2 : Int) := of_decide_eq_true Z6
               have q32 : x6_2 < (t104.size : Int) := of_decide_eq_true Z6
               have hx32 := Y32 t104 x6_2
               replace p32 := eq_true p32
               replace q32 := eq_true q32
               go_wp2
               go_roundg k2
               case measure => have := HJ1.out; have := HK2.out; omega
               case rel => exact Z2j
              ·rw [if_neg c33] at H
               have c33b0 : ((bt t104 x6_2) == 33) = false := beq_eq_false_iff_ne.mpr c33
               have c33b1 : ((bt t104 x6_2) != 33) = true := bne_iff_ne.mpr c33
               by_cases c34 : x4_2.size + ((wrap64 (x6_2 + 1)).toNat - x6_2.toNat) + 2 ≤ 9223372036854775807
               ·rw [if_pos c34] at H
                have c34b0 := eq_true c34
                have c34b1 : decide (x4_2.size + ((wrap64 (x6_2 + 1)).toNat - x6_2.toNat) + 2 ≤ 9223372036854775807) = true := decide_eq_true c34
                try have c34b2 : (9223372036854775807 < x4_2.size + ((wrap64 (x6_2 + 1)).toNat - x6_2.toNat) + 2) = False := eq_false (Nat.not_lt.2 c34)
                have H' := Y0.mk H
                clear H
                have p19 : 0 ≤ (x6_2 : Int) := of_decide_eq_true Z6
                have q19 : x6_2 < (t104.size : Int) := of_decide_eq_true Z6
                have hx19 := Y32 t104 x6_2
                replace p19 := eq_true p19
                replace q19 := eq_true q19
                have p26 : 0 ≤ (x6_2 : Int) := of_decide_eq_true Z6
                have q26 : x6_2 < (t104.size : Int) := of_decide_eq_true Z6
                have hx26 := Y32 t104 x6_2
                replace p26 := eq_true p26
                replace q26 := eq_true q26
                have p32 : 0 ≤ (x6_2 : Int) := of_decide_eq_true Z6
                have q32 : x6_2 < (t104.size : Int) := of_decide_eq_true Z6
                have hx32 := Y32 t104 x6_2
                replace p32 := eq_true p32
                replace q32 := eq_true q32
                go_wp2
                go_roundg k2
                case measure => have := HJ1.out; have := HK2.out; omega
                case rel => exact ⟨((x4_2 ++ (t104.extract (x6_2 : Int).toNat ((wrap64 (x6_2 + 1)) : Int).toNat)) ++ (⟨#[32, 32]⟩ : ByteArray)), (((bt t104 x6_2) != 62)), (wrap64 (x6_2 + 1)), Z7, Z7, Z7, H', ⟨Z1s⟩, ⟨Z5⟩, ⟨QB⟩⟩
               ·rw [if_neg c34] at H
                exact Zl
             ·rw [if_neg c31] at H
              have c31b0 : ((bt t104 x6_2) == 62) = false := beq_eq_false_iff_ne.mpr c31
              have c31b1 : ((bt t104 x6_2) != 62) = true := bne_iff_ne.mpr c31
              have H' := Y0.mk H
              clear H
              have p19 : 0 ≤ (x6_2 : Int) := of_decide_eq_true Z6
              have q19 : x6_2 < (t104.size : Int) := of_decide_eq_true Z6
              have hx19 := Y32 t104 x6_2
              replace p19 := eq_true p19
              replace q19 := eq_true q19
              have p26 : 0 ≤ (x6_2 : Int) := of_decide_eq_true Z6
              have q26 : x6_2 < (t104.size : Int) := of_decide_eq_true Z6
              have hx26 := Y32 t104 x6_2
              replace p26 := eq_true p26
              replace q26 := eq_true q26
              go_wp2
              go_roundg k2
              case measure => have := HJ1.out; have := HK2.out; omega
              case rel => exact Z2j
            ·rw [if_neg c30] at H
             exact Zl
           ·rw [if_neg c29] at H
            exact Zl
          ·rw [if_neg c28] at H
           exact Zl
         ·replace c25 := Bool.eq_false_iff.mpr c25
          subst c25
          have H1 : (if x6_2 ≤ (wrap64 (x6_2 + 1)) then (if (wrap64 (x6_2 + 1)) ≤ (t104.size : Int) then (if x4_2.size + (wrap64 (x6_2 + 1)).toNat - x6_2.toNat ≤ 9223372036854775807 then (if (bt t104 x6_2) = 33 then (triviumlaw12_QueryBlanks.l0 k2 t104 (x4_2 ++ (t104.extract (x6_2 : Int).toNat ((wrap64 (x6_2 + 1)) : Int).toNat)) false (wrap64 (x6_2 + 1))) else (if x4_2.size + ((wrap64 (x6_2 + 1)).toNat - x6_2.toNat) + 2 ≤ 9223372036854775807 then (triviumlaw12_QueryBlanks.l0 k2 t104 ((x4_2 ++ (t104.extract (x6_2 : Int).toNat ((wrap64 (x6_2 + 1)) : Int).toNat)) ++ (⟨#[32, 32]⟩ : ByteArray)) false (wrap64 (x6_2 + 1))) else (none))) else (none)) else (none)) else (none)) = some r := by rw [if_neg (show ¬ (false = true) by decide)] at H; exact H
          clear H
          have H := H1
          clear H1
          have c35b0 := eq_true (of_decide_eq_true Z6 : 0 ≤ x6_2)
          by_cases c36 : x6_2 ≤ (wrap64 (x6_2 + 1))
          ·rw [if_pos c36] at H
           have c36b0 := eq_true c36
           have c36b1 : decide (x6_2 ≤ (wrap64 (x6_2 + 1))) = true := decide_eq_true c36
           by_cases c37 : (wrap64 (x6_2 + 1)) ≤ (t104.size : Int)
           ·rw [if_pos c37] at H
            have c37b0 := eq_true c37
            have c37b1 : decide ((wrap64 (x6_2 + 1)) ≤ (t104.size : Int)) = true := decide_eq_true c37
            by_cases c38 : x4_2.size + (wrap64 (x6_2 + 1)).toNat - x6_2.toNat ≤ 9223372036854775807
            ·rw [if_pos c38] at H
             have c38b0 := eq_true c38
             have c38b1 : decide (x4_2.size + (wrap64 (x6_2 + 1)).toNat - x6_2.toNat ≤ 9223372036854775807) = true := decide_eq_true c38
             try have c38b2 : (9223372036854775807 < x4_2.size + (wrap64 (x6_2 + 1)).toNat - x6_2.toNat) = False := eq_false (Nat.not_lt.2 c38)
             by_cases c40 : (bt t104 x6_2) = 33
             ·rw [if_pos c40] at H
              have c40b0 : ((bt t104 x6_2) == 33) = true := beq_iff_eq.mpr c40
              have c40b1 : ((bt t104 x6_2) != 33) = false := bne_eq_false_iff_eq.mpr c40
              clear c40
              have H' := Y0.mk H
              clear H
              have p19 : 0 ≤ (x6_2 : Int) := of_decide_eq_true Z6
              have q19 : x6_2 < (t104.size : Int) := of_decide_eq_true Z6
              have hx19 := Y32 t104 x6_2
              replace p19 := eq_true p19
              replace q19 := eq_true q19
              have p39 : 0 ≤ (x6_2 : Int) := of_decide_eq_true Z6
              have q39 : x6_2 < (t104.size : Int) := of_decide_eq_true Z6
              have hx39 := Y32 t104 x6_2
              replace p39 := eq_true p39
              replace q39 := eq_true q39
              go_wp2
              go_roundg k2
              case measure => have := HJ1.out; have := HK2.out; omega
              case rel => exact ⟨(x4_2 ++ (t104.extract (x6_2 : Int).toNat ((wrap64 (x6_2 + 1)) : Int).toNat)), (false), (wrap64 (x6_2 + 1)), Z7, Z7, Z7, H', ⟨Z1s⟩, ⟨Z5⟩, ⟨QB⟩⟩
             ·rw [if_neg c40] at H
              have c40b0 : ((bt t104 x6_2) == 33) = false := beq_eq_false_iff_ne.mpr c40
              have c40b1 : ((bt t104 x6_2) != 33) = true := bne_iff_ne.mpr c40
              by_cases c41 : x4_2.size + ((wrap64 (x6_2 + 1)).toNat - x6_2.toNat) + 2 ≤ 9223372036854775807
              ·rw [if_pos c41] at H
               have c41b0 := eq_true c41
               have c41b1 : decide (x4_2.size + ((wrap64 (x6_2 + 1)).toNat - x6_2.toNat) + 2 ≤ 9223372036854775807) = true := decide_eq_true c41
               try have c41b2 : (9223372036854775807 < x4_2.size + ((wrap64 (x6_2 + 1)).toNat - x6_2.toNat) + 2) = False := eq_false (Nat.not_lt.2 c41)
               have H' := Y0.mk H
               clear H
               have p19 : 0 ≤ (x6_2 : Int) := of_decide_eq_true Z6
               have q19 : x6_2 < (t104.size : Int) := of_decide_eq_true Z6
               have hx19 := Y32 t104 x6_2
               replace p19 := eq_true p19
               replace q19 := eq_true q19
               have p39 : 0 ≤ (x6_2 : Int) := of_decide_eq_true Z6
               have q39 : x6_2 < (t104.size : Int) := of_decide_eq_true Z6
               have hx39 := Y32 t104 x6_2
               replace p39 := eq_true p39
               replace q39 := eq_true q39
               go_wp2
               go_roundg k2
               case measure => have := HJ1.out; have := HK2.out; omega
               case rel => exact ⟨((x4_2 ++ (t104.extract (x6_2 : Int).toNat ((wrap64 (x6_2 + 1)) : Int).toNat)) ++ (⟨#[32, 32]⟩ : ByteArray)), (false), (wrap64 (x6_2 + 1)), Z7, Z7, Z7, H', ⟨Z1s⟩, ⟨Z5⟩, ⟨QB⟩⟩
              ·rw [if_neg c41] at H
               exact Zl
            ·rw [if_neg c38] at H
             exact Zl
           ·rw [if_neg c37] at H
            exact Zl
          ·rw [if_neg c36] at H
           exact Zl
       ·rw [if_neg c18] at H
        exact Zl
      ·rw [if_neg c17] at H
       have c17b0 : decide (x6_2 < (t104.size : Int)) = false := decide_eq_false c17
       clear c17
       replace H := Option.bind_eq_some_iff.mp H
       obtain ⟨⟨t105, t106, t107, t110, t113, t114⟩, A420, H⟩ := H
       replace H : ((Yt.f k2 x4_2).bind fun bt116 => (if (x4_2.size : Int) > 600 then (if bt116.2.2.2.2.2 = 4 then (if bt116.2.2.2.2.1 = 0 then ((YH.f k2).bind fun t127 => (some t127)) else (some false)) else (some false)) else (if t114 = bt116.2.2.2.2.2 then ((Y3.f k2 t105 t106 t107 t110 bt116.1 bt116.2.1 bt116.2.2.1 bt116.2.2.2.1).bind fun t128 => (if t128 = true then (if bt116.2.2.2.2.2 = 0 then (if bt116.2.2.2.2.1 = (x4_2.size : Int) then ((YH.f k2).bind fun t129 => (some t129)) else (some false)) else ((YH.f k2).bind fun t130 => (some t130))) else (some false))) else (some false)))) = some r := H
       have A42 := Y0.mk A420
       clear A420
       replace H := Option.bind_eq_some_iff.mp H
       obtain ⟨⟨t116, t117, t118, t121, t124, t125⟩, A430, H⟩ := H
       replace H : (if (x4_2.size : Int) > 600 then (if t125 = 4 then (if t124 = 0 then ((YH.f k2).bind fun t127 => (some t127)) else (some false)) else (some false)) else (if t114 = t125 then ((Y3.f k2 t105 t106 t107 t110 t116 t117 t118 t121).bind fun t128 => (if t128 = true then (if t125 = 0 then (if t124 = (x4_2.size : Int) then ((YH.f k2).bind fun t129 => (some t129)) else (some false)) else ((YH.f k2).bind fun t130 => (some t130))) else (some false))) else (some false))) = some r := H
       have A43 := Y0.mk A430
       clear A430
       by_cases c44 : (x4_2.size : Int) > 600
       ·rw [if_pos c44] at H
        have c44b0 : decide (600 < (x4_2.size : Int)) = true := decide_eq_true c44
        have c44b1 : decide (600 < x4_2.size) = true := decide_eq_true (by omega)
        clear c44
        by_cases c45 : t125 = 4
        ·rw [if_pos c45] at H
         have c45b0 : (t125 == 4) = true := beq_iff_eq.mpr c45
         have c45b1 : (t125 != 4) = false := bne_eq_false_iff_eq.mpr c45
         clear c45
         by_cases c46 : t124 = 0
         ·rw [if_pos c46] at H
          have c46b0 : (t124 == 0) = true := beq_iff_eq.mpr c46
          have c46b1 : (t124 != 0) = false := bne_eq_false_iff_eq.mpr c46
          clear c46
          replace H := Option.bind_eq_some_iff.mp H
          obtain ⟨t127, A470, H⟩ := H
          replace H : (some t127) = some r := H
          have A47 := Y0.mk A470
          clear A470
          obtain rfl := Option.some.inj H
          go_wp2_with (first | ((with_reducible refine Ym (f := 25) rfl ?_); refine YP (some 60) rfl rfl Tryd.func25 Z8 rfl #[.string t104] rfl Z0 ?_; (with_reducible refine (Yt.calls k2 t104 t105 t106 t107 t110 t113 t114 _ ?side1 A42.out).mono ?_); (case side1 => exact Z3); rintro e w48 ⟨v108, v111, rfl, ho0, ho1, hb⟩; refine ⟨_, rfl, ?_⟩; have n_ := Y2n (Kd.R_lower (Kd.R_mono (ok' := fun k_ => True) ho0 (fun _ hk_ => trivial)) (Y5 QB)) (Kd.N_lower (Kd.N_mono (ok' := fun k_ => some k_ ≠ (v108 : Value).ownBlock ∧ k_ ≠ gb101) ho1 (fun k_ hk_ => ⟨hk_.2, (Kd.freshB (g := gb101) (o := .cells #[.int .i64 a0_0, .string a0_1, .slice A0_2 l0_2.length c0_2, .slice A0_3 l0_3.length c0_3] 37 (0, 0)) QQ k_ hk_.1)⟩)) (Y5 QB)) (Yg (g := gb101) (o := .cells #[.int .i64 a0_0, .string a0_1, .slice A0_2 l0_2.length c0_2, .slice A0_3 l0_3.length c0_3] 37 (0, 0)) QQ hb) (Y6 QB hb); clear BK101 HB; obtain ⟨HO109, HO112, BK101, HB⟩ := n_; (try clear hb); (try clear hb2); (try clear hk); (try clear hi); (try clear ho0); (try clear ho1)) | ((with_reducible refine Yz (N := 7) rfl ?_); (try (refine YR (by rfl) ?_; dsimp only)); refine Yu ?hg (N := 7) ?hd (cs := #[.int .i64 0, .string (⟨#[]⟩ : ByteArray), .slice none 0 0, .slice none 0 0]) (t := 37) ?hr ?_; (case hd => rfl); (case hg => rfl); (case hr => exact Z9); intro gb115 hg w49 hbox hb; have n_ := put9 (Kd.R_below Zh hb) (Kd.N_below (Kd.N_elderB Zg gb115 (Nat.le_of_eq hg.symm)) hb) (Yg (g := gb101) (o := .cells #[.int .i64 a0_0, .string a0_1, .slice A0_2 l0_2.length c0_2, .slice A0_3 l0_3.length c0_3] 37 (0, 0)) QQ hb) (Y6 QB hb) (hbox) ((by rw [hg]; exact (Y5 QB) : w.heap.size ≤ gb115)) ((by rw [hg]; exact (Y5 QB) : w.heap.size ≤ gb115)) ((by rw [hg]; exact Nat.ne_of_lt (YT (g := gb101) (o := .cells #[.int .i64 a0_0, .string a0_1, .slice A0_2 l0_2.length c0_2, .slice A0_3 l0_3.length c0_3] 37 (0, 0)) QQ) : gb101 ≠ gb115)) ((by rw [hg]; exact Nat.ne_of_gt (YT (g := gb101) (o := .cells #[.int .i64 a0_0, .string a0_1, .slice A0_2 l0_2.length c0_2, .slice A0_3 l0_3.length c0_3] 37 (0, 0)) QQ) : gb115 ≠ gb101)); clear HO109 HO112 BK101 HB; obtain ⟨HO109, HO112, BK101, HB, BK115, GW115, GE115, NB101_115, NB115_101⟩ := n_; clear hb hbox hg; have hnb50 := NB115_101.out; have hnc50 := NB101_115.out; obtain ⟨hcz51_0, hcz51_1, hcz51_2, hcz51_3, hfz51_0, hfz51_1, hfz51_2, hfz51_3⟩ := Yx BK115.out; obtain ⟨Ao52, co52, eo52⟩ := Kd.R_slice HO109.out; subst eo52; obtain ⟨Ao53, co53, eo53⟩ := Kd.N_slice HO112.out; subst eo53) | ((with_reducible refine Ym (f := 25) rfl ?_); refine YP (some 66) rfl rfl Tryd.func25 Z8 rfl #[.string x4_2] rfl Z0 ?_; (with_reducible refine (Yt.calls k2 x4_2 t116 t117 t118 t121 t124 t125 _ ?side1 A43.out).mono ?_); (case side1 => exact Z3); rintro e w54 ⟨v119, v122, rfl, ho0, ho1, hb⟩; refine ⟨_, rfl, ?_⟩; have n0_ := Y0.mk (Kd.R_elder' Zt (Kd.R_base ho0) hb); have n1_ := Y0.mk (Kd.N_mono (Kd.N_told (Kd.N_told (Kd.N_old ZX hb) (Kd.R_base ho0)) (Kd.N_base ho1)) (fun _ h_ => h_.1)); have n2_ := Y0.mk (Kd.R_lower (Kd.R_new' (Kd.R_mono (ok' := fun k_ => True) ho0 (fun _ hk_ => trivial)) (Kd.R_lt Zt)) (Y5 QB)); have n3_ := Y0.mk (Kd.N_lower (Kd.N_mono (ok' := fun k_ => some k_ ≠ (v119 : Value).ownBlock ∧ some k_ ≠ (.slice Ao52 t107.length co52 : Value).ownBlock ∧ some k_ ≠ (.slice Ao53 t110.length co53 : Value).ownBlock ∧ k_ ≠ gb101 ∧ k_ ≠ gb115) ho1 (fun k_ hk_ => ⟨hk_.2, (Kd.fresh' (Kd.R_lt Zt) k_ hk_.1), (Kd.fresh' (Kd.N_lt ZX) k_ hk_.1), (Kd.freshB (g := gb101) (o := .cells #[.int .i64 a0_0, .string a0_1, .slice A0_2 l0_2.length c0_2, .slice A0_3 l0_3.length c0_3] 37 (0, 0)) Z2 k_ hk_.1), (Kd.freshB (g := gb115) (o := .cells #[.int .i64 t105, .string t106, .slice Ao52 t107.length co52, .slice Ao53 t110.length co53] 37 (0, 0)) Z2s k_ hk_.1)⟩)) (Y5 QB)); have n4_ := Y0.mk (Yg (g := gb101) (o := .cells #[.int .i64 a0_0, .string a0_1, .slice A0_2 l0_2.length c0_2, .slice A0_3 l0_3.length c0_3] 37 (0, 0)) Z2 hb); have n5_ := Y0.mk (Yg (g := gb115) (o := .cells #[.int .i64 t105, .string t106, .slice Ao52 t107.length co52, .slice Ao53 t110.length co53] 37 (0, 0)) Z2s hb); have n6_ := Y0.mk (Y6 QB hb); clear HO109 HO112 BK101 BK115 HB; have HO109 := n0_; have HO112 := n1_; have HO120 := n2_; have HO123 := n3_; have BK101 := n4_; have BK115 := n5_; have HB := n6_; clear n0_ n1_ n2_ n3_ n4_ n5_ n6_; (try clear hb); (try clear hb2); (try clear hk); (try clear hi); (try clear ho0); (try clear ho1)) | ((with_reducible refine Yz (N := 10) rfl ?_); (try (refine YR (by rfl) ?_; dsimp only)); refine Yu ?hg (N := 10) ?hd (cs := #[.int .i64 0, .string (⟨#[]⟩ : ByteArray), .slice none 0 0, .slice none 0 0]) (t := 37) ?hr ?_; (case hd => rfl); (case hg => rfl); (case hr => exact Z9); intro gb126 hg w55 hbox hb; have n0_ := Y0.mk (Kd.R_below Zh hb); have n1_ := Y0.mk (Kd.N_below (Kd.N_elderB Zg gb126 (Nat.le_of_eq hg.symm)) hb); have n2_ := Y0.mk (Kd.R_below Zy hb); have n3_ := Y0.mk (Kd.N_below (Kd.N_elderB Zx gb126 (Nat.le_of_eq hg.symm)) hb); have n4_ := Y0.mk (Yg (g := gb101) (o := .cells #[.int .i64 a0_0, .string a0_1, .slice A0_2 l0_2.length c0_2, .slice A0_3 l0_3.length c0_3] 37 (0, 0)) QQ hb); have n5_ := Y0.mk (Yg (g := gb115) (o := .cells #[.int .i64 t105, .string t106, .slice Ao52 t107.length co52, .slice Ao53 t110.length co53] 37 (0, 0)) QQ hb); have n6_ := Y0.mk (Y6 QB hb); have n7_ := Y0.mk (hbox); have n8_ := Y0.mk ((by rw [hg]; exact (Y5 QB) : w.heap.size ≤ gb126)); have n9_ := Y0.mk ((by rw [hg]; exact (Y5 QB) : w.heap.size ≤ gb126)); have n10_ := Y0.mk ((by rw [hg]; exact Nat.ne_of_lt (YT (g := gb101) (o := .cells #[.int .i64 a0_0, .string a0_1, .slice A0_2 l0_2.length c0_2, .slice A0_3 l0_3.length c0_3] 37 (0, 0)) QQ) : gb101 ≠ gb126)); have n11_ := Y0.mk ((by rw [hg]; exact Nat.ne_of_gt (YT (g := gb101) (o := .cells #[.int .i64 a0_0, .string a0_1, .slice A0_2 l0_2.length c0_2, .slice A0_3 l0_3.length c0_3] 37 (0, 0)) QQ) : gb126 ≠ gb101)); have n12_ := Y0.mk ((by rw [hg]; exact Nat.ne_of_lt (YT (g := gb115) (o := .cells #[.int .i64 t105, .string t106, .slice Ao52 t107.length co52, .slice Ao53 t110.length co53] 37 (0, 0)) QQ) : gb115 ≠ gb126)); have n13_ := Y0.mk ((by rw [hg]; exact Nat.ne_of_gt (YT (g := gb115) (o := .cells #[.int .i64 t105, .string t106, .slice Ao52 t107.length co52, .slice Ao53 t110.length co53] 37 (0, 0)) QQ) : gb126 ≠ gb115)); clear HO109 HO112 HO120 HO123 BK101 BK115 HB; have HO109 := n0_; have HO112 := n1_; have HO120 := n2_; have HO123 := n3_; have BK101 := n4_; have BK115 := n5_; have HB := n6_; have BK126 := n7_; have GW126 := n8_; have GE126 := n9_; have NB101_126 := n10_; have NB126_101 := n11_; have NB115_126 := n12_; have NB126_115 := n13_; clear n0_ n1_ n2_ n3_ n4_ n5_ n6_ n7_ n8_ n9_ n10_ n11_ n12_ n13_ hb hbox hg; have hnb56 := NB126_101.out; have hnc56 := NB101_126.out; have hnb57 := NB126_115.out; have hnc57 := NB115_126.out; obtain ⟨hcz58_0, hcz58_1, hcz58_2, hcz58_3, hfz58_0, hfz58_1, hfz58_2, hfz58_3⟩ := Yx BK126.out; obtain ⟨Ao59, co59, eo59⟩ := Kd.R_slice HO120.out; subst eo59; obtain ⟨Ao60, co60, eo60⟩ := Kd.N_slice HO123.out; subst eo60) | (go_at_call 27; (with_reducible refine (YH.calls k2  t127 _ ?side1 A47.out).mono ?_); (case side1 => exact Z3); rintro e w61 ⟨rfl, hb⟩; have n0_ := Y0.mk (Kd.R_below (by (with_reducible repeat (first | apply Kd.R_alloc | apply Kd.R_drewN | apply Kd.R_drew)); exact (Kd.R_mono (Kd.R_far (p := ⟨gb126, 3, none⟩) (Kd.R_far (p := ⟨gb126, 2, none⟩) (Kd.R_far (p := ⟨gb126, 1, none⟩) (Kd.R_far (p := ⟨gb126, 0, none⟩) (Kd.R_types HO109.out BK126.out (by decide)) (fun _ hk => hk.2) (.int .i64 t116)) (fun _ hk => hk.2) (.string t117)) (fun _ hk => hk.2) (.slice Ao59 t118.length co59)) (fun _ hk => hk.2) (.slice Ao60 t121.length co60)) (fun _ h_ => h_.1))) hb); have n1_ := Y0.mk (Kd.N_below (by (with_reducible repeat (first | apply Kd.N_alloc | apply Kd.N_drewN | apply Kd.N_drew)); exact (Kd.N_mono (Kd.N_far (p := ⟨gb126, 3, none⟩) (Kd.N_far (p := ⟨gb126, 2, none⟩) (Kd.N_far (p := ⟨gb126, 1, none⟩) (Kd.N_far (p := ⟨gb126, 0, none⟩) (Kd.N_mono HO112.out (fun k_ hk => (⟨hk, hk.2⟩ : _ ∧ k_ ≠ gb126))) (fun _ hk => hk.2) (.int .i64 t116)) (fun _ hk => hk.2) (.string t117)) (fun _ hk => hk.2) (.slice Ao59 t118.length co59)) (fun _ hk => hk.2) (.slice Ao60 t121.length co60)) (fun _ h_ => h_.1))) hb); have n2_ := Y0.mk (Kd.R_below (by (with_reducible repeat (first | apply Kd.R_alloc | apply Kd.R_drewN | apply Kd.R_drew)); exact (Kd.R_mono (Kd.R_far (p := ⟨gb126, 3, none⟩) (Kd.R_far (p := ⟨gb126, 2, none⟩) (Kd.R_far (p := ⟨gb126, 1, none⟩) (Kd.R_far (p := ⟨gb126, 0, none⟩) (Kd.R_types HO120.out BK126.out (by decide)) (fun _ hk => hk.2) (.int .i64 t116)) (fun _ hk => hk.2) (.string t117)) (fun _ hk => hk.2) (.slice Ao59 t118.length co59)) (fun _ hk => hk.2) (.slice Ao60 t121.length co60)) (fun _ h_ => h_.1))) hb); have n3_ := Y0.mk (Kd.N_below (by (with_reducible repeat (first | apply Kd.N_alloc | apply Kd.N_drewN | apply Kd.N_drew)); exact (Kd.N_mono (Kd.N_far (p := ⟨gb126, 3, none⟩) (Kd.N_far (p := ⟨gb126, 2, none⟩) (Kd.N_far (p := ⟨gb126, 1, none⟩) (Kd.N_far (p := ⟨gb126, 0, none⟩) (Kd.N_mono HO123.out (fun k_ hk => (⟨hk, hk.2⟩ : _ ∧ k_ ≠ gb126))) (fun _ hk => hk.2) (.int .i64 t116)) (fun _ hk => hk.2) (.string t117)) (fun _ hk => hk.2) (.slice Ao59 t118.length co59)) (fun _ hk => hk.2) (.slice Ao60 t121.length co60)) (fun _ h_ => h_.1))) hb); have n4_ := Y0.mk (Yg (g := gb101) (o := .cells #[.int .i64 a0_0, .string a0_1, .slice A0_2 l0_2.length c0_2, .slice A0_3 l0_3.length c0_3] 37 (0, 0)) Zc hb); have n5_ := Y0.mk (Yg (g := gb115) (o := .cells #[.int .i64 t105, .string t106, .slice Ao52 t107.length co52, .slice Ao53 t110.length co53] 37 (0, 0)) Zd hb); have n6_ := Y0.mk (Yg (g := gb126) (o := .cells #[.int .i64 t116, .string t117, .slice Ao59 t118.length co59, .slice Ao60 t121.length co60] 37 (0, 0)) (by (with_reducible repeat (first | refine Yh ?_ _ | refine Yd ?_ | refine Ye ?_ _)); exact YC (cs := #[.int .i64 t116, .string t117, .slice Ao59 t118.length co59, .slice none 0 0]) Z2c 3 _ rfl) hb); have n7_ := Y0.mk (Y6 QB hb); clear HO109 HO112 HO120 HO123 BK101 BK115 BK126 HB; have HO109 := n0_; have HO112 := n1_; have HO120 := n2_; have HO123 := n3_; have BK101 := n4_; have BK115 := n5_; have BK126 := n6_; have HB := n7_; clear n0_ n1_ n2_ n3_ n4_ n5_ n6_ n7_; (try clear hb); (try clear hb2); (try clear hk); (try clear hi)))
          go_ret
          exact Z2h
         ·rw [if_neg c46] at H
          have c46b0 : (t124 == 0) = false := beq_eq_false_iff_ne.mpr c46
          have c46b1 : (t124 != 0) = true := bne_iff_ne.mpr c46
          obtain rfl := Option.some.inj H
          go_wp2_with (first | ((with_reducible refine Ym (f := 25) rfl ?_); refine YP (some 60) rfl rfl Tryd.func25 Z8 rfl #[.string t104] rfl Z0 ?_; (with_reducible refine (Yt.calls k2 t104 t105 t106 t107 t110 t113 t114 _ ?side1 A42.out).mono ?_); (case side1 => exact Z3); rintro e w62 ⟨v108, v111, rfl, ho0, ho1, hb⟩; refine ⟨_, rfl, ?_⟩; have n_ := Y2n (Kd.R_lower (Kd.R_mono (ok' := fun k_ => True) ho0 (fun _ hk_ => trivial)) (Y5 QB)) (Kd.N_lower (Kd.N_mono (ok' := fun k_ => some k_ ≠ (v108 : Value).ownBlock ∧ k_ ≠ gb101) ho1 (fun k_ hk_ => ⟨hk_.2, (Kd.freshB (g := gb101) (o := .cells #[.int .i64 a0_0, .string a0_1, .slice A0_2 l0_2.length c0_2, .slice A0_3 l0_3.length c0_3] 37 (0, 0)) QQ k_ hk_.1)⟩)) (Y5 QB)) (Yg (g := gb101) (o := .cells #[.int .i64 a0_0, .string a0_1, .slice A0_2 l0_2.length c0_2, .slice A0_3 l0_3.length c0_3] 37 (0, 0)) QQ hb) (Y6 QB hb); clear BK101 HB; obtain ⟨HO109, HO112, BK101, HB⟩ := n_; (try clear hb); (try clear hb2); (try clear hk); (try clear hi); (try clear ho0); (try clear ho1)) | ((with_reducible refine Yz (N := 7) rfl ?_); (try (refine YR (by rfl) ?_; dsimp only)); refine Yu ?hg (N := 7) ?hd (cs := #[.int .i64 0, .string (⟨#[]⟩ : ByteArray), .slice none 0 0, .slice none 0 0]) (t := 37) ?hr ?_; (case hd => rfl); (case hg => rfl); (case hr => exact Z9); intro gb115 hg w63 hbox hb; have n_ := put9 (Kd.R_below Zh hb) (Kd.N_below (Kd.N_elderB Zg gb115 (Nat.le_of_eq hg.symm)) hb) (Yg (g := gb101) (o := .cells #[.int .i64 a0_0, .string a0_1, .slice A0_2 l0_2.length c0_2, .slice A0_3 l0_3.length c0_3] 37 (0, 0)) QQ hb) (Y6 QB hb) (hbox) ((by rw [hg]; exact (Y5 QB) : w.heap.size ≤ gb115)) ((by rw [hg]; exact (Y5 QB) : w.heap.size ≤ gb115)) ((by rw [hg]; exact Nat.ne_of_lt (YT (g := gb101) (o := .cells #[.int .i64 a0_0, .string a0_1, .slice A0_2 l0_2.length c0_2, .slice A0_3 l0_3.length c0_3] 37 (0, 0)) QQ) : gb101 ≠ gb115)) ((by rw [hg]; exact Nat.ne_of_gt (YT (g := gb101) (o := .cells #[.int .i64 a0_0, .string a0_1, .slice A0_2 l0_2.length c0_2, .slice A0_3 l0_3.length c0_3] 37 (0, 0)) QQ) : gb115 ≠ gb101)); clear HO109 HO112 BK101 HB; obtain ⟨HO109, HO112, BK101, HB, BK115, GW115, GE115, NB101_115, NB115_101⟩ := n_; clear hb hbox hg; have hnb64 := NB115_101.out; have hnc64 := NB101_115.out; obtain ⟨hcz65_0, hcz65_1, hcz65_2, hcz65_3, hfz65_0, hfz65_1, hfz65_2, hfz65_3⟩ := Yx BK115.out; obtain ⟨Ao66, co66, eo66⟩ := Kd.R_slice HO109.out; subst eo66; obtain ⟨Ao67, co67, eo67⟩ := Kd.N_slice HO112.out; subst eo67) | ((with_reducible refine Ym (f := 25) rfl ?_); refine YP (some 66) rfl rfl Tryd.func25 Z8 rfl #[.string x4_2] rfl Z0 ?_; (with_reducible refine (Yt.calls k2 x4_2 t116 t117 t118 t121 t124 t125 _ ?side1 A43.out).mono ?_); (case side1 => exact Z3); rintro e w68 ⟨v119, v122, rfl, ho0, ho1, hb⟩; refine ⟨_, rfl, ?_⟩; have n0_ := Y0.mk (Kd.R_elder' Zu (Kd.R_base ho0) hb); have n1_ := Y0.mk (Kd.N_mono (Kd.N_told (Kd.N_told (Kd.N_old ZY hb) (Kd.R_base ho0)) (Kd.N_base ho1)) (fun _ h_ => h_.1)); have n2_ := Y0.mk (Kd.R_lower (Kd.R_new' (Kd.R_mono (ok' := fun k_ => True) ho0 (fun _ hk_ => trivial)) (Kd.R_lt Zu)) (Y5 QB)); have n3_ := Y0.mk (Kd.N_lower (Kd.N_mono (ok' := fun k_ => some k_ ≠ (v119 : Value).ownBlock ∧ some k_ ≠ (.slice Ao66 t107.length co66 : Value).ownBlock ∧ some k_ ≠ (.slice Ao67 t110.length co67 : Value).ownBlock ∧ k_ ≠ gb101 ∧ k_ ≠ gb115) ho1 (fun k_ hk_ => ⟨hk_.2, (Kd.fresh' (Kd.R_lt Zu) k_ hk_.1), (Kd.fresh' (Kd.N_lt ZY) k_ hk_.1), (Kd.freshB (g := gb101) (o := .cells #[.int .i64 a0_0, .string a0_1, .slice A0_2 l0_2.length c0_2, .slice A0_3 l0_3.length c0_3] 37 (0, 0)) Z2 k_ hk_.1), (Kd.freshB (g := gb115) (o := .cells #[.int .i64 t105, .string t106, .slice Ao66 t107.length co66, .slice Ao67 t110.length co67] 37 (0, 0)) Z2t k_ hk_.1)⟩)) (Y5 QB)); have n4_ := Y0.mk (Yg (g := gb101) (o := .cells #[.int .i64 a0_0, .string a0_1, .slice A0_2 l0_2.length c0_2, .slice A0_3 l0_3.length c0_3] 37 (0, 0)) Z2 hb); have n5_ := Y0.mk (Yg (g := gb115) (o := .cells #[.int .i64 t105, .string t106, .slice Ao66 t107.length co66, .slice Ao67 t110.length co67] 37 (0, 0)) Z2t hb); have n6_ := Y0.mk (Y6 QB hb); clear HO109 HO112 BK101 BK115 HB; have HO109 := n0_; have HO112 := n1_; have HO120 := n2_; have HO123 := n3_; have BK101 := n4_; have BK115 := n5_; have HB := n6_; clear n0_ n1_ n2_ n3_ n4_ n5_ n6_; (try clear hb); (try clear hb2); (try clear hk); (try clear hi); (try clear ho0); (try clear ho1)) | ((with_reducible refine Yz (N := 10) rfl ?_); (try (refine YR (by rfl) ?_; dsimp only)); refine Yu ?hg (N := 10) ?hd (cs := #[.int .i64 0, .string (⟨#[]⟩ : ByteArray), .slice none 0 0, .slice none 0 0]) (t := 37) ?hr ?_; (case hd => rfl); (case hg => rfl); (case hr => exact Z9); intro gb126 hg w69 hbox hb; have n0_ := Y0.mk (Kd.R_below Zh hb); have n1_ := Y0.mk (Kd.N_below (Kd.N_elderB Zg gb126 (Nat.le_of_eq hg.symm)) hb); have n2_ := Y0.mk (Kd.R_below Zy hb); have n3_ := Y0.mk (Kd.N_below (Kd.N_elderB Zx gb126 (Nat.le_of_eq hg.symm)) hb); have n4_ := Y0.mk (Yg (g := gb101) (o := .cells #[.int .i64 a0_0, .string a0_1, .slice A0_2 l0_2.length c0_2, .slice A0_3 l0_3.length c0_3] 37 (0, 0)) QQ hb); have n5_ := Y0.mk (Yg (g := gb115) (o := .cells #[.int .i64 t105, .string t106, .slice Ao66 t107.length co66, .slice Ao67 t110.length co67] 37 (0, 0)) QQ hb); have n6_ := Y0.mk (Y6 QB hb); have n7_ := Y0.mk (hbox); have n8_ := Y0.mk ((by rw [hg]; exact (Y5 QB) : w.heap.size ≤ gb126)); have n9_ := Y0.mk ((by rw [hg]; exact (Y5 QB) : w.heap.size ≤ gb126)); have n10_ := Y0.mk ((by rw [hg]; exact Nat.ne_of_lt (YT (g := gb101) (o := .cells #[.int .i64 a0_0, .string a0_1, .slice A0_2 l0_2.length c0_2, .slice A0_3 l0_3.length c0_3] 37 (0, 0)) QQ) : gb101 ≠ gb126)); have n11_ := Y0.mk ((by rw [hg]; exact Nat.ne_of_gt (YT (g := gb101) (o := .cells #[.int .i64 a0_0, .string a0_1, .slice A0_2 l0_2.length c0_2, .slice A0_3 l0_3.length c0_3] 37 (0, 0)) QQ) : gb126 ≠ gb101)); have n12_ := Y0.mk ((by rw [hg]; exact Nat.ne_of_lt (YT (g := gb115) (o := .cells #[.int .i64 t105, .string t106, .slice Ao66 t107.length co66, .slice Ao67 t110.length co67] 37 (0, 0)) QQ) : gb115 ≠ gb126)); have n13_ := Y0.mk ((by rw [hg]; exact Nat.ne_of_gt (YT (g := gb115) (o := .cells #[.int .i64 t105, .string t106, .slice Ao66 t107.length co66, .slice Ao67 t110.length co67] 37 (0, 0)) QQ) : gb126 ≠ gb115)); clear HO109 HO112 HO120 HO123 BK101 BK115 HB; have HO109 := n0_; have HO112 := n1_; have HO120 := n2_; have HO123 := n3_; have BK101 := n4_; have BK115 := n5_; have HB := n6_; have BK126 := n7_; have GW126 := n8_; have GE126 := n9_; have NB101_126 := n10_; have NB126_101 := n11_; have NB115_126 := n12_; have NB126_115 := n13_; clear n0_ n1_ n2_ n3_ n4_ n5_ n6_ n7_ n8_ n9_ n10_ n11_ n12_ n13_ hb hbox hg; have hnb70 := NB126_101.out; have hnc70 := NB101_126.out; have hnb71 := NB126_115.out; have hnc71 := NB115_126.out; obtain ⟨hcz72_0, hcz72_1, hcz72_2, hcz72_3, hfz72_0, hfz72_1, hfz72_2, hfz72_3⟩ := Yx BK126.out; obtain ⟨Ao73, co73, eo73⟩ := Kd.R_slice HO120.out; subst eo73; obtain ⟨Ao74, co74, eo74⟩ := Kd.N_slice HO123.out; subst eo74))
          go_ret
          exact Z2h
        ·rw [if_neg c45] at H
         have c45b0 : (t125 == 4) = false := beq_eq_false_iff_ne.mpr c45
         have c45b1 : (t125 != 4) = true := bne_iff_ne.mpr c45
         obtain rfl := Option.some.inj H
         go_wp2_with (first | ((with_reducible refine Ym (f := 25) rfl ?_); refine YP (some 60) rfl rfl Tryd.func25 Z8 rfl #[.string t104] rfl Z0 ?_; (with_reducible refine (Yt.calls k2 t104 t105 t106 t107 t110 t113 t114 _ ?side1 A42.out).mono ?_); (case side1 => exact Z3); rintro e w75 ⟨v108, v111, rfl, ho0, ho1, hb⟩; refine ⟨_, rfl, ?_⟩; have n_ := Y2n (Kd.R_lower (Kd.R_mono (ok' := fun k_ => True) ho0 (fun _ hk_ => trivial)) (Y5 QB)) (Kd.N_lower (Kd.N_mono (ok' := fun k_ => some k_ ≠ (v108 : Value).ownBlock ∧ k_ ≠ gb101) ho1 (fun k_ hk_ => ⟨hk_.2, (Kd.freshB (g := gb101) (o := .cells #[.int .i64 a0_0, .string a0_1, .slice A0_2 l0_2.length c0_2, .slice A0_3 l0_3.length c0_3] 37 (0, 0)) QQ k_ hk_.1)⟩)) (Y5 QB)) (Yg (g := gb101) (o := .cells #[.int .i64 a0_0, .string a0_1, .slice A0_2 l0_2.length c0_2, .slice A0_3 l0_3.length c0_3] 37 (0, 0)) QQ hb) (Y6 QB hb); clear BK101 HB; obtain ⟨HO109, HO112, BK101, HB⟩ := n_; (try clear hb); (try clear hb2); (try clear hk); (try clear hi); (try clear ho0); (try clear ho1)) | ((with_reducible refine Yz (N := 7) rfl ?_); (try (refine YR (by rfl) ?_; dsimp only)); refine Yu ?hg (N := 7) ?hd (cs := #[.int .i64 0, .string (⟨#[]⟩ : ByteArray), .slice none 0 0, .slice none 0 0]) (t := 37) ?hr ?_; (case hd => rfl); (case hg => rfl); (case hr => exact Z9); intro gb115 hg w76 hbox hb; have n_ := put9 (Kd.R_below Zh hb) (Kd.N_below (Kd.N_elderB Zg gb115 (Nat.le_of_eq hg.symm)) hb) (Yg (g := gb101) (o := .cells #[.int .i64 a0_0, .string a0_1, .slice A0_2 l0_2.length c0_2, .slice A0_3 l0_3.length c0_3] 37 (0, 0)) QQ hb) (Y6 QB hb) (hbox) ((by rw [hg]; exact (Y5 QB) : w.heap.size ≤ gb115)) ((by rw [hg]; exact (Y5 QB) : w.heap.size ≤ gb115)) ((by rw [hg]; exact Nat.ne_of_lt (YT (g := gb101) (o := .cells #[.int .i64 a0_0, .string a0_1, .slice A0_2 l0_2.length c0_2, .slice A0_3 l0_3.length c0_3] 37 (0, 0)) QQ) : gb101 ≠ gb115)) ((by rw [hg]; exact Nat.ne_of_gt (YT (g := gb101) (o := .cells #[.int .i64 a0_0, .string a0_1, .slice A0_2 l0_2.length c0_2, .slice A0_3 l0_3.length c0_3] 37 (0, 0)) QQ) : gb115 ≠ gb101)); clear HO109 HO112 BK101 HB; obtain ⟨HO109, HO112, BK101, HB, BK115, GW115, GE115, NB101_115, NB115_101⟩ := n_; clear hb hbox hg; have hnb77 := NB115_101.out; have hnc77 := NB101_115.out; obtain ⟨hcz78_0, hcz78_1, hcz78_2, hcz78_3, hfz78_0, hfz78_1, hfz78_2, hfz78_3⟩ := Yx BK115.out; obtain ⟨Ao79, co79, eo79⟩ := Kd.R_slice HO109.out; subst eo79; obtain ⟨Ao80, co80, eo80⟩ := Kd.N_slice HO112.out; subst eo80) | ((with_reducible refine Ym (f := 25) rfl ?_); refine YP (some 66) rfl rfl Tryd.func25 Z8 rfl #[.string x4_2] rfl Z0 ?_; (with_reducible refine (Yt.calls k2 x4_2 t116 t117 t118 t121 t124 t125 _ ?side1 A43.out).mono ?_); (case side1 => exact Z3); rintro e w81 ⟨v119, v122, rfl, ho0, ho1, hb⟩; refine ⟨_, rfl, ?_⟩; have n0_ := Y0.mk (Kd.R_elder' Zv (Kd.R_base ho0) hb); have n1_ := Y0.mk (Kd.N_mono (Kd.N_told (Kd.N_told (Kd.N_old ZZ hb) (Kd.R_base ho0)) (Kd.N_base ho1)) (fun _ h_ => h_.1)); have n2_ := Y0.mk (Kd.R_lower (Kd.R_new' (Kd.R_mono (ok' := fun k_ => True) ho0 (fun _ hk_ => trivial)) (Kd.R_lt Zv)) (Y5 QB)); have n3_ := Y0.mk (Kd.N_lower (Kd.N_mono (ok' := fun k_ => some k_ ≠ (v119 : Value).ownBlock ∧ some k_ ≠ (.slice Ao79 t107.length co79 : Value).ownBlock ∧ some k_ ≠ (.slice Ao80 t110.length co80 : Value).ownBlock ∧ k_ ≠ gb101 ∧ k_ ≠ gb115) ho1 (fun k_ hk_ => ⟨hk_.2, (Kd.fresh' (Kd.R_lt Zv) k_ hk_.1), (Kd.fresh' (Kd.N_lt ZZ) k_ hk_.1), (Kd.freshB (g := gb101) (o := .cells #[.int .i64 a0_0, .string a0_1, .slice A0_2 l0_2.length c0_2, .slice A0_3 l0_3.length c0_3] 37 (0, 0)) Z2 k_ hk_.1), (Kd.freshB (g := gb115) (o := .cells #[.int .i64 t105, .string t106, .slice Ao79 t107.length co79, .slice Ao80 t110.length co80] 37 (0, 0)) Z2u k_ hk_.1)⟩)) (Y5 QB)); have n4_ := Y0.mk (Yg (g := gb101) (o := .cells #[.int .i64 a0_0, .string a0_1, .slice A0_2 l0_2.length c0_2, .slice A0_3 l0_3.length c0_3] 37 (0, 0)) Z2 hb); have n5_ := Y0.mk (Yg (g := gb115) (o := .cells #[.int .i64 t105, .string t106, .slice Ao79 t107.length co79, .slice Ao80 t110.length co80] 37 (0, 0)) Z2u hb); have n6_ := Y0.mk (Y6 QB hb); clear HO109 HO112 BK101 BK115 HB; have HO109 := n0_; have HO112 := n1_; have HO120 := n2_; have HO123 := n3_; have BK101 := n4_; have BK115 := n5_; have HB := n6_; clear n0_ n1_ n2_ n3_ n4_ n5_ n6_; (try clear hb); (try clear hb2); (try clear hk); (try clear hi); (try clear ho0); (try clear ho1)) | ((with_reducible refine Yz (N := 10) rfl ?_); (try (refine YR (by rfl) ?_; dsimp only)); refine Yu ?hg (N := 10) ?hd (cs := #[.int .i64 0, .string (⟨#[]⟩ : ByteArray), .slice none 0 0, .slice none 0 0]) (t := 37) ?hr ?_; (case hd => rfl); (case hg => rfl); (case hr => exact Z9); intro gb126 hg w82 hbox hb; have n0_ := Y0.mk (Kd.R_below Zh hb); have n1_ := Y0.mk (Kd.N_below (Kd.N_elderB Zg gb126 (Nat.le_of_eq hg.symm)) hb); have n2_ := Y0.mk (Kd.R_below Zy hb); have n3_ := Y0.mk (Kd.N_below (Kd.N_elderB Zx gb126 (Nat.le_of_eq hg.symm)) hb); have n4_ := Y0.mk (Yg (g := gb101) (o := .cells #[.int .i64 a0_0, .string a0_1, .slice A0_2 l0_2.length c0_2, .slice A0_3 l0_3.length c0_3] 37 (0, 0)) QQ hb); have n5_ := Y0.mk (Yg (g := gb115) (o := .cells #[.int .i64 t105, .string t106, .slice Ao79 t107.length co79, .slice Ao80 t110.length co80] 37 (0, 0)) QQ hb); have n6_ := Y0.mk (Y6 QB hb); have n7_ := Y0.mk (hbox); have n8_ := Y0.mk ((by rw [hg]; exact (Y5 QB) : w.heap.size ≤ gb126)); have n9_ := Y0.mk ((by rw [hg]; exact (Y5 QB) : w.heap.size ≤ gb126)); have n10_ := Y0.mk ((by rw [hg]; exact Nat.ne_of_lt (YT (g := gb101) (o := .cells #[.int .i64 a0_0, .string a0_1, .slice A0_2 l0_2.length c0_2, .slice A0_3 l0_3.length c0_3] 37 (0, 0)) QQ) : gb101 ≠ gb126)); have n11_ := Y0.mk ((by rw [hg]; exact Nat.ne_of_gt (YT (g := gb101) (o := .cells #[.int .i64 a0_0, .string a0_1, .slice A0_2 l0_2.length c0_2, .slice A0_3 l0_3.length c0_3] 37 (0, 0)) QQ) : gb126 ≠ gb101)); have n12_ := Y0.mk ((by rw [hg]; exact Nat.ne_of_lt (YT (g := gb115) (o := .cells #[.int .i64 t105, .string t106, .slice Ao79 t107.length co79, .slice Ao80 t110.length co80] 37 (0, 0)) QQ) : gb115 ≠ gb126)); have n13_ := Y0.mk ((by rw [hg]; exact Nat.ne_of_gt (YT (g := gb115) (o := .cells #[.int .i64 t105, .string t106, .slice Ao79 t107.length co79, .slice Ao80 t110.length co80] 37 (0, 0)) QQ) : gb126 ≠ gb115)); clear HO109 HO112 HO120 HO123 BK101 BK115 HB; have HO109 := n0_; have HO112 := n1_; have HO120 := n2_; have HO123 := n3_; have BK101 := n4_; have BK115 := n5_; have HB := n6_; have BK126 := n7_; have GW126 := n8_; have GE126 := n9_; have NB101_126 := n10_; have NB126_101 := n11_; have NB115_126 := n12_; have NB126_115 := n13_; clear n0_ n1_ n2_ n3_ n4_ n5_ n6_ n7_ n8_ n9_ n10_ n11_ n12_ n13_ hb hbox hg; have hnb83 := NB126_101.out; have hnc83 := NB101_126.out; have hnb84 := NB126_115.out; have hnc84 := NB115_126.out; obtain ⟨hcz85_0, hcz85_1, hcz85_2, hcz85_3, hfz85_0, hfz85_1, hfz85_2, hfz85_3⟩ := Yx BK126.out; obtain ⟨Ao86, co86, eo86⟩ := Kd.R_slice HO120.out; subst eo86; obtain ⟨Ao87, co87, eo87⟩ := Kd.N_slice HO123.out; subst eo87))
         go_ret
         exact Z2h
       ·rw [if_neg c44] at H
        have c44b0 : decide (600 < (x4_2.size : Int)) = false := decide_eq_false c44
        have c44b1 : decide (600 < x4_2.size) = false := decide_eq_false (by omega)
        clear c44
        by_cases c88 : t114 = t125
        ·rw [if_pos c88] at H
         have c88b0 : (t114 == t125) = true := beq_iff_eq.mpr c88
         have c88b1 : (t114 != t125) = false := bne_eq_false_iff_eq.mpr c88
         clear c88
         replace H := Option.bind_eq_some_iff.mp H
         obtain ⟨t128, A890, H⟩ := H
         replace H : (if t128 = true then (if t125 = 0 then (if t124 = (x4_2.size : Int) then ((YH.f k2).bind fun t129 => (some t129)) else (some false)) else ((YH.f k2).bind fun t130 => (some t130))) else (some false)) = some r := H
         have A89 := Y0.mk A890
         clear A890
         by_cases c90 : t128 = true
         ·subst c90
          have H1 : (if t125 = 0 then (if t124 = (x4_2.size : Int) then ((YH.f k2).bind fun t129 => (some t129)) else (some false)) else ((YH.f k2).bind fun t130 => (some t130))) = some r := by rw [if_pos rfl] at H; exact H
          clear H
          have H := H1
          clear H1
          by_cases c91 : t125 = 0
          ·rw [if_pos c91] at H
           have c91b0 : (t125 == 0) = true := beq_iff_eq.mpr c91
           have c91b1 : (t125 != 0) = false := bne_eq_false_iff_eq.mpr c91
           clear c91
           by_cases c92 : t124 = (x4_2.size : Int)
           ·rw [if_pos c92] at H
            have c92b0 : (t124 == (x4_2.size : Int)) = true := beq_iff_eq.mpr c92
            have c92b1 : (t124 != (x4_2.size : Int)) = false := bne_eq_false_iff_eq.mpr c92
            clear c92
            replace H := Option.bind_eq_some_iff.mp H
            obtain ⟨t129, A930, H⟩ := H
            replace H : (some t129) = some r := H
            have A93 := Y0.mk A930
            clear A930
            obtain rfl := Option.some.inj H
            go_wp2_with (first | ((with_reducible refine Ym (f := 25) rfl ?_); refine YP (some 60) rfl rfl Tryd.func25 Z8 rfl #[.string t104] rfl Z0 ?_; (with_reducible refine (Yt.calls k2 t104 t105 t106 t107 t110 t113 t114 _ ?side1 A42.out).mono ?_); (case side1 => exact Z3); rintro e w94 ⟨v108, v111, rfl, ho0, ho1, hb⟩; refine ⟨_, rfl, ?_⟩; have n_ := Y2n (Kd.R_lower (Kd.R_mono (ok' := fun k_ => True) ho0 (fun _ hk_ => trivial)) (Y5 QB)) (Kd.N_lower (Kd.N_mono (ok' := fun k_ => some k_ ≠ (v108 : Value).ownBlock ∧ k_ ≠ gb101) ho1 (fun k_ hk_ => ⟨hk_.2, (Kd.freshB (g := gb101) (o := .cells #[.int .i64 a0_0, .string a0_1, .slice A0_2 l0_2.length c0_2, .slice A0_3 l0_3.length c0_3] 37 (0, 0)) QQ k_ hk_.1)⟩)) (Y5 QB)) (Yg (g := gb101) (o := .cells #[.int .i64 a0_0, .string a0_1, .slice A0_2 l0_2.length c0_2, .slice A0_3 l0_3.length c0_3] 37 (0, 0)) QQ hb) (Y6 QB hb); clear BK101 HB; obtain ⟨HO109, HO112, BK101, HB⟩ := n_; (try clear hb); (try clear hb2); (try clear hk); (try clear hi); (try clear ho0); (try clear ho1)) | ((with_reducible refine Yz (N := 7) rfl ?_); (try (refine YR (by rfl) ?_; dsimp only)); refine Yu ?hg (N := 7) ?hd (cs := #[.int .i64 0, .string (⟨#[]⟩ : ByteArray), .slice none 0 0, .slice none 0 0]) (t := 37) ?hr ?_; (case hd => rfl); (case hg => rfl); (case hr => exact Z9); intro gb115 hg w95 hbox hb; have n_ := put9 (Kd.R_below Zh hb) (Kd.N_below (Kd.N_elderB Zg gb115 (Nat.le_of_eq hg.symm)) hb) (Yg (g := gb101) (o := .cells #[.int .i64 a0_0, .string a0_1, .slice A0_2 l0_2.length c0_2, .slice A0_3 l0_3.length c0_3] 37 (0, 0)) QQ hb) (Y6 QB hb) (hbox) ((by rw [hg]; exact (Y5 QB) : w.heap.size ≤ gb115)) ((by rw [hg]; exact (Y5 QB) : w.heap.size ≤ gb115)) ((by rw [hg]; exact Nat.ne_of_lt (YT (g := gb101) (o := .cells #[.int .i64 a0_0, .string a0_1, .slice A0_2 l0_2.length c0_2, .slice A0_3 l0_3.length c0_3] 37 (0, 0)) QQ) : gb101 ≠ gb115)) ((by rw [hg]; exact Nat.ne_of_gt (YT (g := gb101) (o := .cells #[.int .i64 a0_0, .string a0_1, .slice A0_2 l0_2.length c0_2, .slice A0_3 l0_3.length c0_3] 37 (0, 0)) QQ) : gb115 ≠ gb101)); clear HO109 HO112 BK101 HB; obtain ⟨HO109, HO112, BK101, HB, BK115, GW115, GE115, NB101_115, NB115_101⟩ := n_; clear hb hbox hg; have hnb96 := NB115_101.out; have hnc96 := NB101_115.out; obtain ⟨hcz97_0, hcz97_1, hcz97_2, hcz97_3, hfz97_0, hfz97_1, hfz97_2, hfz97_3⟩ := Yx BK115.out; obtain ⟨Ao98, co98, eo98⟩ := Kd.R_slice HO109.out; subst eo98; obtain ⟨Ao99, co99, eo99⟩ := Kd.N_slice HO112.out; subst eo99) | ((with_reducible refine Ym (f := 25) rfl ?_); refine YP (some 66) rfl rfl Tryd.func25 Z8 rfl #[.string x4_2] rfl Z0 ?_; (with_reducible refine (Yt.calls k2 x4_2 t116 t117 t118 t121 t124 t125 _ ?side1 A43.out).mono ?_); (case side1 => exact Z3); rintro e w100 ⟨v119, v122, rfl, ho0, ho1, hb⟩; refine ⟨_, rfl, ?_⟩; have n0_ := Y0.mk (Kd.R_elder' Zw (Kd.R_base ho0) hb); have n1_ := Y0.mk (Kd.N_mono (Kd.N_told (Kd.N_told (Kd.N_old Z10 hb) (Kd.R_base ho0)) (Kd.N_base ho1)) (fun _ h_ => h_.1)); have n2_ := Y0.mk (Kd.R_lower (Kd.R_new' (Kd.R_mono (ok' := fun k_ => True) ho0 (fun _ hk_ => trivial)) (Kd.R_lt Zw)) (Y5 QB)); have n3_ := Y0.mk (Kd.N_lower (Kd.N_mono (ok' := fun k_ => some k_ ≠ (v119 : Value).ownBlock ∧ some k_ ≠ (.slice Ao98 t107.length co98 : Value).ownBlock ∧ some k_ ≠ (.slice Ao99 t110.length co99 : Value).ownBlock ∧ k_ ≠ gb101 ∧ k_ ≠ gb115) ho1 (fun k_ hk_ => ⟨hk_.2, (Kd.fresh' (Kd.R_lt Zw) k_ hk_.1), (Kd.fresh' (Kd.N_lt Z10) k_ hk_.1), (Kd.freshB (g := gb101) (o := .cells #[.int .i64 a0_0, .string a0_1, .slice A0_2 l0_2.length c0_2, .slice A0_3 l0_3.length c0_3] 37 (0, 0)) Z2 k_ hk_.1), (Kd.freshB (g := gb115) (o := .cells #[.int .i64 t105, .string t106, .slice Ao98 t107.length co98, .slice Ao99 t110.length co99] 37 (0, 0)) Z2v k_ hk_.1)⟩)) (Y5 QB)); have n4_ := Y0.mk (Yg (g := gb101) (o := .cells #[.int .i64 a0_0, .string a0_1, .slice A0_2 l0_2.length c0_2, .slice A0_3 l0_3.length c0_3] 37 (0, 0)) Z2 hb); have n5_ := Y0.mk (Yg (g := gb115) (o := .cells #[.int .i64 t105, .string t106, .slice Ao98 t107.length co98, .slice Ao99 t110.length co99] 37 (0, 0)) Z2v hb); have n6_ := Y0.mk (Y6 QB hb); clear HO109 HO112 BK101 BK115 HB; have HO109 := n0_; have HO112 := n1_; have HO120 := n2_; have HO123 := n3_; have BK101 := n4_; have BK115 := n5_; have HB := n6_; clear n0_ n1_ n2_ n3_ n4_ n5_ n6_; (try clear hb); (try clear hb2); (try clear hk); (try clear hi); (try clear ho0); (try clear ho1)) | ((with_reducible refine Yz (N := 10) rfl ?_); (try (refine YR (by rfl) ?_; dsimp only)); refine Yu ?hg (N := 10) ?hd (cs := #[.int .i64 0, .string (⟨#[]⟩ : ByteArray), .slice none 0 0, .slice none 0 0]) (t := 37) ?hr ?_; (case hd => rfl); (case hg => rfl); (case hr => exact Z9); intro gb126 hg w101 hbox hb; have n0_ := Y0.mk (Kd.R_below Zh hb); have n1_ := Y0.mk (Kd.N_below (Kd.N_elderB Zg gb126 (Nat.le_of_eq hg.symm)) hb); have n2_ := Y0.mk (Kd.R_below Zy hb); have n3_ := Y0.mk (Kd.N_below (Kd.N_elderB Zx gb126 (Nat.le_of_eq hg.symm)) hb); have n4_ := Y0.mk (Yg (g := gb101) (o := .cells #[.int .i64 a0_0, .string a0_1, .slice A0_2 l0_2.length c0_2, .slice A0_3 l0_3.length c0_3] 37 (0, 0)) QQ hb); have n5_ := Y0.mk (Yg (g := gb115) (o := .cells #[.int .i64 t105, .string t106, .slice Ao98 t107.length co98, .slice Ao99 t110.length co99] 37 (0, 0)) QQ hb); have n6_ := Y0.mk (Y6 QB hb); have n7_ := Y0.mk (hbox); have n8_ := Y0.mk ((by rw [hg]; exact (Y5 QB) : w.heap.size ≤ gb126)); have n9_ := Y0.mk ((by rw [hg]; exact (Y5 QB) : w.heap.size ≤ gb126)); have n10_ := Y0.mk ((by rw [hg]; exact Nat.ne_of_lt (YT (g := gb101) (o := .cells #[.int .i64 a0_0, .string a0_1, .slice A0_2 l0_2.length c0_2, .slice A0_3 l0_3.length c0_3] 37 (0, 0)) QQ) : gb101 ≠ gb126)); have n11_ := Y0.mk ((by rw [hg]; exact Nat.ne_of_gt (YT (g := gb101) (o := .cells #[.int .i64 a0_0, .string a0_1, .slice A0_2 l0_2.length c0_2, .slice A0_3 l0_3.length c0_3] 37 (0, 0)) QQ) : gb126 ≠ gb101)); have n12_ := Y0.mk ((by rw [hg]; exact Nat.ne_of_lt (YT (g := gb115) (o := .cells #[.int .i64 t105, .string t106, .slice Ao98 t107.length co98, .slice Ao99 t110.length co99] 37 (0, 0)) QQ) : gb115 ≠ gb126)); have n13_ := Y0.mk ((by rw [hg]; exact Nat.ne_of_gt (YT (g := gb115) (o := .cells #[.int .i64 t105, .string t106, .slice Ao98 t107.length co98, .slice Ao99 t110.length co99] 37 (0, 0)) QQ) : gb126 ≠ gb115)); clear HO109 HO112 HO120 HO123 BK101 BK115 HB; have HO109 := n0_; have HO112 := n1_; have HO120 := n2_; have HO123 := n3_; have BK101 := n4_; have BK115 := n5_; have HB := n6_; have BK126 := n7_; have GW126 := n8_; have GE126 := n9_; have NB101_126 := n10_; have NB126_101 := n11_; have NB115_126 := n12_; have NB126_115 := n13_; clear n0_ n1_ n2_ n3_ n4_ n5_ n6_ n7_ n8_ n9_ n10_ n11_ n12_ n13_ hb hbox hg; have hnb102 := NB126_101.out; have hnc102 := NB101_126.out; have hnb103 := NB126_115.out; have hnc103 := NB115_126.out; obtain ⟨hcz104_0, hcz104_1, hcz104_2, hcz104_3, hfz104_0, hfz104_1, hfz104_2, hfz104_3⟩ := Yx BK126.out; obtain ⟨Ao105, co105, eo105⟩ := Kd.R_slice HO120.out; subst eo105; obtain ⟨Ao106, co106, eo106⟩ := Kd.N_slice HO123.out; subst eo106; obtain ⟨hcz107_0, hcz107_1, hcz107_2, hcz107_3, hfz107_0, hfz107_1, hfz107_2, hfz107_3⟩ := Yx BK115.out) | (go_at_call 28; (with_reducible refine (Y3.calls k2 t105 t106 _ _ t107 _ _ t110 t116 t117 _ _ t118 _ _ t121 true _ ?side1 ?side2 ?side3 ?side4 ?side5 ?side6 ?side7 ?side8 A89.out).mono ?_); (case side1 => refine (Kd.R_reads' (e := 9) (base := w.heap.size) (ok := fun k_ => (True ∧ some k_ ≠ (.slice Ao105 t118.length co105 : Value).ownBlock)) (n := t107.length) (c := co98) ?_).2.2; exact Z11); (case side2 => exact Z26); (case side3 => refine (Kd.N_reads' (e := 37) (base := w.heap.size) (ok := fun k_ => (((((some k_ ≠ (.slice Ao98 t107.length co98 : Value).ownBlock ∧ k_ ≠ gb101) ∧ k_ ≠ gb115) ∧ some k_ ≠ (.slice Ao105 t118.length co105 : Value).ownBlock) ∧ some k_ ≠ (.slice Ao106 t121.length co106 : Value).ownBlock) ∧ k_ ≠ gb126)) (n := t110.length) (c := co99) ?_).2.2; exact ZN); (case side4 => exact Z24); (case side5 => refine (Kd.R_reads' (e := 9) (base := w.heap.size) (ok := fun k_ => (True ∧ some k_ ≠ (.slice Ao98 t107.length co98 : Value).ownBlock)) (n := t118.length) (c := co105) ?_).2.2; exact Z15); (case side6 => exact Z27); (case side7 => refine (Kd.N_reads' (e := 37) (base := w.heap.size) (ok := fun k_ => ((some k_ ≠ (.slice Ao105 t118.length co105 : Value).ownBlock ∧ (some k_ ≠ (.slice Ao98 t107.length co98 : Value).ownBlock ∧ (some k_ ≠ (.slice Ao99 t110.length co99 : Value).ownBlock ∧ (k_ ≠ gb101 ∧ k_ ≠ gb115)))) ∧ k_ ≠ gb126)) (n := t121.length) (c := co106) ?_).2.2; exact ZR); (case side8 => exact Z25); rintro e w108 ⟨rfl, hb⟩; have n0_ := Y0.mk (Kd.R_below Z11 hb); have n1_ := Y0.mk (Kd.N_below ZN hb); have n2_ := Y0.mk (Kd.R_below Z15 hb); have n3_ := Y0.mk (Kd.N_below ZR hb); have n4_ := Y0.mk (Yg (g := gb101) (o := .cells #[.int .i64 a0_0, .string a0_1, .slice A0_2 l0_2.length c0_2, .slice A0_3 l0_3.length c0_3] 37 (0, 0)) Zc hb); have n5_ := Y0.mk (Yg (g := gb115) (o := .cells #[.int .i64 t105, .string t106, .slice Ao98 t107.length co98, .slice Ao99 t110.length co99] 37 (0, 0)) Zd hb); have n6_ := Y0.mk (Yg (g := gb126) (o := .cells #[.int .i64 t116, .string t117, .slice Ao105 t118.length co105, .slice Ao106 t121.length co106] 37 (0, 0)) (by (with_reducible repeat (first | refine Yh ?_ _ | refine Yd ?_ | refine Ye ?_ _)); exact YC (cs := #[.int .i64 t116, .string t117, .slice Ao105 t118.length co105, .slice none 0 0]) Z2c 3 _ rfl) hb); have n7_ := Y0.mk (Y6 QB hb); clear HO109 HO112 HO120 HO123 BK101 BK115 BK126 HB; have HO109 := n0_; have HO112 := n1_; have HO120 := n2_; have HO123 := n3_; have BK101 := n4_; have BK115 := n5_; have BK126 := n6_; have HB := n7_; clear n0_ n1_ n2_ n3_ n4_ n5_ n6_ n7_; (try clear hb); (try clear hb2); (try clear hk); (try clear hi)) | (go_at_call 27; (with_reducible refine (YH.calls k2  t129 _ ?side1 A93.out).mono ?_); (case side1 => exact Z3); rintro e w109 ⟨rfl, hb⟩; have n_ := Y4W (Kd.R_below Zh hb) (Kd.N_below Zg hb) (Kd.R_below Zy hb) (Kd.N_below Zx hb) (Yg (g := gb101) (o := .cells #[.int .i64 a0_0, .string a0_1, .slice A0_2 l0_2.length c0_2, .slice A0_3 l0_3.length c0_3] 37 (0, 0)) QQ hb) (Yg (g := gb115) (o := .cells #[.int .i64 t105, .string t106, .slice Ao98 t107.length co98, .slice Ao99 t110.length co99] 37 (0, 0)) QQ hb) (Yg (g := gb126) (o := .cells #[.int .i64 t116, .string t117, .slice Ao105 t118.length co105, .slice Ao106 t121.length co106] 37 (0, 0)) QQ hb) (Y6 QB hb); clear HO109 HO112 HO120 HO123 BK101 BK115 BK126 HB; obtain ⟨HO109, HO112, HO120, HO123, BK101, BK115, BK126, HB⟩ := n_; (try clear hb); (try clear hb2); (try clear hk); (try clear hi)))
            go_ret
            exact Z2h
           ·rw [if_neg c92] at H
            have c92b0 : (t124 == (x4_2.size : Int)) = false := beq_eq_false_iff_ne.mpr c92
            have c92b1 : (t124 != (x4_2.size : Int)) = true := bne_iff_ne.mpr c92
            obtain rfl := Option.some.inj H
            go_wp2_with (first | ((with_reducible refine Ym (f := 25) rfl ?_); refine YP (some 60) rfl rfl Tryd.func25 Z8 rfl #[.string t104] rfl Z0 ?_; (with_reducible refine (Yt.calls k2 t104 t105 t106 t107 t110 t113 t114 _ ?side1 A42.out).mono ?_); (case side1 => exact Z3); rintro e w110 ⟨v108, v111, rfl, ho0, ho1, hb⟩; refine ⟨_, rfl, ?_⟩; have n_ := Y2n (Kd.R_lower (Kd.R_mono (ok' := fun k_ => True) ho0 (fun _ hk_ => trivial)) (Y5 QB)) (Kd.N_lower (Kd.N_mono (ok' := fun k_ => some k_ ≠ (v108 : Value).ownBlock ∧ k_ ≠ gb101) ho1 (fun k_ hk_ => ⟨hk_.2, (Kd.freshB (g := gb101) (o := .cells #[.int .i64 a0_0, .string a0_1, .slice A0_2 l0_2.length c0_2, .slice A0_3 l0_3.length c0_3] 37 (0, 0)) QQ k_ hk_.1)⟩)) (Y5 QB)) (Yg (g := gb101) (o := .cells #[.int .i64 a0_0, .string a0_1, .slice A0_2 l0_2.length c0_2, .slice A0_3 l0_3.length c0_3] 37 (0, 0)) QQ hb) (Y6 QB hb); clear BK101 HB; obtain ⟨HO109, HO112, BK101, HB⟩ := n_; (try clear hb); (try clear hb2); (try clear hk); (try clear hi); (try clear ho0); (try clear ho1)) | ((with_reducible refine Yz (N := 7) rfl ?_); (try (refine YR (by rfl) ?_; dsimp only)); refine Yu ?hg (N := 7) ?hd (cs := #[.int .i64 0, .string (⟨#[]⟩ : ByteArray), .slice none 0 0, .slice none 0 0]) (t := 37) ?hr ?_; (case hd => rfl); (case hg => rfl); (case hr => exact Z9); intro gb115 hg w111 hbox hb; have n_ := put9 (Kd.R_below Zh hb) (Kd.N_below (Kd.N_elderB Zg gb115 (Nat.le_of_eq hg.symm)) hb) (Yg (g := gb101) (o := .cells #[.int .i64 a0_0, .string a0_1, .slice A0_2 l0_2.length c0_2, .slice A0_3 l0_3.length c0_3] 37 (0, 0)) QQ hb) (Y6 QB hb) (hbox) ((by rw [hg]; exact (Y5 QB) : w.heap.size ≤ gb115)) ((by rw [hg]; exact (Y5 QB) : w.heap.size ≤ gb115)) ((by rw [hg]; exact Nat.ne_of_lt (YT (g := gb101) (o := .cells #[.int .i64 a0_0, .string a0_1, .slice A0_2 l0_2.length c0_2, .slice A0_3 l0_3.length c0_3] 37 (0, 0)) QQ) : gb101 ≠ gb115)) ((by rw [hg]; exact Nat.ne_of_gt (YT (g := gb101) (o := .cells #[.int .i64 a0_0, .string a0_1, .slice A0_2 l0_2.length c0_2, .slice A0_3 l0_3.length c0_3] 37 (0, 0)) QQ) : gb115 ≠ gb101)); clear HO109 HO112 BK101 HB; obtain ⟨HO109, HO112, BK101, HB, BK115, GW115, GE115, NB101_115, NB115_101⟩ := n_; clear hb hbox hg; have hnb112 := NB115_101.out; have hnc112 := NB101_115.out; obtain ⟨hcz113_0, hcz113_1, hcz113_2, hcz113_3, hfz113_0, hfz113_1, hfz113_2, hfz113_3⟩ := Yx BK115.out; obtain ⟨Ao114, co114, eo114⟩ := Kd.R_slice HO109.out; subst eo114; obtain ⟨Ao115, co115, eo115⟩ := Kd.N_slice HO112.out; subst eo115) | ((with_reducible refine Ym (f := 25) rfl ?_); refine YP (some 66) rfl rfl Tryd.func25 Z8 rfl #[.string x4_2] rfl Z0 ?_; (with_reducible refine (Yt.calls k2 x4_2 t116 t117 t118 t121 t124 t125 _ ?side1 A43.out).mono ?_); (case side1 => exact Z3); rintro e w116 ⟨v119, v122, rfl, ho0, ho1, hb⟩; refine ⟨_, rfl, ?_⟩; have n0_ := Y0.mk (Kd.R_elder' Zo (Kd.R_base ho0) hb); have n1_ := Y0.mk (Kd.N_mono (Kd.N_told (Kd.N_told (Kd.N_old ZJ hb) (Kd.R_base ho0)) (Kd.N_base ho1)) (fun _ h_ => h_.1)); have n2_ := Y0.mk (Kd.R_lower (Kd.R_new' (Kd.R_mono (ok' := fun k_ => True) ho0 (fun _ hk_ => trivial)) (Kd.R_lt Zo)) (Y5 QB)); have n3_ := Y0.mk (Kd.N_lower (Kd.N_mono (ok' := fun k_ => some k_ ≠ (v119 : Value).ownBlock ∧ some k_ ≠ (.slice Ao114 t107.length co114 : Value).ownBlock ∧ some k_ ≠ (.slice Ao115 t110.length co115 : Value).ownBlock ∧ k_ ≠ gb101 ∧ k_ ≠ gb115) ho1 (fun k_ hk_ => ⟨hk_.2, (Kd.fresh' (Kd.R_lt Zo) k_ hk_.1), (Kd.fresh' (Kd.N_lt ZJ) k_ hk_.1), (Kd.freshB (g := gb101) (o := .cells #[.int .i64 a0_0, .string a0_1, .slice A0_2 l0_2.length c0_2, .slice A0_3 l0_3.length c0_3] 37 (0, 0)) Z2 k_ hk_.1), (Kd.freshB (g := gb115) (o := .cells #[.int .i64 t105, .string t106, .slice Ao114 t107.length co114, .slice Ao115 t110.length co115] 37 (0, 0)) Z2o k_ hk_.1)⟩)) (Y5 QB)); have n4_ := Y0.mk (Yg (g := gb101) (o := .cells #[.int .i64 a0_0, .string a0_1, .slice A0_2 l0_2.length c0_2, .slice A0_3 l0_3.length c0_3] 37 (0, 0)) Z2 hb); have n5_ := Y0.mk (Yg (g := gb115) (o := .cells #[.int .i64 t105, .string t106, .slice Ao114 t107.length co114, .slice Ao115 t110.length co115] 37 (0, 0)) Z2o hb); have n6_ := Y0.mk (Y6 QB hb); clear HO109 HO112 BK101 BK115 HB; have HO109 := n0_; have HO112 := n1_; have HO120 := n2_; have HO123 := n3_; have BK101 := n4_; have BK115 := n5_; have HB := n6_; clear n0_ n1_ n2_ n3_ n4_ n5_ n6_; (try clear hb); (try clear hb2); (try clear hk); (try clear hi); (try clear ho0); (try clear ho1)) | ((with_reducible refine Yz (N := 10) rfl ?_); (try (refine YR (by rfl) ?_; dsimp only)); refine Yu ?hg (N := 10) ?hd (cs := #[.int .i64 0, .string (⟨#[]⟩ : ByteArray), .slice none 0 0, .slice none 0 0]) (t := 37) ?hr ?_; (case hd => rfl); (case hg => rfl); (case hr => exact Z9); intro gb126 hg w117 hbox hb; have n0_ := Y0.mk (Kd.R_below Zh hb); have n1_ := Y0.mk (Kd.N_below (Kd.N_elderB Zg gb126 (Nat.le_of_eq hg.symm)) hb); have n2_ := Y0.mk (Kd.R_below Zy hb); have n3_ := Y0.mk (Kd.N_below (Kd.N_elderB Zx gb126 (Nat.le_of_eq hg.symm)) hb); have n4_ := Y0.mk (Yg (g := gb101) (o := .cells #[.int .i64 a0_0, .string a0_1, .slice A0_2 l0_2.length c0_2, .slice A0_3 l0_3.length c0_3] 37 (0, 0)) QQ hb); have n5_ := Y0.mk (Yg (g := gb115) (o := .cells #[.int .i64 t105, .string t106, .slice Ao114 t107.length co114, .slice Ao115 t110.length co115] 37 (0, 0)) QQ hb); have n6_ := Y0.mk (Y6 QB hb); have n7_ := Y0.mk (hbox); have n8_ := Y0.mk ((by rw [hg]; exact (Y5 QB) : w.heap.size ≤ gb126)); have n9_ := Y0.mk ((by rw [hg]; exact (Y5 QB) : w.heap.size ≤ gb126)); have n10_ := Y0.mk ((by rw [hg]; exact Nat.ne_of_lt (YT (g := gb101) (o := .cells #[.int .i64 a0_0, .string a0_1, .slice A0_2 l0_2.length c0_2, .slice A0_3 l0_3.length c0_3] 37 (0, 0)) QQ) : gb101 ≠ gb126)); have n11_ := Y0.mk ((by rw [hg]; exact Nat.ne_of_gt (YT (g := gb101) (o := .cells #[.int .i64 a0_0, .string a0_1, .slice A0_2 l0_2.length c0_2, .slice A0_3 l0_3.length c0_3] 37 (0, 0)) QQ) : gb126 ≠ gb101)); have n12_ := Y0.mk ((by rw [hg]; exact Nat.ne_of_lt (YT (g := gb115) (o := .cells #[.int .i64 t105, .string t106, .slice Ao114 t107.length co114, .slice Ao115 t110.length co115] 37 (0, 0)) QQ) : gb115 ≠ gb126)); have n13_ := Y0.mk ((by rw [hg]; exact Nat.ne_of_gt (YT (g := gb115) (o := .cells #[.int .i64 t105, .string t106, .slice Ao114 t107.length co114, .slice Ao115 t110.length co115] 37 (0, 0)) QQ) : gb126 ≠ gb115)); clear HO109 HO112 HO120 HO123 BK101 BK115 HB; have HO109 := n0_; have HO112 := n1_; have HO120 := n2_; have HO123 := n3_; have BK101 := n4_; have BK115 := n5_; have HB := n6_; have BK126 := n7_; have GW126 := n8_; have GE126 := n9_; have NB101_126 := n10_; have NB126_101 := n11_; have NB115_126 := n12_; have NB126_115 := n13_; clear n0_ n1_ n2_ n3_ n4_ n5_ n6_ n7_ n8_ n9_ n10_ n11_ n12_ n13_ hb hbox hg; have hnb118 := NB126_101.out; have hnc118 := NB101_126.out; have hnb119 := NB126_115.out; have hnc119 := NB115_126.out; obtain ⟨hcz120_0, hcz120_1, hcz120_2, hcz120_3, hfz120_0, hfz120_1, hfz120_2, hfz120_3⟩ := Yx BK126.out; obtain ⟨Ao121, co121, eo121⟩ := Kd.R_slice HO120.out; subst eo121; obtain ⟨Ao122, co122, eo122⟩ := Kd.N_slice HO123.out; subst eo122; obtain ⟨hcz123_0, hcz123_1, hcz123_2, hcz123_3, hfz123_0, hfz123_1, hfz123_2, hfz123_3⟩ := Yx BK115.out) | (go_at_call 28; (with_reducible refine (Y3.calls k2 t105 t106 _ _ t107 _ _ t110 t116 t117 _ _ t118 _ _ t121 true _ ?side1 ?side2 ?side3 ?side4 ?side5 ?side6 ?side7 ?side8 A89.out).mono ?_); (case side1 => refine (Kd.R_reads' (e := 9) (base := w.heap.size) (ok := fun k_ => (True ∧ some k_ ≠ (.slice Ao121 t118.length co121 : Value).ownBlock)) (n := t107.length) (c := co114) ?_).2.2; exact Z12); (case side2 => exact Z26); (case side3 => refine (Kd.N_reads' (e := 37) (base := w.heap.size) (ok := fun k_ => (((((some k_ ≠ (.slice Ao114 t107.length co114 : Value).ownBlock ∧ k_ ≠ gb101) ∧ k_ ≠ gb115) ∧ some k_ ≠ (.slice Ao121 t118.length co121 : Value).ownBlock) ∧ some k_ ≠ (.slice Ao122 t121.length co122 : Value).ownBlock) ∧ k_ ≠ gb126)) (n := t110.length) (c := co115) ?_).2.2; exact ZO); (case side4 => exact Z24); (case side5 => refine (Kd.R_reads' (e := 9) (base := w.heap.size) (ok := fun k_ => (True ∧ some k_ ≠ (.slice Ao114 t107.length co114 : Value).ownBlock)) (n := t118.length) (c := co121) ?_).2.2; exact Z16); (case side6 => exact Z27); (case side7 => refine (Kd.N_reads' (e := 37) (base := w.heap.size) (ok := fun k_ => ((some k_ ≠ (.slice Ao121 t118.length co121 : Value).ownBlock ∧ (some k_ ≠ (.slice Ao114 t107.length co114 : Value).ownBlock ∧ (some k_ ≠ (.slice Ao115 t110.length co115 : Value).ownBlock ∧ (k_ ≠ gb101 ∧ k_ ≠ gb115)))) ∧ k_ ≠ gb126)) (n := t121.length) (c := co122) ?_).2.2; exact ZS); (case side8 => exact Z25); rintro e w124 ⟨rfl, hb⟩; have n0_ := Y0.mk (Kd.R_below Z12 hb); have n1_ := Y0.mk (Kd.N_below ZO hb); have n2_ := Y0.mk (Kd.R_below Z16 hb); have n3_ := Y0.mk (Kd.N_below ZS hb); have n4_ := Y0.mk (Yg (g := gb101) (o := .cells #[.int .i64 a0_0, .string a0_1, .slice A0_2 l0_2.length c0_2, .slice A0_3 l0_3.length c0_3] 37 (0, 0)) Zc hb); have n5_ := Y0.mk (Yg (g := gb115) (o := .cells #[.int .i64 t105, .string t106, .slice Ao114 t107.length co114, .slice Ao115 t110.length co115] 37 (0, 0)) Zd hb); have n6_ := Y0.mk (Yg (g := gb126) (o := .cells #[.int .i64 t116, .string t117, .slice Ao121 t118.length co121, .slice Ao122 t121.length co122] 37 (0, 0)) (by (with_reducible repeat (first | refine Yh ?_ _ | refine Yd ?_ | refine Ye ?_ _)); exact YC (cs := #[.int .i64 t116, .string t117, .slice Ao121 t118.length co121, .slice none 0 0]) Z2c 3 _ rfl) hb); have n7_ := Y0.mk (Y6 QB hb); clear HO109 HO112 HO120 HO123 BK101 BK115 BK126 HB; have HO109 := n0_; have HO112 := n1_; have HO120 := n2_; have HO123 := n3_; have BK101 := n4_; have BK115 := n5_; have BK126 := n6_; have HB := n7_; clear n0_ n1_ n2_ n3_ n4_ n5_ n6_ n7_; (try clear hb); (try clear hb2); (try clear hk); (try clear hi)))
            go_ret
            exact Z2h
          ·rw [if_neg c91] at H
           have c91b0 : (t125 == 0) = false := beq_eq_false_iff_ne.mpr c91
           have c91b1 : (t125 != 0) = true := bne_iff_ne.mpr c91
           replace H := Option.bind_eq_some_iff.mp H
           obtain ⟨t130, A1250, H⟩ := H
           replace H : (some t130) = some r := H
           have A125 := Y0.mk A1250
           clear A1250
           obtain rfl := Option.some.inj H
           go_wp2_with (first | ((with_reducible refine Ym (f := 25) rfl ?_); refine YP (some 60) rfl rfl Tryd.func25 Z8 rfl #[.string t104] rfl Z0 ?_; (with_reducible refine (Yt.calls k2 t104 t105 t106 t107 t110 t113 t114 _ ?side1 A42.out).mono ?_); (case side1 => exact Z3); rintro e w126 ⟨v108, v111, rfl, ho0, ho1, hb⟩; refine ⟨_, rfl, ?_⟩; have n_ := Y2n (Kd.R_lower (Kd.R_mono (ok' := fun k_ => True) ho0 (fun _ hk_ => trivial)) (Y5 QB)) (Kd.N_lower (Kd.N_mono (ok' := fun k_ => some k_ ≠ (v108 : Value).ownBlock ∧ k_ ≠ gb101) ho1 (fun k_ hk_ => ⟨hk_.2, (Kd.freshB (g := gb101) (o := .cells #[.int .i64 a0_0, .string a0_1, .slice A0_2 l0_2.length c0_2, .slice A0_3 l0_3.length c0_3] 37 (0, 0)) QQ k_ hk_.1)⟩)) (Y5 QB)) (Yg (g := gb101) (o := .cells #[.int .i64 a0_0, .string a0_1, .slice A0_2 l0_2.length c0_2, .slice A0_3 l0_3.length c0_3] 37 (0, 0)) QQ hb) (Y6 QB hb); clear BK101 HB; obtain ⟨HO109, HO112, BK101, HB⟩ := n_; (try clear hb); (try clear hb2); (try clear hk); (try clear hi); (try clear ho0); (try clear ho1)) | ((with_reducible refine Yz (N := 7) rfl ?_); (try (refine YR (by rfl) ?_; dsimp only)); refine Yu ?hg (N := 7) ?hd (cs := #[.int .i64 0, .string (⟨#[]⟩ : ByteArray), .slice none 0 0, .slice none 0 0]) (t := 37) ?hr ?_; (case hd => rfl); (case hg => rfl); (case hr => exact Z9); intro gb115 hg w127 hbox hb; have n_ := put9 (Kd.R_below Zh hb) (Kd.N_below (Kd.N_elderB Zg gb115 (Nat.le_of_eq hg.symm)) hb) (Yg (g := gb101) (o := .cells #[.int .i64 a0_0, .string a0_1, .slice A0_2 l0_2.length c0_2, .slice A0_3 l0_3.length c0_3] 37 (0, 0)) QQ hb) (Y6 QB hb) (hbox) ((by rw [hg]; exact (Y5 QB) : w.heap.size ≤ gb115)) ((by rw [hg]; exact (Y5 QB) : w.heap.size ≤ gb115)) ((by rw [hg]; exact Nat.ne_of_lt (YT (g := gb101) (o := .cells #[.int .i64 a0_0, .string a0_1, .slice A0_2 l0_2.length c0_2, .slice A0_3 l0_3.length c0_3] 37 (0, 0)) QQ) : gb101 ≠ gb115)) ((by rw [hg]; exact Nat.ne_of_gt (YT (g := gb101) (o := .cells #[.int .i64 a0_0, .string a0_1, .slice A0_2 l0_2.length c0_2, .slice A0_3 l0_3.length c0_3] 37 (0, 0)) QQ) : gb115 ≠ gb101)); clear HO109 HO112 BK101 HB; obtain ⟨HO109, HO112, BK101, HB, BK115, GW115, GE115, NB101_115, NB115_101⟩ := n_; clear hb hbox hg; have hnb128 := NB115_101.out; have hnc128 := NB101_115.out; obtain ⟨hcz129_0, hcz129_1, hcz129_2, hcz129_3, hfz129_0, hfz129_1, hfz129_2, hfz129_3⟩ := Yx BK115.out; obtain ⟨Ao130, co130, eo130⟩ := Kd.R_slice HO109.out; subst eo130; obtain ⟨Ao131, co131, eo131⟩ := Kd.N_slice HO112.out; subst eo131) | ((with_reducible refine Ym (f := 25) rfl ?_); refine YP (some 66) rfl rfl Tryd.func25 Z8 rfl #[.string x4_2] rfl Z0 ?_; (with_reducible refine (Yt.calls k2 x4_2 t116 t117 t118 t121 t124 t125 _ ?side1 A43.out).mono ?_); (case side1 => exact Z3); rintro e w132 ⟨v119, v122, rfl, ho0, ho1, hb⟩; refine ⟨_, rfl, ?_⟩; have n0_ := Y0.mk (Kd.R_elder' Zp (Kd.R_base ho0) hb); have n1_ := Y0.mk (Kd.N_mono (Kd.N_told (Kd.N_told (Kd.N_old ZK hb) (Kd.R_base ho0)) (Kd.N_base ho1)) (fun _ h_ => h_.1)); have n2_ := Y0.mk (Kd.R_lower (Kd.R_new' (Kd.R_mono (ok' := fun k_ => True) ho0 (fun _ hk_ => trivial)) (Kd.R_lt Zp)) (Y5 QB)); have n3_ := Y0.mk (Kd.N_lower (Kd.N_mono (ok' := fun k_ => some k_ ≠ (v119 : Value).ownBlock ∧ some k_ ≠ (.slice Ao130 t107.length co130 : Value).ownBlock ∧ some k_ ≠ (.slice Ao131 t110.length co131 : Value).ownBlock ∧ k_ ≠ gb101 ∧ k_ ≠ gb115) ho1 (fun k_ hk_ => ⟨hk_.2, (Kd.fresh' (Kd.R_lt Zp) k_ hk_.1), (Kd.fresh' (Kd.N_lt ZK) k_ hk_.1), (Kd.freshB (g := gb101) (o := .cells #[.int .i64 a0_0, .string a0_1, .slice A0_2 l0_2.length c0_2, .slice A0_3 l0_3.length c0_3] 37 (0, 0)) Z2 k_ hk_.1), (Kd.freshB (g := gb115) (o := .cells #[.int .i64 t105, .string t106, .slice Ao130 t107.length co130, .slice Ao131 t110.length co131] 37 (0, 0)) Z2p k_ hk_.1)⟩)) (Y5 QB)); have n4_ := Y0.mk (Yg (g := gb101) (o := .cells #[.int .i64 a0_0, .string a0_1, .slice A0_2 l0_2.length c0_2, .slice A0_3 l0_3.length c0_3] 37 (0, 0)) Z2 hb); have n5_ := Y0.mk (Yg (g := gb115) (o := .cells #[.int .i64 t105, .string t106, .slice Ao130 t107.length co130, .slice Ao131 t110.length co131] 37 (0, 0)) Z2p hb); have n6_ := Y0.mk (Y6 QB hb); clear HO109 HO112 BK101 BK115 HB; have HO109 := n0_; have HO112 := n1_; have HO120 := n2_; have HO123 := n3_; have BK101 := n4_; have BK115 := n5_; have HB := n6_; clear n0_ n1_ n2_ n3_ n4_ n5_ n6_; (try clear hb); (try clear hb2); (try clear hk); (try clear hi); (try clear ho0); (try clear ho1)) | ((with_reducible refine Yz (N := 10) rfl ?_); (try (refine YR (by rfl) ?_; dsimp only)); refine Yu ?hg (N := 10) ?hd (cs := #[.int .i64 0, .string (⟨#[]⟩ : ByteArray), .slice none 0 0, .slice none 0 0]) (t := 37) ?hr ?_; (case hd => rfl); (case hg => rfl); (case hr => exact Z9); intro gb126 hg w133 hbox hb; have n0_ := Y0.mk (Kd.R_below Zh hb); have n1_ := Y0.mk (Kd.N_below (Kd.N_elderB Zg gb126 (Nat.le_of_eq hg.symm)) hb); have n2_ := Y0.mk (Kd.R_below Zy hb); have n3_ := Y0.mk (Kd.N_below (Kd.N_elderB Zx gb126 (Nat.le_of_eq hg.symm)) hb); have n4_ := Y0.mk (Yg (g := gb101) (o := .cells #[.int .i64 a0_0, .string a0_1, .slice A0_2 l0_2.length c0_2, .slice A0_3 l0_3.length c0_3] 37 (0, 0)) QQ hb); have n5_ := Y0.mk (Yg (g := gb115) (o := .cells #[.int .i64 t105, .string t106, .slice Ao130 t107.length co130, .slice Ao131 t110.length co131] 37 (0, 0)) QQ hb); have n6_ := Y0.mk (Y6 QB hb); have n7_ := Y0.mk (hbox); have n8_ := Y0.mk ((by rw [hg]; exact (Y5 QB) : w.heap.size ≤ gb126)); have n9_ := Y0.mk ((by rw [hg]; exact (Y5 QB) : w.heap.size ≤ gb126)); have n10_ := Y0.mk ((by rw [hg]; exact Nat.ne_of_lt (YT (g := gb101) (o := .cells #[.int .i64 a0_0, .string a0_1, .slice A0_2 l0_2.length c0_2, .slice A0_3 l0_3.length c0_3] 37 (0, 0)) QQ) : gb101 ≠ gb126)); have n11_ := Y0.mk ((by rw [hg]; exact Nat.ne_of_gt (YT (g := gb101) (o := .cells #[.int .i64 a0_0, .string a0_1, .slice A0_2 l0_2.length c0_2, .slice A0_3 l0_3.length c0_3] 37 (0, 0)) QQ) : gb126 ≠ gb101)); have n12_ := Y0.mk ((by rw [hg]; exact Nat.ne_of_lt (YT (g := gb115) (o := .cells #[.int .i64 t105, .string t106, .slice Ao130 t107.length co130, .slice Ao131 t110.length co131] 37 (0, 0)) QQ) : gb115 ≠ gb126)); have n13_ := Y0.mk ((by rw [hg]; exact Nat.ne_of_gt (YT (g := gb115) (o := .cells #[.int .i64 t105, .string t106, .slice Ao130 t107.length co130, .slice Ao131 t110.length co131] 37 (0, 0)) QQ) : gb126 ≠ gb115)); clear HO109 HO112 HO120 HO123 BK101 BK115 HB; have HO109 := n0_; have HO112 := n1_; have HO120 := n2_; have HO123 := n3_; have BK101 := n4_; have BK115 := n5_; have HB := n6_; have BK126 := n7_; have GW126 := n8_; have GE126 := n9_; have NB101_126 := n10_; have NB126_101 := n11_; have NB115_126 := n12_; have NB126_115 := n13_; clear n0_ n1_ n2_ n3_ n4_ n5_ n6_ n7_ n8_ n9_ n10_ n11_ n12_ n13_ hb hbox hg; have hnb134 := NB126_101.out; have hnc134 := NB101_126.out; have hnb135 := NB126_115.out; have hnc135 := NB115_126.out; obtain ⟨hcz136_0, hcz136_1, hcz136_2, hcz136_3, hfz136_0, hfz136_1, hfz136_2, hfz136_3⟩ := Yx BK126.out; obtain ⟨Ao137, co137, eo137⟩ := Kd.R_slice HO120.out; subst eo137; obtain ⟨Ao138, co138, eo138⟩ := Kd.N_slice HO123.out; subst eo138; obtain ⟨hcz139_0, hcz139_1, hcz139_2, hcz139_3, hfz139_0, hfz139_1, hfz139_2, hfz139_3⟩ := Yx BK115.out) | (go_at_call 28; (with_reducible refine (Y3.calls k2 t105 t106 _ _ t107 _ _ t110 t116 t117 _ _ t118 _ _ t121 true _ ?side1 ?side2 ?side3 ?side4 ?side5 ?side6 ?side7 ?side8 A89.out).mono ?_); (case side1 => refine (Kd.R_reads' (e := 9) (base := w.heap.size) (ok := fun k_ => (True ∧ some k_ ≠ (.slice Ao137 t118.length co137 : Value).ownBlock)) (n := t107.length) (c := co130) ?_).2.2; exact Z13); (case side2 => exact Z26); (case side3 => refine (Kd.N_reads' (e := 37) (base := w.heap.size) (ok := fun k_ => (((((some k_ ≠ (.slice Ao130 t107.length co130 : Value).ownBlock ∧ k_ ≠ gb101) ∧ k_ ≠ gb115) ∧ some k_ ≠ (.slice Ao137 t118.length co137 : Value).ownBlock) ∧ some k_ ≠ (.slice Ao138 t121.length co138 : Value).ownBlock) ∧ k_ ≠ gb126)) (n := t110.length) (c := co131) ?_).2.2; exact ZP); (case side4 => exact Z24); (case side5 => refine (Kd.R_reads' (e := 9) (base := w.heap.size) (ok := fun k_ => (True ∧ some k_ ≠ (.slice Ao130 t107.length co130 : Value).ownBlock)) (n := t118.length) (c := co137) ?_).2.2; exact Z17); (case side6 => exact Z27); (case side7 => refine (Kd.N_reads' (e := 37) (base := w.heap.size) (ok := fun k_ => ((some k_ ≠ (.slice Ao137 t118.length co137 : Value).ownBlock ∧ (some k_ ≠ (.slice Ao130 t107.length co130 : Value).ownBlock ∧ (some k_ ≠ (.slice Ao131 t110.length co131 : Value).ownBlock ∧ (k_ ≠ gb101 ∧ k_ ≠ gb115)))) ∧ k_ ≠ gb126)) (n := t121.length) (c := co138) ?_).2.2; exact ZT); (case side8 => exact Z25); rintro e w140 ⟨rfl, hb⟩; have n0_ := Y0.mk (Kd.R_below Z13 hb); have n1_ := Y0.mk (Kd.N_below ZP hb); have n2_ := Y0.mk (Kd.R_below Z17 hb); have n3_ := Y0.mk (Kd.N_below ZT hb); have n4_ := Y0.mk (Yg (g := gb101) (o := .cells #[.int .i64 a0_0, .string a0_1, .slice A0_2 l0_2.length c0_2, .slice A0_3 l0_3.length c0_3] 37 (0, 0)) Zc hb); have n5_ := Y0.mk (Yg (g := gb115) (o := .cells #[.int .i64 t105, .string t106, .slice Ao130 t107.length co130, .slice Ao131 t110.length co131] 37 (0, 0)) Zd hb); have n6_ := Y0.mk (Yg (g := gb126) (o := .cells #[.int .i64 t116, .string t117, .slice Ao137 t118.length co137, .slice Ao138 t121.length co138] 37 (0, 0)) (by (with_reducible repeat (first | refine Yh ?_ _ | refine Yd ?_ | refine Ye ?_ _)); exact YC (cs := #[.int .i64 t116, .string t117, .slice Ao137 t118.length co137, .slice none 0 0]) Z2c 3 _ rfl) hb); have n7_ := Y0.mk (Y6 QB hb); clear HO109 HO112 HO120 HO123 BK101 BK115 BK126 HB; have HO109 := n0_; have HO112 := n1_; have HO120 := n2_; have HO123 := n3_; have BK101 := n4_; have BK115 := n5_; have BK126 := n6_; have HB := n7_; clear n0_ n1_ n2_ n3_ n4_ n5_ n6_ n7_; (try clear hb); (try clear hb2); (try clear hk); (try clear hi)) | (go_at_call 27; (with_reducible refine (YH.calls k2  t130 _ ?side1 A125.out).mono ?_); (case side1 => exact Z3); rintro e w141 ⟨rfl, hb⟩; have n_ := Y4W (Kd.R_below Zh hb) (Kd.N_below Zg hb) (Kd.R_below Zy hb) (Kd.N_below Zx hb) (Yg (g := gb101) (o := .cells #[.int .i64 a0_0, .string a0_1, .slice A0_2 l0_2.length c0_2, .slice A0_3 l0_3.length c0_3] 37 (0, 0)) QQ hb) (Yg (g := gb115) (o := .cells #[.int .i64 t105, .string t106, .slice Ao130 t107.length co130, .slice Ao131 t110.length co131] 37 (0, 0)) QQ hb) (Yg (g := gb126) (o := .cells #[.int .i64 t116, .string t117, .slice Ao137 t118.length co137, .slice Ao138 t121.length co138] 37 (0, 0)) QQ hb) (Y6 QB hb); clear HO109 HO112 HO120 HO123 BK101 BK115 BK126 HB; obtain ⟨HO109, HO112, HO120, HO123, BK101, BK115, BK126, HB⟩ := n_; (try clear hb); (try clear hb2); (try clear hk); (try clear hi)))
           go_ret
           exact Z2h
         ·replace c90 := Bool.eq_false_iff.mpr c90
          subst c90
          have H1 : (some false) = some r := by rw [if_neg (show ¬ (false = true) by decide)] at H; exact H
          clear H
          have H := H1
          clear H1
          obtain rfl := Option.some.inj H
          go_wp2_with (first | ((with_reducible refine Ym (f := 25) rfl ?_); refine YP (some 60) rfl rfl Tryd.func25 Z8 rfl #[.string t104] rfl Z0 ?_; (with_reducible refine (Yt.calls k2 t104 t105 t106 t107 t110 t113 t114 _ ?side1 A42.out).mono ?_); (case side1 => exact Z3); rintro e w142 ⟨v108, v111, rfl, ho0, ho1, hb⟩; refine ⟨_, rfl, ?_⟩; have n_ := Y2n (Kd.R_lower (Kd.R_mono (ok' := fun k_ => True) ho0 (fun _ hk_ => trivial)) (Y5 QB)) (Kd.N_lower (Kd.N_mono (ok' := fun k_ => some k_ ≠ (v108 : Value).ownBlock ∧ k_ ≠ gb101) ho1 (fun k_ hk_ => ⟨hk_.2, (Kd.freshB (g := gb101) (o := .cells #[.int .i64 a0_0, .string a0_1, .slice A0_2 l0_2.length c0_2, .slice A0_3 l0_3.length c0_3] 37 (0, 0)) QQ k_ hk_.1)⟩)) (Y5 QB)) (Yg (g := gb101) (o := .cells #[.int .i64 a0_0, .string a0_1, .slice A0_2 l0_2.length c0_2, .slice A0_3 l0_3.length c0_3] 37 (0, 0)) QQ hb) (Y6 QB hb); clear BK101 HB; obtain ⟨HO109, HO112, BK101, HB⟩ := n_; (try clear hb); (try clear hb2); (try clear hk); (try clear hi); (try clear ho0); (try clear ho1)) | ((with_reducible refine Yz (N := 7) rfl ?_); (try (refine YR (by rfl) ?_; dsimp only)); refine Yu ?hg (N := 7) ?hd (cs := #[.int .i64 0, .string (⟨#[]⟩ : ByteArray), .slice none 0 0, .slice none 0 0]) (t := 37) ?hr ?_; (case hd => rfl); (case hg => rfl); (case hr => exact Z9); intro gb115 hg w143 hbox hb; have n_ := put9 (Kd.R_below Zh hb) (Kd.N_below (Kd.N_elderB Zg gb115 (Nat.le_of_eq hg.symm)) hb) (Yg (g := gb101) (o := .cells #[.int .i64 a0_0, .string a0_1, .slice A0_2 l0_2.length c0_2, .slice A0_3 l0_3.length c0_3] 37 (0, 0)) QQ hb) (Y6 QB hb) (hbox) ((by rw [hg]; exact (Y5 QB) : w.heap.size ≤ gb115)) ((by rw [hg]; exact (Y5 QB) : w.heap.size ≤ gb115)) ((by rw [hg]; exact Nat.ne_of_lt (YT (g := gb101) (o := .cells #[.int .i64 a0_0, .string a0_1, .slice A0_2 l0_2.length c0_2, .slice A0_3 l0_3.length c0_3] 37 (0, 0)) QQ) : gb101 ≠ gb115)) ((by rw [hg]; exact Nat.ne_of_gt (YT (g := gb101) (o := .cells #[.int .i64 a0_0, .string a0_1, .slice A0_2 l0_2.length c0_2, .slice A0_3 l0_3.length c0_3] 37 (0, 0)) QQ) : gb115 ≠ gb101)); clear HO109 HO112 BK101 HB; obtain ⟨HO109, HO112, BK101, HB, BK115, GW115, GE115, NB101_115, NB115_101⟩ := n_; clear hb hbox hg; have hnb144 := NB115_101.out; have hnc144 := NB101_115.out; obtain ⟨hcz145_0, hcz145_1, hcz145_2, hcz145_3, hfz145_0, hfz145_1, hfz145_2, hfz145_3⟩ := Yx BK115.out; obtain ⟨Ao146, co146, eo146⟩ := Kd.R_slice HO109.out; subst eo146; obtain ⟨Ao147, co147, eo147⟩ := Kd.N_slice HO112.out; subst eo147) | ((with_reducible refine Ym (f := 25) rfl ?_); refine YP (some 66) rfl rfl Tryd.func25 Z8 rfl #[.string x4_2] rfl Z0 ?_; (with_reducible refine (Yt.calls k2 x4_2 t116 t117 t118 t121 t124 t125 _ ?side1 A43.out).mono ?_); (case side1 => exact Z3); rintro e w148 ⟨v119, v122, rfl, ho0, ho1, hb⟩; refine ⟨_, rfl, ?_⟩; have n0_ := Y0.mk (Kd.R_elder' Zq (Kd.R_base ho0) hb); have n1_ := Y0.mk (Kd.N_mono (Kd.N_told (Kd.N_told (Kd.N_old ZL hb) (Kd.R_base ho0)) (Kd.N_base ho1)) (fun _ h_ => h_.1)); have n2_ := Y0.mk (Kd.R_lower (Kd.R_new' (Kd.R_mono (ok' := fun k_ => True) ho0 (fun _ hk_ => trivial)) (Kd.R_lt Zq)) (Y5 QB)); have n3_ := Y0.mk (Kd.N_lower (Kd.N_mono (ok' := fun k_ => some k_ ≠ (v119 : Value).ownBlock ∧ some k_ ≠ (.slice Ao146 t107.length co146 : Value).ownBlock ∧ some k_ ≠ (.slice Ao147 t110.length co147 : Value).ownBlock ∧ k_ ≠ gb101 ∧ k_ ≠ gb115) ho1 (fun k_ hk_ => ⟨hk_.2, (Kd.fresh' (Kd.R_lt Zq) k_ hk_.1), (Kd.fresh' (Kd.N_lt ZL) k_ hk_.1), (Kd.freshB (g := gb101) (o := .cells #[.int .i64 a0_0, .string a0_1, .slice A0_2 l0_2.length c0_2, .slice A0_3 l0_3.length c0_3] 37 (0, 0)) Z2 k_ hk_.1), (Kd.freshB (g := gb115) (o := .cells #[.int .i64 t105, .string t106, .slice Ao146 t107.length co146, .slice Ao147 t110.length co147] 37 (0, 0)) Z2q k_ hk_.1)⟩)) (Y5 QB)); have n4_ := Y0.mk (Yg (g := gb101) (o := .cells #[.int .i64 a0_0, .string a0_1, .slice A0_2 l0_2.length c0_2, .slice A0_3 l0_3.length c0_3] 37 (0, 0)) Z2 hb); have n5_ := Y0.mk (Yg (g := gb115) (o := .cells #[.int .i64 t105, .string t106, .slice Ao146 t107.length co146, .slice Ao147 t110.length co147] 37 (0, 0)) Z2q hb); have n6_ := Y0.mk (Y6 QB hb); clear HO109 HO112 BK101 BK115 HB; have HO109 := n0_; have HO112 := n1_; have HO120 := n2_; have HO123 := n3_; have BK101 := n4_; have BK115 := n5_; have HB := n6_; clear n0_ n1_ n2_ n3_ n4_ n5_ n6_; (try clear hb); (try clear hb2); (try clear hk); (try clear hi); (try clear ho0); (try clear ho1)) | ((with_reducible refine Yz (N := 10) rfl ?_); (try (refine YR (by rfl) ?_; dsimp only)); refine Yu ?hg (N := 10) ?hd (cs := #[.int .i64 0, .string (⟨#[]⟩ : ByteArray), .slice none 0 0, .slice none 0 0]) (t := 37) ?hr ?_; (case hd => rfl); (case hg => rfl); (case hr => exact Z9); intro gb126 hg w149 hbox hb; have n0_ := Y0.mk (Kd.R_below Zh hb); have n1_ := Y0.mk (Kd.N_below (Kd.N_elderB Zg gb126 (Nat.le_of_eq hg.symm)) hb); have n2_ := Y0.mk (Kd.R_below Zy hb); have n3_ := Y0.mk (Kd.N_below (Kd.N_elderB Zx gb126 (Nat.le_of_eq hg.symm)) hb); have n4_ := Y0.mk (Yg (g := gb101) (o := .cells #[.int .i64 a0_0, .string a0_1, .slice A0_2 l0_2.length c0_2, .slice A0_3 l0_3.length c0_3] 37 (0, 0)) QQ hb); have n5_ := Y0.mk (Yg (g := gb115) (o := .cells #[.int .i64 t105, .string t106, .slice Ao146 t107.length co146, .slice Ao147 t110.length co147] 37 (0, 0)) QQ hb); have n6_ := Y0.mk (Y6 QB hb); have n7_ := Y0.mk (hbox); have n8_ := Y0.mk ((by rw [hg]; exact (Y5 QB) : w.heap.size ≤ gb126)); have n9_ := Y0.mk ((by rw [hg]; exact (Y5 QB) : w.heap.size ≤ gb126)); have n10_ := Y0.mk ((by rw [hg]; exact Nat.ne_of_lt (YT (g := gb101) (o := .cells #[.int .i64 a0_0, .string a0_1, .slice A0_2 l0_2.length c0_2, .slice A0_3 l0_3.length c0_3] 37 (0, 0)) QQ) : gb101 ≠ gb126)); have n11_ := Y0.mk ((by rw [hg]; exact Nat.ne_of_gt (YT (g := gb101) (o := .cells #[.int .i64 a0_0, .string a0_1, .slice A0_2 l0_2.length c0_2, .slice A0_3 l0_3.length c0_3] 37 (0, 0)) QQ) : gb126 ≠ gb101)); have n12_ := Y0.mk ((by rw [hg]; exact Nat.ne_of_lt (YT (g := gb115) (o := .cells #[.int .i64 t105, .string t106, .slice Ao146 t107.length co146, .slice Ao147 t110.length co147] 37 (0, 0)) QQ) : gb115 ≠ gb126)); have n13_ := Y0.mk ((by rw [hg]; exact Nat.ne_of_gt (YT (g := gb115) (o := .cells #[.int .i64 t105, .string t106, .slice Ao146 t107.length co146, .slice Ao147 t110.length co147] 37 (0, 0)) QQ) : gb126 ≠ gb115)); clear HO109 HO112 HO120 HO123 BK101 BK115 HB; have HO109 := n0_; have HO112 := n1_; have HO120 := n2_; have HO123 := n3_; have BK101 := n4_; have BK115 := n5_; have HB := n6_; have BK126 := n7_; have GW126 := n8_; have GE126 := n9_; have NB101_126 := n10_; have NB126_101 := n11_; have NB115_126 := n12_; have NB126_115 := n13_; clear n0_ n1_ n2_ n3_ n4_ n5_ n6_ n7_ n8_ n9_ n10_ n11_ n12_ n13_ hb hbox hg; have hnb150 := NB126_101.out; have hnc150 := NB101_126.out; have hnb151 := NB126_115.out; have hnc151 := NB115_126.out; obtain ⟨hcz152_0, hcz152_1, hcz152_2, hcz152_3, hfz152_0, hfz152_1, hfz152_2, hfz152_3⟩ := Yx BK126.out; obtain ⟨Ao153, co153, eo153⟩ := Kd.R_slice HO120.out; subst eo153; obtain ⟨Ao154, co154, eo154⟩ := Kd.N_slice HO123.out; subst eo154; obtain ⟨hcz155_0, hcz155_1, hcz155_2, hcz155_3, hfz155_0, hfz155_1, hfz155_2, hfz155_3⟩ := Yx BK115.out) | (go_at_call 28; (with_reducible refine (Y3.calls k2 t105 t106 _ _ t107 _ _ t110 t116 t117 _ _ t118 _ _ t121 false _ ?side1 ?side2 ?side3 ?side4 ?side5 ?side6 ?side7 ?side8 A89.out).mono ?_); (case side1 => refine (Kd.R_reads' (e := 9) (base := w.heap.size) (ok := fun k_ => (True ∧ some k_ ≠ (.slice Ao153 t118.length co153 : Value).ownBlock)) (n := t107.length) (c := co146) ?_).2.2; exact Z14); (case side2 => exact Z26); (case side3 => refine (Kd.N_reads' (e := 37) (base := w.heap.size) (ok := fun k_ => (((((some k_ ≠ (.slice Ao146 t107.length co146 : Value).ownBlock ∧ k_ ≠ gb101) ∧ k_ ≠ gb115) ∧ some k_ ≠ (.slice Ao153 t118.length co153 : Value).ownBlock) ∧ some k_ ≠ (.slice Ao154 t121.length co154 : Value).ownBlock) ∧ k_ ≠ gb126)) (n := t110.length) (c := co147) ?_).2.2; exact ZQ); (case side4 => exact Z24); (case side5 => refine (Kd.R_reads' (e := 9) (base := w.heap.size) (ok := fun k_ => (True ∧ some k_ ≠ (.slice Ao146 t107.length co146 : Value).ownBlock)) (n := t118.length) (c := co153) ?_).2.2; exact Z18); (case side6 => exact Z27); (case side7 => refine (Kd.N_reads' (e := 37) (base := w.heap.size) (ok := fun k_ => ((some k_ ≠ (.slice Ao153 t118.length co153 : Value).ownBlock ∧ (some k_ ≠ (.slice Ao146 t107.length co146 : Value).ownBlock ∧ (some k_ ≠ (.slice Ao147 t110.length co147 : Value).ownBlock ∧ (k_ ≠ gb101 ∧ k_ ≠ gb115)))) ∧ k_ ≠ gb126)) (n := t121.length) (c := co154) ?_).2.2; exact ZU); (case side8 => exact Z25); rintro e w156 ⟨rfl, hb⟩; have n0_ := Y0.mk (Kd.R_below Z14 hb); have n1_ := Y0.mk (Kd.N_below ZQ hb); have n2_ := Y0.mk (Kd.R_below Z18 hb); have n3_ := Y0.mk (Kd.N_below ZU hb); have n4_ := Y0.mk (Yg (g := gb101) (o := .cells #[.int .i64 a0_0, .string a0_1, .slice A0_2 l0_2.length c0_2, .slice A0_3 l0_3.length c0_3] 37 (0, 0)) Zc hb); have n5_ := Y0.mk (Yg (g := gb115) (o := .cells #[.int .i64 t105, .string t106, .slice Ao146 t107.length co146, .slice Ao147 t110.length co147] 37 (0, 0)) Zd hb); have n6_ := Y0.mk (Yg (g := gb126) (o := .cells #[.int .i64 t116, .string t117, .slice Ao153 t118.length co153, .slice Ao154 t121.length co154] 37 (0, 0)) (by (with_reducible repeat (first | refine Yh ?_ _ | refine Yd ?_ | refine Ye ?_ _)); exact YC (cs := #[.int .i64 t116, .string t117, .slice Ao153 t118.length co153, .slice none 0 0]) Z2c 3 _ rfl) hb); have n7_ := Y0.mk (Y6 QB hb); clear HO109 HO112 HO120 HO123 BK101 BK115 BK126 HB; have HO109 := n0_; have HO112 := n1_; have HO120 := n2_; have HO123 := n3_; have BK101 := n4_; have BK115 := n5_; have BK126 := n6_; have HB := n7_; clear n0_ n1_ n2_ n3_ n4_ n5_ n6_ n7_; (try clear hb); (try clear hb2); (try clear hk); (try clear hi)))
          go_ret
          exact Z2h
        ·rw [if_neg c88] at H
         have c88b0 : (t114 == t125) = false := beq_eq_false_iff_ne.mpr c88
         have c88b1 : (t114 != t125) = true := bne_iff_ne.mpr c88
         obtain rfl := Option.some.inj H
         go_wp2_with (first | ((with_reducible refine Ym (f := 25) rfl ?_); refine YP (some 60) rfl rfl Tryd.func25 Z8 rfl #[.string t104] rfl Z0 ?_; (with_reducible refine (Yt.calls k2 t104 t105 t106 t107 t110 t113 t114 _ ?side1 A42.out).mono ?_); (case side1 => exact Z3); rintro e w157 ⟨v108, v111, rfl, ho0, ho1, hb⟩; refine ⟨_, rfl, ?_⟩; have n_ := Y2n (Kd.R_lower (Kd.R_mono (ok' := fun k_ => True) ho0 (fun _ hk_ => trivial)) (Y5 QB)) (Kd.N_lower (Kd.N_mono (ok' := fun k_ => some k_ ≠ (v108 : Value).ownBlock ∧ k_ ≠ gb101) ho1 (fun k_ hk_ => ⟨hk_.2, (Kd.freshB (g := gb101) (o := .cells #[.int .i64 a0_0, .string a0_1, .slice A0_2 l0_2.length c0_2, .slice A0_3 l0_3.length c0_3] 37 (0, 0)) QQ k_ hk_.1)⟩)) (Y5 QB)) (Yg (g := gb101) (o := .cells #[.int .i64 a0_0, .string a0_1, .slice A0_2 l0_2.length c0_2, .slice A0_3 l0_3.length c0_3] 37 (0, 0)) QQ hb) (Y6 QB hb); clear BK101 HB; obtain ⟨HO109, HO112, BK101, HB⟩ := n_; (try clear hb); (try clear hb2); (try clear hk); (try clear hi); (try clear ho0); (try clear ho1)) | ((with_reducible refine Yz (N := 7) rfl ?_); (try (refine YR (by rfl) ?_; dsimp only)); refine Yu ?hg (N := 7) ?hd (cs := #[.int .i64 0, .string (⟨#[]⟩ : ByteArray), .slice none 0 0, .slice none 0 0]) (t := 37) ?hr ?_; (case hd => rfl); (case hg => rfl); (case hr => exact Z9); intro gb115 hg w158 hbox hb; have n_ := put9 (Kd.R_below Zh hb) (Kd.N_below (Kd.N_elderB Zg gb115 (Nat.le_of_eq hg.symm)) hb) (Yg (g := gb101) (o := .cells #[.int .i64 a0_0, .string a0_1, .slice A0_2 l0_2.length c0_2, .slice A0_3 l0_3.length c0_3] 37 (0, 0)) QQ hb) (Y6 QB hb) (hbox) ((by rw [hg]; exact (Y5 QB) : w.heap.size ≤ gb115)) ((by rw [hg]; exact (Y5 QB) : w.heap.size ≤ gb115)) ((by rw [hg]; exact Nat.ne_of_lt (YT (g := gb101) (o := .cells #[.int .i64 a0_0, .string a0_1, .slice A0_2 l0_2.length c0_2, .slice A0_3 l0_3.length c0_3] 37 (0, 0)) QQ) : gb101 ≠ gb115)) ((by rw [hg]; exact Nat.ne_of_gt (YT (g := gb101) (o := .cells #[.int .i64 a0_0, .string a0_1, .slice A0_2 l0_2.length c0_2, .slice A0_3 l0_3.length c0_3] 37 (0, 0)) QQ) : gb115 ≠ gb101)); clear HO109 HO112 BK101 HB; obtain ⟨HO109, HO112, BK101, HB, BK115, GW115, GE115, NB101_115, NB115_101⟩ := n_; clear hb hbox hg; have hnb159 := NB115_101.out; have hnc159 := NB101_115.out; obtain ⟨hcz160_0, hcz160_1, hcz160_2, hcz160_3, hfz160_0, hfz160_1, hfz160_2, hfz160_3⟩ := Yx BK115.out; obtain ⟨Ao161, co161, eo161⟩ := Kd.R_slice HO109.out; subst eo161; obtain ⟨Ao162, co162, eo162⟩ := Kd.N_slice HO112.out; subst eo162) | ((with_reducible refine Ym (f := 25) rfl ?_); refine YP (some 66) rfl rfl Tryd.func25 Z8 rfl #[.string x4_2] rfl Z0 ?_; (with_reducible refine (Yt.calls k2 x4_2 t116 t117 t118 t121 t124 t125 _ ?side1 A43.out).mono ?_); (case side1 => exact Z3); rintro e w163 ⟨v119, v122, rfl, ho0, ho1, hb⟩; refine ⟨_, rfl, ?_⟩; have n0_ := Y0.mk (Kd.R_elder' Zr (Kd.R_base ho0) hb); have n1_ := Y0.mk (Kd.N_mono (Kd.N_told (Kd.N_told (Kd.N_old ZM hb) (Kd.R_base ho0)) (Kd.N_base ho1)) (fun _ h_ => h_.1)); have n2_ := Y0.mk (Kd.R_lower (Kd.R_new' (Kd.R_mono (ok' := fun k_ => True) ho0 (fun _ hk_ => trivial)) (Kd.R_lt Zr)) (Y5 QB)); have n3_ := Y0.mk (Kd.N_lower (Kd.N_mono (ok' := fun k_ => some k_ ≠ (v119 : Value).ownBlock ∧ some k_ ≠ (.slice Ao161 t107.length co161 : Value).ownBlock ∧ some k_ ≠ (.slice Ao162 t110.length co162 : Value).ownBlock ∧ k_ ≠ gb101 ∧ k_ ≠ gb115) ho1 (fun k_ hk_ => ⟨hk_.2, (Kd.fresh' (Kd.R_lt Zr) k_ hk_.1), (Kd.fresh' (Kd.N_lt ZM) k_ hk_.1), (Kd.freshB (g := gb101) (o := .cells #[.int .i64 a0_0, .string a0_1, .slice A0_2 l0_2.length c0_2, .slice A0_3 l0_3.length c0_3] 37 (0, 0)) Z2 k_ hk_.1), (Kd.freshB (g := gb115) (o := .cells #[.int .i64 t105, .string t106, .slice Ao161 t107.length co161, .slice Ao162 t110.length co162] 37 (0, 0)) Z2r k_ hk_.1)⟩)) (Y5 QB)); have n4_ := Y0.mk (Yg (g := gb101) (o := .cells #[.int .i64 a0_0, .string a0_1, .slice A0_2 l0_2.length c0_2, .slice A0_3 l0_3.length c0_3] 37 (0, 0)) Z2 hb); have n5_ := Y0.mk (Yg (g := gb115) (o := .cells #[.int .i64 t105, .string t106, .slice Ao161 t107.length co161, .slice Ao162 t110.length co162] 37 (0, 0)) Z2r hb); have n6_ := Y0.mk (Y6 QB hb); clear HO109 HO112 BK101 BK115 HB; have HO109 := n0_; have HO112 := n1_; have HO120 := n2_; have HO123 := n3_; have BK101 := n4_; have BK115 := n5_; have HB := n6_; clear n0_ n1_ n2_ n3_ n4_ n5_ n6_; (try clear hb); (try clear hb2); (try clear hk); (try clear hi); (try clear ho0); (try clear ho1)) | ((with_reducible refine Yz (N := 10) rfl ?_); (try (refine YR (by rfl) ?_; dsimp only)); refine Yu ?hg (N := 10) ?hd (cs := #[.int .i64 0, .string (⟨#[]⟩ : ByteArray), .slice none 0 0, .slice none 0 0]) (t := 37) ?hr ?_; (case hd => rfl); (case hg => rfl); (case hr => exact Z9); intro gb126 hg w164 hbox hb; have n0_ := Y0.mk (Kd.R_below Zh hb); have n1_ := Y0.mk (Kd.N_below (Kd.N_elderB Zg gb126 (Nat.le_of_eq hg.symm)) hb); have n2_ := Y0.mk (Kd.R_below Zy hb); have n3_ := Y0.mk (Kd.N_below (Kd.N_elderB Zx gb126 (Nat.le_of_eq hg.symm)) hb); have n4_ := Y0.mk (Yg (g := gb101) (o := .cells #[.int .i64 a0_0, .string a0_1, .slice A0_2 l0_2.length c0_2, .slice A0_3 l0_3.length c0_3] 37 (0, 0)) QQ hb); have n5_ := Y0.mk (Yg (g := gb115) (o := .cells #[.int .i64 t105, .string t106, .slice Ao161 t107.length co161, .slice Ao162 t110.length co162] 37 (0, 0)) QQ hb); have n6_ := Y0.mk (Y6 QB hb); have n7_ := Y0.mk (hbox); have n8_ := Y0.mk ((by rw [hg]; exact (Y5 QB) : w.heap.size ≤ gb126)); have n9_ := Y0.mk ((by rw [hg]; exact (Y5 QB) : w.heap.size ≤ gb126)); have n10_ := Y0.mk ((by rw [hg]; exact Nat.ne_of_lt (YT (g := gb101) (o := .cells #[.int .i64 a0_0, .string a0_1, .slice A0_2 l0_2.length c0_2, .slice A0_3 l0_3.length c0_3] 37 (0, 0)) QQ) : gb101 ≠ gb126)); have n11_ := Y0.mk ((by rw [hg]; exact Nat.ne_of_gt (YT (g := gb101) (o := .cells #[.int .i64 a0_0, .string a0_1, .slice A0_2 l0_2.length c0_2, .slice A0_3 l0_3.length c0_3] 37 (0, 0)) QQ) : gb126 ≠ gb101)); have n12_ := Y0.mk ((by rw [hg]; exact Nat.ne_of_lt (YT (g := gb115) (o := .cells #[.int .i64 t105, .string t106, .slice Ao161 t107.length co161, .slice Ao162 t110.length co162] 37 (0, 0)) QQ) : gb115 ≠ gb126)); have n13_ := Y0.mk ((by rw [hg]; exact Nat.ne_of_gt (YT (g := gb115) (o := .cells #[.int .i64 t105, .string t106, .slice Ao161 t107.length co161, .slice Ao162 t110.length co162] 37 (0, 0)) QQ) : gb126 ≠ gb115)); clear HO109 HO112 HO120 HO123 BK101 BK115 HB; have HO109 := n0_; have HO112 := n1_; have HO120 := n2_; have HO123 := n3_; have BK101 := n4_; have BK115 := n5_; have HB := n6_; have BK126 := n7_; have GW126 := n8_; have GE126 := n9_; have NB101_126 := n10_; have NB126_101 := n11_; have NB115_126 := n12_; have NB126_115 := n13_; clear n0_ n1_ n2_ n3_ n4_ n5_ n6_ n7_ n8_ n9_ n10_ n11_ n12_ n13_ hb hbox hg; have hnb165 := NB126_101.out; have hnc165 := NB101_126.out; have hnb166 := NB126_115.out; have hnc166 := NB115_126.out; obtain ⟨hcz167_0, hcz167_1, hcz167_2, hcz167_3, hfz167_0, hfz167_1, hfz167_2, hfz167_3⟩ := Yx BK126.out; obtain ⟨Ao168, co168, eo168⟩ := Kd.R_slice HO120.out; subst eo168; obtain ⟨Ao169, co169, eo169⟩ := Kd.N_slice HO123.out; subst eo169))
         go_ret
         exact Z2h
def YF.l0 : Nat → List ByteArray → List ByteArray → Int → Int → Option (Bool)
 | 0, _, _, _, _ => none
 | k + 1, x0, x1, x12, x13 => if x13 < x12 then (if 0 ≤ x13 then (if x13 < (x0.length : Int) then (if x13 < (x1.length : Int) then (if (Y2m ByteArray.empty x0 x13).toList = (Y2m ByteArray.empty x1 x13).toList then (YF.l0 k x0 x1 x12 (wrap64 (x13 + 1))) else (some false)) else (none)) else (none)) else (none)) else (some true)
def YF.f (k : Nat) (l0 : List ByteArray) (l1 : List ByteArray) : Option (Bool) := if (l0.length : Int) = (l1.length : Int) then (YF.l0 k l0 l1 (l0.length : Int) 0) else (some false)
theorem YF.mono_l : ∀ k, (∀ y0 y1 y2 y3, LeO (YF.l0 k y0 y1 y2 y3) (YF.l0 (k + 1) y0 y1 y2 y3))
 | 0 => fun _ _ _ _ r h => by simp [YF.l0] at h
 | k + 1 => by
  have ih0 := YF.mono_l k
  ·intro y0 y1 y2 y3
   unfold YF.l0
   exact QM
theorem YF.mono : ∀ a0 a1 k, LeO (YF.f k a0 a1) (YF.f (k + 1) a0 a1) := by
 intro a0 a1 k
 have ih0 := YF.mono_l k
 unfold YF.f
 exact QM
mutual
def Y1E.f : Nat → Int → ByteArray → List ByteArray → List (S37) → Int → ByteArray → List ByteArray → List (S37) → Option (Bool)
 | 0, _, _, _, _, _, _, _, _ => none
 | k + 1, a0_0, a0_1, l0_2, l0_3, a1_0, a1_1, l1_2, l1_3 => if a0_0 = a1_0 then (if a0_1.toList = a1_1.toList then ((YF.f k l0_2 l1_2).bind fun t103 => (if t103 = true then ((Y29.f k l0_3 l1_3).bind fun t104 => (some t104)) else (some false))) else (some false)) else (some false)
def Y29.l0 : Nat → List (S37) → List (S37) → Int → Int → Option (Bool)
 | 0, _, _, _, _ => none
 | k + 1, x1, x15, x16, x17 => if x17 < x16 then (if 0 ≤ x17 then (if x17 < (x15.length : Int) then (if x17 < (x1.length : Int) then ((Y1E.f k ((Y4 x15 x17).f0) ((Y4 x15 x17).f1) ((Y4 x15 x17).f2) ((Y4 x15 x17).f3) ((Y4 x1 x17).f0) ((Y4 x1 x17).f1) ((Y4 x1 x17).f2) ((Y4 x1 x17).f3)).bind fun t109 => (if t109 = true then (Y29.l0 k x1 x15 x16 (wrap64 (x17 + 1))) else (some false))) else (none)) else (none)) else (none)) else (some true)
def Y29.f : Nat → List (S37) → List (S37) → Option (Bool)
 | 0, _, _ => none
 | k + 1, l0, l1 => if (l0.length : Int) = (l1.length : Int) then (Y29.l0 k l1 l0 (l0.length : Int) 0) else (some false)
end
theorem Y1E.mono_j : ∀ k, (∀ y0 y1 y2 y3 y4 y5 y6 y7, LeO (Y1E.f k y0 y1 y2 y3 y4 y5 y6 y7) (Y1E.f (k + 1) y0 y1 y2 y3 y4 y5 y6 y7)) ∧ (∀ y0 y1, LeO (Y29.f k y0 y1) (Y29.f (k + 1) y0 y1)) ∧ (∀ y0 y1 y2 y3, LeO (Y29.l0 k y0 y1 y2 y3) (Y29.l0 (k + 1) y0 y1 y2 y3))
 | 0 => ⟨fun _ _ _ _ _ _ _ _ r h => by simp [Y1E.f] at h, fun _ _ r h => by simp [Y29.f] at h, fun _ _ _ _ r h => by simp [Y29.l0] at h⟩
 | k + 1 => by
  obtain ⟨ih0, ih1, ih2⟩ := Y1E.mono_j k
  refine ⟨?_, ?_, ?_⟩
  ·intro y0 y1 y2 y3 y4 y5 y6 y7
   unfold Y1E.f
   exact QM
  ·intro y0 y1
   unfold Y29.f
   exact QM
  ·intro y0 y1 y2 y3
   unfold Y29.l0
   exact QM
def Y1y (w0 W : World) (g : Nat) (f0 : ByteArray) (f1 : Int) (f2 : Int) (f3 : Int) : Prop := W.heap[g]? = some (.cells #[.string f0, .int .i64 f1, .int .i64 f2, .int .i64 f3] 81 (0, 0)) ∧ w0.heap.size ≤ g
theorem Y1y.grown {w0 W : World} {g : Nat} {f0 : ByteArray} {f1 : Int} {f2 : Int} {f3 : Int} {W1 : World} {row : Option Nat} (h : Y1y w0 W g f0 f1 f2 f3) (hw : W.grownBy W1 row) (hne : some g ≠ row) : Y1y w0 W1 g f0 f1 f2 f3 := by
 obtain ⟨hb, hg⟩ := h
 exact ⟨Y3u hb hw hne, hg⟩
theorem Y1y.fresh {w0 W : World} {g : Nat} {f0 : ByteArray} {f1 : Int} {f2 : Int} {f3 : Int} (h : Y1y w0 W g f0 f1 f2 f3) : ∀ k, W.heap.size ≤ k → k ≠ g := by
 obtain ⟨hb, hg⟩ := h
 exact Kd.freshB hb
theorem Y1y.kept {w0 W : World} {g : Nat} {f0 : ByteArray} {f1 : Int} {f2 : Int} {f3 : Int} {W1 : World} {S : Nat → Prop} (h : Y1y w0 W g f0 f1 f2 f3) (hk : Y3t W W1 S) (hne : ¬ S g) : Y1y w0 W1 g f0 f1 f2 f3 := by
 obtain ⟨hb, hg⟩ := h
 exact ⟨Y5D hb hk hne, hg⟩
theorem Y1y.below {w0 W : World} {g : Nat} {f0 : ByteArray} {f1 : Int} {f2 : Int} {f3 : Int} {W1 : World} (h : Y1y w0 W g f0 f1 f2 f3) (hw : Below W.heap.size W W1) : Y1y w0 W1 g f0 f1 f2 f3 := h.grown (Y2N hw none) (by simp)
theorem Y1y.alloc {w0 W : World} {g : Nat} {f0 : ByteArray} {f1 : Int} {f2 : Int} {f3 : Int} (h : Y1y w0 W g f0 f1 f2 f3) (o : Obj) : Y1y w0 (W.alloc o) g f0 f1 f2 f3 := h.below (Y1z (Below.refl _ _) o)
theorem Y1y.drewN {w0 W : World} {g : Nat} {f0 : ByteArray} {f1 : Int} {f2 : Int} {f3 : Int} (h : Y1y w0 W g f0 f1 f2 f3) (m : Nat) : Y1y w0 (W.drewN m) g f0 f1 f2 f3 := h
theorem Y1y.drew {w0 W : World} {g : Nat} {f0 : ByteArray} {f1 : Int} {f2 : Int} {f3 : Int} (h : Y1y w0 W g f0 f1 f2 f3) : Y1y w0 W.drew g f0 f1 f2 f3 := h
theorem Y1y.at_ {w0 W : World} {g : Nat} {f0 : ByteArray} {f1 : Int} {f2 : Int} {f3 : Int} {w' : World} {m : Nat} (hq : W.drewN m = w') (h : Y1y w0 W g f0 f1 f2 f3) : Y1y w0 w' g f0 f1 f2 f3 := by subst hq; exact Y1y.drewN h m
theorem Y1y.apart {w0 W : World} {g : Nat} {f0 : ByteArray} {f1 : Int} {f2 : Int} {f3 : Int} {α : Type} {d : Kd α} {e : Nat} {base : Nat} {ok : Nat → Prop} {v : Value} {xs : List α} (h : Y1y w0 W g f0 f1 f2 f3) (ho : d.R e W base ok v xs) (ht : ∀ q, q ∈ e :: d.E → q ≠ 81) : d.R e W base (fun k => ok k ∧ k ≠ g) v xs := by
 obtain ⟨hb, hg⟩ := h
 exact Kd.R_types ho hb ht
theorem Y1y.Y5b {w0 W : World} {g : Nat} {f0 : ByteArray} {f1 : Int} {f2 : Int} {f3 : Int} {α : Type} {d : Kd α} {e : Nat} {base : Nat} {ok : Nat → Prop} {v : Value} {xs : List α} (h : Y1y w0 W g f0 f1 f2 f3) (ho : d.R e W base ok v xs) (ht : e ≠ 81) : some g ≠ v.ownBlock := by
 obtain ⟨hb, hg⟩ := h
 exact Kd.R_ne ho hb ht
theorem Y1y.lt {w0 W : World} {g : Nat} {f0 : ByteArray} {f1 : Int} {f2 : Int} {f3 : Int} (h : Y1y w0 W g f0 f1 f2 f3) : g < W.heap.size := by
 obtain ⟨hb, hg⟩ := h
 exact YT hb
theorem Y1y.ge {w0 W : World} {g : Nat} {f0 : ByteArray} {f1 : Int} {f2 : Int} {f3 : Int} (h : Y1y w0 W g f0 f1 f2 f3) : w0.heap.size ≤ g := by
 obtain ⟨hb, hg⟩ := h
 exact hg
theorem Y1y.far {w0 W : World} {g : Nat} {f0 : ByteArray} {f1 : Int} {f2 : Int} {f3 : Int} {p : Addr} (h : Y1y w0 W g f0 f1 f2 f3) (hne : g ≠ p.block) (u : Value) : Y1y w0 (W.setCell p u) g f0 f1 f2 f3 := by
 obtain ⟨hb, hg⟩ := h
 exact ⟨Y12 hb hne u, hg⟩
theorem Y1y.set_0 {w0 W : World} {g : Nat} {f0 : ByteArray} {f1 : Int} {f2 : Int} {f3 : Int} (h : Y1y w0 W g f0 f1 f2 f3) (x : ByteArray) : Y1y w0 (W.setCell ⟨g, 0, none⟩ (.string x)) g x f1 f2 f3 := by
 obtain ⟨hb, hg⟩ := h
 exact ⟨by simpa using Y2Q hb 0 (.string x), hg⟩
theorem Y1y.set_1 {w0 W : World} {g : Nat} {f0 : ByteArray} {f1 : Int} {f2 : Int} {f3 : Int} (h : Y1y w0 W g f0 f1 f2 f3) (x : Int) : Y1y w0 (W.setCell ⟨g, 1, none⟩ (.int .i64 x)) g f0 x f2 f3 := by
 obtain ⟨hb, hg⟩ := h
 exact ⟨by simpa using Y2Q hb 1 (.int .i64 x), hg⟩
theorem Y1y.set_2 {w0 W : World} {g : Nat} {f0 : ByteArray} {f1 : Int} {f2 : Int} {f3 : Int} (h : Y1y w0 W g f0 f1 f2 f3) (x : Int) : Y1y w0 (W.setCell ⟨g, 2, none⟩ (.int .i64 x)) g f0 f1 x f3 := by
 obtain ⟨hb, hg⟩ := h
 exact ⟨by simpa using Y2Q hb 2 (.int .i64 x), hg⟩
theorem Y1y.set_3 {w0 W : World} {g : Nat} {f0 : ByteArray} {f1 : Int} {f2 : Int} {f3 : Int} (h : Y1y w0 W g f0 f1 f2 f3) (x : Int) : Y1y w0 (W.setCell ⟨g, 3, none⟩ (.int .i64 x)) g f0 f1 f2 x := by
 obtain ⟨hb, hg⟩ := h
 exact ⟨by simpa using Y2Q hb 3 (.int .i64 x), hg⟩
def YE.l0 : Nat → ByteArray → Int → Int → Int → Option (Int × ByteArray × Int × Int × Int)
 | 0, _, _, _, _ => none
 | k + 1, x1000, x1001, x1002, x1003 => if x1001 < (x1000.size : Int) then (if 0 ≤ x1001 then (if (bt x1000 x1001) = 32 then (YE.l0 k x1000 (wrap64 (x1001 + 1)) x1002 x1003) else (if x1002 = 0 then (if x1001 ≥ (x1000.size : Int) then (some (0, x1000, x1001, x1002, x1003)) else (some (bt x1000 x1001, x1000, x1001, x1002, x1003))) else (some (0, x1000, x1001, x1002, x1003)))) else (none)) else (if x1002 = 0 then (if x1001 ≥ (x1000.size : Int) then (some (0, x1000, x1001, x1002, x1003)) else (if 0 ≤ x1001 then (none) else (none))) else (some (0, x1000, x1001, x1002, x1003)))
def YE.f (k : Nat) (s0_0 : ByteArray) (s0_1 : Int) (s0_2 : Int) (s0_3 : Int) : Option (Int × ByteArray × Int × Int × Int) := YE.l0 k s0_0 s0_1 s0_2 s0_3
theorem YE.mono_l : ∀ k, (∀ y0 y1 y2 y3, LeO (YE.l0 k y0 y1 y2 y3) (YE.l0 (k + 1) y0 y1 y2 y3))
 | 0 => fun _ _ _ _ r h => by simp [YE.l0] at h
 | k + 1 => by
  have ih0 := YE.mono_l k
  ·intro y0 y1 y2 y3
   unfold YE.l0
   exact QM
theorem YE.mono : ∀ a0 a1 a2 a3 k, LeO (YE.f k a0 a1 a2 a3) (YE.f (k + 1) a0 a1 a2 a3) := by
 intro a0 a1 a2 a3 k
 have ih0 := YE.mono_l k
 unfold YE.f
 exact QM
def Y17.f (s0_0 : ByteArray) (s0_1 : Int) (s0_2 : Int) (s0_3 : Int) (a1 : Int) (a2 : Int) : Option (Int × ByteArray × List ByteArray × (List (S37)) × ByteArray × Int × Int × Int) := if s0_2 = 0 then (some (0, (⟨#[]⟩ : ByteArray), ([] : List ByteArray), ([] : List (S37)), s0_0, s0_1, a2, a1)) else (some (0, (⟨#[]⟩ : ByteArray), ([] : List ByteArray), ([] : List (S37)), s0_0, s0_1, s0_2, s0_3))
mutual
def Ys.j1 : Nat → Int → ByteArray → Int → Int → Int → Option (ByteArray × ByteArray × Int × Int × Int)
 | 0, _, _, _, _, _ => none
 | k + 1, x3, x1000, x1001, x1002, x1003 => if x3 ≥ (x1000.size : Int) then ((Y17.f x1000 x1001 x1002 x1003 x1001 2).bind fun bt118 => (some ((⟨#[]⟩ : ByteArray), bt118.2.2.2.2.1, bt118.2.2.2.2.2.1, bt118.2.2.2.2.2.2.1, bt118.2.2.2.2.2.2.2))) else (if 0 ≤ (wrap64 (x1001 + 1)) then (if (wrap64 (x1001 + 1)) ≤ x3 then (if x3 ≤ (x1000.size : Int) then ((YV.f (x1000.extract ((wrap64 (x1001 + 1)) : Int).toNat (x3 : Int).toNat)).bind fun t130 => (if t130 = true then (some (x1000.extract ((wrap64 (x1001 + 1)) : Int).toNat (x3 : Int).toNat, x1000, wrap64 (x3 + 1), x1002, x1003)) else ((Y17.f x1000 x1001 x1002 x1003 x1001 2).bind fun bt131 => (some ((⟨#[]⟩ : ByteArray), bt131.2.2.2.2.1, bt131.2.2.2.2.2.1, bt131.2.2.2.2.2.2.1, bt131.2.2.2.2.2.2.2))))) else (none)) else (none)) else (none))
def Ys.l0 : Nat → Int → ByteArray → Int → Int → Int → Option (ByteArray × ByteArray × Int × Int × Int)
 | 0, _, _, _, _, _ => none
 | k + 1, x3, x1000, x1001, x1002, x1003 => if x3 < (x1000.size : Int) then (if 0 ≤ x3 then (if (bt x1000 x3) = 62 then (Ys.j1 k x3 x1000 x1001 x1002 x1003) else (Ys.l0 k (wrap64 (x3 + 1)) x1000 x1001 x1002 x1003)) else (none)) else (Ys.j1 k x3 x1000 x1001 x1002 x1003)
end
def Ys.f (k : Nat) (s0_0 : ByteArray) (s0_1 : Int) (s0_2 : Int) (s0_3 : Int) : Option (ByteArray × ByteArray × Int × Int × Int) := (YE.f k s0_0 s0_1 s0_2 s0_3).bind fun bt101 => (if bt101.1 = 60 then (Ys.l0 k (wrap64 (bt101.2.2.1 + 1)) bt101.2.1 bt101.2.2.1 bt101.2.2.2.1 bt101.2.2.2.2) else ((Y17.f bt101.2.1 bt101.2.2.1 bt101.2.2.2.1 bt101.2.2.2.2 bt101.2.2.1 2).bind fun bt106 => (some ((⟨#[]⟩ : ByteArray), bt106.2.2.2.2.1, bt106.2.2.2.2.2.1, bt106.2.2.2.2.2.2.1, bt106.2.2.2.2.2.2.2))))
theorem Ys.mono_l : ∀ k, (∀ y0 y1 y2 y3 y4, LeO (Ys.j1 k y0 y1 y2 y3 y4) (Ys.j1 (k + 1) y0 y1 y2 y3 y4)) ∧ (∀ y0 y1 y2 y3 y4, LeO (Ys.l0 k y0 y1 y2 y3 y4) (Ys.l0 (k + 1) y0 y1 y2 y3 y4))
 | 0 => ⟨fun _ _ _ _ _ r h => by simp [Ys.j1] at h, fun _ _ _ _ _ r h => by simp [Ys.l0] at h⟩
 | k + 1 => by
  obtain ⟨ih0, ih1⟩ := Ys.mono_l k
  refine ⟨?_, ?_⟩
  ·intro y0 y1 y2 y3 y4
   unfold Ys.j1
   exact QM
  ·intro y0 y1 y2 y3 y4
   unfold Ys.l0
   exact QM
theorem Ys.mono : ∀ a0 a1 a2 a3 k, LeO (Ys.f k a0 a1 a2 a3) (Ys.f (k + 1) a0 a1 a2 a3) := by
 intro a0 a1 a2 a3 k
 obtain ⟨ih0, ih1⟩ := Ys.mono_l k
 unfold Ys.f
 exact QM
def YL.f (k : Nat) (s0_0 : ByteArray) (s0_1 : Int) (s0_2 : Int) (s0_3 : Int) (a1 : Int) : Option (Bool × ByteArray × Int × Int × Int) := (YE.f k s0_0 s0_1 s0_2 s0_3).bind fun bt101 => (if bt101.1 = a1 then (some (true, bt101.2.1, wrap64 (bt101.2.2.1 + 1), bt101.2.2.2.1, bt101.2.2.2.2)) else (some (false, bt101.2.1, bt101.2.2.1, bt101.2.2.2.1, bt101.2.2.2.2)))
theorem YL.mono : ∀ a0 a1 a2 a3 a4 k, LeO (YL.f k a0 a1 a2 a3 a4) (YL.f (k + 1) a0 a1 a2 a3 a4) := by
 intro a0 a1 a2 a3 a4 k
 unfold YL.f
 exact QM
mutual
def Yw.j0 : Nat → Bool → ByteArray → Int → Int → Int → Int → Option (Int × ByteArray × List ByteArray × (List (S37)) × ByteArray × Int × Int × Int)
 | 0, _, _, _, _, _, _ => none
 | k + 1, x26, x1000, x1001, x1002, x1003, x103000 => if x26 = true then ((Ys.f k x1000 (wrap64 (x1001 + 1)) x1002 x1003).bind fun bt103 => (Yw.l0 k bt103.2.1 bt103.2.2.1 bt103.2.2.2.1 bt103.2.2.2.2 x103000 (([bt103.1] : List ByteArray)))) else ((Ys.f k x1000 x1001 x1002 x1003).bind fun bt141 => (some (x103000, (⟨#[]⟩ : ByteArray), (([bt141.1] : List ByteArray)), ([] : List (S37)), bt141.2.1, bt141.2.2.1, bt141.2.2.2.1, bt141.2.2.2.2)))
def Yw.l0 : Nat → ByteArray → Int → Int → Int → Int → List ByteArray → Option (Int × ByteArray × List ByteArray × (List (S37)) × ByteArray × Int × Int × Int)
 | 0, _, _, _, _, _, _ => none
 | k + 1, x1000, x1001, x1002, x1003, x103000, x103002 => (YL.f k x1000 x1001 x1002 x1003 124).bind fun bt111 => (if bt111.1 = true then ((Ys.f k bt111.2.1 bt111.2.2.1 bt111.2.2.2.1 bt111.2.2.2.2).bind fun bt116 => (if x103002.length < 8796093022208 then (Yw.l0 k bt116.2.1 bt116.2.2.1 bt116.2.2.2.1 bt116.2.2.2.2 x103000 (x103002 ++ [bt116.1])) else (none))) else ((YL.f k bt111.2.1 bt111.2.2.1 bt111.2.2.2.1 bt111.2.2.2.2 41).bind fun bt124 => (if bt124.1 = true then (some (x103000, (⟨#[]⟩ : ByteArray), x103002, ([] : List (S37)), bt124.2.1, bt124.2.2.1, bt124.2.2.2.1, bt124.2.2.2.2)) else ((Y17.f bt124.2.1 bt124.2.2.1 bt124.2.2.2.1 bt124.2.2.2.2 bt124.2.2.1 2).bind fun bt129 => (some (bt129.1, bt129.2.1, bt129.2.2.1, bt129.2.2.2.1, bt129.2.2.2.2.1, bt129.2.2.2.2.2.1, bt129.2.2.2.2.2.2.1, bt129.2.2.2.2.2.2.2))))))
end
def Yw.f (k : Nat) (s0_0 : ByteArray) (s0_1 : Int) (s0_2 : Int) (s0_3 : Int) : Option (Int × ByteArray × List ByteArray × (List (S37)) × ByteArray × Int × Int × Int) := if s0_1 < (s0_0.size : Int) then (if 0 ≤ s0_1 then (Yw.j0 k ((bt s0_0 s0_1) == 40) s0_0 s0_1 s0_2 s0_3 8) else (none)) else (Yw.j0 k false s0_0 s0_1 s0_2 s0_3 8)
theorem Yw.mono_l : ∀ k, (∀ y0 y1 y2 y3 y4 y5, LeO (Yw.j0 k y0 y1 y2 y3 y4 y5) (Yw.j0 (k + 1) y0 y1 y2 y3 y4 y5)) ∧ (∀ y0 y1 y2 y3 y4 y5, LeO (Yw.l0 k y0 y1 y2 y3 y4 y5) (Yw.l0 (k + 1) y0 y1 y2 y3 y4 y5))
 | 0 => ⟨fun _ _ _ _ _ _ r h => by simp [Yw.j0] at h, fun _ _ _ _ _ _ r h => by simp [Yw.l0] at h⟩
 | k + 1 => by
  obtain ⟨ih0, ih1⟩ := Yw.mono_l k
  refine ⟨?_, ?_⟩
  ·intro y0 y1 y2 y3 y4 y5
   unfold Yw.j0
   exact QM
  ·intro y0 y1 y2 y3 y4 y5
   unfold Yw.l0
   exact QM
theorem Yw.mono : ∀ a0 a1 a2 a3 k, LeO (Yw.f k a0 a1 a2 a3) (Yw.f (k + 1) a0 a1 a2 a3) := by
 intro a0 a1 a2 a3 k
 obtain ⟨ih0, ih1⟩ := Yw.mono_l k
 unfold Yw.f
 exact QM
end Go.Proofs.YtbpbfboaofkpaaaDoor.Print
end
