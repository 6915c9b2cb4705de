/- Proofs for this claim: printed by our driver and joined by pack.py; the last text holds the statement. -/
import Derived.Test.YtbpbfboaofkpaaaDoorQtQ4
section
namespace Go.Proofs.YtbpbfboaofkpaaaDoor.Print
open Go.RowKit Go.Proofs.YtbpbfboaofkpaaaDoorW.PrintWords Go.Proofs.YtbpbfboaofkpaaaDoorW.PrintLast Go.Proofs.YtbpbfboaofkpaaaDoorW.PrintMore
attribute [local go_sem] max2_int min2_int max_two min_two max_three min_three max_four min_four
set_option linter.unusedVariables false
set_option linter.unusedSimpArgs false
set_option maxHeartbeats 8000000 in
set_option maxRecDepth 100000 in
theorem Y3.calls (k : Nat) : ∀ (a0_0 : Int) (a0_1 : ByteArray) (A0_2 : Option Addr) (c0_2 : Nat) (l0_2 : List ByteArray) (A0_3 : Option Addr) (c0_3 : Nat) (l0_3 : List (S37)) (a1 : Int) (r : Int) (w : World) (hT : Tabs w) (hr0_2 : Kd.C Kd.string w A0_2 l0_2.length l0_2) (hc0_2 : l0_2.length ≤ c0_2) (hr0_3 : Kd.C k37 w A0_3 l0_3.length l0_3) (hc0_3 : l0_3.length ≤ c0_3) (h : Y3.f k a0_0 a0_1 l0_2 l0_3 a1 = some r),
  Calls Tryd.prog 49 #[.agg #[.int .i64 a0_0, .string a0_1, .slice A0_2 l0_2.length c0_2, .slice A0_3 l0_3.length c0_3], .int .i64 a1] w fun e w' => e = .returned (.int .i64 r) ∧ Below w.heap.size w w' := by
 induction k using Nat.strongRecOn with
 | _ k ih =>
 intro a0_0 a0_1 A0_2 c0_2 l0_2 A0_3 c0_3 l0_3 a1 r w hT hr0_2 hc0_2 hr0_3 hc0_3 h
 cases k with
 | zero => exact absurd h (by simp [Y3.f])
 | succ k =>
 simp only [Y3.f] at h
 have HT := Y0.mk hT
 clear hT
 have hu37 := Tryd.underlying37
 have HR0_2 := Y0.mk hr0_2
 have HC0_2 := Y0.mk hc0_2
 clear hr0_2 hc0_2
 have HR0_3 := Y0.mk hr0_3
 have HC0_3 := Y0.mk hc0_3
 clear hr0_3 hc0_3
 have HB := Y0.mk (Below.refl w.heap.size w)
 have H : ((Yl.f k a0_0).bind fun t102 => (if t102 = (l0_3.length : Int) then (if a1 > 5 then (Y3.j0 k a1 true a0_0 a0_1 l0_2 l0_3) else (if a0_0 = 1 then (if a0_0 = 8 then (Y3.j0 k a1 false a0_0 a0_1 l0_2 l0_3) else (Y3.j0 k a1 (decide ((l0_2.length : Int) > 0)) a0_0 a0_1 l0_2 l0_3)) else (if a0_1.toList = ([] : List UInt8) then (if a0_0 = 8 then (Y3.j0 k a1 false a0_0 a0_1 l0_2 l0_3) else (Y3.j0 k a1 (decide ((l0_2.length : Int) > 0)) a0_0 a0_1 l0_2 l0_3)) else (Y3.j0 k a1 true a0_0 a0_1 l0_2 l0_3)))) else (Y3.j0 k a1 true a0_0 a0_1 l0_2 l0_3))) = some r := h
 clear h
 have HC3 := Y0.mk H
 clear H
 go_enter Tryd.func49, Tryd.ntmps49
 go_upto_region 1 with (first | ((with_reducible refine YF (N := 2) rfl ?_); (try (refine Y19 (by rfl) ?_; dsimp only)); refine YA ?hg (N := 2) ?hd (cs := #[.int .i64 a0_0, .string a0_1, .slice A0_2 l0_2.length c0_2, .slice A0_3 l0_3.length c0_3]) (t := 37) ?hr ?_; (case hd => rfl); (case hg => rfl); (case hr => exact Za); intro gb101 hg w4 hbox hb; have n_ := Y2x (Y6 QB hb) (hbox) ((by rw [hg]; exact (Ya QB) : w.heap.size ≤ gb101)) ((by rw [hg]; exact (Ya QB) : w.heap.size ≤ gb101)); clear HB; obtain ⟨HB, BK101, GW101, GE101⟩ := n_; clear hb hbox hg))
 (try simp only [Act.put, List.setIfInBounds_toArray, List.set_cons_zero, List.set_cons_succ])
 go_cut [40] (fun v40 wc => ∃ (kq : Nat) (x40_2 : Bool), v40 = .bool x40_2 ∧ Y0 (Y3.j0 kq a1 x40_2 a0_0 a0_1 l0_2 l0_3 = some r) ∧ Y0 (kq ≤ k) ∧ Y0 (wc.heap[gb101]? = some (.cells #[.int .i64 a0_0, .string a0_1, (.slice A0_2 l0_2.length c0_2), (.slice A0_3 l0_3.length c0_3)] 37 (0, 0))) ∧ Y0 (Below w.heap.size w wc))
 case first =>
  have H := HC3.out
  clear HC3
  replace H := Option.bind_eq_some_iff.mp H
  obtain ⟨t102, A50, H⟩ := H
  replace H : (if t102 = (l0_3.length : Int) then (if a1 > 5 then (Y3.j0 k a1 true a0_0 a0_1 l0_2 l0_3) else (if a0_0 = 1 then (if a0_0 = 8 then (Y3.j0 k a1 false a0_0 a0_1 l0_2 l0_3) else (Y3.j0 k a1 (decide ((l0_2.length : Int) > 0)) a0_0 a0_1 l0_2 l0_3)) else (if a0_1.toList = ([] : List UInt8) then (if a0_0 = 8 then (Y3.j0 k a1 false a0_0 a0_1 l0_2 l0_3) else (Y3.j0 k a1 (decide ((l0_2.length : Int) > 0)) a0_0 a0_1 l0_2 l0_3)) else (Y3.j0 k a1 true a0_0 a0_1 l0_2 l0_3)))) else (Y3.j0 k a1 true a0_0 a0_1 l0_2 l0_3)) = some r := H
  have A5 := Y0.mk A50
  clear A50
  by_cases c6 : t102 = (l0_3.length : Int)
  ·rw [if_pos c6] at H
   have c6b0 : (t102 == (l0_3.length : Int)) = true := beq_iff_eq.mpr c6
   have c6b1 : (t102 != (l0_3.length : Int)) = false := bne_eq_false_iff_eq.mpr c6
   clear c6
   (first | rw [c6b0] | (simp only [Y14, Y15]; rw [c6b0]) | skip)
   by_cases c7 : a1 > 5
   ·rw [if_pos c7] at H
    have c7b0 : decide (5 < a1) = true := decide_eq_true c7
    clear c7
    have H' := Y0.mk H
    clear H
    try go_wp2
    have n_ := Y2i (Yc BK101.out) (YL HB.out)
    clear BK101
    clear HB
    obtain ⟨BK101, HB⟩ := n_
    refine Y1q (n := 32) (S := fun w' => w'.cell? ⟨gb101, 0, none⟩ = some (.int .i64 a0_0) ∧ w'.cell? ⟨gb101, 1, none⟩ = some (.string a0_1) ∧ w'.cell? ⟨gb101, 2, none⟩ = some (.slice A0_2 l0_2.length c0_2) ∧ w'.cell? ⟨gb101, 3, none⟩ = some (.slice A0_3 l0_3.length c0_3)) (ds := []) Y44 Z6 rfl rfl ⟨(Y1 BK101.out 0).trans rfl, (Y1 BK101.out 1).trans rfl, (Y1 BK101.out 2).trans rfl, (Y1 BK101.out 3).trans rfl⟩ (fun hHeld => ?_); refine YW Y3.tab1 Y3.bits1 (fun HT_ HW_ => ?_)
    generalize w4.drew = w8 at BK101 HB hHeld ⊢
    refine pY 0 9 Y45 ?_
    refine pY 3 12 Y46 ?_
    refine pT 1 10 Y47 ?_
    refine pT 4 13 Y3e ?_
    refine pY 5 14 Y3f ?_
    refine Y2b (i := 2) (N := some 11) Y3g rfl rfl (Y16 HT_.out Z6) (by decide) (fun K hK => ?_)
    refine Y1r Tryd.func92 Z6 rfl #[.int .i64 a0_0] (by rfl) rfl rfl Z0 ?_
    with_reducible refine (Yl.calls k a0_0 t102 _ A5.out).mono ?_
    rintro e w' ⟨rfl, ⟨nd, rfl⟩⟩
    refine ⟨_, rfl, ?_⟩
    refine hK.out _ _ ⟨(Y1 BK101.out 0).trans rfl, (Y1 BK101.out 1).trans rfl, (Y1 BK101.out 2).trans rfl, (Y1 BK101.out 3).trans rfl⟩ (fun hHeld => ?_)
    clear hK K
    refine Y1k (a' := ?_) ?_ ?_
    rotate_left
    ·show Act.put _ (some 11) _ = _
     simp only [Act.put, List.setIfInBounds_toArray, List.set_cons_zero, List.set_cons_succ, Y14, Y15]
     rfl
    refine pY 6 15 Y3h ?_
    refine pY 7 16 Y3i ?_
    refine pY 8 17 Y2R ?_
    refine pY 9 18 Y2S ?_
    refine pY 10 19 Y2T ?_
    refine pY 11 20 Y2U ?_
    refine pU 12 21 Y2C ?_
    refine pU 13 22 Y2D ?_
    refine pU 14 23 Y2E ?_
    refine pU 15 24 Y2F ?_
    refine pU 16 25 Y2o ?_
    refine pU 17 26 Y2p ?_
    refine pU 18 27 Y2q ?_
    refine pU 19 28 Y2r ?_
    refine pY 20 29 Y2e ?_
    refine pY 21 30 Y2f ?_
    refine pU 22 31 Y2g ?_
    refine pU 23 32 Y2h ?_
    refine pU 24 33 Y1X ?_
    refine pU 25 34 Y1Y ?_
    refine pU 26 35 Y1Z ?_
    refine pU 27 36 Y20 ?_
    refine pU 28 37 Y1K ?_
    refine pU 29 38 Y1L ?_
    refine pU 30 39 Y1M ?_
    refine pY 31 40 Y1N ?_
    refine Y1O (Y1a HT_.out Z6) ?_
    try go_wp2
    go_meet
    case rel => exact Z1G
   ·rw [if_neg c7] at H
    have c7b0 : decide (5 < a1) = false := decide_eq_false c7
    clear c7
    by_cases c9 : a0_0 = 1
    ·rw [if_pos c9] at H
     have c9b0 : (a0_0 == 1) = true := beq_iff_eq.mpr c9
     have c9b1 : (a0_0 != 1) = false := bne_eq_false_iff_eq.mpr c9
     clear c9
     by_cases c10 : a0_0 = 8
     ·rw [if_pos c10] at H
      have c10b0 : (a0_0 == 8) = true := beq_iff_eq.mpr c10
      have c10b1 : (a0_0 != 8) = false := bne_eq_false_iff_eq.mpr c10
      clear c10
      have H' := Y0.mk H
      clear H
      try go_wp2
      have n_ := Y2i (Yc BK101.out) (YL HB.out)
      clear BK101
      clear HB
      obtain ⟨BK101, HB⟩ := n_
      refine Y1q (n := 32) (S := fun w' => w'.cell? ⟨gb101, 0, none⟩ = some (.int .i64 a0_0) ∧ w'.cell? ⟨gb101, 1, none⟩ = some (.string a0_1) ∧ w'.cell? ⟨gb101, 2, none⟩ = some (.slice A0_2 l0_2.length c0_2) ∧ w'.cell? ⟨gb101, 3, none⟩ = some (.slice A0_3 l0_3.length c0_3)) (ds := []) Y44 Z6 rfl rfl ⟨(Y1 BK101.out 0).trans rfl, (Y1 BK101.out 1).trans rfl, (Y1 BK101.out 2).trans rfl, (Y1 BK101.out 3).trans rfl⟩ (fun hHeld => ?_); refine YW Y3.tab1 Y3.bits1 (fun HT_ HW_ => ?_)
      generalize w4.drew = w11 at BK101 HB hHeld ⊢
      refine pY 0 9 Y45 ?_
      refine pY 3 12 Y46 ?_
      refine pT 1 10 Y47 ?_
      refine pT 4 13 Y3e ?_
      refine pY 5 14 Y3f ?_
      refine Y2b (i := 2) (N := some 11) Y3g rfl rfl (Y16 HT_.out Z6) (by decide) (fun K hK => ?_)
      refine Y1r Tryd.func92 Z6 rfl #[.int .i64 a0_0] (by rfl) rfl rfl Z0 ?_
      with_reducible refine (Yl.calls k a0_0 t102 _ A5.out).mono ?_
      rintro e w' ⟨rfl, ⟨nd, rfl⟩⟩
      refine ⟨_, rfl, ?_⟩
      refine hK.out _ _ ⟨(Y1 BK101.out 0).trans rfl, (Y1 BK101.out 1).trans rfl, (Y1 BK101.out 2).trans rfl, (Y1 BK101.out 3).trans rfl⟩ (fun hHeld => ?_)
      clear hK K
      refine Y1k (a' := ?_) ?_ ?_
      rotate_left
      ·show Act.put _ (some 11) _ = _
       simp only [Act.put, List.setIfInBounds_toArray, List.set_cons_zero, List.set_cons_succ, Y14, Y15]
       rfl
      refine pY 6 15 Y3h ?_
      refine pY 7 16 Y3i ?_
      refine pY 8 17 Y2R ?_
      refine pY 9 18 Y2S ?_
      refine pY 10 19 Y2T ?_
      refine pY 11 20 Y2U ?_
      refine pY 12 21 Y2C ?_
      refine pT 13 22 Y2D ?_
      refine pY 14 23 Y2E ?_
      refine pY 15 24 Y2F ?_
      refine pU 16 25 Y2o ?_
      refine pU 17 26 Y2p ?_
      refine pU 18 27 Y2q ?_
      refine pY 19 28 Y2r ?_
      refine pY 20 29 Y2e ?_
      refine pY 21 30 Y2f ?_
      refine pY 22 31 Y2g ?_
      refine pT 23 32 Y2h ?_
      refine pY 24 33 Y1X ?_
      refine pY 25 34 Y1Y ?_
      refine pU 26 35 Y1Z ?_
      refine pU 27 36 Y20 ?_
      refine pU 28 37 Y1K ?_
      refine pU 29 38 Y1L ?_
      refine pY 30 39 Y1M ?_
      refine pY 31 40 Y1N ?_
      refine Y1O (Y1a HT_.out Z6) ?_
      try go_wp2
      go_meet
      case rel => exact ⟨_, (false), Z9, H', ⟨Zm⟩, ⟨Z4⟩, ⟨QB⟩⟩
     ·rw [if_neg c10] at H
      have c10b0 : (a0_0 == 8) = false := beq_eq_false_iff_ne.mpr c10
      have c10b1 : (a0_0 != 8) = true := bne_iff_ne.mpr c10
      have H' := Y0.mk H
      clear H
      try go_wp2
      have n_ := Y2i (Yc BK101.out) (YL HB.out)
      clear BK101
      clear HB
      obtain ⟨BK101, HB⟩ := n_
      refine Y1q (n := 32) (S := fun w' => w'.cell? ⟨gb101, 0, none⟩ = some (.int .i64 a0_0) ∧ w'.cell? ⟨gb101, 1, none⟩ = some (.string a0_1) ∧ w'.cell? ⟨gb101, 2, none⟩ = some (.slice A0_2 l0_2.length c0_2) ∧ w'.cell? ⟨gb101, 3, none⟩ = some (.slice A0_3 l0_3.length c0_3)) (ds := []) Y44 Z6 rfl rfl ⟨(Y1 BK101.out 0).trans rfl, (Y1 BK101.out 1).trans rfl, (Y1 BK101.out 2).trans rfl, (Y1 BK101.out 3).trans rfl⟩ (fun hHeld => ?_); refine YW Y3.tab1 Y3.bits1 (fun HT_ HW_ => ?_)
      generalize w4.drew = w12 at BK101 HB hHeld ⊢
      refine pY 0 9 Y45 ?_
      refine pY 3 12 Y46 ?_
      refine pT 1 10 Y47 ?_
      refine pT 4 13 Y3e ?_
      refine pY 5 14 Y3f ?_
      refine Y2b (i := 2) (N := some 11) Y3g rfl rfl (Y16 HT_.out Z6) (by decide) (fun K hK => ?_)
      refine Y1r Tryd.func92 Z6 rfl #[.int .i64 a0_0] (by rfl) rfl rfl Z0 ?_
      with_reducible refine (Yl.calls k a0_0 t102 _ A5.out).mono ?_
      rintro e w' ⟨rfl, ⟨nd, rfl⟩⟩
      refine ⟨_, rfl, ?_⟩
      refine hK.out _ _ ⟨(Y1 BK101.out 0).trans rfl, (Y1 BK101.out 1).trans rfl, (Y1 BK101.out 2).trans rfl, (Y1 BK101.out 3).trans rfl⟩ (fun hHeld => ?_)
      clear hK K
      refine Y1k (a' := ?_) ?_ ?_
      rotate_left
      ·show Act.put _ (some 11) _ = _
       simp only [Act.put, List.setIfInBounds_toArray, List.set_cons_zero, List.set_cons_succ, Y14, Y15]
       rfl
      refine pY 6 15 Y3h ?_
      refine pY 7 16 Y3i ?_
      refine pY 8 17 Y2R ?_
      refine pY 9 18 Y2S ?_
      refine pY 10 19 Y2T ?_
      refine pY 11 20 Y2U ?_
      refine pY 12 21 Y2C ?_
      refine pT 13 22 Y2D ?_
      refine pY 14 23 Y2E ?_
      refine pY 15 24 Y2F ?_
      refine pU 16 25 Y2o ?_
      refine pU 17 26 Y2p ?_
      refine pU 18 27 Y2q ?_
      refine pY 19 28 Y2r ?_
      refine pY 20 29 Y2e ?_
      refine pY 21 30 Y2f ?_
      refine pY 22 31 Y2g ?_
      refine pT 23 32 Y2h ?_
      refine pY 24 33 Y1X ?_
      refine pY 25 34 Y1Y ?_
      refine pY 26 35 Y1Z ?_
      refine pT 27 36 Y20 ?_
      refine pY 28 37 Y1K ?_
      refine pY 29 38 Y1L ?_
      refine pY 30 39 Y1M ?_
      refine pY 31 40 Y1N ?_
      refine Y1O (Y1a HT_.out Z6) ?_
      try go_wp2
      go_meet
      case rel => exact ⟨_, (decide ((l0_2.length : Int) > 0)), Z9, H', ⟨Zm⟩, ⟨Z4⟩, ⟨QB⟩⟩
    ·rw [if_neg c9] at H
     have c9b0 : (a0_0 == 1) = false := beq_eq_false_iff_ne.mpr c9
     have c9b1 : (a0_0 != 1) = true := bne_iff_ne.mpr c9
     by_cases c13 : a0_1.toList = ([] : List UInt8)
     ·rw [if_pos c13] at H
      have c13b0 : (a0_1.toList == ([] : List UInt8)) = true := beq_iff_eq.mpr c13
      have c13b1 : (a0_1.toList != ([] : List UInt8)) = false := bne_eq_false_iff_eq.mpr c13
      clear c13
      by_cases c14 : a0_0 = 8
      ·rw [if_pos c14] at H
       have c14b0 : (a0_0 == 8) = true := beq_iff_eq.mpr c14
       have c14b1 : (a0_0 != 8) = false := bne_eq_false_iff_eq.mpr c14
       clear c14
       have H' := Y0.mk H
       clear H
       try go_wp2
       have n_ := Y2i (Yc BK101.out) (YL HB.out)
       clear BK101
       clear HB
       obtain ⟨BK101, HB⟩ := n_
       refine Y1q (n := 32) (S := fun w' => w'.cell? ⟨gb101, 0, none⟩ = some (.int .i64 a0_0) ∧ w'.cell? ⟨gb101, 1, none⟩ = some (.string a0_1) ∧ w'.cell? ⟨gb101, 2, none⟩ = some (.slice A0_2 l0_2.length c0_2) ∧ w'.cell? ⟨gb101, 3, none⟩ = some (.slice A0_3 l0_3.length c0_3)) (ds := []) Y44 Z6 rfl rfl ⟨(Y1 BK101.out 0).trans rfl, (Y1 BK101.out 1).trans rfl, (Y1 BK101.out 2).trans rfl, (Y1 BK101.out 3).trans rfl⟩ (fun hHeld => ?_); refine YW Y3.tab1 Y3.bits1 (fun HT_ HW_ => ?_)
       generalize w4.drew = w15 at BK101 HB hHeld ⊢
       refine pY 0 9 Y45 ?_
       refine pY 3 12 Y46 ?_
       refine pT 1 10 Y47 ?_
       refine pT 4 13 Y3e ?_
       refine pY 5 14 Y3f ?_
       refine Y2b (i := 2) (N := some 11) Y3g rfl rfl (Y16 HT_.out Z6) (by decide) (fun K hK => ?_)
       refine Y1r Tryd.func92 Z6 rfl #[.int .i64 a0_0] (by rfl) rfl rfl Z0 ?_
       with_reducible refine (Yl.calls k a0_0 t102 _ A5.out).mono ?_
       rintro e w' ⟨rfl, ⟨nd, rfl⟩⟩
       refine ⟨_, rfl, ?_⟩
       refine hK.out _ _ ⟨(Y1 BK101.out 0).trans rfl, (Y1 BK101.out 1).trans rfl, (Y1 BK101.out 2).trans rfl, (Y1 BK101.out 3).trans rfl⟩ (fun hHeld => ?_)
       clear hK K
       refine Y1k (a' := ?_) ?_ ?_
       rotate_left
       ·show Act.put _ (some 11) _ = _
        simp only [Act.put, List.setIfInBounds_toArray, List.set_cons_zero, List.set_cons_succ, Y14, Y15]
        rfl
       refine pY 6 15 Y3h ?_
       refine pY 7 16 Y3i ?_
       refine pY 8 17 Y2R ?_
       refine pY 9 18 Y2S ?_
       refine pY 10 19 Y2T ?_
       refine pY 11 20 Y2U ?_
       refine pY 12 21 Y2C ?_
       refine pT 13 22 Y2D ?_
       refine pY 14 23 Y2E ?_
       refine pY 15 24 Y2F ?_
       refine pY 16 25 Y2o ?_
       refine pT 17 26 Y2p ?_
       refine pY 18 27 Y2q ?_
       refine pY 19 28 Y2r ?_
       refine pY 20 29 Y2e ?_
       refine pY 21 30 Y2f ?_
       refine pY 22 31 Y2g ?_
       refine pT 23 32 Y2h ?_
       refine pY 24 33 Y1X ?_
       refine pY 25 34 Y1Y ?_
       refine pU 26 35 Y1Z ?_
       refine pU 27 36 Y20 ?_
       refine pU 28 37 Y1K ?_
       refine pU 29 38 Y1L ?_
       refine pY 30 39 Y1M ?_
       refine pY 31 40 Y1N ?_
       refine Y1O (Y1a HT_.out Z6) ?_
       try go_wp2
       go_meet
       case rel => exact ⟨_, (false), Z9, H', ⟨Zm⟩, ⟨Z4⟩, ⟨QB⟩⟩
      ·rw [if_neg c14] at H
       have c14b0 : (a0_0 == 8) = false := beq_eq_false_iff_ne.mpr c14
       have c14b1 : (a0_0 != 8) = true := bne_iff_ne.mpr c14
       have H' := Y0.mk H
       clear H
       try go_wp2
       have n_ := Y2i (Yc BK101.out) (YL HB.out)
       clear BK101
       clear HB
       obtain ⟨BK101, HB⟩ := n_
       refine Y1q (n := 32) (S := fun w' => w'.cell? ⟨gb101, 0, none⟩ = some (.int .i64 a0_0) ∧ w'.cell? ⟨gb101, 1, none⟩ = some (.string a0_1) ∧ w'.cell? ⟨gb101, 2, none⟩ = some (.slice A0_2 l0_2.length c0_2) ∧ w'.cell? ⟨gb101, 3, none⟩ = some (.slice A0_3 l0_3.length c0_3)) (ds := []) Y44 Z6 rfl rfl ⟨(Y1 BK101.out 0).trans rfl, (Y1 BK101.out 1).trans rfl, (Y1 BK101.out 2).trans rfl, (Y1 BK101.out 3).trans rfl⟩ (fun hHeld => ?_); refine YW Y3.tab1 Y3.bits1 (fun HT_ HW_ => ?_)
       generalize w4.drew = w16 at BK101 HB hHeld ⊢
       refine pY 0 9 Y45 ?_
       refine pY 3 12 Y46 ?_
       refine pT 1 10 Y47 ?_
       refine pT 4 13 Y3e ?_
       refine pY 5 14 Y3f ?_
       refine Y2b (i := 2) (N := some 11) Y3g rfl rfl (Y16 HT_.out Z6) (by decide) (fun K hK => ?_)
       refine Y1r Tryd.func92 Z6 rfl #[.int .i64 a0_0] (by rfl) rfl rfl Z0 ?_
       with_reducible refine (Yl.calls k a0_0 t102 _ A5.out).mono ?_
       rintro e w' ⟨rfl, ⟨nd, rfl⟩⟩
       refine ⟨_, rfl, ?_⟩
       refine hK.out _ _ ⟨(Y1 BK101.out 0).trans rfl, (Y1 BK101.out 1).trans rfl, (Y1 BK101.out 2).trans rfl, (Y1 BK101.out 3).trans rfl⟩ (fun hHeld => ?_)
       clear hK K
       refine Y1k (a' := ?_) ?_ ?_
       rotate_left
       ·show Act.put _ (some 11) _ = _
        simp only [Act.put, List.setIfInBounds_toArray, List.set_cons_zero, List.set_cons_succ, Y14, Y15]
        rfl
       refine pY 6 15 Y3h ?_
       refine pY 7 16 Y3i ?_
       refine pY 8 17 Y2R ?_
       refine pY 9 18 Y2S ?_
       refine pY 10 19 Y2T ?_
       refine pY 11 20 Y2U ?_
       refine pY 12 21 Y2C ?_
       refine pT 13 22 Y2D ?_
       refine pY 14 23 Y2E ?_
       refine pY 15 24 Y2F ?_
       refine pY 16 25 Y2o ?_
       refine pT 17 26 Y2p ?_
       refine pY 18 27 Y2q ?_
       refine pY 19 28 Y2r ?_
       refine pY 20 29 Y2e ?_
       refine pY 21 30 Y2f ?_
       refine pY 22 31 Y2g ?_
       refine pT 23 32 Y2h ?_
       refine pY 24 33 Y1X ?_
       refine pY 25 34 Y1Y ?_
       refine pY 26 35 Y1Z ?_
       refine pT 27 36 Y20 ?_
       refine pY 28 37 Y1K ?_
       refine pY 29 38 Y1L ?_
       refine pY 30 39 Y1M ?_
       refine pY 31 40 Y1N ?_
       refine Y1O (Y1a HT_.out Z6) ?_
       try go_wp2
       go_meet
       case rel => exact ⟨_, (decide ((l0_2.length : Int) > 0)), Z9, H', ⟨Zm⟩, ⟨Z4⟩, ⟨QB⟩⟩
     ·rw [if_neg c13] at H
      have c13b0 : (a0_1.toList == ([] : List UInt8)) = false := beq_eq_false_iff_ne.mpr c13
      have c13b1 : (a0_1.toList != ([] : List UInt8)) = true := bne_iff_ne.mpr c13
      have H' := Y0.mk H
      clear H
      try go_wp2
      have n_ := Y2i (Yc BK101.out) (YL HB.out)
      clear BK101
      clear HB
      obtain ⟨BK101, HB⟩ := n_
      refine Y1q (n := 32) (S := fun w' => w'.cell? ⟨gb101, 0, none⟩ = some (.int .i64 a0_0) ∧ w'.cell? ⟨gb101, 1, none⟩ = some (.string a0_1) ∧ w'.cell? ⟨gb101, 2, none⟩ = some (.slice A0_2 l0_2.length c0_2) ∧ w'.cell? ⟨gb101, 3, none⟩ = some (.slice A0_3 l0_3.length c0_3)) (ds := []) Y44 Z6 rfl rfl ⟨(Y1 BK101.out 0).trans rfl, (Y1 BK101.out 1).trans rfl, (Y1 BK101.out 2).trans rfl, (Y1 BK101.out 3).trans rfl⟩ (fun hHeld => ?_); refine YW Y3.tab1 Y3.bits1 (fun HT_ HW_ => ?_)
      generalize w4.drew = w17 at BK101 HB hHeld ⊢
      refine pY 0 9 Y45 ?_
      refine pY 3 12 Y46 ?_
      refine pT 1 10 Y47 ?_
      refine pT 4 13 Y3e ?_
      refine pY 5 14 Y3f ?_
      refine Y2b (i := 2) (N := some 11) Y3g rfl rfl (Y16 HT_.out Z6) (by decide) (fun K hK => ?_)
      refine Y1r Tryd.func92 Z6 rfl #[.int .i64 a0_0] (by rfl) rfl rfl Z0 ?_
      with_reducible refine (Yl.calls k a0_0 t102 _ A5.out).mono ?_
      rintro e w' ⟨rfl, ⟨nd, rfl⟩⟩
      refine ⟨_, rfl, ?_⟩
      refine hK.out _ _ ⟨(Y1 BK101.out 0).trans rfl, (Y1 BK101.out 1).trans rfl, (Y1 BK101.out 2).trans rfl, (Y1 BK101.out 3).trans rfl⟩ (fun hHeld => ?_)
      clear hK K
      refine Y1k (a' := ?_) ?_ ?_
      rotate_left
      ·show Act.put _ (some 11) _ = _
       simp only [Act.put, List.setIfInBounds_toArray, List.set_cons_zero, List.set_cons_succ, Y14, Y15]
       rfl
      refine pY 6 15 Y3h ?_
      refine pY 7 16 Y3i ?_
      refine pY 8 17 Y2R ?_
      refine pY 9 18 Y2S ?_
      refine pY 10 19 Y2T ?_
      refine pY 11 20 Y2U ?_
      refine pY 12 21 Y2C ?_
      refine pT 13 22 Y2D ?_
      refine pY 14 23 Y2E ?_
      refine pY 15 24 Y2F ?_
      refine pY 16 25 Y2o ?_
      refine pT 17 26 Y2p ?_
      refine pY 18 27 Y2q ?_
      refine pY 19 28 Y2r ?_
      refine pY 20 29 Y2e ?_
      refine pY 21 30 Y2f ?_
      refine pU 22 31 Y2g ?_
      refine pU 23 32 Y2h ?_
      refine pU 24 33 Y1X ?_
      refine pU 25 34 Y1Y ?_
      refine pU 26 35 Y1Z ?_
      refine pU 27 36 Y20 ?_
      refine pU 28 37 Y1K ?_
      refine pU 29 38 Y1L ?_
      refine pU 30 39 Y1M ?_
      refine pY 31 40 Y1N ?_
      refine Y1O (Y1a HT_.out Z6) ?_
      try go_wp2
      go_meet
      case rel => exact Z1G
  ·rw [if_neg c6] at H
   have c6b0 : (t102 == (l0_3.length : Int)) = false := beq_eq_false_iff_ne.mpr c6
   have c6b1 : (t102 != (l0_3.length : Int)) = true := bne_iff_ne.mpr c6
   (first | rw [c6b0] | (simp only [Y14, Y15]; rw [c6b0]) | skip)
   have H' := Y0.mk H
   clear H
   try go_wp2
   have n_ := Y2i (Yc BK101.out) (YL HB.out)
   clear BK101
   clear HB
   obtain ⟨BK101, HB⟩ := n_
   refine Y1q (n := 32) (S := fun w' => w'.cell? ⟨gb101, 0, none⟩ = some (.int .i64 a0_0) ∧ w'.cell? ⟨gb101, 1, none⟩ = some (.string a0_1) ∧ w'.cell? ⟨gb101, 2, none⟩ = some (.slice A0_2 l0_2.length c0_2) ∧ w'.cell? ⟨gb101, 3, none⟩ = some (.slice A0_3 l0_3.length c0_3)) (ds := []) Y44 Z6 rfl rfl ⟨(Y1 BK101.out 0).trans rfl, (Y1 BK101.out 1).trans rfl, (Y1 BK101.out 2).trans rfl, (Y1 BK101.out 3).trans rfl⟩ (fun hHeld => ?_); refine YW Y3.tab1 Y3.bits1 (fun HT_ HW_ => ?_)
   generalize w4.drew = w18 at BK101 HB hHeld ⊢
   refine pY 0 9 Y45 ?_
   refine pY 3 12 Y46 ?_
   refine pT 1 10 Y47 ?_
   refine pT 4 13 Y3e ?_
   refine pY 5 14 Y3f ?_
   refine Y2b (i := 2) (N := some 11) Y3g rfl rfl (Y16 HT_.out Z6) (by decide) (fun K hK => ?_)
   refine Y1r Tryd.func92 Z6 rfl #[.int .i64 a0_0] (by rfl) rfl rfl Z0 ?_
   with_reducible refine (Yl.calls k a0_0 t102 _ A5.out).mono ?_
   rintro e w' ⟨rfl, ⟨nd, rfl⟩⟩
   refine ⟨_, rfl, ?_⟩
   refine hK.out _ _ ⟨(Y1 BK101.out 0).trans rfl, (Y1 BK101.out 1).trans rfl, (Y1 BK101.out 2).trans rfl, (Y1 BK101.out 3).trans rfl⟩ (fun hHeld => ?_)
   clear hK K
   refine Y1k (a' := ?_) ?_ ?_
   rotate_left
   ·show Act.put _ (some 11) _ = _
    simp only [Act.put, List.setIfInBounds_toArray, List.set_cons_zero, List.set_cons_succ, Y14, Y15]
    rfl
   refine pY 6 15 Y3h ?_
   refine pY 7 16 Y3i ?_
   refine pU 8 17 Y2R ?_
   refine pU 9 18 Y2S ?_
   refine pY 10 19 Y2T ?_
   refine pY 11 20 Y2U ?_
   refine pU 12 21 Y2C ?_
   refine pU 13 22 Y2D ?_
   refine pU 14 23 Y2E ?_
   refine pU 15 24 Y2F ?_
   refine pU 16 25 Y2o ?_
   refine pU 17 26 Y2p ?_
   refine pU 18 27 Y2q ?_
   refine pU 19 28 Y2r ?_
   refine pY 20 29 Y2e ?_
   refine pY 21 30 Y2f ?_
   refine pU 22 31 Y2g ?_
   refine pU 23 32 Y2h ?_
   refine pU 24 33 Y1X ?_
   refine pU 25 34 Y1Y ?_
   refine pU 26 35 Y1Z ?_
   refine pU 27 36 Y20 ?_
   refine pU 28 37 Y1K ?_
   refine pU 29 38 Y1L ?_
   refine pU 30 39 Y1M ?_
   refine pY 31 40 Y1N ?_
   refine Y1O (Y1a HT_.out Z6) ?_
   try go_wp2
   go_meet
   case rel => exact Z1G
 case rest =>
  clear HC3
  try clear c1
  try clear p2
  try clear c6
  try clear c6b0
  try clear c6b1
  try clear c9
  try clear c13
  try clear c13b0
  try clear c13b1
  obtain ⟨kq, x40_2, rfl, HA, HJ2, BK101, HB⟩ := hcut
  cases kq with
  | zero => exact absurd HA.out (by simp [Y3.j0])
  | succ kj2 =>
   have H := HA.out
   clear HA
   simp only [Y3.j0] at H
   by_cases c19 : x40_2 = true
   ·subst c19
    have H1 : (some (-1)) = some r := by rw [if_pos rfl] at H; exact H
    clear H
    have H := H1
    clear H1
    obtain rfl := Option.some.inj H
    go_wp2
    go_ret
    exact Z1F
   ·replace c19 := Bool.eq_false_iff.mpr c19
    subst c19
    have H1 : (if a0_0 = 1 then ((YX.f a0_1).bind fun t103 => (if t103 = true then (if a0_0 = 8 then (if (l0_2.length : Int) < 1 then (Y3.j1 kj2 a1 true a0_0 a0_1 l0_2 l0_3) else (Y3.j1 kj2 a1 (decide ((l0_2.length : Int) > 4)) a0_0 a0_1 l0_2 l0_3)) else (Y3.j1 kj2 a1 false a0_0 a0_1 l0_2 l0_3)) else (Y3.j1 kj2 a1 true a0_0 a0_1 l0_2 l0_3))) else (if a0_0 = 8 then (if (l0_2.length : Int) < 1 then (Y3.j1 kj2 a1 true a0_0 a0_1 l0_2 l0_3) else (Y3.j1 kj2 a1 (decide ((l0_2.length : Int) > 4)) a0_0 a0_1 l0_2 l0_3)) else (Y3.j1 kj2 a1 false a0_0 a0_1 l0_2 l0_3))) = some r := by rw [if_neg (show ¬ (false = true) by decide)] at H; exact H
    clear H
    have H := H1
    clear H1
    have HC20 := Y0.mk H
    clear H
    go_upto_region 3 with (fail)
    go_cut [66] (fun v66 wc => ∃ (kq : Nat) (x66_19 : Bool), v66 = .bool x66_19 ∧ Y0 (Y3.j1 kq a1 x66_19 a0_0 a0_1 l0_2 l0_3 = some r) ∧ Y0 (kq ≤ kj2) ∧ Y0 (wc.heap[gb101]? = some (.cells #[.int .i64 a0_0, .string a0_1, (.slice A0_2 l0_2.length c0_2), (.slice A0_3 l0_3.length c0_3)] 37 (0, 0))) ∧ Y0 (Below w.heap.size w wc))
    case first =>
     have H := HC20.out
     clear HC20
     by_cases c21 : a0_0 = 1
     ·rw [if_pos c21] at H
      have c21b0 : (a0_0 == 1) = true := beq_iff_eq.mpr c21
      have c21b1 : (a0_0 != 1) = false := bne_eq_false_iff_eq.mpr c21
      clear c21
      (first | rw [c21b0] | (simp only [Y14, Y15]; rw [c21b0]) | skip)
      replace H := Option.bind_eq_some_iff.mp H
      obtain ⟨t103, A220, H⟩ := H
      replace H : (if t103 = true then (if a0_0 = 8 then (if (l0_2.length : Int) < 1 then (Y3.j1 kj2 a1 true a0_0 a0_1 l0_2 l0_3) else (Y3.j1 kj2 a1 (decide ((l0_2.length : Int) > 4)) a0_0 a0_1 l0_2 l0_3)) else (Y3.j1 kj2 a1 false a0_0 a0_1 l0_2 l0_3)) else (Y3.j1 kj2 a1 true a0_0 a0_1 l0_2 l0_3)) = some r := H
      have A22 := Y0.mk A220
      clear A220
      by_cases c23 : t103 = true
      ·subst c23
       have H1 : (if a0_0 = 8 then (if (l0_2.length : Int) < 1 then (Y3.j1 kj2 a1 true a0_0 a0_1 l0_2 l0_3) else (Y3.j1 kj2 a1 (decide ((l0_2.length : Int) > 4)) a0_0 a0_1 l0_2 l0_3)) else (Y3.j1 kj2 a1 false a0_0 a0_1 l0_2 l0_3)) = some r := by rw [if_pos rfl] at H; exact H
       clear H
       have H := H1
       clear H1
       by_cases c24 : a0_0 = 8
       ·rw [if_pos c24] at H
        have c24b0 : (a0_0 == 8) = true := beq_iff_eq.mpr c24
        have c24b1 : (a0_0 != 8) = false := bne_eq_false_iff_eq.mpr c24
        clear c24
        by_cases c25 : (l0_2.length : Int) < 1
        ·rw [if_pos c25] at H
         have c25b0 : decide ((l0_2.length : Int) < 1) = true := decide_eq_true c25
         have c25b1 : decide (l0_2.length < 1) = true := decide_eq_true (by omega)
         clear c25
         have H' := Y0.mk H
         clear H
         obtain ⟨hcz26_0, hcz26_1, hcz26_2, hcz26_3, hfz26_0, hfz26_1, hfz26_2, hfz26_3⟩ := YD BK101.out
         go_wp2_with (first | (go_at_call 45; (with_reducible refine (YX.calls a0_1 true _ ?side1 A22.out).mono ?_); (case side1 => exact Z3); rintro e w27 ⟨rfl, hb⟩; have n_ := Y2i (Yj (g := gb101) (o := .cells #[.int .i64 a0_0, .string a0_1, .slice A0_2 l0_2.length c0_2, .slice A0_3 l0_3.length c0_3] 37 (0, 0)) QQ hb) (Y6 QB hb); clear BK101 HB; obtain ⟨BK101, HB⟩ := n_; (try clear hb); (try clear hb2); (try clear hk); (try clear hi); obtain ⟨hcz28_0, hcz28_1, hcz28_2, hcz28_3, hfz28_0, hfz28_1, hfz28_2, hfz28_3⟩ := YD BK101.out))
         go_meet
         case rel => exact ⟨_, (true), Z9, H', ⟨ZH⟩, ⟨Z4⟩, ⟨QB⟩⟩
        ·rw [if_neg c25] at H
         have c25b0 : decide ((l0_2.length : Int) < 1) = false := decide_eq_false c25
         have c25b1 : decide (l0_2.length < 1) = false := decide_eq_false (by omega)
         clear c25
         have H' := Y0.mk H
         clear H
         obtain ⟨hcz29_0, hcz29_1, hcz29_2, hcz29_3, hfz29_0, hfz29_1, hfz29_2, hfz29_3⟩ := YD BK101.out
         go_wp2_with (first | (go_at_call 45; (with_reducible refine (YX.calls a0_1 true _ ?side1 A22.out).mono ?_); (case side1 => exact Z3); rintro e w30 ⟨rfl, hb⟩; have n_ := Y2i (Yj (g := gb101) (o := .cells #[.int .i64 a0_0, .string a0_1, .slice A0_2 l0_2.length c0_2, .slice A0_3 l0_3.length c0_3] 37 (0, 0)) QQ hb) (Y6 QB hb); clear BK101 HB; obtain ⟨BK101, HB⟩ := n_; (try clear hb); (try clear hb2); (try clear hk); (try clear hi); obtain ⟨hcz31_0, hcz31_1, hcz31_2, hcz31_3, hfz31_0, hfz31_1, hfz31_2, hfz31_3⟩ := YD BK101.out))
         go_meet
         case rel => exact ⟨_, (decide ((l0_2.length : Int) > 4)), Z9, H', ⟨ZH⟩, ⟨Z4⟩, ⟨QB⟩⟩
       ·rw [if_neg c24] at H
        have c24b0 : (a0_0 == 8) = false := beq_eq_false_iff_ne.mpr c24
        have c24b1 : (a0_0 != 8) = true := bne_iff_ne.mpr c24
        have H' := Y0.mk H
        clear H
        obtain ⟨hcz32_0, hcz32_1, hcz32_2, hcz32_3, hfz32_0, hfz32_1, hfz32_2, hfz32_3⟩ := YD BK101.out
        go_wp2_with (first | (go_at_call 45; (with_reducible refine (YX.calls a0_1 true _ ?side1 A22.out).mono ?_); (case side1 => exact Z3); rintro e w33 ⟨rfl, hb⟩; have n_ := Y2i (Yj (g := gb101) (o := .cells #[.int .i64 a0_0, .string a0_1, .slice A0_2 l0_2.length c0_2, .slice A0_3 l0_3.length c0_3] 37 (0, 0)) QQ hb) (Y6 QB hb); clear BK101 HB; obtain ⟨BK101, HB⟩ := n_; (try clear hb); (try clear hb2); (try clear hk); (try clear hi); obtain ⟨hcz34_0, hcz34_1, hcz34_2, hcz34_3, hfz34_0, hfz34_1, hfz34_2, hfz34_3⟩ := YD BK101.out))
        go_meet
        case rel => exact ⟨_, (false), Z9, H', ⟨ZH⟩, ⟨Z4⟩, ⟨QB⟩⟩
      ·replace c23 := Bool.eq_false_iff.mpr c23
       subst c23
       have H1 : (Y3.j1 kj2 a1 true a0_0 a0_1 l0_2 l0_3) = some r := by rw [if_neg (show ¬ (false = true) by decide)] at H; exact H
       clear H
       have H := H1
       clear H1
       have H' := Y0.mk H
       clear H
       obtain ⟨hcz35_0, hcz35_1, hcz35_2, hcz35_3, hfz35_0, hfz35_1, hfz35_2, hfz35_3⟩ := YD BK101.out
       go_wp2_with (first | (go_at_call 45; (with_reducible refine (YX.calls a0_1 false _ ?side1 A22.out).mono ?_); (case side1 => exact Z3); rintro e w36 ⟨rfl, hb⟩; have n_ := Y2i (Yj (g := gb101) (o := .cells #[.int .i64 a0_0, .string a0_1, .slice A0_2 l0_2.length c0_2, .slice A0_3 l0_3.length c0_3] 37 (0, 0)) QQ hb) (Y6 QB hb); clear BK101 HB; obtain ⟨BK101, HB⟩ := n_; (try clear hb); (try clear hb2); (try clear hk); (try clear hi)))
       go_meet
       case rel => exact ⟨_, (true), Z9, H', ⟨ZH⟩, ⟨Z4⟩, ⟨QB⟩⟩
     ·rw [if_neg c21] at H
      have c21b0 : (a0_0 == 1) = false := beq_eq_false_iff_ne.mpr c21
      have c21b1 : (a0_0 != 1) = true := bne_iff_ne.mpr c21
      (first | rw [c21b0] | (simp only [Y14, Y15]; rw [c21b0]) | skip)
      by_cases c37 : a0_0 = 8
      ·rw [if_pos c37] at H
       have c37b0 : (a0_0 == 8) = true := beq_iff_eq.mpr c37
       have c37b1 : (a0_0 != 8) = false := bne_eq_false_iff_eq.mpr c37
       clear c37
       by_cases c38 : (l0_2.length : Int) < 1
       ·rw [if_pos c38] at H
        have c38b0 : decide ((l0_2.length : Int) < 1) = true := decide_eq_true c38
        have c38b1 : decide (l0_2.length < 1) = true := decide_eq_true (by omega)
        clear c38
        have H' := Y0.mk H
        clear H
        obtain ⟨hcz39_0, hcz39_1, hcz39_2, hcz39_3, hfz39_0, hfz39_1, hfz39_2, hfz39_3⟩ := YD BK101.out
        go_wp2
        go_meet
        case rel => exact ⟨_, (true), Z9, H', ⟨ZH⟩, ⟨Z4⟩, ⟨QB⟩⟩
       ·rw [if_neg c38] at H
        have c38b0 : decide ((l0_2.length : Int) < 1) = false := decide_eq_false c38
        have c38b1 : decide (l0_2.length < 1) = false := decide_eq_false (by omega)
        clear c38
        have H' := Y0.mk H
        clear H
        obtain ⟨hcz40_0, hcz40_1, hcz40_2, hcz40_3, hfz40_0, hfz40_1, hfz40_2, hfz40_3⟩ := YD BK101.out
        go_wp2
        go_meet
        case rel => exact ⟨_, (decide ((l0_2.length : Int) > 4)), Z9, H', ⟨ZH⟩, ⟨Z4⟩, ⟨QB⟩⟩
      ·rw [if_neg c37] at H
       have c37b0 : (a0_0 == 8) = false := beq_eq_false_iff_ne.mpr c37
       have c37b1 : (a0_0 != 8) = true := bne_iff_ne.mpr c37
       have H' := Y0.mk H
       clear H
       obtain ⟨hcz41_0, hcz41_1, hcz41_2, hcz41_3, hfz41_0, hfz41_1, hfz41_2, hfz41_3⟩ := YD BK101.out
       go_wp2
       go_meet
       case rel => exact ⟨_, (false), Z9, H', ⟨ZH⟩, ⟨Z4⟩, ⟨QB⟩⟩
    case rest =>
     clear HC20
     try clear c1
     try clear c2
     try clear p2
     try clear c3
     try clear c6
     try clear c6b0
     try clear c6b1
     try clear c9
     try clear c13
     try clear c13b0
     try clear c13b1
     try clear c19
     try clear c21
     try clear c21b0
     try clear c21b1
     try clear c23
     try clear c24
     try clear c24b0
     try clear c24b1
     try clear c25
     try clear c25b0
     try clear c25b1
     try clear c37
     try clear c37b0
     try clear c37b1
     try clear c38
     try clear c38b0
     try clear c38b1
     try clear hcz26_0 hcz26_1 hcz26_2 hcz26_3
     try clear hcz28_0 hcz28_1 hcz28_2 hcz28_3
     try clear hcz29_0 hcz29_1 hcz29_2 hcz29_3
     try clear hcz31_0 hcz31_1 hcz31_2 hcz31_3
     try clear hcz32_0 hcz32_1 hcz32_2 hcz32_3
     try clear hcz34_0 hcz34_1 hcz34_2 hcz34_3
     try clear hcz35_0 hcz35_1 hcz35_2 hcz35_3
     try clear hcz39_0 hcz39_1 hcz39_2 hcz39_3
     try clear hcz40_0 hcz40_1 hcz40_2 hcz40_3
     try clear hcz41_0 hcz41_1 hcz41_2 hcz41_3
     try clear hfz26_0
     try clear hfz26_1
     try clear hfz26_2
     try clear hfz26_3
     try clear hfz28_0
     try clear hfz28_1
     try clear hfz28_2
     try clear hfz28_3
     try clear hfz29_0
     try clear hfz29_1
     try clear hfz29_2
     try clear hfz29_3
     try clear hfz31_0
     try clear hfz31_1
     try clear hfz31_2
     try clear hfz31_3
     try clear hfz32_0
     try clear hfz32_1
     try clear hfz32_2
     try clear hfz32_3
     try clear hfz34_0
     try clear hfz34_1
     try clear hfz34_2
     try clear hfz34_3
     try clear hfz35_0
     try clear hfz35_1
     try clear hfz35_2
     try clear hfz35_3
     try clear hfz39_0
     try clear hfz39_1
     try clear hfz39_2
     try clear hfz39_3
     try clear hfz40_0
     try clear hfz40_1
     try clear hfz40_2
     try clear hfz40_3
     try clear hfz41_0
     try clear hfz41_1
     try clear hfz41_2
     try clear hfz41_3
     try clear p2
     obtain ⟨kq, x66_19, rfl, HA, HJ19, BK101, HB⟩ := hcut
     cases kq with
     | zero => exact absurd HA.out (by simp [Y3.j1])
     | succ kj19 =>
      have H := HA.out
      clear HA
      simp only [Y3.j1] at H
      by_cases c42 : x66_19 = true
      ·subst c42
       have H1 : (some (-1)) = some r := by rw [if_pos rfl] at H; exact H
       clear H
       have H := H1
       clear H1
       obtain rfl := Option.some.inj H
       go_wp2
       go_ret
       exact Z1F
      ·replace c42 := Bool.eq_false_iff.mpr c42
       subst c42
       have H1 : (Y3.l0 kj19 a1 0 a0_0 a0_1 l0_2 l0_3) = some r := by rw [if_neg (show ¬ (false = true) by decide)] at H; exact H
       clear H
       have H := H1
       clear H1
       have H' := Y0.mk H
       clear H
       go_wp2
       go_loopg [5] kj19 (fun kq v5 w' => ∃ (x5_3 : Int), v5 = .int .i64 x5_3 ∧ Y0 (Y3.l0 kq a1 x5_3 a0_0 a0_1 l0_2 l0_3 = some r) ∧ Y0 (kq ≤ kj19) ∧ Y0 (w'.heap[gb101]? = some (.cells #[.int .i64 a0_0, .string a0_1, (.slice A0_2 l0_2.length c0_2), (.slice A0_3 l0_3.length c0_3)] 37 (0, 0))) ∧ Y0 (Below w.heap.size w w'))
       case atStart => exact Z1L
       case round =>
        clear H'
        try clear c1
        try clear c2
        try clear p2
        try clear c3
        try clear c4
        try clear c6
        try clear c6b0
        try clear c6b1
        try clear c9
        try clear c13
        try clear c13b0
        try clear c13b1
        try clear c19
        try clear c21
        try clear c21b0
        try clear c21b1
        try clear c23
        try clear c24
        try clear c24b0
        try clear c24b1
        try clear c25
        try clear c25b0
        try clear c25b1
        try clear c37
        try clear c37b0
        try clear c37b1
        try clear c38
        try clear c38b0
        try clear c38b1
        try clear c42
        try clear hcz26_0 hcz26_1 hcz26_2 hcz26_3
        try clear hcz28_0 hcz28_1 hcz28_2 hcz28_3
        try clear hcz29_0 hcz29_1 hcz29_2 hcz29_3
        try clear hcz31_0 hcz31_1 hcz31_2 hcz31_3
        try clear hcz32_0 hcz32_1 hcz32_2 hcz32_3
        try clear hcz34_0 hcz34_1 hcz34_2 hcz34_3
        try clear hcz35_0 hcz35_1 hcz35_2 hcz35_3
        try clear hcz39_0 hcz39_1 hcz39_2 hcz39_3
        try clear hcz40_0 hcz40_1 hcz40_2 hcz40_3
        try clear hcz41_0 hcz41_1 hcz41_2 hcz41_3
        try clear hfz26_0
        try clear hfz26_1
        try clear hfz26_2
        try clear hfz26_3
        try clear hfz28_0
        try clear hfz28_1
        try clear hfz28_2
        try clear hfz28_3
        try clear hfz29_0
        try clear hfz29_1
        try clear hfz29_2
        try clear hfz29_3
        try clear hfz31_0
        try clear hfz31_1
        try clear hfz31_2
        try clear hfz31_3
        try clear hfz32_0
        try clear hfz32_1
        try clear hfz32_2
        try clear hfz32_3
        try clear hfz34_0
        try clear hfz34_1
        try clear hfz34_2
        try clear hfz34_3
        try clear hfz35_0
        try clear hfz35_1
        try clear hfz35_2
        try clear hfz35_3
        try clear hfz39_0
        try clear hfz39_1
        try clear hfz39_2
        try clear hfz39_3
        try clear hfz40_0
        try clear hfz40_1
        try clear hfz40_2
        try clear hfz40_3
        try clear hfz41_0
        try clear hfz41_1
        try clear hfz41_2
        try clear hfz41_3
        try clear p2
        obtain ⟨x5_3, rfl, HA, HK3, BK101, HB⟩ := hrel
        cases gk with
        | zero => exact absurd HA.out (by simp [Y3.l0])
        | succ k3 =>
         have H := HA.out
         clear HA
         simp only [Y3.l0] at H
         by_cases c43 : x5_3 < (l0_2.length : Int)
         ·rw [if_pos c43] at H
          have c43b0 : decide (x5_3 < (l0_2.length : Int)) = true := decide_eq_true c43
          clear c43
          by_cases c44 : 0 ≤ x5_3
          ·rw [if_pos c44] at H
           have c44b0 : decide (0 ≤ x5_3) = true := decide_eq_true c44
           clear c44
           replace H := Option.bind_eq_some_iff.mp H
           obtain ⟨t105, A450, H⟩ := H
           replace H : (if t105 = true then (Y3.l0 k3 a1 (wrap64 (x5_3 + 1)) a0_0 a0_1 l0_2 l0_3) else (some (-1))) = some r := H
           have A45 := Y0.mk A450
           clear A450
           by_cases c46 : t105 = true
           ·subst c46
            have H1 : (Y3.l0 k3 a1 (wrap64 (x5_3 + 1)) a0_0 a0_1 l0_2 l0_3) = some r := by rw [if_pos rfl] at H; exact H
            clear H
            have H := H1
            clear H1
            have H' := Y0.mk H
            clear H
            obtain ⟨hcz47_0, hcz47_1, hcz47_2, hcz47_3, hfz47_0, hfz47_1, hfz47_2, hfz47_3⟩ := YD BK101.out
            have p104 : 0 ≤ (x5_3 : Int) := of_decide_eq_true Z8
            have q104 : x5_3 < (l0_2.length : Int) := of_decide_eq_true Z8
            obtain ⟨ad104, e104, hx104_0⟩ := Kd.at_string HR0_2.out x5_3 p104 q104
            cases e104
            replace hx104_0 := YT HB.out hx104_0
            replace p104 := eq_true p104
            replace q104 := eq_true q104
            go_wp2_with (first | ((with_reducible refine Yw (f := 45) rfl ?_); refine YV (some 79) rfl rfl Tryd.func45 Z6 rfl #[.string (Y25 ByteArray.empty l0_2 x5_3)] rfl Z0 ?_; (with_reducible refine (YX.calls (Y25 ByteArray.empty l0_2 x5_3) true _ ?side1 A45.out).mono ?_); (case side1 => exact Z3); rintro e w48 ⟨rfl, hb⟩; refine ⟨_, rfl, ?_⟩; have n_ := Y2i (Yj (g := gb101) (o := .cells #[.int .i64 a0_0, .string a0_1, .slice (some ad104) l0_2.length c0_2, .slice A0_3 l0_3.length c0_3] 37 (0, 0)) QQ hb) (Y6 QB hb); clear BK101 HB; obtain ⟨BK101, HB⟩ := n_; (try clear hb); (try clear hb2); (try clear hk); (try clear hi)))
            go_roundg k3
            case measure => have := HJ2.out; have := HJ19.out; have := HK3.out; omega
            case rel => exact ⟨(wrap64 (x5_3 + 1)), Z9, H', ⟨by have := HJ2.out; have := HJ19.out; have := HK3.out; omega⟩, ⟨Z4⟩, ⟨QB⟩⟩
           ·replace c46 := Bool.eq_false_iff.mpr c46
            subst c46
            have H1 : (some (-1)) = some r := by rw [if_neg (show ¬ (false = true) by decide)] at H; exact H
            clear H
            have H := H1
            clear H1
            obtain rfl := Option.some.inj H
            obtain ⟨hcz49_0, hcz49_1, hcz49_2, hcz49_3, hfz49_0, hfz49_1, hfz49_2, hfz49_3⟩ := YD BK101.out
            have p104 : 0 ≤ (x5_3 : Int) := of_decide_eq_true Z8
            have q104 : x5_3 < (l0_2.length : Int) := of_decide_eq_true Z8
            obtain ⟨ad104, e104, hx104_0⟩ := Kd.at_string HR0_2.out x5_3 p104 q104
            cases e104
            replace hx104_0 := YT HB.out hx104_0
            replace p104 := eq_true p104
            replace q104 := eq_true q104
            go_wp2_with (first | ((with_reducible refine Yw (f := 45) rfl ?_); refine YV (some 79) rfl rfl Tryd.func45 Z6 rfl #[.string (Y25 ByteArray.empty l0_2 x5_3)] rfl Z0 ?_; (with_reducible refine (YX.calls (Y25 ByteArray.empty l0_2 x5_3) false _ ?side1 A45.out).mono ?_); (case side1 => exact Z3); rintro e w50 ⟨rfl, hb⟩; refine ⟨_, rfl, ?_⟩; have n_ := Y2i (Yj (g := gb101) (o := .cells #[.int .i64 a0_0, .string a0_1, .slice (some ad104) l0_2.length c0_2, .slice A0_3 l0_3.length c0_3] 37 (0, 0)) QQ hb) (Y6 QB hb); clear BK101 HB; obtain ⟨BK101, HB⟩ := n_; (try clear hb); (try clear hb2); (try clear hk); (try clear hi)))
            go_ret
            exact Z1F
          ·rw [if_neg c44] at H
           exact Zh
         ·rw [if_neg c43] at H
          have c43b0 : decide (x5_3 < (l0_2.length : Int)) = false := decide_eq_false c43
          clear c43
          have H' := Y0.mk H
          clear H
          obtain ⟨hcz51_0, hcz51_1, hcz51_2, hcz51_3, hfz51_0, hfz51_1, hfz51_2, hfz51_3⟩ := YD BK101.out
          go_wp2
          go_loopg [6, 7] k3 (fun kq v6 v7 w' => ∃ (x6_4 : Int) (x7_4 : Int), v6 = .int .i64 x6_4 ∧ v7 = .int .i64 x7_4 ∧ Y0 (Y3.l1 kq a1 x6_4 x7_4 a0_0 a0_1 l0_2 l0_3 = some r) ∧ Y0 (kq ≤ k3) ∧ Y0 (w'.heap[gb101]? = some (.cells #[.int .i64 a0_0, .string a0_1, (.slice A0_2 l0_2.length c0_2), (.slice A0_3 l0_3.length c0_3)] 37 (0, 0))) ∧ Y0 (Below w.heap.size w w'))
          case atStart => exact Z1J
          case round =>
           clear H'
           try clear c1
           try clear p1
           try clear q1
           try clear hx1
           try clear c2
           try clear p2
           try clear c3
           try clear c4
           try clear c6
           try clear c6b0
           try clear c6b1
           try clear p6
           try clear c9
           try clear p10
           try clear q10
           try clear hx10
           try clear c13
           try clear c13b0
           try clear c13b1
           try clear c19
           try clear c21
           try clear c21b0
           try clear c21b1
           try clear c23
           try clear c24
           try clear c24b0
           try clear c24b1
           try clear c25
           try clear c25b0
           try clear c25b1
           try clear c37
           try clear c37b0
           try clear c37b1
           try clear c38
           try clear c38b0
           try clear c38b1
           try clear c42
           try clear c43
           try clear c43b0
           try clear c44
           try clear c44b0
           try clear c45
           try clear c46
           try clear hcz26_0 hcz26_1 hcz26_2 hcz26_3
           try clear hcz28_0 hcz28_1 hcz28_2 hcz28_3
           try clear hcz29_0 hcz29_1 hcz29_2 hcz29_3
           try clear hcz31_0 hcz31_1 hcz31_2 hcz31_3
           try clear hcz32_0 hcz32_1 hcz32_2 hcz32_3
           try clear hcz34_0 hcz34_1 hcz34_2 hcz34_3
           try clear hcz35_0 hcz35_1 hcz35_2 hcz35_3
           try clear hcz39_0 hcz39_1 hcz39_2 hcz39_3
           try clear hcz40_0 hcz40_1 hcz40_2 hcz40_3
           try clear hcz41_0 hcz41_1 hcz41_2 hcz41_3
           try clear hcz47_0 hcz47_1 hcz47_2 hcz47_3
           try clear hcz49_0 hcz49_1 hcz49_2 hcz49_3
           try clear hcz51_0 hcz51_1 hcz51_2 hcz51_3
           try clear hfz26_0
           try clear hfz26_1
           try clear hfz26_2
           try clear hfz26_3
           try clear hfz28_0
           try clear hfz28_1
           try clear hfz28_2
           try clear hfz28_3
           try clear hfz29_0
           try clear hfz29_1
           try clear hfz29_2
           try clear hfz29_3
           try clear hfz31_0
           try clear hfz31_1
           try clear hfz31_2
           try clear hfz31_3
           try clear hfz32_0
           try clear hfz32_1
           try clear hfz32_2
           try clear hfz32_3
           try clear hfz34_0
           try clear hfz34_1
           try clear hfz34_2
           try clear hfz34_3
           try clear hfz35_0
           try clear hfz35_1
           try clear hfz35_2
           try clear hfz35_3
           try clear hfz39_0
           try clear hfz39_1
           try clear hfz39_2
           try clear hfz39_3
           try clear hfz40_0
           try clear hfz40_1
           try clear hfz40_2
           try clear hfz40_3
           try clear hfz41_0
           try clear hfz41_1
           try clear hfz41_2
           try clear hfz41_3
           try clear hfz47_0
           try clear hfz47_1
           try clear hfz47_2
           try clear hfz47_3
           try clear hfz49_0
           try clear hfz49_1
           try clear hfz49_2
           try clear hfz49_3
           try clear hfz51_0
           try clear hfz51_1
           try clear hfz51_2
           try clear hfz51_3
           try clear hx104_0
           try clear p104
           try clear p2
           try clear q104
           obtain ⟨x6_4, x7_4, rfl, rfl, HA, HK4, BK101, HB⟩ := hrel
           cases gk with
           | zero => exact absurd HA.out (by simp [Y3.l1])
           | succ k4 =>
            have H := HA.out
            clear HA
            simp only [Y3.l1] at H
            by_cases c52 : x7_4 < (l0_3.length : Int)
            ·rw [if_pos c52] at H
             have c52b0 : decide (x7_4 < (l0_3.length : Int)) = true := decide_eq_true c52
             clear c52
             by_cases c53 : 0 ≤ x7_4
             ·rw [if_pos c53] at H
              have c53b0 : decide (0 ≤ x7_4) = true := decide_eq_true c53
              clear c53
              replace H := Option.bind_eq_some_iff.mp H
              obtain ⟨t107, A540, H⟩ := H
              replace H : (if t107 < 0 then (some (-1)) else (Y3.l1 k4 a1 (wrap64 (x6_4 + t107)) (wrap64 (x7_4 + 1)) a0_0 a0_1 l0_2 l0_3)) = some r := H
              have A54 := Y0.mk A540
              clear A540
              by_cases c55 : t107 < 0
              ·rw [if_pos c55] at H
               have c55b0 : decide (t107 < 0) = true := decide_eq_true c55
               clear c55
               obtain rfl := Option.some.inj H
               obtain ⟨hcz56_0, hcz56_1, hcz56_2, hcz56_3, hfz56_0, hfz56_1, hfz56_2, hfz56_3⟩ := YD BK101.out
               have p106 : 0 ≤ (x7_4 : Int) := of_decide_eq_true Z8
               have q106 : x7_4 < (l0_3.length : Int) := of_decide_eq_true Z8
               obtain ⟨ad106, A106_2, c106_2, A106_3, c106_3, e106, hx106_0, hx106_1, hx106_2, hx106_3, hl106_2, hi106_2, hl106_3, hi106_3⟩ := Y1C HR0_3.out x7_4 p106 q106
               cases e106
               replace hx106_0 := YT HB.out hx106_0
               replace hx106_1 := YT HB.out hx106_1
               replace hx106_2 := YT HB.out hx106_2
               replace hx106_3 := YT HB.out hx106_3
               have HR106_2 := Y0.mk hi106_2
               have HC106_2 := Y0.mk hl106_2
               clear hi106_2 hl106_2
               have HR106_3 := Y0.mk hi106_3
               have HC106_3 := Y0.mk hl106_3
               clear hi106_3 hl106_3
               replace p106 := eq_true p106
               replace q106 := eq_true q106
               go_wp2_with (first | ((with_reducible refine Yw (f := 49) rfl ?_); refine YV (some 95) rfl rfl Tryd.func49 Z6 rfl #[.agg #[.int .i64 ((Y2 l0_3 x7_4).f0), .string ((Y2 l0_3 x7_4).f1), .slice A106_2 ((Y2 l0_3 x7_4).f2).length c106_2, .slice A106_3 ((Y2 l0_3 x7_4).f3).length c106_3], .int .i64 (wrap64 (a1 + 1))] rfl Z0 ?_; (with_reducible refine (ih k4 Z1j ((Y2 l0_3 x7_4).f0) ((Y2 l0_3 x7_4).f1) _ _ ((Y2 l0_3 x7_4).f2) _ _ ((Y2 l0_3 x7_4).f3) (wrap64 (a1 + 1)) t107 _ ?side1 ?side2 ?side3 ?side4 ?side5 A54.out).mono ?_); (case side1 => exact Z3); (case side2 => exact Zs); (case side3 => exact HC106_2.out); (case side4 => exact Zt); (case side5 => exact HC106_3.out); rintro e w57 ⟨rfl, hb⟩; refine ⟨_, rfl, ?_⟩; have n_ := Y2i (Yj (g := gb101) (o := .cells #[.int .i64 a0_0, .string a0_1, .slice A0_2 l0_2.length c0_2, .slice (some ad106) l0_3.length c0_3] 37 (0, 0)) QQ hb) (Y6 QB hb); clear BK101 HB; obtain ⟨BK101, HB⟩ := n_; (try clear hb); (try clear hb2); (try clear hk); (try clear hi)))
               go_ret
               exact Z1F
              ·rw [if_neg c55] at H
               have c55b0 : decide (t107 < 0) = false := decide_eq_false c55
               clear c55
               have H' := Y0.mk H
               clear H
               obtain ⟨hcz58_0, hcz58_1, hcz58_2, hcz58_3, hfz58_0, hfz58_1, hfz58_2, hfz58_3⟩ := YD BK101.out
               have p106 : 0 ≤ (x7_4 : Int) := of_decide_eq_true Z8
               have q106 : x7_4 < (l0_3.length : Int) := of_decide_eq_true Z8
               obtain ⟨ad106, A106_2, c106_2, A106_3, c106_3, e106, hx106_0, hx106_1, hx106_2, hx106_3, hl106_2, hi106_2, hl106_3, hi106_3⟩ := Y1C HR0_3.out x7_4 p106 q106
               cases e106
               replace hx106_0 := YT HB.out hx106_0
               replace hx106_1 := YT HB.out hx106_1
               replace hx106_2 := YT HB.out hx106_2
               replace hx106_3 := YT HB.out hx106_3
               have HR106_2 := Y0.mk hi106_2
               have HC106_2 := Y0.mk hl106_2
               clear hi106_2 hl106_2
               have HR106_3 := Y0.mk hi106_3
               have HC106_3 := Y0.mk hl106_3
               clear hi106_3 hl106_3
               replace p106 := eq_true p106
               replace q106 := eq_true q106
               go_wp2_with (first | ((with_reducible refine Yw (f := 49) rfl ?_); refine YV (some 95) rfl rfl Tryd.func49 Z6 rfl #[.agg #[.int .i64 ((Y2 l0_3 x7_4).f0), .string ((Y2 l0_3 x7_4).f1), .slice A106_2 ((Y2 l0_3 x7_4).f2).length c106_2, .slice A106_3 ((Y2 l0_3 x7_4).f3).length c106_3], .int .i64 (wrap64 (a1 + 1))] rfl Z0 ?_; (with_reducible refine (ih k4 Z1j ((Y2 l0_3 x7_4).f0) ((Y2 l0_3 x7_4).f1) _ _ ((Y2 l0_3 x7_4).f2) _ _ ((Y2 l0_3 x7_4).f3) (wrap64 (a1 + 1)) t107 _ ?side1 ?side2 ?side3 ?side4 ?side5 A54.out).mono ?_); (case side1 => exact Z3); (case side2 => exact Zs); (case side3 => exact HC106_2.out); (case side4 => exact Zt); (case side5 => exact HC106_3.out); rintro e w59 ⟨rfl, hb⟩; refine ⟨_, rfl, ?_⟩; have n_ := Y2i (Yj (g := gb101) (o := .cells #[.int .i64 a0_0, .string a0_1, .slice A0_2 l0_2.length c0_2, .slice (some ad106) l0_3.length c0_3] 37 (0, 0)) QQ hb) (Y6 QB hb); clear BK101 HB; obtain ⟨BK101, HB⟩ := n_; (try clear hb); (try clear hb2); (try clear hk); (try clear hi)))
               go_roundg k4
               case measure => have := HJ2.out; have := HJ19.out; have := HK3.out; have := HK4.out; omega
               case rel => exact ⟨(wrap64 (x6_4 + t107)), (wrap64 (x7_4 + 1)), Z9, Z9, H', ⟨Z1j⟩, ⟨Z4⟩, ⟨QB⟩⟩
             ·rw [if_neg c53] at H
              exact Zh
            ·rw [if_neg c52] at H
             have c52b0 : decide (x7_4 < (l0_3.length : Int)) = false := decide_eq_false c52
             clear c52
             obtain rfl := Option.some.inj H
             obtain ⟨hcz60_0, hcz60_1, hcz60_2, hcz60_3, hfz60_0, hfz60_1, hfz60_2, hfz60_3⟩ := YD BK101.out
             go_wp2
             go_ret
             exact Z1F
def YU.f (k : Nat) (a0_0 : Int) (a0_1 : ByteArray) (l0_2 : List ByteArray) (l0_3 : List (S37)) : Option (Bool) := (Y3.f k a0_0 a0_1 l0_2 l0_3 0).bind fun t102 => (if t102 ≥ 1 then (some (decide (t102 ≤ 30))) else (some false))
set_option maxHeartbeats 8000000 in
set_option maxRecDepth 100000 in
theorem YU.calls (k : Nat) (a0_0 : Int) (a0_1 : ByteArray) (A0_2 : Option Addr) (c0_2 : Nat) (l0_2 : List ByteArray) (A0_3 : Option Addr) (c0_3 : Nat) (l0_3 : List (S37)) (r : Bool) (w : World) (hT : Tabs w) (hr0_2 : Kd.C Kd.string w A0_2 l0_2.length l0_2) (hc0_2 : l0_2.length ≤ c0_2) (hr0_3 : Kd.C k37 w A0_3 l0_3.length l0_3) (hc0_3 : l0_3.length ≤ c0_3) (h : YU.f k a0_0 a0_1 l0_2 l0_3 = some r) :
  Calls Tryd.prog 23 #[.agg #[.int .i64 a0_0, .string a0_1, .slice A0_2 l0_2.length c0_2, .slice A0_3 l0_3.length c0_3]] w fun e w' => e = .returned (.bool r) ∧ Below w.heap.size w w' := by
 have HT := Y0.mk hT
 clear hT
 have hu37 := Tryd.underlying37
 have HR0_2 := Y0.mk hr0_2
 have HC0_2 := Y0.mk hc0_2
 clear hr0_2 hc0_2
 have HR0_3 := Y0.mk hr0_3
 have HC0_3 := Y0.mk hc0_3
 clear hr0_3 hc0_3
 have HB := Y0.mk (Below.refl w.heap.size w)
 have H : ((Y3.f k a0_0 a0_1 l0_2 l0_3 0).bind fun t102 => (if t102 ≥ 1 then (some (decide (t102 ≤ 30))) else (some false))) = some r := h
 clear h
 replace H := Option.bind_eq_some_iff.mp H
 obtain ⟨t102, A20, H⟩ := H
 replace H : (if t102 ≥ 1 then (some (decide (t102 ≤ 30))) else (some false)) = some r := H
 have A2 := Y0.mk A20
 clear A20
 by_cases c3 : t102 ≥ 1
 ·rw [if_pos c3] at H
  have c3b0 : decide (1 ≤ t102) = true := decide_eq_true c3
  clear c3
  obtain rfl := Option.some.inj H
  go_enter Tryd.func23, Tryd.ntmps23
  go_wp2_with (first | ((with_reducible refine YF (N := 1) rfl ?_); refine YA ?hg (N := 1) ?hd (cs := #[.int .i64 a0_0, .string a0_1, .slice A0_2 l0_2.length c0_2, .slice A0_3 l0_3.length c0_3]) (t := 37) ?hr ?_; (case hd => rfl); (case hg => rfl); (case hr => exact Za); intro gb101 hg w4 hbox hb; have n_ := Y2x (Y6 QB hb) (hbox) ((by rw [hg]; exact (Ya QB) : w.heap.size ≤ gb101)) ((by rw [hg]; exact (Ya QB) : w.heap.size ≤ gb101)); clear HB; obtain ⟨HB, BK101, GW101, GE101⟩ := n_; clear hb hbox hg; obtain ⟨hcz5_0, hcz5_1, hcz5_2, hcz5_3, hfz5_0, hfz5_1, hfz5_2, hfz5_3⟩ := YD BK101.out) | ((with_reducible refine Yw (f := 49) rfl ?_); refine YV (some 5) rfl rfl Tryd.func49 Z6 rfl #[.agg #[.int .i64 a0_0, .string a0_1, .slice A0_2 l0_2.length c0_2, .slice A0_3 l0_3.length c0_3], .int .i64 0] rfl Z0 ?_; (with_reducible refine (Y3.calls k a0_0 a0_1 _ _ l0_2 _ _ l0_3 0 t102 _ ?side1 ?side2 ?side3 ?side4 ?side5 A2.out).mono ?_); (case side1 => exact Z3); (case side2 => exact Z5); (case side3 => exact Z10); (case side4 => exact Z7); (case side5 => exact Z13); rintro e w6 ⟨rfl, hb⟩; refine ⟨_, rfl, ?_⟩; have n_ := Y2i (Yj (g := gb101) (o := .cells #[.int .i64 a0_0, .string a0_1, .slice A0_2 l0_2.length c0_2, .slice A0_3 l0_3.length c0_3] 37 (0, 0)) QQ hb) (Y6 QB hb); clear BK101 HB; obtain ⟨BK101, HB⟩ := n_; (try clear hb); (try clear hb2); (try clear hk); (try clear hi)))
  go_ret
  exact Z1F
 ·rw [if_neg c3] at H
  have c3b0 : decide (1 ≤ t102) = false := decide_eq_false c3
  clear c3
  obtain rfl := Option.some.inj H
  go_enter Tryd.func23, Tryd.ntmps23
  go_wp2_with (first | ((with_reducible refine YF (N := 1) rfl ?_); refine YA ?hg (N := 1) ?hd (cs := #[.int .i64 a0_0, .string a0_1, .slice A0_2 l0_2.length c0_2, .slice A0_3 l0_3.length c0_3]) (t := 37) ?hr ?_; (case hd => rfl); (case hg => rfl); (case hr => exact Za); intro gb101 hg w7 hbox hb; have n_ := Y2x (Y6 QB hb) (hbox) ((by rw [hg]; exact (Ya QB) : w.heap.size ≤ gb101)) ((by rw [hg]; exact (Ya QB) : w.heap.size ≤ gb101)); clear HB; obtain ⟨HB, BK101, GW101, GE101⟩ := n_; clear hb hbox hg; obtain ⟨hcz8_0, hcz8_1, hcz8_2, hcz8_3, hfz8_0, hfz8_1, hfz8_2, hfz8_3⟩ := YD BK101.out) | ((with_reducible refine Yw (f := 49) rfl ?_); refine YV (some 5) rfl rfl Tryd.func49 Z6 rfl #[.agg #[.int .i64 a0_0, .string a0_1, .slice A0_2 l0_2.length c0_2, .slice A0_3 l0_3.length c0_3], .int .i64 0] rfl Z0 ?_; (with_reducible refine (Y3.calls k a0_0 a0_1 _ _ l0_2 _ _ l0_3 0 t102 _ ?side1 ?side2 ?side3 ?side4 ?side5 A2.out).mono ?_); (case side1 => exact Z3); (case side2 => exact Z5); (case side3 => exact Z10); (case side4 => exact Z7); (case side5 => exact Z13); rintro e w9 ⟨rfl, hb⟩; refine ⟨_, rfl, ?_⟩; have n_ := Y2i (Yj (g := gb101) (o := .cells #[.int .i64 a0_0, .string a0_1, .slice A0_2 l0_2.length c0_2, .slice A0_3 l0_3.length c0_3] 37 (0, 0)) QQ hb) (Y6 QB hb); clear BK101 HB; obtain ⟨BK101, HB⟩ := n_; (try clear hb); (try clear hb2); (try clear hk); (try clear hi)))
  go_ret
  exact Z1F
mutual
def Y4.j0 : Nat → Bool → Int → ByteArray → List ByteArray → List (S37) → Int → ByteArray → List ByteArray → List (S37) → Option (Bool)
 | 0, _, _, _, _, _, _, _, _, _ => none
 | k + 1, x36, x102000, x102001, x102002, x102003, x103000, x103001, x103002, x103003 => if x36 = true then (some false) else (Y4.l0 k 0 x102000 x102001 x102002 x102003 x103000 x103001 x103002 x103003)
def Y4.l0 : Nat → Int → Int → ByteArray → List ByteArray → List (S37) → Int → ByteArray → List ByteArray → List (S37) → Option (Bool)
 | 0, _, _, _, _, _, _, _, _, _ => none
 | k + 1, x5, x102000, x102001, x102002, x102003, x103000, x103001, x103002, x103003 => if x5 < (x102002.length : Int) then (if 0 ≤ x5 then (if x5 < (x103002.length : Int) then (if (Y25 ByteArray.empty x102002 x5).toList = (Y25 ByteArray.empty x103002 x5).toList then (Y4.l0 k (wrap64 (x5 + 1)) x102000 x102001 x102002 x102003 x103000 x103001 x103002 x103003) else (some false)) else (none)) else (none)) else (Y4.l1 k 0 x102000 x102001 x102002 x102003 x103000 x103001 x103002 x103003)
def Y4.l1 : Nat → Int → Int → ByteArray → List ByteArray → List (S37) → Int → ByteArray → List ByteArray → List (S37) → Option (Bool)
 | 0, _, _, _, _, _, _, _, _, _ => none
 | k + 1, x6, x102000, x102001, x102002, x102003, x103000, x103001, x103002, x103003 => if x6 < (x102003.length : Int) then (if 0 ≤ x6 then (if x6 < (x103003.length : Int) then ((Y4.f k ((Y2 x102003 x6).f0) ((Y2 x102003 x6).f1) ((Y2 x102003 x6).f2) ((Y2 x102003 x6).f3) ((Y2 x103003 x6).f0) ((Y2 x103003 x6).f1) ((Y2 x103003 x6).f2) ((Y2 x103003 x6).f3)).bind fun t107 => (if t107 = true then (Y4.l1 k (wrap64 (x6 + 1)) x102000 x102001 x102002 x102003 x103000 x103001 x103002 x103003) else (some false))) else (none)) else (none)) else (some true)
def Y4.f : Nat → Int → ByteArray → List ByteArray → List (S37) → Int → ByteArray → List ByteArray → List (S37) → Option (Bool)
 | 0, _, _, _, _, _, _, _, _ => none
 | k + 1, a0_0, a0_1, l0_2, l0_3, a1_0, a1_1, l1_2, l1_3 => if a0_0 = a1_0 then (if a0_1.toList = a1_1.toList then (if (l0_2.length : Int) = (l1_2.length : Int) then (Y4.j0 k ((l0_3.length : Int) != (l1_3.length : Int)) a0_0 a0_1 l0_2 l0_3 a1_0 a1_1 l1_2 l1_3) else (Y4.j0 k true a0_0 a0_1 l0_2 l0_3 a1_0 a1_1 l1_2 l1_3)) else (Y4.j0 k true a0_0 a0_1 l0_2 l0_3 a1_0 a1_1 l1_2 l1_3)) else (Y4.j0 k true a0_0 a0_1 l0_2 l0_3 a1_0 a1_1 l1_2 l1_3)
end
def Y4.T6 : Bool × List (List Nat × List Nat) := (true, [([], []), ([0], [0]), ([], []), ([1, 2], [1, 2]), ([3], [3]), ([], []), ([5], [5]), ([], []), ([6, 7], [6, 7]), ([8], [8]), ([4, 9], [4, 9])])
def Y4.B6 : List Nat := [0, 1, 0, 7, 15, 0, 32, 0, 224, 480, 1023]
theorem Y4.tab6 : Y38 .any (Y3n Tryd.f28 6) = Y4.T6 := by kernel_rfl
theorem Y4.bits6 : Y1U Y4.T6.2 Y4.B6 = true := by kernel_rfl
def Y4.T11 : Bool × List (List Nat × List Nat) := (true, [([], []), ([0], [0]), ([], []), ([1, 2], [1, 2]), ([3], [3]), ([], []), ([5], [5]), ([], []), ([6, 7], [6, 7]), ([8], [8]), ([4, 9], [4, 9]), ([10], [10])])
def Y4.B11 : List Nat := [0, 1, 0, 7, 15, 0, 32, 0, 224, 480, 1023, 2047]
theorem Y4.tab11 : Y38 .any (Y3n Tryd.f28 11) = Y4.T11 := by kernel_rfl
theorem Y4.bits11 : Y1U Y4.T11.2 Y4.B11 = true := by kernel_rfl
set_option maxHeartbeats 8000000 in
set_option maxRecDepth 100000 in
theorem Y4.calls (k : Nat) : ∀ (a0_0 : Int) (a0_1 : ByteArray) (A0_2 : Option Addr) (c0_2 : Nat) (l0_2 : List ByteArray) (A0_3 : Option Addr) (c0_3 : Nat) (l0_3 : List (S37)) (a1_0 : Int) (a1_1 : ByteArray) (A1_2 : Option Addr) (c1_2 : Nat) (l1_2 : List ByteArray) (A1_3 : Option Addr) (c1_3 : Nat) (l1_3 : List (S37)) (r : Bool) (w : World) (hr0_2 : Kd.C Kd.string w A0_2 l0_2.length l0_2) (hc0_2 : l0_2.length ≤ c0_2) (hr0_3 : Kd.C k37 w A0_3 l0_3.length l0_3) (hc0_3 : l0_3.length ≤ c0_3) (hr1_2 : Kd.C Kd.string w A1_2 l1_2.length l1_2) (hc1_2 : l1_2.length ≤ c1_2) (hr1_3 : Kd.C k37 w A1_3 l1_3.length l1_3) (hc1_3 : l1_3.length ≤ c1_3) (h : Y4.f k a0_0 a0_1 l0_2 l0_3 a1_0 a1_1 l1_2 l1_3 = some r),
  Calls Tryd.prog 28 #[.agg #[.int .i64 a0_0, .string a0_1, .slice A0_2 l0_2.length c0_2, .slice A0_3 l0_3.length c0_3], .agg #[.int .i64 a1_0, .string a1_1, .slice A1_2 l1_2.length c1_2, .slice A1_3 l1_3.length c1_3]] w fun e w' => e = .returned (.bool r) ∧ Below w.heap.size w w' := by
 induction k using Nat.strongRecOn with
 | _ k ih =>
 intro a0_0 a0_1 A0_2 c0_2 l0_2 A0_3 c0_3 l0_3 a1_0 a1_1 A1_2 c1_2 l1_2 A1_3 c1_3 l1_3 r w hr0_2 hc0_2 hr0_3 hc0_3 hr1_2 hc1_2 hr1_3 hc1_3 h
 cases k with
 | zero => exact absurd h (by simp [Y4.f])
 | succ k =>
 simp only [Y4.f] at h
 have hu37 := Tryd.underlying37
 have HR0_2 := Y0.mk hr0_2
 have HC0_2 := Y0.mk hc0_2
 clear hr0_2 hc0_2
 have HR0_3 := Y0.mk hr0_3
 have HC0_3 := Y0.mk hc0_3
 clear hr0_3 hc0_3
 have HR1_2 := Y0.mk hr1_2
 have HC1_2 := Y0.mk hc1_2
 clear hr1_2 hc1_2
 have HR1_3 := Y0.mk hr1_3
 have HC1_3 := Y0.mk hc1_3
 clear hr1_3 hc1_3
 have HB := Y0.mk (Below.refl w.heap.size w)
 have H : (if a0_0 = a1_0 then (if a0_1.toList = a1_1.toList then (if (l0_2.length : Int) = (l1_2.length : Int) then (Y4.j0 k ((l0_3.length : Int) != (l1_3.length : Int)) a0_0 a0_1 l0_2 l0_3 a1_0 a1_1 l1_2 l1_3) else (Y4.j0 k true a0_0 a0_1 l0_2 l0_3 a1_0 a1_1 l1_2 l1_3)) else (Y4.j0 k true a0_0 a0_1 l0_2 l0_3 a1_0 a1_1 l1_2 l1_3)) else (Y4.j0 k true a0_0 a0_1 l0_2 l0_3 a1_0 a1_1 l1_2 l1_3)) = some r := h
 clear h
 have HC3 := Y0.mk H
 clear H
 go_enter Tryd.func28, Tryd.ntmps28
 go_upto_region 1 with (first | ((with_reducible refine YF (N := 2) rfl ?_); (try (refine Y19 (by rfl) ?_; dsimp only)); refine YA ?hg (N := 2) ?hd (cs := #[.int .i64 a0_0, .string a0_1, .slice A0_2 l0_2.length c0_2, .slice A0_3 l0_3.length c0_3]) (t := 37) ?hr ?_; (case hd => rfl); (case hg => rfl); (case hr => exact Za); intro gb101 hg w4 hbox hb; have n_ := Y2x (Y6 QB hb) (hbox) ((by rw [hg]; exact (Ya QB) : w.heap.size ≤ gb101)) ((by rw [hg]; exact (Ya QB) : w.heap.size ≤ gb101)); clear HB; obtain ⟨HB, BK101, GW101, GE101⟩ := n_; clear hb hbox hg) | ((with_reducible refine YF (N := 3) rfl ?_); (try (refine Y19 (by rfl) ?_; dsimp only)); refine YA ?hg (N := 3) ?hd (cs := #[.int .i64 a1_0, .string a1_1, .slice A1_2 l1_2.length c1_2, .slice A1_3 l1_3.length c1_3]) (t := 37) ?hr ?_; (case hd => rfl); (case hg => rfl); (case hr => exact Za); intro gb102 hg w5 hbox hb; have n_ := Y5A (Yj (g := gb101) (o := .cells #[.int .i64 a0_0, .string a0_1, .slice A0_2 l0_2.length c0_2, .slice A0_3 l0_3.length c0_3] 37 (0, 0)) QQ hb) (Y6 QB hb) (hbox) ((by rw [hg]; exact (Ya QB) : w.heap.size ≤ gb102)) ((by rw [hg]; exact (Ya QB) : w.heap.size ≤ gb102)) ((by rw [hg]; exact Nat.ne_of_lt (Y1b (g := gb101) (o := .cells #[.int .i64 a0_0, .string a0_1, .slice A0_2 l0_2.length c0_2, .slice A0_3 l0_3.length c0_3] 37 (0, 0)) QQ) : gb101 ≠ gb102)) ((by rw [hg]; exact Nat.ne_of_gt (Y1b (g := gb101) (o := .cells #[.int .i64 a0_0, .string a0_1, .slice A0_2 l0_2.length c0_2, .slice A0_3 l0_3.length c0_3] 37 (0, 0)) QQ) : gb102 ≠ gb101)); clear BK101 HB; obtain ⟨BK101, HB, BK102, GW102, GE102, NB101_102, NB102_101⟩ := n_; clear hb hbox hg))
 (try simp only [Act.put, List.setIfInBounds_toArray, List.set_cons_zero, List.set_cons_succ])
 go_cut [36] (fun v36 wc => ∃ (kq : Nat) (x36_2 : Bool), v36 = .bool x36_2 ∧ Y0 (Y4.j0 kq x36_2 a0_0 a0_1 l0_2 l0_3 a1_0 a1_1 l1_2 l1_3 = some r) ∧ Y0 (kq ≤ k) ∧ Y0 (wc.heap[gb101]? = some (.cells #[.int .i64 a0_0, .string a0_1, (.slice A0_2 l0_2.length c0_2), (.slice A0_3 l0_3.length c0_3)] 37 (0, 0))) ∧ Y0 (wc.heap[gb102]? = some (.cells #[.int .i64 a1_0, .string a1_1, (.slice A1_2 l1_2.length c1_2), (.slice A1_3 l1_3.length c1_3)] 37 (0, 0))) ∧ Y0 (Below w.heap.size w wc))
 case first =>
  have H := HC3.out
  clear HC3
  by_cases c6 : a0_0 = a1_0
  ·rw [if_pos c6] at H
   have c6b0 : (a0_0 == a1_0) = true := beq_iff_eq.mpr c6
   have c6b1 : (a0_0 != a1_0) = false := bne_eq_false_iff_eq.mpr c6
   clear c6
   (first | rw [c6b0] | (simp only [Y14, Y15]; rw [c6b0]) | skip)
   by_cases c7 : a0_1.toList = a1_1.toList
   ·rw [if_pos c7] at H
    have c7b0 : (a0_1.toList == a1_1.toList) = true := beq_iff_eq.mpr c7
    have c7b1 : (a0_1.toList != a1_1.toList) = false := bne_eq_false_iff_eq.mpr c7
    clear c7
    by_cases c8 : (l0_2.length : Int) = (l1_2.length : Int)
    ·rw [if_pos c8] at H
     have c8b0 : ((l0_2.length : Int) == (l1_2.length : Int)) = true := beq_iff_eq.mpr c8
     have c8b1 : ((l0_2.length : Int) != (l1_2.length : Int)) = false := bne_eq_false_iff_eq.mpr c8
     have c8b2 : (l0_2.length == l1_2.length) = true := by first | simpa using c8 | (simp at c8 ⊢; omega)
     clear c8
     have H' := Y0.mk H
     clear H
     have hnb9 := NB101_102.out
     have hnc9 := NB102_101.out
     obtain ⟨hcz10_0, hcz10_1, hcz10_2, hcz10_3, hfz10_0, hfz10_1, hfz10_2, hfz10_3⟩ := YD BK101.out
     obtain ⟨hcz11_0, hcz11_1, hcz11_2, hcz11_3, hfz11_0, hfz11_1, hfz11_2, hfz11_3⟩ := YD BK102.out
     go_wp2
     go_meet
     case rel => exact ⟨_, (((l0_3.length : Int) != (l1_3.length : Int))), Z9, H', ⟨Zm⟩, ⟨Z4⟩, ⟨Ze⟩, ⟨QB⟩⟩
    ·rw [if_neg c8] at H
     have c8b0 : ((l0_2.length : Int) == (l1_2.length : Int)) = false := beq_eq_false_iff_ne.mpr c8
     have c8b1 : ((l0_2.length : Int) != (l1_2.length : Int)) = true := bne_iff_ne.mpr c8
     have c8b2 : (l0_2.length == l1_2.length) = false := by first | simpa using c8 | (simp at c8 ⊢; omega)
     have H' := Y0.mk H
     clear H
     have hnb12 := NB101_102.out
     have hnc12 := NB102_101.out
     obtain ⟨hcz13_0, hcz13_1, hcz13_2, hcz13_3, hfz13_0, hfz13_1, hfz13_2, hfz13_3⟩ := YD BK101.out
     obtain ⟨hcz14_0, hcz14_1, hcz14_2, hcz14_3, hfz14_0, hfz14_1, hfz14_2, hfz14_3⟩ := YD BK102.out
     go_wp2
     go_meet
     case rel => exact Z1I
   ·rw [if_neg c7] at H
    have c7b0 : (a0_1.toList == a1_1.toList) = false := beq_eq_false_iff_ne.mpr c7
    have c7b1 : (a0_1.toList != a1_1.toList) = true := bne_iff_ne.mpr c7
    have H' := Y0.mk H
    clear H
    have hnb15 := NB101_102.out
    have hnc15 := NB102_101.out
    obtain ⟨hcz16_0, hcz16_1, hcz16_2, hcz16_3, hfz16_0, hfz16_1, hfz16_2, hfz16_3⟩ := YD BK101.out
    obtain ⟨hcz17_0, hcz17_1, hcz17_2, hcz17_3, hfz17_0, hfz17_1, hfz17_2, hfz17_3⟩ := YD BK102.out
    go_wp2
    go_meet
    case rel => exact Z1I
  ·rw [if_neg c6] at H
   have c6b0 : (a0_0 == a1_0) = false := beq_eq_false_iff_ne.mpr c6
   have c6b1 : (a0_0 != a1_0) = true := bne_iff_ne.mpr c6
   (first | rw [c6b0] | (simp only [Y14, Y15]; rw [c6b0]) | skip)
   have H' := Y0.mk H
   clear H
   have hnb18 := NB101_102.out
   have hnc18 := NB102_101.out
   obtain ⟨hcz19_0, hcz19_1, hcz19_2, hcz19_3, hfz19_0, hfz19_1, hfz19_2, hfz19_3⟩ := YD BK101.out
   obtain ⟨hcz20_0, hcz20_1, hcz20_2, hcz20_3, hfz20_0, hfz20_1, hfz20_2, hfz20_3⟩ := YD BK102.out
   go_wp2
   go_meet
   case rel => exact Z1I
 case rest =>
  clear HC3
  try clear c1
  try clear c2
  try clear p2
  try clear c6
  try clear c6b0
  try clear c6b1
  try clear c7
  try clear c7b0
  try clear c7b1
  try clear c8
  try clear c8b0
  try clear c8b1
  try clear c8b2
  try clear c9
  try clear c12
  try clear c15
  try clear c18
  try clear hcz10_0 hcz10_1 hcz10_2 hcz10_3
  try clear hcz11_0 hcz11_1 hcz11_2 hcz11_3
  try clear hcz13_0 hcz13_1 hcz13_2 hcz13_3
  try clear hcz14_0 hcz14_1 hcz14_2 hcz14_3
  try clear hcz16_0 hcz16_1 hcz16_2 hcz16_3
  try clear hcz17_0 hcz17_1 hcz17_2 hcz17_3
  try clear hcz19_0 hcz19_1 hcz19_2 hcz19_3
  try clear hcz20_0 hcz20_1 hcz20_2 hcz20_3
  try clear hfz10_0
  try clear hfz10_1
  try clear hfz10_2
  try clear hfz10_3
  try clear hfz11_0
  try clear hfz11_1
  try clear hfz11_2
  try clear hfz11_3
  try clear hfz13_0
  try clear hfz13_1
  try clear hfz13_2
  try clear hfz13_3
  try clear hfz14_0
  try clear hfz14_1
  try clear hfz14_2
  try clear hfz14_3
  try clear hfz16_0
  try clear hfz16_1
  try clear hfz16_2
  try clear hfz16_3
  try clear hfz17_0
  try clear hfz17_1
  try clear hfz17_2
  try clear hfz17_3
  try clear hfz19_0
  try clear hfz19_1
  try clear hfz19_2
  try clear hfz19_3
  try clear hfz20_0
  try clear hfz20_1
  try clear hfz20_2
  try clear hfz20_3
  obtain ⟨kq, x36_2, rfl, HA, HJ2, BK101, BK102, HB⟩ := hcut
  cases kq with
  | zero => exact absurd HA.out (by simp [Y4.j0])
  | succ kj2 =>
   have H := HA.out
   clear HA
   simp only [Y4.j0] at H
   by_cases c21 : x36_2 = true
   ·subst c21
    have H1 : (some false) = some r := by rw [if_pos rfl] at H; exact H
    clear H
    have H := H1
    clear H1
    obtain rfl := Option.some.inj H
    go_wp2
    go_ret
    exact Z1F
   ·replace c21 := Bool.eq_false_iff.mpr c21
    subst c21
    have H1 : (Y4.l0 kj2 0 a0_0 a0_1 l0_2 l0_3 a1_0 a1_1 l1_2 l1_3) = some r := by rw [if_neg (show ¬ (false = true) by decide)] at H; exact H
    clear H
    have H := H1
    clear H1
    have H' := Y0.mk H
    clear H
    go_wp2
    go_loopg [5] kj2 (fun kq v5 w' => ∃ (x5_2 : Int), v5 = .int .i64 x5_2 ∧ Y0 (Y4.l0 kq x5_2 a0_0 a0_1 l0_2 l0_3 a1_0 a1_1 l1_2 l1_3 = some r) ∧ Y0 (kq ≤ kj2) ∧ Y0 (w'.heap[gb101]? = some (.cells #[.int .i64 a0_0, .string a0_1, (.slice A0_2 l0_2.length c0_2), (.slice A0_3 l0_3.length c0_3)] 37 (0, 0))) ∧ Y0 (w'.heap[gb102]? = some (.cells #[.int .i64 a1_0, .string a1_1, (.slice A1_2 l1_2.length c1_2), (.slice A1_3 l1_3.length c1_3)] 37 (0, 0))) ∧ Y0 (Below w.heap.size w w'))
    case atStart => exact ⟨(0), Z9, H', ⟨Nat.le_refl _⟩, ⟨Z4⟩, ⟨Ze⟩, ⟨QB⟩⟩
    case round =>
     clear H'
     try clear c1
     try clear c2
     try clear p2
     try clear c6
     try clear c6b0
     try clear c6b1
     try clear c7
     try clear c7b0
     try clear c7b1
     try clear c8
     try clear c8b0
     try clear c8b1
     try clear c8b2
     try clear c9
     try clear c12
     try clear c15
     try clear c18
     try clear c21
     try clear hcz10_0 hcz10_1 hcz10_2 hcz10_3
     try clear hcz11_0 hcz11_1 hcz11_2 hcz11_3
     try clear hcz13_0 hcz13_1 hcz13_2 hcz13_3
     try clear hcz14_0 hcz14_1 hcz14_2 hcz14_3
     try clear hcz16_0 hcz16_1 hcz16_2 hcz16_3
     try clear hcz17_0 hcz17_1 hcz17_2 hcz17_3
     try clear hcz19_0 hcz19_1 hcz19_2 hcz19_3
     try clear hcz20_0 hcz20_1 hcz20_2 hcz20_3
     try clear hfz10_0
     try clear hfz10_1
     try clear hfz10_2
     try clear hfz10_3
     try clear hfz11_0
     try clear hfz11_1
     try clear hfz11_2
     try clear hfz11_3
     try clear hfz13_0
     try clear hfz13_1
     try clear hfz13_2
     try clear hfz13_3
     try clear hfz14_0
     try clear hfz14_1
     try clear hfz14_2
     try clear hfz14_3
     try clear hfz16_0
     try clear hfz16_1
     try clear hfz16_2
     try clear hfz16_3
     try clear hfz17_0
     try clear hfz17_1
     try clear hfz17_2
     try clear hfz17_3
     try clear hfz19_0
     try clear hfz19_1
     try clear hfz19_2
     try clear hfz19_3
     try clear hfz20_0
     try clear hfz20_1
     try clear hfz20_2
     try clear hfz20_3
     try clear p2
     obtain ⟨x5_2, rfl, HA, HK2, BK101, BK102, HB⟩ := hrel
     cases gk with
     | zero => exact absurd HA.out (by simp [Y4.l0])
     | succ k2 =>
      have H := HA.out
      clear HA
      simp only [Y4.l0] at H
      by_cases c22 : x5_2 < (l0_2.length : Int)
      ·rw [if_pos c22] at H
       have c22b0 : decide (x5_2 < (l0_2.length : Int)) = true := decide_eq_true c22
       clear c22
       by_cases c23 : 0 ≤ x5_2
       ·rw [if_pos c23] at H
        have c23b0 : decide (0 ≤ x5_2) = true := decide_eq_true c23
        clear c23
        by_cases c24 : x5_2 < (l1_2.length : Int)
        ·rw [if_pos c24] at H
         have c24b0 : decide (x5_2 < (l1_2.length : Int)) = true := decide_eq_true c24
         clear c24
         by_cases c25 : (Y25 ByteArray.empty l0_2 x5_2).toList = (Y25 ByteArray.empty l1_2 x5_2).toList
         ·rw [if_pos c25] at H
          have c25b0 : ((Y25 ByteArray.empty l0_2 x5_2).toList == (Y25 ByteArray.empty l1_2 x5_2).toList) = true := beq_iff_eq.mpr c25
          have c25b1 : ((Y25 ByteArray.empty l0_2 x5_2).toList != (Y25 ByteArray.empty l1_2 x5_2).toList) = false := bne_eq_false_iff_eq.mpr c25
          clear c25
          have H' := Y0.mk H
          clear H
          have hnb26 := NB101_102.out
          have hnc26 := NB102_101.out
          obtain ⟨hcz27_0, hcz27_1, hcz27_2, hcz27_3, hfz27_0, hfz27_1, hfz27_2, hfz27_3⟩ := YD BK101.out
          try go_wp2
          have n_ := Y24 (Yc BK101.out) (Yc BK102.out) (YL HB.out)
          clear BK101
          clear BK102
          clear HB
          obtain ⟨BK101, BK102, HB⟩ := n_
          have p103 : 0 ≤ (x5_2 : Int) := of_decide_eq_true Z8
          have q103 : x5_2 < (l0_2.length : Int) := of_decide_eq_true Z8
          obtain ⟨ad103, e103, hx103_0⟩ := Kd.at_string HR0_2.out x5_2 p103 q103
          have hw103_0 := hx103_0
          cases e103
          replace hx103_0 := YT HB.out hx103_0
          replace p103 := eq_true p103
          replace q103 := eq_true q103
          have p104 : 0 ≤ (x5_2 : Int) := of_decide_eq_true Z8
          have q104 : x5_2 < (l1_2.length : Int) := of_decide_eq_true Z8
          obtain ⟨ad104, e104, hx104_0⟩ := Kd.at_string HR1_2.out x5_2 p104 q104
          have hw104_0 := hx104_0
          cases e104
          replace hx104_0 := YT HB.out hx104_0
          replace p104 := eq_true p104
          replace q104 := eq_true q104
          refine Y1q (n := 11) (S := fun w' => w'.cell? ⟨gb101, 0, none⟩ = some (.int .i64 a0_0) ∧ w'.cell? ⟨gb101, 1, none⟩ = some (.string a0_1) ∧ w'.cell? ⟨gb101, 2, none⟩ = some (.slice (some ad103) l0_2.length c0_2) ∧ w'.cell? ⟨gb101, 3, none⟩ = some (.slice A0_3 l0_3.length c0_3) ∧ w'.cell? ⟨gb102, 0, none⟩ = some (.int .i64 a1_0) ∧ w'.cell? ⟨gb102, 1, none⟩ = some (.string a1_1) ∧ w'.cell? ⟨gb102, 2, none⟩ = some (.slice (some ad104) l1_2.length c1_2) ∧ w'.cell? ⟨gb102, 3, none⟩ = some (.slice A1_3 l1_3.length c1_3) ∧ w'.cell? (ad103.add (x5_2).toNat) = some (.string (Y25 ByteArray.empty l0_2 x5_2)) ∧ w'.cell? (ad104.add (x5_2).toNat) = some (.string (Y25 ByteArray.empty l1_2 x5_2))) (ds := []) bz11_0 Z6 rfl rfl ⟨(Y1 BK101.out 0).trans rfl, (Y1 BK101.out 1).trans rfl, (Y1 BK101.out 2).trans rfl, (Y1 BK101.out 3).trans rfl, (Y1 BK102.out 0).trans rfl, (Y1 BK102.out 1).trans rfl, (Y1 BK102.out 2).trans rfl, (Y1 BK102.out 3).trans rfl, ((HB.out.cell (World.block_lt_of_cell? w _ hw103_0)).trans hw103_0), ((HB.out.cell (World.block_lt_of_cell? w _ hw104_0)).trans hw104_0)⟩ (fun hHeld => ?_); refine YW Y4.tab6 Y4.bits6 (fun HT_ HW_ => ?_)
          generalize wr.drew = w28 at BK101 BK102 HB hx103_0 hx104_0 hHeld ⊢
          refine pY 0 44 bz11_1 ?_
          refine pY 2 46 bz11_5 ?_
          refine pY 5 49 bz11_25 ?_
          refine pY 7 51 bz11_a5 ?_
          refine pT 1 45 bz11_a7 ?_
          refine pY 3 47 bz11_af ?_
          refine pT 4 48 bz11_bf ?_
          refine pT 6 50 bz11_ff ?_
          refine pY 8 52 Y5H ?_
          refine pT 9 53 Y5I ?_
          refine pY 10 54 Y5J ?_
          refine Y1O (Y1a HT_.out Z6) ?_
          try go_wp2
          go_roundg k2
          case measure => have := HJ2.out; have := HK2.out; omega
          case rel => exact ⟨(wrap64 (x5_2 + 1)), Z9, H', ⟨by have := HJ2.out; have := HK2.out; omega⟩, ⟨Z4⟩, ⟨Ze⟩, ⟨QB⟩⟩
         ·rw [if_neg c25] at H
          have c25b0 : ((Y25 ByteArray.empty l0_2 x5_2).toList == (Y25 ByteArray.empty l1_2 x5_2).toList) = false := beq_eq_false_iff_ne.mpr c25
          have c25b1 : ((Y25 ByteArray.empty l0_2 x5_2).toList != (Y25 ByteArray.empty l1_2 x5_2).toList) = true := bne_iff_ne.mpr c25
          obtain rfl := Option.some.inj H
          have hnb29 := NB101_102.out
          have hnc29 := NB102_101.out
          obtain ⟨hcz30_0, hcz30_1, hcz30_2, hcz30_3, hfz30_0, hfz30_1, hfz30_2, hfz30_3⟩ := YD BK101.out
          try go_wp2
          have n_ := Y24 (Yc BK101.out) (Yc BK102.out) (YL HB.out)
          clear BK101
          clear BK102
          clear HB
          obtain ⟨BK101, BK102, HB⟩ := n_
          have p103 : 0 ≤ (x5_2 : Int) := of_decide_eq_true Z8
          have q103 : x5_2 < (l0_2.length : Int) := of_decide_eq_true Z8
          obtain ⟨ad103, e103, hx103_0⟩ := Kd.at_string HR0_2.out x5_2 p103 q103
          have hw103_0 := hx103_0
          cases e103
          replace hx103_0 := YT HB.out hx103_0
          replace p103 := eq_true p103
          replace q103 := eq_true q103
          have p104 : 0 ≤ (x5_2 : Int) := of_decide_eq_true Z8
          have q104 : x5_2 < (l1_2.length : Int) := of_decide_eq_true Z8
          obtain ⟨ad104, e104, hx104_0⟩ := Kd.at_string HR1_2.out x5_2 p104 q104
          have hw104_0 := hx104_0
          cases e104
          replace hx104_0 := YT HB.out hx104_0
          replace p104 := eq_true p104
          replace q104 := eq_true q104
          refine Y1q (n := 11) (S := fun w' => w'.cell? ⟨gb101, 0, none⟩ = some (.int .i64 a0_0) ∧ w'.cell? ⟨gb101, 1, none⟩ = some (.string a0_1) ∧ w'.cell? ⟨gb101, 2, none⟩ = some (.slice (some ad103) l0_2.length c0_2) ∧ w'.cell? ⟨gb101, 3, none⟩ = some (.slice A0_3 l0_3.length c0_3) ∧ w'.cell? ⟨gb102, 0, none⟩ = some (.int .i64 a1_0) ∧ w'.cell? ⟨gb102, 1, none⟩ = some (.string a1_1) ∧ w'.cell? ⟨gb102, 2, none⟩ = some (.slice (some ad104) l1_2.length c1_2) ∧ w'.cell? ⟨gb102, 3, none⟩ = some (.slice A1_3 l1_3.length c1_3) ∧ w'.cell? (ad103.add (x5_2).toNat) = some (.string (Y25 ByteArray.empty l0_2 x5_2)) ∧ w'.cell? (ad104.add (x5_2).toNat) = some (.string (Y25 ByteArray.empty l1_2 x5_2))) (ds := []) bz11_0 Z6 rfl rfl ⟨(Y1 BK101.out 0).trans rfl, (Y1 BK101.out 1).trans rfl, (Y1 BK101.out 2).trans rfl, (Y1 BK101.out 3).trans rfl, (Y1 BK102.out 0).trans rfl, (Y1 BK102.out 1).trans rfl, (Y1 BK102.out 2).trans rfl, (Y1 BK102.out 3).trans rfl, ((HB.out.cell (World.block_lt_of_cell? w _ hw103_0)).trans hw103_0), ((HB.out.cell (World.block_lt_of_cell? w _ hw104_0)).trans hw104_0)⟩ (fun hHeld => ?_); refine YW Y4.tab6 Y4.bits6 (fun HT_ HW_ => ?_)
          generalize wr.drew = w31 at BK101 BK102 HB hx103_0 hx104_0 hHeld ⊢
          refine pY 0 44 bz11_1 ?_
          refine pY 2 46 bz11_5 ?_
          refine pY 5 49 bz11_25 ?_
          refine pY 7 51 bz11_a5 ?_
          refine pT 1 45 bz11_a7 ?_
          refine pY 3 47 bz11_af ?_
          refine pT 4 48 bz11_bf ?_
          refine pT 6 50 bz11_ff ?_
          refine pY 8 52 Y5H ?_
          refine pT 9 53 Y5I ?_
          refine pY 10 54 Y5J ?_
          refine Y1O (Y1a HT_.out Z6) ?_
          try go_wp2
          go_ret
          exact Z1F
        ·rw [if_neg c24] at H
         exact Zh
       ·rw [if_neg c23] at H
        exact Zh
      ·rw [if_neg c22] at H
       have c22b0 : decide (x5_2 < (l0_2.length : Int)) = false := decide_eq_false c22
       clear c22
       have H' := Y0.mk H
       clear H
       have hnb32 := NB101_102.out
       have hnc32 := NB102_101.out
       obtain ⟨hcz33_0, hcz33_1, hcz33_2, hcz33_3, hfz33_0, hfz33_1, hfz33_2, hfz33_3⟩ := YD BK101.out
       go_wp2
       go_loopg [6] k2 (fun kq v6 w' => ∃ (x6_3 : Int), v6 = .int .i64 x6_3 ∧ Y0 (Y4.l1 kq x6_3 a0_0 a0_1 l0_2 l0_3 a1_0 a1_1 l1_2 l1_3 = some r) ∧ Y0 (kq ≤ k2) ∧ Y0 (w'.heap[gb101]? = some (.cells #[.int .i64 a0_0, .string a0_1, (.slice A0_2 l0_2.length c0_2), (.slice A0_3 l0_3.length c0_3)] 37 (0, 0))) ∧ Y0 (w'.heap[gb102]? = some (.cells #[.int .i64 a1_0, .string a1_1, (.slice A1_2 l1_2.length c1_2), (.slice A1_3 l1_3.length c1_3)] 37 (0, 0))) ∧ Y0 (Below w.heap.size w w'))
       case atStart => exact ⟨(0), Z9, H', ⟨Nat.le_refl _⟩, ⟨Z4⟩, ⟨Ze⟩, ⟨QB⟩⟩
       case round =>
        clear H'
        try clear c1
        try clear p1
        try clear q1
        try clear hx1
        try clear c2
        try clear p2
        try clear c3
        try clear c6
        try clear c6b0
        try clear c6b1
        try clear p6
        try clear c7
        try clear c7b0
        try clear c7b1
        try clear c8
        try clear c8b0
        try clear c8b1
        try clear c8b2
        try clear c9
        try clear p10
        try clear q10
        try clear hx10
        try clear c12
        try clear c15
        try clear c18
        try clear c21
        try clear c22
        try clear c22b0
        try clear c23
        try clear c23b0
        try clear c24
        try clear c24b0
        try clear c25
        try clear c25b0
        try clear c25b1
        try clear c26
        try clear c29
        try clear c32
        try clear hcz10_0 hcz10_1 hcz10_2 hcz10_3
        try clear hcz11_0 hcz11_1 hcz11_2 hcz11_3
        try clear hcz13_0 hcz13_1 hcz13_2 hcz13_3
        try clear hcz14_0 hcz14_1 hcz14_2 hcz14_3
        try clear hcz16_0 hcz16_1 hcz16_2 hcz16_3
        try clear hcz17_0 hcz17_1 hcz17_2 hcz17_3
        try clear hcz19_0 hcz19_1 hcz19_2 hcz19_3
        try clear hcz20_0 hcz20_1 hcz20_2 hcz20_3
        try clear hcz27_0 hcz27_1 hcz27_2 hcz27_3
        try clear hcz30_0 hcz30_1 hcz30_2 hcz30_3
        try clear hcz33_0 hcz33_1 hcz33_2 hcz33_3
        try clear hfz10_0
        try clear hfz10_1
        try clear hfz10_2
        try clear hfz10_3
        try clear hfz11_0
        try clear hfz11_1
        try clear hfz11_2
        try clear hfz11_3
        try clear hfz13_0
        try clear hfz13_1
        try clear hfz13_2
        try clear hfz13_3
        try clear hfz14_0
        try clear hfz14_1
        try clear hfz14_2
        try clear hfz14_3
        try clear hfz16_0
        try clear hfz16_1
        try clear hfz16_2
        try clear hfz16_3
        try clear hfz17_0
        try clear hfz17_1
        try clear hfz17_2
        try clear hfz17_3
        try clear hfz19_0
        try clear hfz19_1
        try clear hfz19_2
        try clear hfz19_3
        try clear hfz20_0
        try clear hfz20_1
        try clear hfz20_2
        try clear hfz20_3
        try clear hfz27_0
        try clear hfz27_1
        try clear hfz27_2
        try clear hfz27_3
        try clear hfz30_0
        try clear hfz30_1
        try clear hfz30_2
        try clear hfz30_3
        try clear hfz33_0
        try clear hfz33_1
        try clear hfz33_2
        try clear hfz33_3
        try clear hx103_0
        try clear hx104_0
        try clear p103
        try clear p104
        try clear p2
        try clear q103
        try clear q104
        obtain ⟨x6_3, rfl, HA, HK3, BK101, BK102, HB⟩ := hrel
        cases gk with
        | zero => exact absurd HA.out (by simp [Y4.l1])
        | succ k3 =>
         have H := HA.out
         clear HA
         simp only [Y4.l1] at H
         by_cases c34 : x6_3 < (l0_3.length : Int)
         ·rw [if_pos c34] at H
          have c34b0 : decide (x6_3 < (l0_3.length : Int)) = true := decide_eq_true c34
          clear c34
          by_cases c35 : 0 ≤ x6_3
          ·rw [if_pos c35] at H
           have c35b0 : decide (0 ≤ x6_3) = true := decide_eq_true c35
           clear c35
           by_cases c36 : x6_3 < (l1_3.length : Int)
           ·rw [if_pos c36] at H
            have c36b0 : decide (x6_3 < (l1_3.length : Int)) = true := decide_eq_true c36
            clear c36
            replace H := Option.bind_eq_some_iff.mp H
            obtain ⟨t107, A370, H⟩ := H
            replace H : (if t107 = true then (Y4.l1 k3 (wrap64 (x6_3 + 1)) a0_0 a0_1 l0_2 l0_3 a1_0 a1_1 l1_2 l1_3) else (some false)) = some r := H
            have A37 := Y0.mk A370
            clear A370
            by_cases c38 : t107 = true
            ·subst c38
             have H1 : (Y4.l1 k3 (wrap64 (x6_3 + 1)) a0_0 a0_1 l0_2 l0_3 a1_0 a1_1 l1_2 l1_3) = some r := by rw [if_pos rfl] at H; exact H
             clear H
             have H := H1
             clear H1
             have H' := Y0.mk H
             clear H
             have hnb39 := NB101_102.out
             have hnc39 := NB102_101.out
             obtain ⟨hcz40_0, hcz40_1, hcz40_2, hcz40_3, hfz40_0, hfz40_1, hfz40_2, hfz40_3⟩ := YD BK101.out
             try go_wp2
             have n_ := Y24 (Yc BK101.out) (Yc BK102.out) (YL HB.out)
             clear BK101
             clear BK102
             clear HB
             obtain ⟨BK101, BK102, HB⟩ := n_
             have p105 : 0 ≤ (x6_3 : Int) := of_decide_eq_true Z8
             have q105 : x6_3 < (l0_3.length : Int) := of_decide_eq_true Z8
             obtain ⟨ad105, A105_2, c105_2, A105_3, c105_3, e105, hx105_0, hx105_1, hx105_2, hx105_3, hl105_2, hi105_2, hl105_3, hi105_3⟩ := Y1C HR0_3.out x6_3 p105 q105
             have hw105_3 := hx105_3
             have hw105_2 := hx105_2
             have hw105_1 := hx105_1
             have hw105_0 := hx105_0
             cases e105
             replace hx105_0 := YT HB.out hx105_0
             replace hx105_1 := YT HB.out hx105_1
             replace hx105_2 := YT HB.out hx105_2
             replace hx105_3 := YT HB.out hx105_3
             have HR105_2 := Y0.mk hi105_2
             have HC105_2 := Y0.mk hl105_2
             clear hi105_2 hl105_2
             have HR105_3 := Y0.mk hi105_3
             have HC105_3 := Y0.mk hl105_3
             clear hi105_3 hl105_3
             replace p105 := eq_true p105
             replace q105 := eq_true q105
             have p106 : 0 ≤ (x6_3 : Int) := of_decide_eq_true Z8
             have q106 : x6_3 < (l1_3.length : Int) := of_decide_eq_true Z8
             obtain ⟨ad106, A106_2, c106_2, A106_3, c106_3, e106, hx106_0, hx106_1, hx106_2, hx106_3, hl106_2, hi106_2, hl106_3, hi106_3⟩ := Y1C HR1_3.out x6_3 p106 q106
             have hw106_3 := hx106_3
             have hw106_2 := hx106_2
             have hw106_1 := hx106_1
             have hw106_0 := hx106_0
             cases e106
             replace hx106_0 := YT HB.out hx106_0
             replace hx106_1 := YT HB.out hx106_1
             replace hx106_2 := YT HB.out hx106_2
             replace hx106_3 := YT HB.out hx106_3
             have HR106_2 := Y0.mk hi106_2
             have HC106_2 := Y0.mk hl106_2
             clear hi106_2 hl106_2
             have HR106_3 := Y0.mk hi106_3
             have HC106_3 := Y0.mk hl106_3
             clear hi106_3 hl106_3
             replace p106 := eq_true p106
             replace q106 := eq_true q106
             refine Y1q (n := 12) (S := fun w' => w'.cell? ⟨gb101, 0, none⟩ = some (.int .i64 a0_0) ∧ w'.cell? ⟨gb101, 1, none⟩ = some (.string a0_1) ∧ w'.cell? ⟨gb101, 2, none⟩ = some (.slice A0_2 l0_2.length c0_2) ∧ w'.cell? ⟨gb101, 3, none⟩ = some (.slice (some ad105) l0_3.length c0_3) ∧ w'.cell? ⟨gb102, 0, none⟩ = some (.int .i64 a1_0) ∧ w'.cell? ⟨gb102, 1, none⟩ = some (.string a1_1) ∧ w'.cell? ⟨gb102, 2, none⟩ = some (.slice A1_2 l1_2.length c1_2) ∧ w'.cell? ⟨gb102, 3, none⟩ = some (.slice (some ad106) l1_3.length c1_3) ∧ w'.cell? (ad105.add ((x6_3).toNat * 4)) = some (.int .i64 ((Y2 l0_3 x6_3).f0)) ∧ w'.cell? ⟨(ad105.add ((x6_3).toNat * 4)).block, (ad105.add ((x6_3).toNat * 4)).off + 1, none⟩ = some (.string ((Y2 l0_3 x6_3).f1)) ∧ w'.cell? ⟨(ad105.add ((x6_3).toNat * 4)).block, (ad105.add ((x6_3).toNat * 4)).off + 2, none⟩ = some (.slice A105_2 ((Y2 l0_3 x6_3).f2).length c105_2) ∧ w'.cell? ⟨(ad105.add ((x6_3).toNat * 4)).block, (ad105.add ((x6_3).toNat * 4)).off + 3, none⟩ = some (.slice A105_3 ((Y2 l0_3 x6_3).f3).length c105_3) ∧ w'.cell? (ad106.add ((x6_3).toNat * 4)) = some (.int .i64 ((Y2 l1_3 x6_3).f0)) ∧ w'.cell? ⟨(ad106.add ((x6_3).toNat * 4)).block, (ad106.add ((x6_3).toNat * 4)).off + 1, none⟩ = some (.string ((Y2 l1_3 x6_3).f1)) ∧ w'.cell? ⟨(ad106.add ((x6_3).toNat * 4)).block, (ad106.add ((x6_3).toNat * 4)).off + 2, none⟩ = some (.slice A106_2 ((Y2 l1_3 x6_3).f2).length c106_2) ∧ w'.cell? ⟨(ad106.add ((x6_3).toNat * 4)).block, (ad106.add ((x6_3).toNat * 4)).off + 3, none⟩ = some (.slice A106_3 ((Y2 l1_3 x6_3).f3).length c106_3)) (ds := []) Y5K Z6 rfl rfl ⟨(Y1 BK101.out 0).trans rfl, (Y1 BK101.out 1).trans rfl, (Y1 BK101.out 2).trans rfl, (Y1 BK101.out 3).trans rfl, (Y1 BK102.out 0).trans rfl, (Y1 BK102.out 1).trans rfl, (Y1 BK102.out 2).trans rfl, (Y1 BK102.out 3).trans rfl, ((HB.out.cell (World.block_lt_of_cell? w _ hw105_0)).trans hw105_0), ((HB.out.cell (World.block_lt_of_cell? w _ hw105_1)).trans hw105_1), ((HB.out.cell (World.block_lt_of_cell? w _ hw105_2)).trans hw105_2), ((HB.out.cell (World.block_lt_of_cell? w _ hw105_3)).trans hw105_3), ((HB.out.cell (World.block_lt_of_cell? w _ hw106_0)).trans hw106_0), ((HB.out.cell (World.block_lt_of_cell? w _ hw106_1)).trans hw106_1), ((HB.out.cell (World.block_lt_of_cell? w _ hw106_2)).trans hw106_2), ((HB.out.cell (World.block_lt_of_cell? w _ hw106_3)).trans hw106_3)⟩ (fun hHeld => ?_); refine YW Y4.tab11 Y4.bits11 (fun HT_ HW_ => ?_)
             generalize wr.drew = w41 at BK101 BK102 HB HR105_2 HR105_3 HR106_2 HR106_3 hx105_0 hx105_1 hx105_2 hx105_3 hx106_0 hx106_1 hx106_2 hx106_3 hHeld ⊢
             refine pY 0 62 Y5L ?_
             refine pY 2 64 bz12_5 ?_
             refine pY 5 67 bz12_25 ?_
             refine pY 7 69 bz12_a5 ?_
             refine pT 1 63 bz12_a7 ?_
             refine pY 3 65 bz12_af ?_
             refine pT 4 66 bz12_bf ?_
             refine pT 6 68 Y4w ?_
             refine pY 8 70 Y3G ?_
             refine pT 9 71 Y3H ?_
             refine Y2b (i := 10) (N := some 72) Y3I rfl rfl (Y16 HT_.out Z6) (by decide) (fun K hK => ?_)
             refine Y1r Tryd.func28 Z6 rfl #[.agg #[.int .i64 ((Y2 l0_3 x6_3).f0), .string ((Y2 l0_3 x6_3).f1), .slice A105_2 ((Y2 l0_3 x6_3).f2).length c105_2, .slice A105_3 ((Y2 l0_3 x6_3).f3).length c105_3], .agg #[.int .i64 ((Y2 l1_3 x6_3).f0), .string ((Y2 l1_3 x6_3).f1), .slice A106_2 ((Y2 l1_3 x6_3).f2).length c106_2, .slice A106_3 ((Y2 l1_3 x6_3).f3).length c106_3]] (by rfl) rfl rfl Z0 ?_
             with_reducible refine (ih k3 ZV ((Y2 l0_3 x6_3).f0) ((Y2 l0_3 x6_3).f1) _ _ ((Y2 l0_3 x6_3).f2) _ _ ((Y2 l0_3 x6_3).f3) ((Y2 l1_3 x6_3).f0) ((Y2 l1_3 x6_3).f1) _ _ ((Y2 l1_3 x6_3).f2) _ _ ((Y2 l1_3 x6_3).f3) true _ ?side1 ?side2 ?side3 ?side4 ?side5 ?side6 ?side7 ?side8 A37.out).mono ?_
             (case side1 => exact Z1b)
             (case side2 => exact HC105_2.out)
             (case side3 => exact Z1c)
             (case side4 => exact HC105_3.out)
             (case side5 => exact Zs)
             (case side6 => exact HC106_2.out)
             (case side7 => exact Zt)
             (case side8 => exact HC106_3.out)
             rintro e w42 ⟨rfl, hb⟩
             refine ⟨_, rfl, ?_⟩
             have n_ := Y24 (Yj (g := gb101) (o := .cells #[.int .i64 a0_0, .string a0_1, .slice A0_2 l0_2.length c0_2, .slice (some ad105) l0_3.length c0_3] 37 (0, 0)) QQ hb) (Yj (g := gb102) (o := .cells #[.int .i64 a1_0, .string a1_1, .slice A1_2 l1_2.length c1_2, .slice (some ad106) l1_3.length c1_3] 37 (0, 0)) QQ hb) (Y6 QB hb)
             clear BK101
             clear BK102
             clear HB
             obtain ⟨BK101, BK102, HB⟩ := n_
             (try clear hb)
             (try clear hb2)
             (try clear hk)
             (try clear hi)
             refine hK.out _ _ ⟨(Y1 BK101.out 0).trans rfl, (Y1 BK101.out 1).trans rfl, (Y1 BK101.out 2).trans rfl, (Y1 BK101.out 3).trans rfl, (Y1 BK102.out 0).trans rfl, (Y1 BK102.out 1).trans rfl, (Y1 BK102.out 2).trans rfl, (Y1 BK102.out 3).trans rfl, ((HB.out.cell (World.block_lt_of_cell? w _ hw105_0)).trans hw105_0), ((HB.out.cell (World.block_lt_of_cell? w _ hw105_1)).trans hw105_1), ((HB.out.cell (World.block_lt_of_cell? w _ hw105_2)).trans hw105_2), ((HB.out.cell (World.block_lt_of_cell? w _ hw105_3)).trans hw105_3), ((HB.out.cell (World.block_lt_of_cell? w _ hw106_0)).trans hw106_0), ((HB.out.cell (World.block_lt_of_cell? w _ hw106_1)).trans hw106_1), ((HB.out.cell (World.block_lt_of_cell? w _ hw106_2)).trans hw106_2), ((HB.out.cell (World.block_lt_of_cell? w _ hw106_3)).trans hw106_3)⟩ (fun hHeld => ?_)
             clear hK K
             refine Y1k (a' := ?_) ?_ ?_
             rotate_left
             ·show Act.put _ (some 72) _ = _
              simp only [Act.put, List.setIfInBounds_toArray, List.set_cons_zero, List.set_cons_succ, Y14, Y15]
              rfl
             refine pY 11 73 Y3J ?_
             refine Y1O (Y1a HT_.out Z6) ?_
             try go_wp2
             go_roundg k3
             case measure => have := HJ2.out; have := HK2.out; have := HK3.out; omega
             case rel => exact ⟨(wrap64 (x6_3 + 1)), Z9, H', ⟨ZV⟩, ⟨Z4⟩, ⟨Ze⟩, ⟨QB⟩⟩
            ·replace c38 := Bool.eq_false_iff.mpr c38
             subst c38
             have H1 : (some false) = some r := by rw [if_neg (show ¬ (false = true) by decide)] at H; exact H
             clear H
             have H := H1
             clear H1
             obtain rfl := Option.some.inj H
             have hnb43 := NB101_102.out
             have hnc43 := NB102_101.out
             obtain ⟨hcz44_0, hcz44_1, hcz44_2, hcz44_3, hfz44_0, hfz44_1, hfz44_2, hfz44_3⟩ := YD BK101.out
             try go_wp2
             have n_ := Y24 (Yc BK101.out) (Yc BK102.out) (YL HB.out)
             clear BK101
             clear BK102
             clear HB
             obtain ⟨BK101, BK102, HB⟩ := n_
             have p105 : 0 ≤ (x6_3 : Int) := of_decide_eq_true Z8
             have q105 : x6_3 < (l0_3.length : Int) := of_decide_eq_true Z8
             obtain ⟨ad105, A105_2, c105_2, A105_3, c105_3, e105, hx105_0, hx105_1, hx105_2, hx105_3, hl105_2, hi105_2, hl105_3, hi105_3⟩ := Y1C HR0_3.out x6_3 p105 q105
             have hw105_3 := hx105_3
             have hw105_2 := hx105_2
             have hw105_1 := hx105_1
             have hw105_0 := hx105_0
             cases e105
             replace hx105_0 := YT HB.out hx105_0
             replace hx105_1 := YT HB.out hx105_1
             replace hx105_2 := YT HB.out hx105_2
             replace hx105_3 := YT HB.out hx105_3
             have HR105_2 := Y0.mk hi105_2
             have HC105_2 := Y0.mk hl105_2
             clear hi105_2 hl105_2
             have HR105_3 := Y0.mk hi105_3
             have HC105_3 := Y0.mk hl105_3
             clear hi105_3 hl105_3
             replace p105 := eq_true p105
             replace q105 := eq_true q105
             have p106 : 0 ≤ (x6_3 : Int) := of_decide_eq_true Z8
             have q106 : x6_3 < (l1_3.length : Int) := of_decide_eq_true Z8
             obtain ⟨ad106, A106_2, c106_2, A106_3, c106_3, e106, hx106_0, hx106_1, hx106_2, hx106_3, hl106_2, hi106_2, hl106_3, hi106_3⟩ := Y1C HR1_3.out x6_3 p106 q106
             have hw106_3 := hx106_3
             have hw106_2 := hx106_2
             have hw106_1 := hx106_1
             have hw106_0 := hx106_0
             cases e106
             replace hx106_0 := YT HB.out hx106_0
             replace hx106_1 := YT HB.out hx106_1
             replace hx106_2 := YT HB.out hx106_2
             replace hx106_3 := YT HB.out hx106_3
             have HR106_2 := Y0.mk hi106_2
             have HC106_2 := Y0.mk hl106_2
             clear hi106_2 hl106_2
             have HR106_3 := Y0.mk hi106_3
             have HC106_3 := Y0.mk hl106_3
             clear hi106_3 hl106_3
             replace p106 := eq_true p106
             replace q106 := eq_true q106
             refine Y1q (n := 12) (S := fun w' => w'.cell? ⟨gb101, 0, none⟩ = some (.int .i64 a0_0) ∧ w'.cell? ⟨gb101, 1, none⟩ = some (.string a0_1) ∧ w'.cell? ⟨gb101, 2, none⟩ = some (.slice A0_2 l0_2.length c0_2) ∧ w'.cell? ⟨gb101, 3, none⟩ = some (.slice (some ad105) l0_3.length c0_3) ∧ w'.cell? ⟨gb102, 0, none⟩ = some (.int .i64 a1_0) ∧ w'.cell? ⟨gb102, 1, none⟩ = some (.string a1_1) ∧ w'.cell? ⟨gb102, 2, none⟩ = some (.slice A1_2 l1_2.length c1_2) ∧ w'.cell? ⟨gb102, 3, none⟩ = some (.slice (some ad106) l1_3.length c1_3) ∧ w'.cell? (ad105.add ((x6_3).toNat * 4)) = some (.int .i64 ((Y2 l0_3 x6_3).f0)) ∧ w'.cell? ⟨(ad105.add ((x6_3).toNat * 4)).block, (ad105.add ((x6_3).toNat * 4)).off + 1, none⟩ = some (.string ((Y2 l0_3 x6_3).f1)) ∧ w'.cell? ⟨(ad105.add ((x6_3).toNat * 4)).block, (ad105.add ((x6_3).toNat * 4)).off + 2, none⟩ = some (.slice A105_2 ((Y2 l0_3 x6_3).f2).length c105_2) ∧ w'.cell? ⟨(ad105.add ((x6_3).toNat * 4)).block, (ad105.add ((x6_3).toNat * 4)).off + 3, none⟩ = some (.slice A105_3 ((Y2 l0_3 x6_3).f3).length c105_3) ∧ w'.cell? (ad106.add ((x6_3).toNat * 4)) = some (.int .i64 ((Y2 l1_3 x6_3).f0)) ∧ w'.cell? ⟨(ad106.add ((x6_3).toNat * 4)).block, (ad106.add ((x6_3).toNat * 4)).off + 1, none⟩ = some (.string ((Y2 l1_3 x6_3).f1)) ∧ w'.cell? ⟨(ad106.add ((x6_3).toNat * 4)).block, (ad106.add ((x6_3).toNat * 4)).off + 2, none⟩ = some (.slice A106_2 ((Y2 l1_3 x6_3).f2).length c106_2) ∧ w'.cell? ⟨(ad106.add ((x6_3).toNat * 4)).block, (ad106.add ((x6_3).toNat * 4)).off + 3, none⟩ = some (.slice A106_3 ((Y2 l1_3 x6_3).f3).length c106_3)) (ds := []) Y5K Z6 rfl rfl ⟨(Y1 BK101.out 0).trans rfl, (Y1 BK101.out 1).trans rfl, (Y1 BK101.out 2).trans rfl, (Y1 BK101.out 3).trans rfl, (Y1 BK102.out 0).trans rfl, (Y1 BK102.out 1).trans rfl, (Y1 BK102.out 2).trans rfl, (Y1 BK102.out 3).trans rfl, ((HB.out.cell (World.block_lt_of_cell? w _ hw105_0)).trans hw105_0), ((HB.out.cell (World.block_lt_of_cell? w _ hw105_1)).trans hw105_1), ((HB.out.cell (World.block_lt_of_cell? w _ hw105_2)).trans hw105_2), ((HB.out.cell (World.block_lt_of_cell? w _ hw105_3)).trans hw105_3), ((HB.out.cell (World.block_lt_of_cell? w _ hw106_0)).trans hw106_0), ((HB.out.cell (World.block_lt_of_cell? w _ hw106_1)).trans hw106_1), ((HB.out.cell (World.block_lt_of_cell? w _ hw106_2)).trans hw106_2), ((HB.out.cell (World.block_lt_of_cell? w _ hw106_3)).trans hw106_3)⟩ (fun hHeld => ?_); refine YW Y4.tab11 Y4.bits11 (fun HT_ HW_ => ?_)
             generalize wr.drew = w45 at BK101 BK102 HB HR105_2 HR105_3 HR106_2 HR106_3 hx105_0 hx105_1 hx105_2 hx105_3 hx106_0 hx106_1 hx106_2 hx106_3 hHeld ⊢
             refine pY 0 62 Y5L ?_
             refine pY 2 64 bz12_5 ?_
             refine pY 5 67 bz12_25 ?_
             refine pY 7 69 bz12_a5 ?_
             refine pT 1 63 bz12_a7 ?_
             refine pY 3 65 bz12_af ?_
             refine pT 4 66 bz12_bf ?_
             refine pT 6 68 Y4w ?_
             refine pY 8 70 Y3G ?_
             refine pT 9 71 Y3H ?_
             refine Y2b (i := 10) (N := some 72) Y3I rfl rfl (Y16 HT_.out Z6) (by decide) (fun K hK => ?_)
             refine Y1r Tryd.func28 Z6 rfl #[.agg #[.int .i64 ((Y2 l0_3 x6_3).f0), .string ((Y2 l0_3 x6_3).f1), .slice A105_2 ((Y2 l0_3 x6_3).f2).length c105_2, .slice A105_3 ((Y2 l0_3 x6_3).f3).length c105_3], .agg #[.int .i64 ((Y2 l1_3 x6_3).f0), .string ((Y2 l1_3 x6_3).f1), .slice A106_2 ((Y2 l1_3 x6_3).f2).length c106_2, .slice A106_3 ((Y2 l1_3 x6_3).f3).length c106_3]] (by rfl) rfl rfl Z0 ?_
             with_reducible refine (ih k3 ZV ((Y2 l0_3 x6_3).f0) ((Y2 l0_3 x6_3).f1) _ _ ((Y2 l0_3 x6_3).f2) _ _ ((Y2 l0_3 x6_3).f3) ((Y2 l1_3 x6_3).f0) ((Y2 l1_3 x6_3).f1) _ _ ((Y2 l1_3 x6_3).f2) _ _ ((Y2 l1_3 x6_3).f3) false _ ?side1 ?side2 ?side3 ?side4 ?side5 ?side6 ?side7 ?side8 A37.out).mono ?_
             (case side1 => exact Z1b)
             (case side2 => exact HC105_2.out)
             (case side3 => exact Z1c)
             (case side4 => exact HC105_3.out)
             (case side5 => exact Zs)
             (case side6 => exact HC106_2.out)
             (case side7 => exact Zt)
             (case side8 => exact HC106_3.out)
             rintro e w46 ⟨rfl, hb⟩
             refine ⟨_, rfl, ?_⟩
             have n_ := Y24 (Yj (g := gb101) (o := .cells #[.int .i64 a0_0, .string a0_1, .slice A0_2 l0_2.length c0_2, .slice (some ad105) l0_3.length c0_3] 37 (0, 0)) QQ hb) (Yj (g := gb102) (o := .cells #[.int .i64 a1_0, .string a1_1, .slice A1_2 l1_2.length c1_2, .slice (some ad106) l1_3.length c1_3] 37 (0, 0)) QQ hb) (Y6 QB hb)
             clear BK101
             clear BK102
             clear HB
             obtain ⟨BK101, BK102, HB⟩ := n_
             (try clear hb)
             (try clear hb2)
             (try clear hk)
             (try clear hi)
             refine hK.out _ _ ⟨(Y1 BK101.out 0).trans rfl, (Y1 BK101.out 1).trans rfl, (Y1 BK101.out 2).trans rfl, (Y1 BK101.out 3).trans rfl, (Y1 BK102.out 0).trans rfl, (Y1 BK102.out 1).trans rfl, (Y1 BK102.out 2).trans rfl, (Y1 BK102.out 3).trans rfl, ((HB.out.cell (World.block_lt_of_cell? w _ hw105_0)).trans hw105_0), ((HB.out.cell (World.block_lt_of_cell? w _ hw105_1)).trans hw105_1), ((HB.out.cell (World.block_lt_of_cell? w _ hw105_2)).trans hw105_2), ((HB.out.cell (World.block_lt_of_cell? w _ hw105_3)).trans hw105_3), ((HB.out.cell (World.block_lt_of_cell? w _ hw106_0)).trans hw106_0), ((HB.out.cell (World.block_lt_of_cell? w _ hw106_1)).trans hw106_1), ((HB.out.cell (World.block_lt_of_cell? w _ hw106_2)).trans hw106_2), ((HB.out.cell (World.block_lt_of_cell? w _ hw106_3)).trans hw106_3)⟩ (fun hHeld => ?_)
             clear hK K
             refine Y1k (a' := ?_) ?_ ?_
             rotate_left
             ·show Act.put _ (some 72) _ = _
              simp only [Act.put, List.setIfInBounds_toArray, List.set_cons_zero, List.set_cons_succ, Y14, Y15]
              rfl
             refine pY 11 73 Y3J ?_
             refine Y1O (Y1a HT_.out Z6) ?_
             try go_wp2
             go_ret
             exact Z1F
           ·rw [if_neg c36] at H
            exact Zh
          ·rw [if_neg c35] at H
           exact Zh
         ·rw [if_neg c34] at H
          have c34b0 : decide (x6_3 < (l0_3.length : Int)) = false := decide_eq_false c34
          clear c34
          obtain rfl := Option.some.inj H
          have hnb47 := NB101_102.out
          have hnc47 := NB102_101.out
          obtain ⟨hcz48_0, hcz48_1, hcz48_2, hcz48_3, hfz48_0, hfz48_1, hfz48_2, hfz48_3⟩ := YD BK101.out
          go_wp2
          go_ret
          exact Z1F
def Y1e.f (a0 : Int) : Option (ByteArray) := if a0 = 5 then (some (⟨#[42]⟩ : ByteArray)) else (if a0 = 6 then (some (⟨#[43]⟩ : ByteArray)) else (some (⟨#[63]⟩ : ByteArray)))
set_option maxHeartbeats 8000000 in
set_option maxRecDepth 100000 in
theorem Y1e.calls (a0 : Int) (r : ByteArray) (w : World) (h : Y1e.f a0 = some r) :
  Calls Tryd.prog 59 #[.int .i64 a0] w fun e w' => e = .returned (.string r) ∧ Y26 w w' := by
 have H : (if a0 = 5 then (some (⟨#[42]⟩ : ByteArray)) else (if a0 = 6 then (some (⟨#[43]⟩ : ByteArray)) else (some (⟨#[63]⟩ : ByteArray)))) = some r := h
 clear h
 by_cases c2 : a0 = 5
 ·rw [if_pos c2] at H
  have c2b0 : (a0 == 5) = true := beq_iff_eq.mpr c2
  have c2b1 : (a0 != 5) = false := bne_eq_false_iff_eq.mpr c2
  clear c2
  obtain rfl := Option.some.inj H
  go_enter Tryd.func59, Tryd.ntmps59
  go_wp2
  go_ret
  exact Z1K
 ·rw [if_neg c2] at H
  have c2b0 : (a0 == 5) = false := beq_eq_false_iff_ne.mpr c2
  have c2b1 : (a0 != 5) = true := bne_iff_ne.mpr c2
  by_cases c3 : a0 = 6
  ·rw [if_pos c3] at H
   have c3b0 : (a0 == 6) = true := beq_iff_eq.mpr c3
   have c3b1 : (a0 != 6) = false := bne_eq_false_iff_eq.mpr c3
   clear c3
   obtain rfl := Option.some.inj H
   go_enter Tryd.func59, Tryd.ntmps59
   go_wp2
   go_ret
   exact Z1K
  ·rw [if_neg c3] at H
   have c3b0 : (a0 == 6) = false := beq_eq_false_iff_ne.mpr c3
   have c3b1 : (a0 != 6) = true := bne_iff_ne.mpr c3
   obtain rfl := Option.some.inj H
   go_enter Tryd.func59, Tryd.ntmps59
   go_wp2
   go_ret
   exact Z1K
mutual
def Y7.l0 : Nat → ByteArray → Int → Int → ByteArray → List ByteArray → List (S37) → Option (ByteArray)
 | 0, _, _, _, _, _, _ => none
 | k + 1, x3, x4, x102000, x102001, x102002, x102003 => if x4 < (x102002.length : Int) then (if x4 > 0 then (if x3.size + 1 ≤ 9223372036854775807 then (if x3.size + 1 + 1 ≤ 9223372036854775807 then (if 0 ≤ x4 then (if x3.size + 1 + 1 + (Y25 ByteArray.empty x102002 x4).size ≤ 9223372036854775807 then (if x3.size + 1 + 1 + ((Y25 ByteArray.empty x102002 x4).size) + 1 ≤ 9223372036854775807 then (Y7.l0 k ((((x3 ++ (⟨#[124]⟩ : ByteArray)) ++ (⟨#[60]⟩ : ByteArray)) ++ (Y25 ByteArray.empty x102002 x4)) ++ (⟨#[62]⟩ : ByteArray)) (wrap64 (x4 + 1)) x102000 x102001 x102002 x102003) else (none)) else (none)) else (none)) else (none)) else (none)) else (if x3.size + 1 ≤ 9223372036854775807 then (if 0 ≤ x4 then (if x3.size + 1 + (Y25 ByteArray.empty x102002 x4).size ≤ 9223372036854775807 then (if x3.size + 1 + ((Y25 ByteArray.empty x102002 x4).size) + 1 ≤ 9223372036854775807 then (Y7.l0 k (((x3 ++ (⟨#[60]⟩ : ByteArray)) ++ (Y25 ByteArray.empty x102002 x4)) ++ (⟨#[62]⟩ : ByteArray)) (wrap64 (x4 + 1)) x102000 x102001 x102002 x102003) else (none)) else (none)) else (none)) else (none))) else (if x3.size + 1 ≤ 9223372036854775807 then (some (x3 ++ (⟨#[41]⟩ : ByteArray))) else (none))
def Y7.f : Nat → Int → ByteArray → List ByteArray → List (S37) → Option (ByteArray)
 | 0, _, _, _, _ => none
 | k + 1, a0_0, a0_1, l0_2, l0_3 => if a0_0 = 1 then (if 1 + a0_1.size ≤ 9223372036854775807 then (if 1 + a0_1.size + 1 ≤ 9223372036854775807 then (some (((⟨#[60]⟩ : ByteArray) ++ a0_1) ++ (⟨#[62]⟩ : ByteArray))) else (none)) else (none)) else (if a0_0 = 2 then (if 0 < (l0_3.length : Int) then ((Yz.f k ((Y2 l0_3 0).f0) ((Y2 l0_3 0).f1) ((Y2 l0_3 0).f2) ((Y2 l0_3 0).f3)).bind fun t103 => (if 1 + t103.size ≤ 9223372036854775807 then (some ((⟨#[94]⟩ : ByteArray) ++ t103)) else (none))) else (none)) else (if a0_0 = 3 then (if 0 < (l0_3.length : Int) then ((Yz.f k ((Y2 l0_3 0).f0) ((Y2 l0_3 0).f1) ((Y2 l0_3 0).f2) ((Y2 l0_3 0).f3)).bind fun t105 => (if t105.size + 1 ≤ 9223372036854775807 then (if 1 < (l0_3.length : Int) then ((Yz.f k ((Y2 l0_3 1).f0) ((Y2 l0_3 1).f1) ((Y2 l0_3 1).f2) ((Y2 l0_3 1).f3)).bind fun t107 => (if t105.size + 1 + t107.size ≤ 9223372036854775807 then (some ((t105 ++ (⟨#[47]⟩ : ByteArray)) ++ t107)) else (none))) else (none)) else (none))) else (none)) else (if a0_0 = 4 then (if 0 < (l0_3.length : Int) then ((Yz.f k ((Y2 l0_3 0).f0) ((Y2 l0_3 0).f1) ((Y2 l0_3 0).f2) ((Y2 l0_3 0).f3)).bind fun t109 => (if t109.size + 1 ≤ 9223372036854775807 then (if 1 < (l0_3.length : Int) then ((Yz.f k ((Y2 l0_3 1).f0) ((Y2 l0_3 1).f1) ((Y2 l0_3 1).f2) ((Y2 l0_3 1).f3)).bind fun t111 => (if t109.size + 1 + t111.size ≤ 9223372036854775807 then (some ((t109 ++ (⟨#[124]⟩ : ByteArray)) ++ t111)) else (none))) else (none)) else (none))) else (none)) else (if a0_0 = 8 then (Y7.l0 k (⟨#[33, 40]⟩ : ByteArray) 0 a0_0 a0_1 l0_2 l0_3) else (if 0 < (l0_3.length : Int) then ((Yz.f k ((Y2 l0_3 0).f0) ((Y2 l0_3 0).f1) ((Y2 l0_3 0).f2) ((Y2 l0_3 0).f3)).bind fun t115 => ((Y1e.f a0_0).bind fun t116 => (if t115.size + t116.size ≤ 9223372036854775807 then (some (t115 ++ t116)) else (none)))) else (none))))))
def Yz.f : Nat → Int → ByteArray → List ByteArray → List (S37) → Option (ByteArray)
 | 0, _, _, _, _ => none
 | k + 1, a0_0, a0_1, l0_2, l0_3 => if a0_0 = 1 then ((Y7.f k a0_0 a0_1 l0_2 l0_3).bind fun t118 => (some t118)) else ((Y7.f k a0_0 a0_1 l0_2 l0_3).bind fun t119 => (if 1 + t119.size ≤ 9223372036854775807 then (if 1 + t119.size + 1 ≤ 9223372036854775807 then (some (((⟨#[40]⟩ : ByteArray) ++ t119) ++ (⟨#[41]⟩ : ByteArray))) else (none)) else (none)))
end
theorem Y7.mono_j : ∀ k, (∀ y0 y1 y2 y3, LeO (Y7.f k y0 y1 y2 y3) (Y7.f (k + 1) y0 y1 y2 y3)) ∧ (∀ y0 y1 y2 y3 y4 y5, LeO (Y7.l0 k y0 y1 y2 y3 y4 y5) (Y7.l0 (k + 1) y0 y1 y2 y3 y4 y5)) ∧ (∀ y0 y1 y2 y3, LeO (Yz.f k y0 y1 y2 y3) (Yz.f (k + 1) y0 y1 y2 y3))
 | 0 => ⟨fun _ _ _ _ r h => by simp [Y7.f] at h, fun _ _ _ _ _ _ r h => by simp [Y7.l0] at h, fun _ _ _ _ r h => by simp [Yz.f] at h⟩
 | k + 1 => by
  obtain ⟨ih0, ih1, ih2⟩ := Y7.mono_j k
  refine ⟨?_, ?_, ?_⟩
  ·intro y0 y1 y2 y3
   unfold Y7.f
   repeat' first
   | (with_reducible exact ih0 _ _ _ _)
   | (with_reducible exact ih1 _ _ _ _ _ _)
   | (with_reducible exact ih2 _ _ _ _)
   | (with_reducible exact LeO.refl _)
   | (with_reducible exact LeO.none _)
   | (with_reducible refine LeO.ite ?_ ?_)
   | (with_reducible refine LeO.bind ?_ (fun _ => ?_))
   | exact ih0 _ _ _ _
   | exact ih1 _ _ _ _ _ _
   | exact ih2 _ _ _ _
   | exact LeO.none _
   | refine LeO.ite ?_ ?_
   | refine LeO.bind ?_ (fun _ => ?_)
  ·intro y0 y1 y2 y3 y4 y5
   unfold Y7.l0
   repeat' first
   | (with_reducible exact ih0 _ _ _ _)
   | (with_reducible exact ih1 _ _ _ _ _ _)
   | (with_reducible exact ih2 _ _ _ _)
   | (with_reducible exact LeO.refl _)
   | (with_reducible exact LeO.none _)
   | (with_reducible refine LeO.ite ?_ ?_)
   | (with_reducible refine LeO.bind ?_ (fun _ => ?_))
   | exact ih0 _ _ _ _
   | exact ih1 _ _ _ _ _ _
   | exact ih2 _ _ _ _
   | exact LeO.none _
   | refine LeO.ite ?_ ?_
   | refine LeO.bind ?_ (fun _ => ?_)
  ·intro y0 y1 y2 y3
   unfold Yz.f
   repeat' first
   | (with_reducible exact ih0 _ _ _ _)
   | (with_reducible exact ih1 _ _ _ _ _ _)
   | (with_reducible exact ih2 _ _ _ _)
   | (with_reducible exact LeO.refl _)
   | (with_reducible exact LeO.none _)
   | (with_reducible refine LeO.ite ?_ ?_)
   | (with_reducible refine LeO.bind ?_ (fun _ => ?_))
   | exact ih0 _ _ _ _
   | exact ih1 _ _ _ _ _ _
   | exact ih2 _ _ _ _
   | exact LeO.none _
   | refine LeO.ite ?_ ?_
   | refine LeO.bind ?_ (fun _ => ?_)
abbrev Y7.Spec (k : Nat) : Prop := ∀ (a0_0 : Int) (a0_1 : ByteArray) (A0_2 : Option Addr) (c0_2 : Nat) (l0_2 : List ByteArray) (A0_3 : Option Addr) (c0_3 : Nat) (l0_3 : List (S37)) (r : ByteArray) (w : World) (hr0_2 : Kd.C Kd.string w A0_2 l0_2.length l0_2) (hc0_2 : l0_2.length ≤ c0_2) (hr0_3 : Kd.C k37 w A0_3 l0_3.length l0_3) (hc0_3 : l0_3.length ≤ c0_3) (h : Y7.f k a0_0 a0_1 l0_2 l0_3 = some r),
  Calls Tryd.prog 29 #[.agg #[.int .i64 a0_0, .string a0_1, .slice A0_2 l0_2.length c0_2, .slice A0_3 l0_3.length c0_3]] w fun e w' => e = .returned (.string r) ∧ Below w.heap.size w w'
abbrev Yz.Spec (k : Nat) : Prop := ∀ (a0_0 : Int) (a0_1 : ByteArray) (A0_2 : Option Addr) (c0_2 : Nat) (l0_2 : List ByteArray) (A0_3 : Option Addr) (c0_3 : Nat) (l0_3 : List (S37)) (r : ByteArray) (w : World) (hr0_2 : Kd.C Kd.string w A0_2 l0_2.length l0_2) (hc0_2 : l0_2.length ≤ c0_2) (hr0_3 : Kd.C k37 w A0_3 l0_3.length l0_3) (hc0_3 : l0_3.length ≤ c0_3) (h : Yz.f k a0_0 a0_1 l0_2 l0_3 = some r),
  Calls Tryd.prog 58 #[.agg #[.int .i64 a0_0, .string a0_1, .slice A0_2 l0_2.length c0_2, .slice A0_3 l0_3.length c0_3]] w fun e w' => e = .returned (.string r) ∧ Below w.heap.size w w'
set_option maxHeartbeats 8000000 in
def Y7.T7 : Bool × List (List Nat × List Nat) := (true, [([], []), ([0], [0]), ([1], [1]), ([2], [2]), ([3], [3]), ([4], [4]), ([], []), ([6], [6]), ([7], [7]), ([8], [8]), ([9, 4], [9]), ([5, 10], [5, 10]), ([11, 10, 0, 1, 2, 3, 4, 5, 6, 7, 8, 9, 10, 11], [11])])
def Y7.B7 : List Nat := [0, 1, 3, 7, 15, 31, 0, 64, 192, 448, 991, 2047, 4095]
theorem Y7.tab7 : Y38 .any (Y3n Tryd.f29 7) = Y7.T7 := by kernel_rfl
theorem Y7.bits7 : Y1U Y7.T7.2 Y7.B7 = true := by kernel_rfl
def Y7.T9 : Bool × List (List Nat × List Nat) := (true, [([], []), ([0], [0]), ([1], [1]), ([2], [2]), ([3], [3]), ([4], [4]), ([], []), ([6], [6]), ([7], [7]), ([8], [8]), ([9, 4], [9]), ([5, 10], [5, 10]), ([11, 10, 0, 1, 2, 3, 4, 5, 6, 7, 8, 9, 10, 11], [11])])
def Y7.B9 : List Nat := [0, 1, 3, 7, 15, 31, 0, 64, 192, 448, 991, 2047, 4095]
theorem Y7.tab9 : Y38 .any (Y3n Tryd.f29 9) = Y7.T9 := by kernel_rfl
theorem Y7.bits9 : Y1U Y7.T9.2 Y7.B9 = true := by kernel_rfl
def Y7.T19 : Bool × List (List Nat × List Nat) := (true, [([], []), ([0], [0]), ([1], [1]), ([2], [2]), ([3], [3]), ([], []), ([5], [5]), ([6, 4], [6]), ([4, 7], [4, 7]), ([8, 7, 0, 1, 2, 3, 4, 5, 6, 7, 8], [8])])
def Y7.B19 : List Nat := [0, 1, 3, 7, 15, 0, 32, 127, 255, 511]
theorem Y7.tab19 : Y38 .any (Y3n Tryd.f29 19) = Y7.T19 := by kernel_rfl
theorem Y7.bits19 : Y1U Y7.T19.2 Y7.B19 = true := by kernel_rfl
set_option maxRecDepth 100000 in
theorem Y7.step (k : Nat) (ih : ∀ j_ < k, Y7.Spec j_ ∧ Yz.Spec j_) : ∀ (a0_0 : Int) (a0_1 : ByteArray) (A0_2 : Option Addr) (c0_2 : Nat) (l0_2 : List ByteArray) (A0_3 : Option Addr) (c0_3 : Nat) (l0_3 : List (S37)) (r : ByteArray) (w : World) (hr0_2 : Kd.C Kd.string w A0_2 l0_2.length l0_2) (hc0_2 : l0_2.length ≤ c0_2) (hr0_3 : Kd.C k37 w A0_3 l0_3.length l0_3) (hc0_3 : l0_3.length ≤ c0_3) (h : Y7.f k a0_0 a0_1 l0_2 l0_3 = some r),
  Calls Tryd.prog 29 #[.agg #[.int .i64 a0_0, .string a0_1, .slice A0_2 l0_2.length c0_2, .slice A0_3 l0_3.length c0_3]] w fun e w' => e = .returned (.string r) ∧ Below w.heap.size w w' := by
 intro a0_0 a0_1 A0_2 c0_2 l0_2 A0_3 c0_3 l0_3 r w hr0_2 hc0_2 hr0_3 hc0_3 h
 cases k with
 | zero => exact absurd h (by simp [Y7.f])
 | succ k =>
 simp only [Y7.f] at h
 have hu37 := Tryd.underlying37
 have HR0_2 := Y0.mk hr0_2
 have HC0_2 := Y0.mk hc0_2
 clear hr0_2 hc0_2
 have HR0_3 := Y0.mk hr0_3
 have HC0_3 := Y0.mk hc0_3
 clear hr0_3 hc0_3
 have HB := Y0.mk (Below.refl w.heap.size w)
 have H : (if a0_0 = 1 then (if 1 + a0_1.size ≤ 9223372036854775807 then (if 1 + a0_1.size + 1 ≤ 9223372036854775807 then (some (((⟨#[60]⟩ : ByteArray) ++ a0_1) ++ (⟨#[62]⟩ : ByteArray))) else (none)) else (none)) else (if a0_0 = 2 then (if 0 < (l0_3.length : Int) then ((Yz.f k ((Y2 l0_3 0).f0) ((Y2 l0_3 0).f1) ((Y2 l0_3 0).f2) ((Y2 l0_3 0).f3)).bind fun t103 => (if 1 + t103.size ≤ 9223372036854775807 then (some ((⟨#[94]⟩ : ByteArray) ++ t103)) else (none))) else (none)) else (if a0_0 = 3 then (if 0 < (l0_3.length : Int) then ((Yz.f k ((Y2 l0_3 0).f0) ((Y2 l0_3 0).f1) ((Y2 l0_3 0).f2) ((Y2 l0_3 0).f3)).bind fun t105 => (if t105.size + 1 ≤ 9223372036854775807 then (if 1 < (l0_3.length : Int) then ((Yz.f k ((Y2 l0_3 1).f0) ((Y2 l0_3 1).f1) ((Y2 l0_3 1).f2) ((Y2 l0_3 1).f3)).bind fun t107 => (if t105.size + 1 + t107.size ≤ 9223372036854775807 then (some ((t105 ++ (⟨#[47]⟩ : ByteArray)) ++ t107)) else (none))) else (none)) else (none))) else (none)) else (if a0_0 = 4 then (if 0 < (l0_3.length : Int) then ((Yz.f k ((Y2 l0_3 0).f0) ((Y2 l0_3 0).f1) ((Y2 l0_3 0).f2) ((Y2 l0_3 0).f3)).bind fun t109 => (if t109.size + 1 ≤ 9223372036854775807 then (if 1 < (l0_3.length : Int) then ((Yz.f k ((Y2 l0_3 1).f0) ((Y2 l0_3 1).f1) ((Y2 l0_3 1).f2) ((Y2 l0_3 1).f3)).bind fun t111 => (if t109.size + 1 + t111.size ≤ 9223372036854775807 then (some ((t109 ++ (⟨#[124]⟩ : ByteArray)) ++ t111)) else (none))) else (none)) else (none))) else (none)) else (if a0_0 = 8 then (Y7.l0 k (⟨#[33, 40]⟩ : ByteArray) 0 a0_0 a0_1 l0_2 l0_3) else (if 0 < (l0_3.length : Int) then ((Yz.f k ((Y2 l0_3 0).f0) ((Y2 l0_3 0).f1) ((Y2 l0_3 0).f2) ((Y2 l0_3 0).f3)).bind fun t115 => ((Y1e.f a0_0).bind fun t116 => (if t115.size + t116.size ≤ 9223372036854775807 then (some (t115 ++ t116)) else (none)))) else (none))))))) = some r := h
 clear h
 by_cases c2 : a0_0 = 1
 ·rw [if_pos c2] at H
  have c2b0 : (a0_0 == 1) = true := beq_iff_eq.mpr c2
  have c2b1 : (a0_0 != 1) = false := bne_eq_false_iff_eq.mpr c2
  clear c2
  by_cases c3 : 1 + a0_1.size ≤ 9223372036854775807
  ·rw [if_pos c3] at H
   have c3b0 := eq_true c3
   have c3b1 : decide (1 + a0_1.size ≤ 9223372036854775807) = true := decide_eq_true c3
   try have c3b2 : (9223372036854775807 < 1 + a0_1.size) = False := eq_false (Nat.not_lt.2 c3)
   by_cases c4 : 1 + a0_1.size + 1 ≤ 9223372036854775807
   ·rw [if_pos c4] at H
    have c4b0 := eq_true c4
    have c4b1 : decide (1 + a0_1.size + 1 ≤ 9223372036854775807) = true := decide_eq_true c4
    try have c4b2 : (9223372036854775807 < 1 + a0_1.size + 1) = False := eq_false (Nat.not_lt.2 c4)
    obtain rfl := Option.some.inj H
    go_enter Tryd.func29, Tryd.ntmps29
    go_wp2_with (first | ((with_reducible refine YF (N := 1) rfl ?_); refine YA ?hg (N := 1) ?hd (cs := #[.int .i64 a0_0, .string a0_1, .slice A0_2 l0_2.length c0_2, .slice A0_3 l0_3.length c0_3]) (t := 37) ?hr ?_; (case hd => rfl); (case hg => rfl); (case hr => exact Za); intro gb101 hg w5 hbox hb; have n_ := Y2x (Y6 QB hb) (hbox) ((by rw [hg]; exact (Ya QB) : w.heap.size ≤ gb101)) ((by rw [hg]; exact (Ya QB) : w.heap.size ≤ gb101)); clear HB; obtain ⟨HB, BK101, GW101, GE101⟩ := n_; clear hb hbox hg; obtain ⟨hcz6_0, hcz6_1, hcz6_2, hcz6_3, hfz6_0, hfz6_1, hfz6_2, hfz6_3⟩ := YD BK101.out))
    go_ret
    exact Z1F
   ·rw [if_neg c4] at H
    exact Zh
  ·rw [if_neg c3] at H
   exact Zh
 ·rw [if_neg c2] at H
  have c2b0 : (a0_0 == 1) = false := beq_eq_false_iff_ne.mpr c2
  have c2b1 : (a0_0 != 1) = true := bne_iff_ne.mpr c2
  by_cases c7 : a0_0 = 2
  ·rw [if_pos c7] at H
   have c7b0 : (a0_0 == 2) = true := beq_iff_eq.mpr c7
   have c7b1 : (a0_0 != 2) = false := bne_eq_false_iff_eq.mpr c7
   clear c7
   by_cases c8 : 0 < (l0_3.length : Int)
   ·rw [if_pos c8] at H
    have c8b0 : decide (0 < (l0_3.length : Int)) = true := decide_eq_true c8
    have c8b1 : decide (0 < l0_3.length) = true := decide_eq_true (by omega)
    clear c8
    replace H := Option.bind_eq_some_iff.mp H
    obtain ⟨t103, A90, H⟩ := H
    replace H : (if 1 + t103.size ≤ 9223372036854775807 then (some ((⟨#[94]⟩ : ByteArray) ++ t103)) else (none)) = some r := H
    have A9 := Y0.mk A90
    clear A90
    by_cases c10 : 1 + t103.size ≤ 9223372036854775807
    ·rw [if_pos c10] at H
     have c10b0 := eq_true c10
     have c10b1 : decide (1 + t103.size ≤ 9223372036854775807) = true := decide_eq_true c10
     try have c10b2 : (9223372036854775807 < 1 + t103.size) = False := eq_false (Nat.not_lt.2 c10)
     obtain rfl := Option.some.inj H
     go_enter Tryd.func29, Tryd.ntmps29
     go_wp2_with (first | ((with_reducible refine YF (N := 1) rfl ?_); refine YA ?hg (N := 1) ?hd (cs := #[.int .i64 a0_0, .string a0_1, .slice A0_2 l0_2.length c0_2, .slice A0_3 l0_3.length c0_3]) (t := 37) ?hr ?_; (case hd => rfl); (case hg => rfl); (case hr => exact Za); intro gb101 hg w11 hbox hb; have n_ := Y2x (Y6 QB hb) (hbox) ((by rw [hg]; exact (Ya QB) : w.heap.size ≤ gb101)) ((by rw [hg]; exact (Ya QB) : w.heap.size ≤ gb101)); clear HB; obtain ⟨HB, BK101, GW101, GE101⟩ := n_; clear hb hbox hg; obtain ⟨hcz12_0, hcz12_1, hcz12_2, hcz12_3, hfz12_0, hfz12_1, hfz12_2, hfz12_3⟩ := YD BK101.out; have p102 : 0 ≤ (0 : Int) := (by omega); have q102 : 0 < (l0_3.length : Int) := of_decide_eq_true Z8; obtain ⟨ad102, A102_2, c102_2, A102_3, c102_3, e102, hx102_0, hx102_1, hx102_2, hx102_3, hl102_2, hi102_2, hl102_3, hi102_3⟩ := Y1C HR0_3.out 0 p102 q102; cases e102; have qi102 : (0 < l0_3.length) = True := eq_true (by omega); (try rw [show ((0 : Int)).toNat = 0 from rfl] at hx102_0); (try rw [show 0 * 4 = 0 from rfl] at hx102_0); (try rw [Addr.add_zero'] at hx102_0); (try rw [show ((0 : Int)).toNat = 0 from rfl] at hx102_1); (try rw [show 0 * 4 = 0 from rfl] at hx102_1); (try rw [Addr.add_zero'] at hx102_1); (try rw [show ((0 : Int)).toNat = 0 from rfl] at hx102_2); (try rw [show 0 * 4 = 0 from rfl] at hx102_2); (try rw [Addr.add_zero'] at hx102_2); (try rw [show ((0 : Int)).toNat = 0 from rfl] at hx102_3); (try rw [show 0 * 4 = 0 from rfl] at hx102_3); (try rw [Addr.add_zero'] at hx102_3); replace hx102_0 := YT HB.out hx102_0; replace hx102_1 := YT HB.out hx102_1; replace hx102_2 := YT HB.out hx102_2; replace hx102_3 := YT HB.out hx102_3; have HR102_2 := Y0.mk hi102_2; have HC102_2 := Y0.mk hl102_2; clear hi102_2 hl102_2; have HR102_3 := Y0.mk hi102_3; have HC102_3 := Y0.mk hl102_3; clear hi102_3 hl102_3; replace p102 := eq_true p102; replace q102 := eq_true q102) | ((with_reducible refine Yw (f := 58) rfl ?_); refine YV (some 19) rfl rfl Tryd.func58 Z6 rfl #[.agg #[.int .i64 ((Y2 l0_3 0).f0), .string ((Y2 l0_3 0).f1), .slice A102_2 ((Y2 l0_3 0).f2).length c102_2, .slice A102_3 ((Y2 l0_3 0).f3).length c102_3]] rfl Z0 ?_; (with_reducible refine ((ih k (by omega)).2 ((Y2 l0_3 0).f0) ((Y2 l0_3 0).f1) _ _ ((Y2 l0_3 0).f2) _ _ ((Y2 l0_3 0).f3) t103 _ ?side1 ?side2 ?side3 ?side4 A9.out).mono ?_); (case side1 => exact Z15); (case side2 => exact HC102_2.out); (case side3 => exact Z16); (case side4 => exact HC102_3.out); rintro e w13 ⟨rfl, hb⟩; refine ⟨_, rfl, ?_⟩; have n_ := Y2i (Yj (g := gb101) (o := .cells #[.int .i64 a0_0, .string a0_1, .slice A0_2 l0_2.length c0_2, .slice (some ad102) l0_3.length c0_3] 37 (0, 0)) QQ hb) (Y6 QB hb); clear BK101 HB; obtain ⟨BK101, HB⟩ := n_; (try clear hb); (try clear hb2); (try clear hk); (try clear hi)))
     go_ret
     exact Z1F
    ·rw [if_neg c10] at H
     exact Zh
   ·rw [if_neg c8] at H
    exact Zh
  ·rw [if_neg c7] at H
   have c7b0 : (a0_0 == 2) = false := beq_eq_false_iff_ne.mpr c7
   have c7b1 : (a0_0 != 2) = true := bne_iff_ne.mpr c7
   by_cases c14 : a0_0 = 3
   ·rw [if_pos c14] at H
    have c14b0 : (a0_0 == 3) = true := beq_iff_eq.mpr c14
    have c14b1 : (a0_0 != 3) = false := bne_eq_false_iff_eq.mpr c14
    clear c14
    by_cases c15 : 0 < (l0_3.length : Int)
    ·rw [if_pos c15] at H
     have c15b0 : decide (0 < (l0_3.length : Int)) = true := decide_eq_true c15
     have c15b1 : decide (0 < l0_3.length) = true := decide_eq_true (by omega)
     clear c15
     replace H := Option.bind_eq_some_iff.mp H
     obtain ⟨t105, A160, H⟩ := H
     replace H : (if t105.size + 1 ≤ 9223372036854775807 then (if 1 < (l0_3.length : Int) then ((Yz.f k ((Y2 l0_3 1).f0) ((Y2 l0_3 1).f1) ((Y2 l0_3 1).f2) ((Y2 l0_3 1).f3)).bind fun t107 => (if t105.size + 1 + t107.size ≤ 9223372036854775807 then (some ((t105 ++ (⟨#[47]⟩ : ByteArray)) ++ t107)) else (none))) else (none)) else (none)) = some r := H
     have A16 := Y0.mk A160
     clear A160
     by_cases c17 : t105.size + 1 ≤ 9223372036854775807
     ·rw [if_pos c17] at H
      have c17b0 := eq_true c17
      have c17b1 : decide (t105.size + 1 ≤ 9223372036854775807) = true := decide_eq_true c17
      try have c17b2 : (9223372036854775807 < t105.size + 1) = False := eq_false (Nat.not_lt.2 c17)
      by_cases c18 : 1 < (l0_3.length : Int)
      ·rw [if_pos c18] at H
       have c18b0 : decide (1 < (l0_3.length : Int)) = true := decide_eq_true c18
       have c18b1 : decide (1 < l0_3.length) = true := decide_eq_true (by omega)
       clear c18
       replace H := Option.bind_eq_some_iff.mp H
       obtain ⟨t107, A190, H⟩ := H
       replace H : (if t105.size + 1 + t107.size ≤ 9223372036854775807 then (some ((t105 ++ (⟨#[47]⟩ : ByteArray)) ++ t107)) else (none)) = some r := H
       have A19 := Y0.mk A190
       clear A190
       by_cases c20 : t105.size + 1 + t107.size ≤ 9223372036854775807
       ·rw [if_pos c20] at H
        have c20b0 := eq_true c20
        have c20b1 : decide (t105.size + 1 + t107.size ≤ 9223372036854775807) = true := decide_eq_true c20
        try have c20b2 : (9223372036854775807 < t105.size + 1 + t107.size) = False := eq_false (Nat.not_lt.2 c20)
        obtain rfl := Option.some.inj H
        go_enter Tryd.func29, Tryd.ntmps29
        try go_wp2_with (first | ((with_reducible refine YF (N := 1) rfl ?_); refine YA ?hg (N := 1) ?hd (cs := #[.int .i64 a0_0, .string a0_1, .slice A0_2 l0_2.length c0_2, .slice A0_3 l0_3.length c0_3]) (t := 37) ?hr ?_; (case hd => rfl); (case hg => rfl); (case hr => exact Za); intro gb101 hg w21 hbox hb; have n_ := Y2x (Y6 QB hb) (hbox) ((by rw [hg]; exact (Ya QB) : w.heap.size ≤ gb101)) ((by rw [hg]; exact (Ya QB) : w.heap.size ≤ gb101)); clear HB; obtain ⟨HB, BK101, GW101, GE101⟩ := n_; clear hb hbox hg; obtain ⟨hcz22_0, hcz22_1, hcz22_2, hcz22_3, hfz22_0, hfz22_1, hfz22_2, hfz22_3⟩ := YD BK101.out))
        have n_ := Y2i (Yc BK101.out) (YL HB.out)
        clear BK101
        clear HB
        obtain ⟨BK101, HB⟩ := n_
        have p104 : 0 ≤ (0 : Int) := (by omega)
        have q104 : 0 < (l0_3.length : Int) := of_decide_eq_true Z8
        obtain ⟨ad104, A104_2, c104_2, A104_3, c104_3, e104, hx104_0, hx104_1, hx104_2, hx104_3, hl104_2, hi104_2, hl104_3, hi104_3⟩ := Y1C HR0_3.out 0 p104 q104
        have hw104_3 := hx104_3
        (try rw [show ((0 : Int)).toNat = 0 from rfl] at hw104_3)
        (try rw [show 0 * 4 = 0 from rfl] at hw104_3)
        (try rw [Addr.add_zero'] at hw104_3)
        have hw104_2 := hx104_2
        (try rw [show ((0 : Int)).toNat = 0 from rfl] at hw104_2)
        (try rw [show 0 * 4 = 0 from rfl] at hw104_2)
        (try rw [Addr.add_zero'] at hw104_2)
        have hw104_1 := hx104_1
        (try rw [show ((0 : Int)).toNat = 0 from rfl] at hw104_1)
        (try rw [show 0 * 4 = 0 from rfl] at hw104_1)
        (try rw [Addr.add_zero'] at hw104_1)
        have hw104_0 := hx104_0
        (try rw [show ((0 : Int)).toNat = 0 from rfl] at hw104_0)
        (try rw [show 0 * 4 = 0 from rfl] at hw104_0)
        (try rw [Addr.add_zero'] at hw104_0)
        cases e104
        have qi104 : (0 < l0_3.length) = True := eq_true (by omega)
        (try rw [show ((0 : Int)).toNat = 0 from rfl] at hx104_0)
        (try rw [show 0 * 4 = 0 from rfl] at hx104_0)
        (try rw [Addr.add_zero'] at hx104_0)
        (try rw [show ((0 : Int)).toNat = 0 from rfl] at hx104_1)
        (try rw [show 0 * 4 = 0 from rfl] at hx104_1)
        (try rw [Addr.add_zero'] at hx104_1)
        (try rw [show ((0 : Int)).toNat = 0 from rfl] at hx104_2)
        (try rw [show 0 * 4 = 0 from rfl] at hx104_2)
        (try rw [Addr.add_zero'] at hx104_2)
        (try rw [show ((0 : Int)).toNat = 0 from rfl] at hx104_3)
        (try rw [show 0 * 4 = 0 from rfl] at hx104_3)
        (try rw [Addr.add_zero'] at hx104_3)
        replace hx104_0 := YT HB.out hx104_0
        replace hx104_1 := YT HB.out hx104_1
        replace hx104_2 := YT HB.out hx104_2
        replace hx104_3 := YT HB.out hx104_3
        have HR104_2 := Y0.mk hi104_2
        have HC104_2 := Y0.mk hl104_2
        clear hi104_2 hl104_2
        have HR104_3 := Y0.mk hi104_3
        have HC104_3 := Y0.mk hl104_3
        clear hi104_3 hl104_3
        replace p104 := eq_true p104
        replace q104 := eq_true q104
        have p106 : 0 ≤ (1 : Int) := (by omega)
        have q106 : 1 < (l0_3.length : Int) := of_decide_eq_true Z8
        obtain ⟨ad106, A106_2, c106_2, A106_3, c106_3, e106, hx106_0, hx106_1, hx106_2, hx106_3, hl106_2, hi106_2, hl106_3, hi106_3⟩ := Y1C HR0_3.out 1 p106 q106
        have hw106_3 := hx106_3
        (try rw [show ((1 : Int)).toNat = 1 from rfl] at hw106_3)
        (try rw [show 1 * 4 = 4 from rfl] at hw106_3)
        (try simp only [Nat.reduceMul, Nat.reduceEqDiff, Go.Addr.add, ↓reduceIte] at hw106_3)
        have hw106_2 := hx106_2
        (try rw [show ((1 : Int)).toNat = 1 from rfl] at hw106_2)
        (try rw [show 1 * 4 = 4 from rfl] at hw106_2)
        (try simp only [Nat.reduceMul, Nat.reduceEqDiff, Go.Addr.add, ↓reduceIte] at hw106_2)
        have hw106_1 := hx106_1
        (try rw [show ((1 : Int)).toNat = 1 from rfl] at hw106_1)
        (try rw [show 1 * 4 = 4 from rfl] at hw106_1)
        (try simp only [Nat.reduceMul, Nat.reduceEqDiff, Go.Addr.add, ↓reduceIte] at hw106_1)
        have hw106_0 := hx106_0
        (try rw [show ((1 : Int)).toNat = 1 from rfl] at hw106_0)
        (try rw [show 1 * 4 = 4 from rfl] at hw106_0)
        (try simp only [Nat.reduceMul, Nat.reduceEqDiff, Go.Addr.add, ↓reduceIte] at hw106_0)
        obtain rfl : ad104 = ad106 := (by injection e106)
        (try simp only [show (1 : Int).toNat = 1 from rfl, Nat.reduceMul, Nat.reduceEqDiff, Go.Addr.add, ↓reduceIte] at hx106_0)
        (try simp only [show (1 : Int).toNat = 1 from rfl, Nat.reduceMul, Nat.reduceEqDiff, Go.Addr.add, ↓reduceIte] at hx106_1)
        (try simp only [show (1 : Int).toNat = 1 from rfl, Nat.reduceMul, Nat.reduceEqDiff, Go.Addr.add, ↓reduceIte] at hx106_2)
        (try simp only [show (1 : Int).toNat = 1 from rfl, Nat.reduceMul, Nat.reduceEqDiff, Go.Addr.add, ↓reduceIte] at hx106_3)
        have qi106 : (1 < l0_3.length) = True := eq_true (by omega)
        (try rw [show ((1 : Int)).toNat = 1 from rfl] at hx106_0)
        (try rw [show 1 * 4 = 4 from rfl] at hx106_0)
        (try rw [show ((1 : Int)).toNat = 1 from rfl] at hx106_1)
        (try rw [show 1 * 4 = 4 from rfl] at hx106_1)
        (try rw [show ((1 : Int)).toNat = 1 from rfl] at hx106_2)
        (try rw [show 1 * 4 = 4 from rfl] at hx106_2)
        (try rw [show ((1 : Int)).toNat = 1 from rfl] at hx106_3)
        (try rw [show 1 * 4 = 4 from rfl] at hx106_3)
        replace hx106_0 := YT HB.out hx106_0
        replace hx106_1 := YT HB.out hx106_1
        replace hx106_2 := YT HB.out hx106_2
        replace hx106_3 := YT HB.out hx106_3
        have HR106_2 := Y0.mk hi106_2
        have HC106_2 := Y0.mk hl106_2
        clear hi106_2 hl106_2
        have HR106_3 := Y0.mk hi106_3
        have HC106_3 := Y0.mk hl106_3
        clear hi106_3 hl106_3
        replace p106 := eq_true p106
        replace q106 := eq_true q106
        refine Y1q (n := 13) (S := fun w' => w'.cell? ⟨gb101, 0, none⟩ = some (.int .i64 a0_0) ∧ w'.cell? ⟨gb101, 1, none⟩ = some (.string a0_1) ∧ w'.cell? ⟨gb101, 2, none⟩ = some (.slice A0_2 l0_2.length c0_2) ∧ w'.cell? ⟨gb101, 3, none⟩ = some (.slice (some ad104) l0_3.length c0_3) ∧ w'.cell? ad104 = some (.int .i64 ((Y2 l0_3 0).f0)) ∧ w'.cell? ⟨ad104.block, ad104.off + 1, none⟩ = some (.string ((Y2 l0_3 0).f1)) ∧ w'.cell? ⟨ad104.block, ad104.off + 2, none⟩ = some (.slice A104_2 ((Y2 l0_3 0).f2).length c104_2) ∧ w'.cell? ⟨ad104.block, ad104.off + 3, none⟩ = some (.slice A104_3 ((Y2 l0_3 0).f3).length c104_3) ∧ w'.cell? ⟨ad104.block, ad104.off + 4, none⟩ = some (.int .i64 ((Y2 l0_3 1).f0)) ∧ w'.cell? ⟨ad104.block, ad104.off + 4 + 1, none⟩ = some (.string ((Y2 l0_3 1).f1)) ∧ w'.cell? ⟨ad104.block, ad104.off + 4 + 2, none⟩ = some (.slice A106_2 ((Y2 l0_3 1).f2).length c106_2) ∧ w'.cell? ⟨ad104.block, ad104.off + 4 + 3, none⟩ = some (.slice A106_3 ((Y2 l0_3 1).f3).length c106_3)) (ds := []) Y5M Z6 rfl rfl ⟨(Y1 BK101.out 0).trans rfl, (Y1 BK101.out 1).trans rfl, (Y1 BK101.out 2).trans rfl, (Y1 BK101.out 3).trans rfl, ((HB.out.cell (World.block_lt_of_cell? w _ hw104_0)).trans hw104_0), ((HB.out.cell (World.block_lt_of_cell? w _ hw104_1)).trans hw104_1), ((HB.out.cell (World.block_lt_of_cell? w _ hw104_2)).trans hw104_2), ((HB.out.cell (World.block_lt_of_cell? w _ hw104_3)).trans hw104_3), ((HB.out.cell (World.block_lt_of_cell? w _ hw106_0)).trans hw106_0), ((HB.out.cell (World.block_lt_of_cell? w _ hw106_1)).trans hw106_1), ((HB.out.cell (World.block_lt_of_cell? w _ hw106_2)).trans hw106_2), ((HB.out.cell (World.block_lt_of_cell? w _ hw106_3)).trans hw106_3)⟩ (fun hHeld => ?_); refine YW Y7.tab7 Y7.bits7 (fun HT_ HW_ => ?_)
        generalize w21.drew = w23 at BK101 HB HR104_2 HR104_3 HR106_2 HR106_3 hx104_0 hx104_1 hx104_2 hx104_3 hx106_0 hx106_1 hx106_2 hx106_3 hHeld ⊢
        refine pY 0 23 Y5N ?_
        refine pY 6 29 Y4x ?_
        refine pT 1 24 Y4y ?_
        refine pY 2 25 Y4z ?_
        refine pT 3 26 Y4A ?_
        refine pT 7 30 Y4B ?_
        refine pY 8 31 Y3K ?_
        refine pT 9 32 Y3L ?_
        refine Y2b (i := 4) (N := some 27) Y3M rfl rfl (Y16 HT_.out Z6) (by decide) (fun K hK => ?_)
        refine Y1r Tryd.func58 Z6 rfl #[.agg #[.int .i64 ((Y2 l0_3 0).f0), .string ((Y2 l0_3 0).f1), .slice A104_2 ((Y2 l0_3 0).f2).length c104_2, .slice A104_3 ((Y2 l0_3 0).f3).length c104_3]] (by rfl) rfl rfl Z0 ?_
        with_reducible refine ((ih k (by omega)).2 ((Y2 l0_3 0).f0) ((Y2 l0_3 0).f1) _ _ ((Y2 l0_3 0).f2) _ _ ((Y2 l0_3 0).f3) t105 _ ?side1 ?side2 ?side3 ?side4 A16.out).mono ?_
        (case side1 => exact Z19)
        (case side2 => exact HC104_2.out)
        (case side3 => exact Z1a)
        (case side4 => exact HC104_3.out)
        rintro e w24 ⟨rfl, hb⟩
        refine ⟨_, rfl, ?_⟩
        have n_ := Y2i (Yj (g := gb101) (o := .cells #[.int .i64 a0_0, .string a0_1, .slice A0_2 l0_2.length c0_2, .slice (some ad104) l0_3.length c0_3] 37 (0, 0)) QQ hb) (Y6 QB hb)
        clear BK101
        clear HB
        obtain ⟨BK101, HB⟩ := n_
        (try clear hb)
        (try clear hb2)
        (try clear hk)
        (try clear hi)
        refine hK.out _ _ ⟨(Y1 BK101.out 0).trans rfl, (Y1 BK101.out 1).trans rfl, (Y1 BK101.out 2).trans rfl, (Y1 BK101.out 3).trans rfl, ((HB.out.cell (World.block_lt_of_cell? w _ hw104_0)).trans hw104_0), ((HB.out.cell (World.block_lt_of_cell? w _ hw104_1)).trans hw104_1), ((HB.out.cell (World.block_lt_of_cell? w _ hw104_2)).trans hw104_2), ((HB.out.cell (World.block_lt_of_cell? w _ hw104_3)).trans hw104_3), ((HB.out.cell (World.block_lt_of_cell? w _ hw106_0)).trans hw106_0), ((HB.out.cell (World.block_lt_of_cell? w _ hw106_1)).trans hw106_1), ((HB.out.cell (World.block_lt_of_cell? w _ hw106_2)).trans hw106_2), ((HB.out.cell (World.block_lt_of_cell? w _ hw106_3)).trans hw106_3)⟩ (fun hHeld => ?_)
        clear hK K
        refine Y1k (a' := ?_) ?_ ?_
        rotate_left
        ·show Act.put _ (some 27) _ = _
         simp only [Act.put, List.setIfInBounds_toArray, List.set_cons_zero, List.set_cons_succ, Y14, Y15]
         rfl
        refine pY 5 28 Y3N ?_
        refine Y2b (i := 10) (N := some 33) Y3O rfl rfl (Y16 HT_.out Z6) (by decide) (fun K hK => ?_)
        refine Y1r Tryd.func58 Z6 rfl #[.agg #[.int .i64 ((Y2 l0_3 1).f0), .string ((Y2 l0_3 1).f1), .slice A106_2 ((Y2 l0_3 1).f2).length c106_2, .slice A106_3 ((Y2 l0_3 1).f3).length c106_3]] (by rfl) rfl rfl Z0 ?_
        with_reducible refine ((ih k (by omega)).2 ((Y2 l0_3 1).f0) ((Y2 l0_3 1).f1) _ _ ((Y2 l0_3 1).f2) _ _ ((Y2 l0_3 1).f3) t107 _ ?side1 ?side2 ?side3 ?side4 A19.out).mono ?_
        (case side1 => exact Zs)
        (case side2 => exact HC106_2.out)
        (case side3 => exact Zt)
        (case side4 => exact HC106_3.out)
        rintro e w25 ⟨rfl, hb⟩
        refine ⟨_, rfl, ?_⟩
        have n_ := Y2i (Yj (g := gb101) (o := .cells #[.int .i64 a0_0, .string a0_1, .slice A0_2 l0_2.length c0_2, .slice (some ad104) l0_3.length c0_3] 37 (0, 0)) QQ hb) (Y6 QB hb)
        clear BK101
        clear HB
        obtain ⟨BK101, HB⟩ := n_
        (try clear hb)
        (try clear hb2)
        (try clear hk)
        (try clear hi)
        refine hK.out _ _ ⟨(Y1 BK101.out 0).trans rfl, (Y1 BK101.out 1).trans rfl, (Y1 BK101.out 2).trans rfl, (Y1 BK101.out 3).trans rfl, ((HB.out.cell (World.block_lt_of_cell? w _ hw104_0)).trans hw104_0), ((HB.out.cell (World.block_lt_of_cell? w _ hw104_1)).trans hw104_1), ((HB.out.cell (World.block_lt_of_cell? w _ hw104_2)).trans hw104_2), ((HB.out.cell (World.block_lt_of_cell? w _ hw104_3)).trans hw104_3), ((HB.out.cell (World.block_lt_of_cell? w _ hw106_0)).trans hw106_0), ((HB.out.cell (World.block_lt_of_cell? w _ hw106_1)).trans hw106_1), ((HB.out.cell (World.block_lt_of_cell? w _ hw106_2)).trans hw106_2), ((HB.out.cell (World.block_lt_of_cell? w _ hw106_3)).trans hw106_3)⟩ (fun hHeld => ?_)
        clear hK K
        refine Y1k (a' := ?_) ?_ ?_
        rotate_left
        ·show Act.put _ (some 33) _ = _
         simp only [Act.put, List.setIfInBounds_toArray, List.set_cons_zero, List.set_cons_succ, Y14, Y15]
         rfl
        refine pY 11 34 Y3P ?_
        refine pY 12 2 Y3l ?_
        refine Y1O (Y1a HT_.out Z6) ?_
        try go_wp2
        go_ret
        exact Z1F
       ·rw [if_neg c20] at H
        exact Zh
      ·rw [if_neg c18] at H
       exact Zh
     ·rw [if_neg c17] at H
      exact Zh
    ·rw [if_neg c15] at H
     exact Zh
   ·rw [if_neg c14] at H
    have c14b0 : (a0_0 == 3) = false := beq_eq_false_iff_ne.mpr c14
    have c14b1 : (a0_0 != 3) = true := bne_iff_ne.mpr c14
    by_cases c26 : a0_0 = 4
    ·rw [if_pos c26] at H
     have c26b0 : (a0_0 == 4) = true := beq_iff_eq.mpr c26
     have c26b1 : (a0_0 != 4) = false := bne_eq_false_iff_eq.mpr c26
     clear c26
     by_cases c27 : 0 < (l0_3.length : Int)
     ·rw [if_pos c27] at H
      have c27b0 : decide (0 < (l0_3.length : Int)) = true := decide_eq_true c27
      have c27b1 : decide (0 < l0_3.length) = true := decide_eq_true (by omega)
      clear c27
      replace H := Option.bind_eq_some_iff.mp H
      obtain ⟨t109, A280, H⟩ := H
      replace H : (if t109.size + 1 ≤ 9223372036854775807 then (if 1 < (l0_3.length : Int) then ((Yz.f k ((Y2 l0_3 1).f0) ((Y2 l0_3 1).f1) ((Y2 l0_3 1).f2) ((Y2 l0_3 1).f3)).bind fun t111 => (if t109.size + 1 + t111.size ≤ 9223372036854775807 then (some ((t109 ++ (⟨#[124]⟩ : ByteArray)) ++ t111)) else (none))) else (none)) else (none)) = some r := H
      have A28 := Y0.mk A280
      clear A280
      by_cases c29 : t109.size + 1 ≤ 9223372036854775807
      ·rw [if_pos c29] at H
       have c29b0 := eq_true c29
       have c29b1 : decide (t109.size + 1 ≤ 9223372036854775807) = true := decide_eq_true c29
       try have c29b2 : (9223372036854775807 < t109.size + 1) = False := eq_false (Nat.not_lt.2 c29)
       by_cases c30 : 1 < (l0_3.length : Int)
       ·rw [if_pos c30] at H
        have c30b0 : decide (1 < (l0_3.length : Int)) = true := decide_eq_true c30
        have c30b1 : decide (1 < l0_3.length) = true := decide_eq_true (by omega)
        clear c30
        replace H := Option.bind_eq_some_iff.mp H
        obtain ⟨t111, A310, H⟩ := H
        replace H : (if t109.size + 1 + t111.size ≤ 9223372036854775807 then (some ((t109 ++ (⟨#[124]⟩ : ByteArray)) ++ t111)) else (none)) = some r := H
        have A31 := Y0.mk A310
        clear A310
        by_cases c32 : t109.size + 1 + t111.size ≤ 9223372036854775807
        ·rw [if_pos c32] at H
         have c32b0 := eq_true c32
         have c32b1 : decide (t109.size + 1 + t111.size ≤ 9223372036854775807) = true := decide_eq_true c32
         try have c32b2 : (9223372036854775807 < t109.size + 1 + t111.size) = False := eq_false (Nat.not_lt.2 c32)
         obtain rfl := Option.some.inj H
         go_enter Tryd.func29, Tryd.ntmps29
         try go_wp2_with (first | ((with_reducible refine YF (N := 1) rfl ?_); refine YA ?hg (N := 1) ?hd (cs := #[.int .i64 a0_0, .string a0_1, .slice A0_2 l0_2.length c0_2, .slice A0_3 l0_3.length c0_3]) (t := 37) ?hr ?_; (case hd => rfl); (case hg => rfl); (case hr => exact Za); intro gb101 hg w33 hbox hb; have n_ := Y2x (Y6 QB hb) (hbox) ((by rw [hg]; exact (Ya QB) : w.heap.size ≤ gb101)) ((by rw [hg]; exact (Ya QB) : w.heap.size ≤ gb101)); clear HB; obtain ⟨HB, BK101, GW101, GE101⟩ := n_; clear hb hbox hg; obtain ⟨hcz34_0, hcz34_1, hcz34_2, hcz34_3, hfz34_0, hfz34_1, hfz34_2, hfz34_3⟩ := YD BK101.out))
         have n_ := Y2i (Yc BK101.out) (YL HB.out)
         clear BK101
         clear HB
         obtain ⟨BK101, HB⟩ := n_
         have p108 : 0 ≤ (0 : Int) := (by omega)
         have q108 : 0 < (l0_3.length : Int) := of_decide_eq_true Z8
         obtain ⟨ad108, A108_2, c108_2, A108_3, c108_3, e108, hx108_0, hx108_1, hx108_2, hx108_3, hl108_2, hi108_2, hl108_3, hi108_3⟩ := Y1C HR0_3.out 0 p108 q108
         have hw108_3 := hx108_3
         (try rw [show ((0 : Int)).toNat = 0 from rfl] at hw108_3)
         (try rw [show 0 * 4 = 0 from rfl] at hw108_3)
         (try rw [Addr.add_zero'] at hw108_3)
         have hw108_2 := hx108_2
         (try rw [show ((0 : Int)).toNat = 0 from rfl] at hw108_2)
         (try rw [show 0 * 4 = 0 from rfl] at hw108_2)
         (try rw [Addr.add_zero'] at hw108_2)
         have hw108_1 := hx108_1
         (try rw [show ((0 : Int)).toNat = 0 from rfl] at hw108_1)
         (try rw [show 0 * 4 = 0 from rfl] at hw108_1)
         (try rw [Addr.add_zero'] at hw108_1)
         have hw108_0 := hx108_0
         (try rw [show ((0 : Int)).toNat = 0 from rfl] at hw108_0)
         (try rw [show 0 * 4 = 0 from rfl] at hw108_0)
         (try rw [Addr.add_zero'] at hw108_0)
         cases e108
         have qi108 : (0 < l0_3.length) = True := eq_true (by omega)
         (try rw [show ((0 : Int)).toNat = 0 from rfl] at hx108_0)
         (try rw [show 0 * 4 = 0 from rfl] at hx108_0)
         (try rw [Addr.add_zero'] at hx108_0)
         (try rw [show ((0 : Int)).toNat = 0 from rfl] at hx108_1)
         (try rw [show 0 * 4 = 0 from rfl] at hx108_1)
         (try rw [Addr.add_zero'] at hx108_1)
         (try rw [show ((0 : Int)).toNat = 0 from rfl] at hx108_2)
         (try rw [show 0 * 4 = 0 from rfl] at hx108_2)
         (try rw [Addr.add_zero'] at hx108_2)
         (try rw [show ((0 : Int)).toNat = 0 from rfl] at hx108_3)
         (try rw [show 0 * 4 = 0 from rfl] at hx108_3)
         (try rw [Addr.add_zero'] at hx108_3)
         replace hx108_0 := YT HB.out hx108_0
         replace hx108_1 := YT HB.out hx108_1
         replace hx108_2 := YT HB.out hx108_2
         replace hx108_3 := YT HB.out hx108_3
         have HR108_2 := Y0.mk hi108_2
         have HC108_2 := Y0.mk hl108_2
         clear hi108_2 hl108_2
         have HR108_3 := Y0.mk hi108_3
         have HC108_3 := Y0.mk hl108_3
         clear hi108_3 hl108_3
         replace p108 := eq_true p108
         replace q108 := eq_true q108
         have p110 : 0 ≤ (1 : Int) := (by omega)
         have q110 : 1 < (l0_3.length : Int) := of_decide_eq_true Z8
         obtain ⟨ad110, A110_2, c110_2, A110_3, c110_3, e110, hx110_0, hx110_1, hx110_2, hx110_3, hl110_2, hi110_2, hl110_3, hi110_3⟩ := Y1C HR0_3.out 1 p110 q110
         have hw110_3 := hx110_3
         (try rw [show ((1 : Int)).toNat = 1 from rfl] at hw110_3)
         (try rw [show 1 * 4 = 4 from rfl] at hw110_3)
         (try simp only [Nat.reduceMul, Nat.reduceEqDiff, Go.Addr.add, ↓reduceIte] at hw110_3)
         have hw110_2 := hx110_2
         (try rw [show ((1 : Int)).toNat = 1 from rfl] at hw110_2)
         (try rw [show 1 * 4 = 4 from rfl] at hw110_2)
         (try simp only [Nat.reduceMul, Nat.reduceEqDiff, Go.Addr.add, ↓reduceIte] at hw110_2)
         have hw110_1 := hx110_1
         (try rw [show ((1 : Int)).toNat = 1 from rfl] at hw110_1)
         (try rw [show 1 * 4 = 4 from rfl] at hw110_1)
         (try simp only [Nat.reduceMul, Nat.reduceEqDiff, Go.Addr.add, ↓reduceIte] at hw110_1)
         have hw110_0 := hx110_0
         (try rw [show ((1 : Int)).toNat = 1 from rfl] at hw110_0)
         (try rw [show 1 * 4 = 4 from rfl] at hw110_0)
         (try simp only [Nat.reduceMul, Nat.reduceEqDiff, Go.Addr.add, ↓reduceIte] at hw110_0)
         obtain rfl : ad108 = ad110 := (by injection e110)
         (try simp only [show (1 : Int).toNat = 1 from rfl, Nat.reduceMul, Nat.reduceEqDiff, Go.Addr.add, ↓reduceIte] at hx110_0)
         (try simp only [show (1 : Int).toNat = 1 from rfl, Nat.reduceMul, Nat.reduceEqDiff, Go.Addr.add, ↓reduceIte] at hx110_1)
         (try simp only [show (1 : Int).toNat = 1 from rfl, Nat.reduceMul, Nat.reduceEqDiff, Go.Addr.add, ↓reduceIte] at hx110_2)
         (try simp only [show (1 : Int).toNat = 1 from rfl, Nat.reduceMul, Nat.reduceEqDiff, Go.Addr.add, ↓reduceIte] at hx110_3)
         have qi110 : (1 < l0_3.length) = True := eq_true (by omega)
         (try rw [show ((1 : Int)).toNat = 1 from rfl] at hx110_0)
         (try rw [show 1 * 4 = 4 from rfl] at hx110_0)
         (try rw [show ((1 : Int)).toNat = 1 from rfl] at hx110_1)
         (try rw [show 1 * 4 = 4 from rfl] at hx110_1)
         (try rw [show ((1 : Int)).toNat = 1 from rfl] at hx110_2)
         (try rw [show 1 * 4 = 4 from rfl] at hx110_2)
         (try rw [show ((1 : Int)).toNat = 1 from rfl] at hx110_3)
         (try rw [show 1 * 4 = 4 from rfl] at hx110_3)
         replace hx110_0 := YT HB.out hx110_0
         replace hx110_1 := YT HB.out hx110_1
         replace hx110_2 := YT HB.out hx110_2
         replace hx110_3 := YT HB.out hx110_3
         have HR110_2 := Y0.mk hi110_2
         have HC110_2 := Y0.mk hl110_2
         clear hi110_2 hl110_2
         have HR110_3 := Y0.mk hi110_3
         have HC110_3 := Y0.mk hl110_3
         clear hi110_3 hl110_3
         replace p110 := eq_true p110
         replace q110 := eq_true q110
         refine Y1q (n := 13) (S := fun w' => w'.cell? ⟨gb101, 0, none⟩ = some (.int .i64 a0_0) ∧ w'.cell? ⟨gb101, 1, none⟩ = some (.string a0_1) ∧ w'.cell? ⟨gb101, 2, none⟩ = some (.slice A0_2 l0_2.length c0_2) ∧ w'.cell? ⟨gb101, 3, none⟩ = some (.slice (some ad108) l0_3.length c0_3) ∧ w'.cell? ad108 = some (.int .i64 ((Y2 l0_3 0).f0)) ∧ w'.cell? ⟨ad108.block, ad108.off + 1, none⟩ = some (.string ((Y2 l0_3 0).f1)) ∧ w'.cell? ⟨ad108.block, ad108.off + 2, none⟩ = some (.slice A108_2 ((Y2 l0_3 0).f2).length c108_2) ∧ w'.cell? ⟨ad108.block, ad108.off + 3, none⟩ = some (.slice A108_3 ((Y2 l0_3 0).f3).length c108_3) ∧ w'.cell? ⟨ad108.block, ad108.off + 4, none⟩ = some (.int .i64 ((Y2 l0_3 1).f0)) ∧ w'.cell? ⟨ad108.block, ad108.off + 4 + 1, none⟩ = some (.string ((Y2 l0_3 1).f1)) ∧ w'.cell? ⟨ad108.block, ad108.off + 4 + 2, none⟩ = some (.slice A110_2 ((Y2 l0_3 1).f2).length c110_2) ∧ w'.cell? ⟨ad108.block, ad108.off + 4 + 3, none⟩ = some (.slice A110_3 ((Y2 l0_3 1).f3).length c110_3)) (ds := []) Y5M Z6 rfl rfl ⟨(Y1 BK101.out 0).trans rfl, (Y1 BK101.out 1).trans rfl, (Y1 BK101.out 2).trans rfl, (Y1 BK101.out 3).trans rfl, ((HB.out.cell (World.block_lt_of_cell? w _ hw108_0)).trans hw108_0), ((HB.out.cell (World.block_lt_of_cell? w _ hw108_1)).trans hw108_1), ((HB.out.cell (World.block_lt_of_cell? w _ hw108_2)).trans hw108_2), ((HB.out.cell (World.block_lt_of_cell? w _ hw108_3)).trans hw108_3), ((HB.out.cell (World.block_lt_of_cell? w _ hw110_0)).trans hw110_0), ((HB.out.cell (World.block_lt_of_cell? w _ hw110_1)).trans hw110_1), ((HB.out.cell (World.block_lt_of_cell? w _ hw110_2)).trans hw110_2), ((HB.out.cell (World.block_lt_of_cell? w _ hw110_3)).trans hw110_3)⟩ (fun hHeld => ?_); refine YW Y7.tab9 Y7.bits9 (fun HT_ HW_ => ?_)
         generalize w33.drew = w35 at BK101 HB HR108_2 HR108_3 HR110_2 HR110_3 hx108_0 hx108_1 hx108_2 hx108_3 hx110_0 hx110_1 hx110_2 hx110_3 hHeld ⊢
         refine pY 0 37 Y5N ?_
         refine pY 6 43 Y4x ?_
         refine pT 1 38 Y4y ?_
         refine pY 2 39 Y4z ?_
         refine pT 3 40 Y4A ?_
         refine pT 7 44 Y4B ?_
         refine pY 8 45 Y3K ?_
         refine pT 9 46 Y3L ?_
         refine Y2b (i := 4) (N := some 41) Y3M rfl rfl (Y16 HT_.out Z6) (by decide) (fun K hK => ?_)
         refine Y1r Tryd.func58 Z6 rfl #[.agg #[.int .i64 ((Y2 l0_3 0).f0), .string ((Y2 l0_3 0).f1), .slice A108_2 ((Y2 l0_3 0).f2).length c108_2, .slice A108_3 ((Y2 l0_3 0).f3).length c108_3]] (by rfl) rfl rfl Z0 ?_
         with_reducible refine ((ih k (by omega)).2 ((Y2 l0_3 0).f0) ((Y2 l0_3 0).f1) _ _ ((Y2 l0_3 0).f2) _ _ ((Y2 l0_3 0).f3) t109 _ ?side1 ?side2 ?side3 ?side4 A28.out).mono ?_
         (case side1 => exact Z1d)
         (case side2 => exact HC108_2.out)
         (case side3 => exact Z1e)
         (case side4 => exact HC108_3.out)
         rintro e w36 ⟨rfl, hb⟩
         refine ⟨_, rfl, ?_⟩
         have n_ := Y2i (Yj (g := gb101) (o := .cells #[.int .i64 a0_0, .string a0_1, .slice A0_2 l0_2.length c0_2, .slice (some ad108) l0_3.length c0_3] 37 (0, 0)) QQ hb) (Y6 QB hb)
         clear BK101
         clear HB
         obtain ⟨BK101, HB⟩ := n_
         (try clear hb)
         (try clear hb2)
         (try clear hk)
         (try clear hi)
         refine hK.out _ _ ⟨(Y1 BK101.out 0).trans rfl, (Y1 BK101.out 1).trans rfl, (Y1 BK101.out 2).trans rfl, (Y1 BK101.out 3).trans rfl, ((HB.out.cell (World.block_lt_of_cell? w _ hw108_0)).trans hw108_0), ((HB.out.cell (World.block_lt_of_cell? w _ hw108_1)).trans hw108_1), ((HB.out.cell (World.block_lt_of_cell? w _ hw108_2)).trans hw108_2), ((HB.out.cell (World.block_lt_of_cell? w _ hw108_3)).trans hw108_3), ((HB.out.cell (World.block_lt_of_cell? w _ hw110_0)).trans hw110_0), ((HB.out.cell (World.block_lt_of_cell? w _ hw110_1)).trans hw110_1), ((HB.out.cell (World.block_lt_of_cell? w _ hw110_2)).trans hw110_2), ((HB.out.cell (World.block_lt_of_cell? w _ hw110_3)).trans hw110_3)⟩ (fun hHeld => ?_)
         clear hK K
         refine Y1k (a' := ?_) ?_ ?_
         rotate_left
         ·show Act.put _ (some 41) _ = _
          simp only [Act.put, List.setIfInBounds_toArray, List.set_cons_zero, List.set_cons_succ, Y14, Y15]
          rfl
         refine pY 5 42 Y3N ?_
         refine Y2b (i := 10) (N := some 47) Y3O rfl rfl (Y16 HT_.out Z6) (by decide) (fun K hK => ?_)
         refine Y1r Tryd.func58 Z6 rfl #[.agg #[.int .i64 ((Y2 l0_3 1).f0), .string ((Y2 l0_3 1).f1), .slice A110_2 ((Y2 l0_3 1).f2).length c110_2, .slice A110_3 ((Y2 l0_3 1).f3).length c110_3]] (by rfl) rfl rfl Z0 ?_
         with_reducible refine ((ih k (by omega)).2 ((Y2 l0_3 1).f0) ((Y2 l0_3 1).f1) _ _ ((Y2 l0_3 1).f2) _ _ ((Y2 l0_3 1).f3) t111 _ ?side1 ?side2 ?side3 ?side4 A31.out).mono ?_
         (case side1 => exact Z1f)
         (case side2 => exact HC110_2.out)
         (case side3 => exact Z1g)
         (case side4 => exact HC110_3.out)
         rintro e w37 ⟨rfl, hb⟩
         refine ⟨_, rfl, ?_⟩
         have n_ := Y2i (Yj (g := gb101) (o := .cells #[.int .i64 a0_0, .string a0_1, .slice A0_2 l0_2.length c0_2, .slice (some ad108) l0_3.length c0_3] 37 (0, 0)) QQ hb) (Y6 QB hb)
         clear BK101
         clear HB
         obtain ⟨BK101, HB⟩ := n_
         (try clear hb)
         (try clear hb2)
         (try clear hk)
         (try clear hi)
         refine hK.out _ _ ⟨(Y1 BK101.out 0).trans rfl, (Y1 BK101.out 1).trans rfl, (Y1 BK101.out 2).trans rfl, (Y1 BK101.out 3).trans rfl, ((HB.out.cell (World.block_lt_of_cell? w _ hw108_0)).trans hw108_0), ((HB.out.cell (World.block_lt_of_cell? w _ hw108_1)).trans hw108_1), ((HB.out.cell (World.block_lt_of_cell? w _ hw108_2)).trans hw108_2), ((HB.out.cell (World.block_lt_of_cell? w _ hw108_3)).trans hw108_3), ((HB.out.cell (World.block_lt_of_cell? w _ hw110_0)).trans hw110_0), ((HB.out.cell (World.block_lt_of_cell? w _ hw110_1)).trans hw110_1), ((HB.out.cell (World.block_lt_of_cell? w _ hw110_2)).trans hw110_2), ((HB.out.cell (World.block_lt_of_cell? w _ hw110_3)).trans hw110_3)⟩ (fun hHeld => ?_)
         clear hK K
         refine Y1k (a' := ?_) ?_ ?_
         rotate_left
         ·show Act.put _ (some 47) _ = _
          simp only [Act.put, List.setIfInBounds_toArray, List.set_cons_zero, List.set_cons_succ, Y14, Y15]
          rfl
         refine pY 11 48 Y3P ?_
         refine pY 12 2 Y3l ?_
         refine Y1O (Y1a HT_.out Z6) ?_
         try go_wp2
         go_ret
         exact Z1F
        ·rw [if_neg c32] at H
         exact Zh
       ·rw [if_neg c30] at H
        exact Zh
      ·rw [if_neg c29] at H
       exact Zh
     ·rw [if_neg c27] at H
      exact Zh
    ·rw [if_neg c26] at H
     have c26b0 : (a0_0 == 4) = false := beq_eq_false_iff_ne.mpr c26
     have c26b1 : (a0_0 != 4) = true := bne_iff_ne.mpr c26
     by_cases c38 : a0_0 = 8
     ·rw [if_pos c38] at H
      have c38b0 : (a0_0 == 8) = true := beq_iff_eq.mpr c38
      have c38b1 : (a0_0 != 8) = false := bne_eq_false_iff_eq.mpr c38
      clear c38
      have H' := Y0.mk H
      clear H
      go_enter Tryd.func29, Tryd.ntmps29
      go_wp2_with (first | ((with_reducible refine YF (N := 1) rfl ?_); refine YA ?hg (N := 1) ?hd (cs := #[.int .i64 a0_0, .string a0_1, .slice A0_2 l0_2.length c0_2, .slice A0_3 l0_3.length c0_3]) (t := 37) ?hr ?_; (case hd => rfl); (case hg => rfl); (case hr => exact Za); intro gb101 hg w39 hbox hb; have n_ := Y2x (Y6 QB hb) (hbox) ((by rw [hg]; exact (Ya QB) : w.heap.size ≤ gb101)) ((by rw [hg]; exact (Ya QB) : w.heap.size ≤ gb101)); clear HB; obtain ⟨HB, BK101, GW101, GE101⟩ := n_; clear hb hbox hg; obtain ⟨hcz40_0, hcz40_1, hcz40_2, hcz40_3, hfz40_0, hfz40_1, hfz40_2, hfz40_3⟩ := YD BK101.out))
      go_loopg [3, 4] k (fun kq v3 v4 w' => ∃ (x3_1 : ByteArray) (x4_1 : Int), v3 = .string x3_1 ∧ v4 = .int .i64 x4_1 ∧ Y0 (Y7.l0 kq x3_1 x4_1 a0_0 a0_1 l0_2 l0_3 = some r) ∧ Y0 (kq ≤ k) ∧ Y0 (w'.heap[gb101]? = some (.cells #[.int .i64 a0_0, .string a0_1, (.slice A0_2 l0_2.length c0_2), (.slice A0_3 l0_3.length c0_3)] 37 (0, 0))) ∧ Y0 (Below w.heap.size w w'))
      case atStart => exact ⟨((⟨#[33, 40]⟩ : ByteArray)), (0), Z9, Z9, H', ⟨Nat.le_refl _⟩, ⟨Z4⟩, ⟨QB⟩⟩
      case round =>
       clear H'
       try clear c1
       try clear p1
       try clear q1
       try clear hx1
       try clear qi1
       try clear c2
       try clear p2
       try clear c3
       try clear c5
       try clear c10
       try clear p10
       try clear q10
       try clear hx10
       try clear qi10
       try clear c11
       try clear p11
       try clear q11
       try clear hx11
       try clear qi11
       try clear c14
       try clear c14b0
       try clear c14b1
       try clear c15
       try clear c15b0
       try clear c15b1
       try clear c17
       try clear c17b0
       try clear c17b1
       try clear c17b2
       try clear c18
       try clear c18b0
       try clear c18b1
       try clear c20
       try clear c20b0
       try clear c20b1
       try clear c20b2
       try clear c26
       try clear c26b0
       try clear c26b1
       try clear c27
       try clear c27b0
       try clear c27b1
       try clear c29
       try clear c29b0
       try clear c29b1
       try clear c29b2
       try clear c30
       try clear c30b0
       try clear c30b1
       try clear c32
       try clear c32b0
       try clear c32b1
       try clear c32b2
       try clear c38
       try clear c38b0
       try clear c38b1
       try clear hcz22_0 hcz22_1 hcz22_2 hcz22_3
       try clear hcz34_0 hcz34_1 hcz34_2 hcz34_3
       try clear hcz40_0 hcz40_1 hcz40_2 hcz40_3
       try clear hfz22_0
       try clear hfz22_1
       try clear hfz22_2
       try clear hfz22_3
       try clear hfz34_0
       try clear hfz34_1
       try clear hfz34_2
       try clear hfz34_3
       try clear hfz40_0
       try clear hfz40_1
       try clear hfz40_2
       try clear hfz40_3
       try clear hx104_0
       try clear hx104_1
       try clear hx104_2
       try clear hx104_3
       try clear hx106_0
       try clear hx106_1
       try clear hx106_2
       try clear hx106_3
       try clear hx108_0
       try clear hx108_1
       try clear hx108_2
       try clear hx108_3
       try clear hx110_0
       try clear hx110_1
       try clear hx110_2
       try clear hx110_3
       try clear p104
       try clear p106
       try clear p108
       try clear p110
       try clear q104
       try clear q106
       try clear q108
       try clear q110
       obtain ⟨x3_1, x4_1, rfl, rfl, HA, HK1, BK101, HB⟩ := hrel
       cases gk with
       | zero => exact absurd HA.out (by simp [Y7.l0])
       | succ k1 =>
        have H := HA.out
        clear HA
        simp only [Y7.l0] at H
        by_cases c41 : x4_1 < (l0_2.length : Int)
        ·rw [if_pos c41] at H
         have c41b0 : decide (x4_1 < (l0_2.length : Int)) = true := decide_eq_true c41
         clear c41
         by_cases c42 : x4_1 > 0
         ·rw [if_pos c42] at H
          have c42b0 : decide (0 < x4_1) = true := decide_eq_true c42
          clear c42
          by_cases c43 : x3_1.size + 1 ≤ 9223372036854775807
          ·rw [if_pos c43] at H
           have c43b0 := eq_true c43
           have c43b1 : decide (x3_1.size + 1 ≤ 9223372036854775807) = true := decide_eq_true c43
           try have c43b2 : (9223372036854775807 < x3_1.size + 1) = False := eq_false (Nat.not_lt.2 c43)
           by_cases c44 : x3_1.size + 1 + 1 ≤ 9223372036854775807
           ·rw [if_pos c44] at H
            have c44b0 := eq_true c44
            have c44b1 : decide (x3_1.size + 1 + 1 ≤ 9223372036854775807) = true := decide_eq_true c44
            try have c44b2 : (9223372036854775807 < x3_1.size + 1 + 1) = False := eq_false (Nat.not_lt.2 c44)
            by_cases c45 : 0 ≤ x4_1
            ·rw [if_pos c45] at H
             have c45b0 : decide (0 ≤ x4_1) = true := decide_eq_true c45
             clear c45
             by_cases c46 : x3_1.size + 1 + 1 + (Y25 ByteArray.empty l0_2 x4_1).size ≤ 9223372036854775807
             ·rw [if_pos c46] at H
              have c46b0 := eq_true c46
              have c46b1 : decide (x3_1.size + 1 + 1 + (Y25 ByteArray.empty l0_2 x4_1).size ≤ 9223372036854775807) = true := decide_eq_true c46
              try have c46b2 : (9223372036854775807 < x3_1.size + 1 + 1 + (Y25 ByteArray.empty l0_2 x4_1).size) = False := eq_false (Nat.not_lt.2 c46)
              by_cases c47 : x3_1.size + 1 + 1 + ((Y25 ByteArray.empty l0_2 x4_1).size) + 1 ≤ 9223372036854775807
              ·rw [if_pos c47] at H
               have c47b0 := eq_true c47
               have c47b1 : decide (x3_1.size + 1 + 1 + ((Y25 ByteArray.empty l0_2 x4_1).size) + 1 ≤ 9223372036854775807) = true := decide_eq_true c47
               try have c47b2 : (9223372036854775807 < x3_1.size + 1 + 1 + ((Y25 ByteArray.empty l0_2 x4_1).size) + 1) = False := eq_false (Nat.not_lt.2 c47)
               have H' := Y0.mk H
               clear H
               obtain ⟨hcz48_0, hcz48_1, hcz48_2, hcz48_3, hfz48_0, hfz48_1, hfz48_2, hfz48_3⟩ := YD BK101.out
               have p112 : 0 ≤ (x4_1 : Int) := of_decide_eq_true Z8
               have q112 : x4_1 < (l0_2.length : Int) := of_decide_eq_true Z8
               obtain ⟨ad112, e112, hx112_0⟩ := Kd.at_string HR0_2.out x4_1 p112 q112
               cases e112
               replace hx112_0 := YT HB.out hx112_0
               replace p112 := eq_true p112
               replace q112 := eq_true q112
               go_wp2
               go_roundg k1
               case measure => have := HK1.out; omega
               case rel => exact ⟨((((x3_1 ++ (⟨#[124]⟩ : ByteArray)) ++ (⟨#[60]⟩ : ByteArray)) ++ (Y25 ByteArray.empty l0_2 x4_1)) ++ (⟨#[62]⟩ : ByteArray)), (wrap64 (x4_1 + 1)), Z9, Z9, H', ⟨ZM⟩, ⟨Z4⟩, ⟨QB⟩⟩
              ·rw [if_neg c47] at H
               exact Zh
             ·rw [if_neg c46] at H
              exact Zh
            ·rw [if_neg c45] at H
             exact Zh
           ·rw [if_neg c44] at H
            exact Zh
          ·rw [if_neg c43] at H
           exact Zh
         ·rw [if_neg c42] at H
          have c42b0 : decide (0 < x4_1) = false := decide_eq_false c42
          clear c42
          by_cases c49 : x3_1.size + 1 ≤ 9223372036854775807
          ·rw [if_pos c49] at H
           have c49b0 := eq_true c49
           have c49b1 : decide (x3_1.size + 1 ≤ 9223372036854775807) = true := decide_eq_true c49
           try have c49b2 : (9223372036854775807 < x3_1.size + 1) = False := eq_false (Nat.not_lt.2 c49)
           by_cases c50 : 0 ≤ x4_1
           ·rw [if_pos c50] at H
            have c50b0 : decide (0 ≤ x4_1) = true := decide_eq_true c50
            clear c50
            by_cases c51 : x3_1.size + 1 + (Y25 ByteArray.empty l0_2 x4_1).size ≤ 9223372036854775807
            ·rw [if_pos c51] at H
             have c51b0 := eq_true c51
             have c51b1 : decide (x3_1.size + 1 + (Y25 ByteArray.empty l0_2 x4_1).size ≤ 9223372036854775807) = true := decide_eq_true c51
             try have c51b2 : (9223372036854775807 < x3_1.size + 1 + (Y25 ByteArray.empty l0_2 x4_1).size) = False := eq_false (Nat.not_lt.2 c51)
             by_cases c52 : x3_1.size + 1 + ((Y25 ByteArray.empty l0_2 x4_1).size) + 1 ≤ 9223372036854775807
             ·rw [if_pos c52] at H
              have c52b0 := eq_true c52
              have c52b1 : decide (x3_1.size + 1 + ((Y25 ByteArray.empty l0_2 x4_1).size) + 1 ≤ 9223372036854775807) = true := decide_eq_true c52
              try have c52b2 : (9223372036854775807 < x3_1.size + 1 + ((Y25 ByteArray.empty l0_2 x4_1).size) + 1) = False := eq_false (Nat.not_lt.2 c52)
              have H' := Y0.mk H
              clear H
              obtain ⟨hcz53_0, hcz53_1, hcz53_2, hcz53_3, hfz53_0, hfz53_1, hfz53_2, hfz53_3⟩ := YD BK101.out
              have p113 : 0 ≤ (x4_1 : Int) := of_decide_eq_true Z8
              have q113 : x4_1 < (l0_2.length : Int) := of_decide_eq_true Z8
              obtain ⟨ad113, e113, hx113_0⟩ := Kd.at_string HR0_2.out x4_1 p113 q113
              cases e113
              replace hx113_0 := YT HB.out hx113_0
              replace p113 := eq_true p113
              replace q113 := eq_true q113
              go_wp2
              go_roundg k1
              case measure => have := HK1.out; omega
              case rel => exact ⟨(((x3_1 ++ (⟨#[60]⟩ : ByteArray)) ++ (Y25 ByteArray.empty l0_2 x4_1)) ++ (⟨#[62]⟩ : ByteArray)), (wrap64 (x4_1 + 1)), Z9, Z9, H', ⟨ZM⟩, ⟨Z4⟩, ⟨QB⟩⟩
             ·rw [if_neg c52] at H
              exact Zh
            ·rw [if_neg c51] at H
             exact Zh
           ·rw [if_neg c50] at H
            exact Zh
          ·rw [if_neg c49] at H
           exact Zh
        ·rw [if_neg c41] at H
         have c41b0 : decide (x4_1 < (l0_2.length : Int)) = false := decide_eq_false c41
         clear c41
         by_cases c54 : x3_1.size + 1 ≤ 9223372036854775807
         ·rw [if_pos c54] at H
          have c54b0 := eq_true c54
          have c54b1 : decide (x3_1.size + 1 ≤ 9223372036854775807) = true := decide_eq_true c54
          try have c54b2 : (9223372036854775807 < x3_1.size + 1) = False := eq_false (Nat.not_lt.2 c54)
          obtain rfl := Option.some.inj H
          obtain ⟨hcz55_0, hcz55_1, hcz55_2, hcz55_3, hfz55_0, hfz55_1, hfz55_2, hfz55_3⟩ := YD BK101.out
          go_wp2
          go_ret
          exact Z1F
         ·rw [if_neg c54] at H
          exact Zh
     ·rw [if_neg c38] at H
      have c38b0 : (a0_0 == 8) = false := beq_eq_false_iff_ne.mpr c38
      have c38b1 : (a0_0 != 8) = true := bne_iff_ne.mpr c38
      by_cases c56 : 0 < (l0_3.length : Int)
      ·rw [if_pos c56] at H
       have c56b0 : decide (0 < (l0_3.length : Int)) = true := decide_eq_true c56
       have c56b1 : decide (0 < l0_3.length) = true := decide_eq_true (by omega)
       clear c56
       replace H := Option.bind_eq_some_iff.mp H
       obtain ⟨t115, A570, H⟩ := H
       replace H : ((Y1e.f a0_0).bind fun t116 => (if t115.size + t116.size ≤ 9223372036854775807 then (some (t115 ++ t116)) else (none))) = some r := H
       have A57 := Y0.mk A570
       clear A570
       replace H := Option.bind_eq_some_iff.mp H
       obtain ⟨t116, A580, H⟩ := H
       replace H : (if t115.size + t116.size ≤ 9223372036854775807 then (some (t115 ++ t116)) else (none)) = some r := H
       have A58 := Y0.mk A580
       clear A580
       by_cases c59 : t115.size + t116.size ≤ 9223372036854775807
       ·rw [if_pos c59] at H
        have c59b0 := eq_true c59
        have c59b1 : decide (t115.size + t116.size ≤ 9223372036854775807) = true := decide_eq_true c59
        try have c59b2 : (9223372036854775807 < t115.size + t116.size) = False := eq_false (Nat.not_lt.2 c59)
        obtain rfl := Option.some.inj H
        go_enter Tryd.func29, Tryd.ntmps29
        try go_wp2_with (first | ((with_reducible refine YF (N := 1) rfl ?_); refine YA ?hg (N := 1) ?hd (cs := #[.int .i64 a0_0, .string a0_1, .slice A0_2 l0_2.length c0_2, .slice A0_3 l0_3.length c0_3]) (t := 37) ?hr ?_; (case hd => rfl); (case hg => rfl); (case hr => exact Za); intro gb101 hg w60 hbox hb; have n_ := Y2x (Y6 QB hb) (hbox) ((by rw [hg]; exact (Ya QB) : w.heap.size ≤ gb101)) ((by rw [hg]; exact (Ya QB) : w.heap.size ≤ gb101)); clear HB; obtain ⟨HB, BK101, GW101, GE101⟩ := n_; clear hb hbox hg; obtain ⟨hcz61_0, hcz61_1, hcz61_2, hcz61_3, hfz61_0, hfz61_1, hfz61_2, hfz61_3⟩ := YD BK101.out))
        have n_ := Y2i (Yc BK101.out) (YL HB.out)
        clear BK101
        clear HB
        obtain ⟨BK101, HB⟩ := n_
        have p114 : 0 ≤ (0 : Int) := (by omega)
        have q114 : 0 < (l0_3.length : Int) := of_decide_eq_true Z8
        obtain ⟨ad114, A114_2, c114_2, A114_3, c114_3, e114, hx114_0, hx114_1, hx114_2, hx114_3, hl114_2, hi114_2, hl114_3, hi114_3⟩ := Y1C HR0_3.out 0 p114 q114
        have hw114_3 := hx114_3
        (try rw [show ((0 : Int)).toNat = 0 from rfl] at hw114_3)
        (try rw [show 0 * 4 = 0 from rfl] at hw114_3)
        (try rw [Addr.add_zero'] at hw114_3)
        have hw114_2 := hx114_2
        (try rw [show ((0 : Int)).toNat = 0 from rfl] at hw114_2)
        (try rw [show 0 * 4 = 0 from rfl] at hw114_2)
        (try rw [Addr.add_zero'] at hw114_2)
        have hw114_1 := hx114_1
        (try rw [show ((0 : Int)).toNat = 0 from rfl] at hw114_1)
        (try rw [show 0 * 4 = 0 from rfl] at hw114_1)
        (try rw [Addr.add_zero'] at hw114_1)
        have hw114_0 := hx114_0
        (try rw [show ((0 : Int)).toNat = 0 from rfl] at hw114_0)
        (try rw [show 0 * 4 = 0 from rfl] at hw114_0)
        (try rw [Addr.add_zero'] at hw114_0)
        cases e114
        have qi114 : (0 < l0_3.length) = True := eq_true (by omega)
        (try rw [show ((0 : Int)).toNat = 0 from rfl] at hx114_0)
        (try rw [show 0 * 4 = 0 from rfl] at hx114_0)
        (try rw [Addr.add_zero'] at hx114_0)
        (try rw [show ((0 : Int)).toNat = 0 from rfl] at hx114_1)
        (try rw [show 0 * 4 = 0 from rfl] at hx114_1)
        (try rw [Addr.add_zero'] at hx114_1)
        (try rw [show ((0 : Int)).toNat = 0 from rfl] at hx114_2)
        (try rw [show 0 * 4 = 0 from rfl] at hx114_2)
        (try rw [Addr.add_zero'] at hx114_2)
        (try rw [show ((0 : Int)).toNat = 0 from rfl] at hx114_3)
        (try rw [show 0 * 4 = 0 from rfl] at hx114_3)
        (try rw [Addr.add_zero'] at hx114_3)
        replace hx114_0 := YT HB.out hx114_0
        replace hx114_1 := YT HB.out hx114_1
        replace hx114_2 := YT HB.out hx114_2
        replace hx114_3 := YT HB.out hx114_3
        have HR114_2 := Y0.mk hi114_2
        have HC114_2 := Y0.mk hl114_2
        clear hi114_2 hl114_2
        have HR114_3 := Y0.mk hi114_3
        have HC114_3 := Y0.mk hl114_3
        clear hi114_3 hl114_3
        replace p114 := eq_true p114
        replace q114 := eq_true q114
        refine Y1q (n := 10) (S := fun w' => w'.cell? ⟨gb101, 0, none⟩ = some (.int .i64 a0_0) ∧ w'.cell? ⟨gb101, 1, none⟩ = some (.string a0_1) ∧ w'.cell? ⟨gb101, 2, none⟩ = some (.slice A0_2 l0_2.length c0_2) ∧ w'.cell? ⟨gb101, 3, none⟩ = some (.slice (some ad114) l0_3.length c0_3) ∧ w'.cell? ad114 = some (.int .i64 ((Y2 l0_3 0).f0)) ∧ w'.cell? ⟨ad114.block, ad114.off + 1, none⟩ = some (.string ((Y2 l0_3 0).f1)) ∧ w'.cell? ⟨ad114.block, ad114.off + 2, none⟩ = some (.slice A114_2 ((Y2 l0_3 0).f2).length c114_2) ∧ w'.cell? ⟨ad114.block, ad114.off + 3, none⟩ = some (.slice A114_3 ((Y2 l0_3 0).f3).length c114_3)) (ds := []) bz10_0 Z6 rfl rfl ⟨(Y1 BK101.out 0).trans rfl, (Y1 BK101.out 1).trans rfl, (Y1 BK101.out 2).trans rfl, (Y1 BK101.out 3).trans rfl, ((HB.out.cell (World.block_lt_of_cell? w _ hw114_0)).trans hw114_0), ((HB.out.cell (World.block_lt_of_cell? w _ hw114_1)).trans hw114_1), ((HB.out.cell (World.block_lt_of_cell? w _ hw114_2)).trans hw114_2), ((HB.out.cell (World.block_lt_of_cell? w _ hw114_3)).trans hw114_3)⟩ (fun hHeld => ?_); refine YW Y7.tab19 Y7.bits19 (fun HT_ HW_ => ?_)
        generalize w60.drew = w62 at BK101 HB HR114_2 HR114_3 hx114_0 hx114_1 hx114_2 hx114_3 hHeld ⊢
        refine pY 0 73 bz10_1 ?_
        refine pY 5 78 bz10_21 ?_
        refine pT 1 74 bz10_23 ?_
        refine pY 2 75 bz10_27 ?_
        refine pT 3 76 bz10_2f ?_
        refine pT 6 79 bz10_6f ?_
        refine Y2b (i := 4) (N := some 77) bz10_7f rfl rfl (Y16 HT_.out Z6) (by decide) (fun K hK => ?_)
        refine Y1r Tryd.func58 Z6 rfl #[.agg #[.int .i64 ((Y2 l0_3 0).f0), .string ((Y2 l0_3 0).f1), .slice A114_2 ((Y2 l0_3 0).f2).length c114_2, .slice A114_3 ((Y2 l0_3 0).f3).length c114_3]] (by rfl) rfl rfl Z0 ?_
        with_reducible refine ((ih k (by omega)).2 ((Y2 l0_3 0).f0) ((Y2 l0_3 0).f1) _ _ ((Y2 l0_3 0).f2) _ _ ((Y2 l0_3 0).f3) t115 _ ?side1 ?side2 ?side3 ?side4 A57.out).mono ?_
        (case side1 => exact Z1h)
        (case side2 => exact HC114_2.out)
        (case side3 => exact Z1i)
        (case side4 => exact HC114_3.out)
        rintro e w63 ⟨rfl, hb⟩
        refine ⟨_, rfl, ?_⟩
        have n_ := Y2i (Yj (g := gb101) (o := .cells #[.int .i64 a0_0, .string a0_1, .slice A0_2 l0_2.length c0_2, .slice (some ad114) l0_3.length c0_3] 37 (0, 0)) QQ hb) (Y6 QB hb)
        clear BK101
        clear HB
        obtain ⟨BK101, HB⟩ := n_
        (try clear hb)
        (try clear hb2)
        (try clear hk)
        (try clear hi)
        refine hK.out _ _ ⟨(Y1 BK101.out 0).trans rfl, (Y1 BK101.out 1).trans rfl, (Y1 BK101.out 2).trans rfl, (Y1 BK101.out 3).trans rfl, ((HB.out.cell (World.block_lt_of_cell? w _ hw114_0)).trans hw114_0), ((HB.out.cell (World.block_lt_of_cell? w _ hw114_1)).trans hw114_1), ((HB.out.cell (World.block_lt_of_cell? w _ hw114_2)).trans hw114_2), ((HB.out.cell (World.block_lt_of_cell? w _ hw114_3)).trans hw114_3)⟩ (fun hHeld => ?_)
        clear hK K
        refine Y1k (a' := ?_) ?_ ?_
        rotate_left
        ·show Act.put _ (some 77) _ = _
         simp only [Act.put, List.setIfInBounds_toArray, List.set_cons_zero, List.set_cons_succ, Y14, Y15]
         rfl
        refine Y2b (i := 7) (N := some 80) bz10_ff rfl rfl (Y16 HT_.out Z6) (by decide) (fun K hK => ?_)
        refine Y1r Tryd.func59 Z6 rfl #[.int .i64 a0_0] (by rfl) rfl rfl Z0 ?_
        with_reducible refine (Y1e.calls a0_0 t116 _ A58.out).mono ?_
        rintro e w' ⟨rfl, ⟨nd, rfl⟩⟩
        refine ⟨_, rfl, ?_⟩
        refine hK.out _ _ ⟨(Y1 BK101.out 0).trans rfl, (Y1 BK101.out 1).trans rfl, (Y1 BK101.out 2).trans rfl, (Y1 BK101.out 3).trans rfl, ((HB.out.cell (World.block_lt_of_cell? w _ hw114_0)).trans hw114_0), ((HB.out.cell (World.block_lt_of_cell? w _ hw114_1)).trans hw114_1), ((HB.out.cell (World.block_lt_of_cell? w _ hw114_2)).trans hw114_2), ((HB.out.cell (World.block_lt_of_cell? w _ hw114_3)).trans hw114_3)⟩ (fun hHeld => ?_)
        clear hK K
        refine Y1k (a' := ?_) ?_ ?_
        rotate_left
        ·show Act.put _ (some 80) _ = _
         simp only [Act.put, List.setIfInBounds_toArray, List.set_cons_zero, List.set_cons_succ, Y14, Y15]
         rfl
        refine pY 8 81 bz10_1ff ?_
        refine pY 9 2 bz10_3ff ?_
        refine Y1O (Y1a HT_.out Z6) ?_
        try go_wp2
        go_ret
        exact Z1F
       ·rw [if_neg c59] at H
        exact Zh
      ·rw [if_neg c56] at H
       exact Zh
set_option maxHeartbeats 8000000 in
set_option maxRecDepth 100000 in
theorem Yz.step (k : Nat) (ih : ∀ j_ < k, Y7.Spec j_ ∧ Yz.Spec j_) : ∀ (a0_0 : Int) (a0_1 : ByteArray) (A0_2 : Option Addr) (c0_2 : Nat) (l0_2 : List ByteArray) (A0_3 : Option Addr) (c0_3 : Nat) (l0_3 : List (S37)) (r : ByteArray) (w : World) (hr0_2 : Kd.C Kd.string w A0_2 l0_2.length l0_2) (hc0_2 : l0_2.length ≤ c0_2) (hr0_3 : Kd.C k37 w A0_3 l0_3.length l0_3) (hc0_3 : l0_3.length ≤ c0_3) (h : Yz.f k a0_0 a0_1 l0_2 l0_3 = some r),
  Calls Tryd.prog 58 #[.agg #[.int .i64 a0_0, .string a0_1, .slice A0_2 l0_2.length c0_2, .slice A0_3 l0_3.length c0_3]] w fun e w' => e = .returned (.string r) ∧ Below w.heap.size w w' := by
 intro a0_0 a0_1 A0_2 c0_2 l0_2 A0_3 c0_3 l0_3 r w hr0_2 hc0_2 hr0_3 hc0_3 h
 cases k with
 | zero => exact absurd h (by simp [Yz.f])
 | succ k =>
 simp only [Yz.f] at h
 have hu37 := Tryd.underlying37
 have HR0_2 := Y0.mk hr0_2
 have HC0_2 := Y0.mk hc0_2
 clear hr0_2 hc0_2
 have HR0_3 := Y0.mk hr0_3
 have HC0_3 := Y0.mk hc0_3
 clear hr0_3 hc0_3
 have HB := Y0.mk (Below.refl w.heap.size w)
 have H : (if a0_0 = 1 then ((Y7.f k a0_0 a0_1 l0_2 l0_3).bind fun t118 => (some t118)) else ((Y7.f k a0_0 a0_1 l0_2 l0_3).bind fun t119 => (if 1 + t119.size ≤ 9223372036854775807 then (if 1 + t119.size + 1 ≤ 9223372036854775807 then (some (((⟨#[40]⟩ : ByteArray) ++ t119) ++ (⟨#[41]⟩ : ByteArray))) else (none)) else (none)))) = some r := h
 clear h
 by_cases c2 : a0_0 = 1
 ·rw [if_pos c2] at H
  have c2b0 : (a0_0 == 1) = true := beq_iff_eq.mpr c2
  have c2b1 : (a0_0 != 1) = false := bne_eq_false_iff_eq.mpr c2
  clear c2
  replace H := Option.bind_eq_some_iff.mp H
  obtain ⟨t118, A30, H⟩ := H
  replace H : (some t118) = some r := H
  have A3 := Y0.mk A30
  clear A30
  obtain rfl := Option.some.inj H
  go_enter Tryd.func58, Tryd.ntmps58
  go_wp2_with (first | ((with_reducible refine YF (N := 1) rfl ?_); refine YA ?hg (N := 1) ?hd (cs := #[.int .i64 a0_0, .string a0_1, .slice A0_2 l0_2.length c0_2, .slice A0_3 l0_3.length c0_3]) (t := 37) ?hr ?_; (case hd => rfl); (case hg => rfl); (case hr => exact Za); intro gb117 hg w4 hbox hb; have n_ := Y2x (Y6 QB hb) (hbox) ((by rw [hg]; exact (Ya QB) : w.heap.size ≤ gb117)) ((by rw [hg]; exact (Ya QB) : w.heap.size ≤ gb117)); clear HB; obtain ⟨HB, BK117, GW117, GE117⟩ := n_; clear hb hbox hg; obtain ⟨hcz5_0, hcz5_1, hcz5_2, hcz5_3, hfz5_0, hfz5_1, hfz5_2, hfz5_3⟩ := YD BK117.out) | ((with_reducible refine Yw (f := 29) rfl ?_); refine YV (some 7) rfl rfl Tryd.func29 Z6 rfl #[.agg #[.int .i64 a0_0, .string a0_1, .slice A0_2 l0_2.length c0_2, .slice A0_3 l0_3.length c0_3]] rfl Z0 ?_; (with_reducible refine ((ih k (by omega)).1 a0_0 a0_1 _ _ l0_2 _ _ l0_3 t118 _ ?side1 ?side2 ?side3 ?side4 A3.out).mono ?_); (case side1 => exact Z5); (case side2 => exact Z10); (case side3 => exact Z7); (case side4 => exact Z13); rintro e w6 ⟨rfl, hb⟩; refine ⟨_, rfl, ?_⟩; have n_ := Y2i (Yj (g := gb117) (o := .cells #[.int .i64 a0_0, .string a0_1, .slice A0_2 l0_2.length c0_2, .slice A0_3 l0_3.length c0_3] 37 (0, 0)) QQ hb) (Y6 QB hb); clear BK117 HB; obtain ⟨BK117, HB⟩ := n_; (try clear hb); (try clear hb2); (try clear hk); (try clear hi)))
  go_ret
  exact Z1F
 ·rw [if_neg c2] at H
  have c2b0 : (a0_0 == 1) = false := beq_eq_false_iff_ne.mpr c2
  have c2b1 : (a0_0 != 1) = true := bne_iff_ne.mpr c2
  replace H := Option.bind_eq_some_iff.mp H
  obtain ⟨t119, A70, H⟩ := H
  replace H : (if 1 + t119.size ≤ 9223372036854775807 then (if 1 + t119.size + 1 ≤ 9223372036854775807 then (some (((⟨#[40]⟩ : ByteArray) ++ t119) ++ (⟨#[41]⟩ : ByteArray))) else (none)) else (none)) = some r := H
  have A7 := Y0.mk A70
  clear A70
  by_cases c8 : 1 + t119.size ≤ 9223372036854775807
  ·rw [if_pos c8] at H
   have c8b0 := eq_true c8
   have c8b1 : decide (1 + t119.size ≤ 9223372036854775807) = true := decide_eq_true c8
   try have c8b2 : (9223372036854775807 < 1 + t119.size) = False := eq_false (Nat.not_lt.2 c8)
   by_cases c9 : 1 + t119.size + 1 ≤ 9223372036854775807
   ·rw [if_pos c9] at H
    have c9b0 := eq_true c9
    have c9b1 : decide (1 + t119.size + 1 ≤ 9223372036854775807) = true := decide_eq_true c9
    try have c9b2 : (9223372036854775807 < 1 + t119.size + 1) = False := eq_false (Nat.not_lt.2 c9)
    obtain rfl := Option.some.inj H
    go_enter Tryd.func58, Tryd.ntmps58
    go_wp2_with (first | ((with_reducible refine YF (N := 1) rfl ?_); refine YA ?hg (N := 1) ?hd (cs := #[.int .i64 a0_0, .string a0_1, .slice A0_2 l0_2.length c0_2, .slice A0_3 l0_3.length c0_3]) (t := 37) ?hr ?_; (case hd => rfl); (case hg => rfl); (case hr => exact Za); intro gb117 hg w10 hbox hb; have n_ := Y2x (Y6 QB hb) (hbox) ((by rw [hg]; exact (Ya QB) : w.heap.size ≤ gb117)) ((by rw [hg]; exact (Ya QB) : w.heap.size ≤ gb117)); clear HB; obtain ⟨HB, BK117, GW117, GE117⟩ := n_; clear hb hbox hg; obtain ⟨hcz11_0, hcz11_1, hcz11_2, hcz11_3, hfz11_0, hfz11_1, hfz11_2, hfz11_3⟩ := YD BK117.out) | ((with_reducible refine Yw (f := 29) rfl ?_); refine YV (some 9) rfl rfl Tryd.func29 Z6 rfl #[.agg #[.int .i64 a0_0, .string a0_1, .slice A0_2 l0_2.length c0_2, .slice A0_3 l0_3.length c0_3]] rfl Z0 ?_; (with_reducible refine ((ih k (by omega)).1 a0_0 a0_1 _ _ l0_2 _ _ l0_3 t119 _ ?side1 ?side2 ?side3 ?side4 A7.out).mono ?_); (case side1 => exact Z5); (case side2 => exact Z10); (case side3 => exact Z7); (case side4 => exact Z13); rintro e w12 ⟨rfl, hb⟩; refine ⟨_, rfl, ?_⟩; have n_ := Y2i (Yj (g := gb117) (o := .cells #[.int .i64 a0_0, .string a0_1, .slice A0_2 l0_2.length c0_2, .slice A0_3 l0_3.length c0_3] 37 (0, 0)) QQ hb) (Y6 QB hb); clear BK117 HB; obtain ⟨BK117, HB⟩ := n_; (try clear hb); (try clear hb2); (try clear hk); (try clear hi)))
    go_ret
    exact Z1F
   ·rw [if_neg c9] at H
    exact Zh
  ·rw [if_neg c8] at H
   exact Zh
theorem Y7.joint : ∀ k, Y7.Spec k ∧ Yz.Spec k := by
 intro k
 induction k using Nat.strongRecOn with
 | _ k ih => exact ⟨Y7.step k ih, Yz.step k ih⟩
theorem Y7.calls (k : Nat) : Y7.Spec k := (Y7.joint k).1
mutual
def triviumlaw12_QueryTells.j0 : Nat → Bool → Int → ByteArray → List ByteArray → List (S37) → Int → ByteArray → List ByteArray → List (S37) → Option (Bool)
 | 0, _, _, _, _, _, _, _, _, _ => none
 | k + 1, x10, x102000, x102001, x102002, x102003, x103000, x103001, x103002, x103003 => if x10 = true then (some true) else ((Y17.f k x102000 x102001 x102002 x102003).bind fun t105 => ((YU.f k x102000 x102001 x102002 x102003).bind fun t106 => (if (t105 != t106) = true then (triviumlaw12_QueryTells.j1 k true x102000 x102001 x102002 x102003) else ((YH.f k x102000 x102001 x102002 x102003 x103000 x103001 x103002 x103003).bind fun t107 => ((Y4.f k x102000 x102001 x102002 x102003 x103000 x103001 x103002 x103003).bind fun t108 => (if (t107 != t108) = true then (triviumlaw12_QueryTells.j1 k true x102000 x102001 x102002 x102003) else ((YH.f k x102000 x102001 x102002 x102003 x102000 x102001 x102002 x102003).bind fun t109 => (triviumlaw12_QueryTells.j1 k (!t109) x102000 x102001 x102002 x102003))))))))
def triviumlaw12_QueryTells.j1 : Nat → Bool → Int → ByteArray → List ByteArray → List (S37) → Option (Bool)
 | 0, _, _, _, _, _ => none
 | k + 1, x30, x102000, x102001, x102002, x102003 => if x30 = true then (some false) else ((YU.f k x102000 x102001 x102002 x102003).bind fun t110 => (if t110 = true then ((YC.f k x102000 x102001 x102002 x102003).bind fun t111 => ((Y7.f k x102000 x102001 x102002 x102003).bind fun t112 => (if t111.toList = t112.toList then ((YO.f k).bind fun t113 => (some t113)) else (some false)))) else ((YO.f k).bind fun t114 => (some t114))))
end
def triviumlaw12_QueryTells.f (k : Nat) (a0_0 : Int) (a0_1 : ByteArray) (l0_2 : List ByteArray) (l0_3 : List (S37)) (a1_0 : Int) (a1_1 : ByteArray) (l1_2 : List ByteArray) (l1_3 : List (S37)) : Option (Bool) := (Yn.f k a0_0 a0_1 l0_2 l0_3 0).bind fun t103 => (if t103 = true then (triviumlaw12_QueryTells.j0 k true a0_0 a0_1 l0_2 l0_3 a1_0 a1_1 l1_2 l1_3) else ((Yn.f k a1_0 a1_1 l1_2 l1_3 0).bind fun t104 => (triviumlaw12_QueryTells.j0 k t104 a0_0 a0_1 l0_2 l0_3 a1_0 a1_1 l1_2 l1_3)))
def triviumlaw12_QueryTells.T3 : Bool × List (List Nat × List Nat) := (true, [([], []), ([0], [0]), ([], []), ([2, 1], [2]), ([1, 3], [1, 3]), ([4, 3], [4]), ([5], [5]), ([5], [5]), ([6, 7, 5, 5], [5, 6, 7]), ([5], [5]), ([5], [5]), ([9, 10, 8, 5], [5, 9, 10]), ([8, 11, 5], [5, 8, 11]), ([5, 12], [5, 12]), ([13, 11], [13]), ([14], [14]), ([14], [14]), ([15, 16, 14, 14], [14, 15, 16]), ([17, 14], [14, 17]), ([14, 18], [14, 18])])
def triviumlaw12_QueryTells.B3 : List Nat := [0, 1, 0, 7, 15, 31, 63, 63, 255, 63, 63, 2047, 4095, 8191, 16383, 32767, 32767, 131071, 262143, 524287]
theorem triviumlaw12_QueryTells.tab3 : Y38 .any (Y3n Tryd.f11 3) = triviumlaw12_QueryTells.T3 := by kernel_rfl
theorem triviumlaw12_QueryTells.bits3 : Y1U triviumlaw12_QueryTells.T3.2 triviumlaw12_QueryTells.B3 = true := by kernel_rfl
def triviumlaw12_QueryTells.T5 : Bool × List (List Nat × List Nat) := (true, [([], []), ([0], [0]), ([1], [1]), ([2, 1], [2]), ([3], [3]), ([4, 3, 3], [3, 4]), ([3], [3]), ([6, 5, 3], [3, 6]), ([5, 7, 3], [3, 5, 7]), ([3, 8], [3, 8]), ([9, 7], [9]), ([10, 10], [10]), ([10, 11], [10, 11]), ([12, 11, 0, 1, 2, 3, 4, 5, 6, 7, 8, 9, 10, 11, 12], [12])])
def triviumlaw12_QueryTells.B5 : List Nat := [0, 1, 3, 7, 15, 31, 15, 127, 255, 511, 1023, 2047, 4095, 8191]
theorem triviumlaw12_QueryTells.tab5 : Y38 .any (Y3n Tryd.f11 5) = triviumlaw12_QueryTells.T5 := by kernel_rfl
theorem triviumlaw12_QueryTells.bits5 : Y1U triviumlaw12_QueryTells.T5.2 triviumlaw12_QueryTells.B5 = true := by kernel_rfl
end Go.Proofs.YtbpbfboaofkpaaaDoor.Print
end
