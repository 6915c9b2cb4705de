/- Proofs for this claim: printed by our driver and joined by pack.py; the last text holds the statement. -/
import Derived.Test.YtbpbfboaofkpaaaDoorQuQ1
set_option linter.unusedSimpArgs false
section
namespace Go.Proofs.YtbpbfboaofkpaaaDoor.Print
open Go.RowKit Go.Proofs.YtbpbfboaofkpaaaDoorW.PrintWords Go.Proofs.YtbpbfboaofkpaaaDoorW.PrintLast Go.Proofs.YtbpbfboaofkpaaaDoorW.PrintMore
attribute [local go_sem] max2_int min2_int max_two min_two max_three min_three max_four min_four
set_option linter.unusedVariables false
set_option linter.unusedSimpArgs false
set_option maxHeartbeats 8000000 in
set_option maxRecDepth 100000 in
theorem Yj.calls (k : Nat) : ∀ (a0_0 : Int) (a0_1 : ByteArray) (A0_2 : Option Addr) (c0_2 : Nat) (l0_2 : List ByteArray) (A0_3 : Option Addr) (c0_3 : Nat) (l0_3 : List (S37)) (a1 : Int) (r : Int) (w : World) (hT : Tabs w) (hr0_2 : Kd.C Kd.string w A0_2 l0_2.length l0_2) (hc0_2 : l0_2.length ≤ c0_2) (hr0_3 : Kd.C k37 w A0_3 l0_3.length l0_3) (hc0_3 : l0_3.length ≤ c0_3) (h : Yj.f k a0_0 a0_1 l0_2 l0_3 a1 = some r),
  Calls Tryd.prog 62 #[.agg #[.int .i64 a0_0, .string a0_1, .slice A0_2 l0_2.length c0_2, .slice A0_3 l0_3.length c0_3], .int .i64 a1] w fun e w' => e = .returned (.int .i64 r) ∧ Below w.heap.size w w' := by
 induction k using Nat.strongRecOn with
 | _ k ih =>
 intro a0_0 a0_1 A0_2 c0_2 l0_2 A0_3 c0_3 l0_3 a1 r w hT hr0_2 hc0_2 hr0_3 hc0_3 h
 cases k with
 | zero => exact absurd h (by simp [Yj.f])
 | succ k =>
 simp only [Yj.f] at h
 have HT := Y0.mk hT
 clear hT
 have hu37 := Tryd.underlying37
 have HR0_2 := Y0.mk hr0_2
 have HC0_2 := Y0.mk hc0_2
 clear hr0_2 hc0_2
 have HR0_3 := Y0.mk hr0_3
 have HC0_3 := Y0.mk hc0_3
 clear hr0_3 hc0_3
 have HB := Y0.mk (Below.refl w.heap.size w)
 have H : (if a1 > 5 then (some (-1)) else ((Yx.f k a0_0).bind fun t102 => (if (l0_3.length : Int) = t102 then (if ((a0_0 == 1) == (a0_1.toList != ([] : List UInt8))) = true then (if ((a0_0 == 8) == (decide ((l0_2.length : Int) > 0))) = true then (if (l0_2.length : Int) > 4 then (some (-1)) else (if a0_1.toList = ([] : List UInt8) then ((Yk.f k l0_2).bind fun t103 => (if t103 = true then (some (-1)) else (Yj.l0 k a1 1 l0_3 (l0_3.length : Int) 0))) else ((Y19.f a0_1).bind fun t107 => (if t107 = true then (some (-1)) else ((Yk.f k l0_2).bind fun t108 => (if t108 = true then (some (-1)) else (Yj.l0 k a1 1 l0_3 (l0_3.length : Int) 0))))))) else (some (-1))) else (some (-1))) else (some (-1))))) = some r := h
 clear h
 by_cases c3 : a1 > 5
 ·rw [if_pos c3] at H
  have c3b0 : decide (5 < a1) = true := decide_eq_true c3
  clear c3
  obtain rfl := Option.some.inj H
  go_enter Tryd.func62, Tryd.ntmps62
  try go_wp2_with (first | ((with_reducible refine Ym (N := 2) rfl ?_); (try (refine YH (by rfl) ?_; dsimp only)); refine Yl ?hg (N := 2) ?hd (cs := #[.int .i64 a0_0, .string a0_1, .slice A0_2 l0_2.length c0_2, .slice A0_3 l0_3.length c0_3]) (t := 37) ?hr ?_; (case hd => rfl); (case hg => rfl); (case hr => exact Z6); intro gb101 hg w4 hbox hb; have n_ := Y1T (Y5 QB hb) (hbox) ((by rw [hg]; exact (Y6 QB) : w.heap.size ≤ gb101)) ((by rw [hg]; exact (Y6 QB) : w.heap.size ≤ gb101)); clear HB; obtain ⟨HB, BK101, GW101, GE101⟩ := n_; clear hb hbox hg; obtain ⟨hcz5_0, hcz5_1, hcz5_2, hcz5_3, hfz5_0, hfz5_1, hfz5_2, hfz5_3⟩ := Yt BK101.out))
  have n_ := Y2d (Y8 BK101.out) (YI HB.out)
  clear BK101
  clear HB
  obtain ⟨BK101, HB⟩ := n_
  refine Y1v (n := 40) (S := fun w' => True) (ds := []) Y27 Z4 rfl rfl trivial (fun hHeld => ?_); refine YT Yj.tab3 Yj.bits3 (fun HT_ HW_ => ?_)
  generalize w4.drew = w6 at BK101 HB hHeld ⊢
  refine pY 0 26 Y28 ?_
  refine pY 1 27 Y29 ?_
  refine pY 2 28 Y2a ?_
  refine pU 3 29 Y2b ?_
  refine pU 4 30 bz40_1f ?_
  refine pU 5 31 bz40_3f ?_
  refine pU 6 32 Y1R ?_
  refine pU 7 33 Y1S ?_
  refine pU 8 34 Y1I ?_
  refine pU 9 35 Y1J ?_
  refine pY 10 36 Y1K ?_
  refine pY 11 37 Y1L ?_
  refine pU 12 38 Y1y ?_
  refine pU 13 39 Y1z ?_
  refine pY 14 40 Y1A ?_
  refine pY 15 41 Y1B ?_
  refine pU 16 42 Y1o ?_
  refine pU 17 43 Y1p ?_
  refine pY 18 44 Y1q ?_
  refine pY 19 45 Y1r ?_
  refine pU 20 46 Y1h ?_
  refine pU 21 47 Y1i ?_
  refine pU 22 48 Y1j ?_
  refine pU 23 49 Y1k ?_
  refine pY 24 50 Y1b ?_
  refine pY 25 51 Y1c ?_
  refine pU 26 52 Y1d ?_
  refine pU 27 53 Y1e ?_
  refine pU 28 54 Y13 ?_
  refine pU 29 55 Y14 ?_
  refine pU 30 56 Y15 ?_
  refine pU 31 57 Y16 ?_
  refine pU 32 58 YU ?_
  refine pU 33 59 YV ?_
  refine pY 34 60 YW ?_
  refine pY 35 61 YX ?_
  refine pU 36 62 YP ?_
  refine pU 37 63 YQ ?_
  refine pU 38 64 YR ?_
  refine pY 39 65 YS ?_
  refine Y1Q (Y1n HT_.out Z4) ?_
  try go_wp2
  go_ret
  exact Z1y
 ·rw [if_neg c3] at H
  have c3b0 : decide (5 < a1) = false := decide_eq_false c3
  clear c3
  replace H := Option.bind_eq_some_iff.mp H
  obtain ⟨t102, A70, H⟩ := H
  replace H : (if (l0_3.length : Int) = t102 then (if ((a0_0 == 1) == (a0_1.toList != ([] : List UInt8))) = true then (if ((a0_0 == 8) == (decide ((l0_2.length : Int) > 0))) = true then (if (l0_2.length : Int) > 4 then (some (-1)) else (if a0_1.toList = ([] : List UInt8) then ((Yk.f k l0_2).bind fun t103 => (if t103 = true then (some (-1)) else (Yj.l0 k a1 1 l0_3 (l0_3.length : Int) 0))) else ((Y19.f a0_1).bind fun t107 => (if t107 = true then (some (-1)) else ((Yk.f k l0_2).bind fun t108 => (if t108 = true then (some (-1)) else (Yj.l0 k a1 1 l0_3 (l0_3.length : Int) 0))))))) else (some (-1))) else (some (-1))) else (some (-1))) = some r := H
  have A7 := Y0.mk A70
  clear A70
  by_cases c8 : (l0_3.length : Int) = t102
  ·rw [if_pos c8] at H
   have c8b0 : ((l0_3.length : Int) == t102) = true := beq_iff_eq.mpr c8
   have c8b1 : ((l0_3.length : Int) != t102) = false := bne_eq_false_iff_eq.mpr c8
   clear c8
   by_cases c9 : ((a0_0 == 1) == (a0_1.toList != ([] : List UInt8))) = true
   ·rw [if_pos c9] at H
    have c9b0 : ((a0_0 == 1) == (a0_1.toList != ([] : List UInt8))) = true := c9
    (try (have c9b1 : ((a0_0 == 1) == !a0_1.toList.isEmpty) = true := by first | simpa using c9 | simpa [show ∀ l_ : List UInt8, (l_ != ([] : List UInt8)) = !l_.isEmpty from fun l_ => by cases l_ <;> rfl, show ∀ l_ : List UInt8, (l_ == ([] : List UInt8)) = l_.isEmpty from fun l_ => by cases l_ <;> rfl] using c9))
    (try (have c9b2 : (((a0_0 = 1) = (a0_1.toList != ([] : List UInt8)))) = True := eq_true (by simpa using c9)))
    (try (have c9b3 : decide ((a0_0 == 1) = (a0_1.toList != ([] : List UInt8))) = true := by simpa using c9))
    (try (have c9b4 : ((a0_0 == 1) == (a0_1.toList != ([] : List UInt8))) = true := by simpa using c9))
    clear c9
    by_cases c10 : ((a0_0 == 8) == (decide ((l0_2.length : Int) > 0))) = true
    ·rw [if_pos c10] at H
     have c10b0 : ((a0_0 == 8) == (decide ((l0_2.length : Int) > 0))) = true := c10
     (try (have c10b1 : ((a0_0 == 8) == decide (0 < l0_2.length)) = true := by first | simpa using c10 | simpa [show ∀ l_ : List UInt8, (l_ != ([] : List UInt8)) = !l_.isEmpty from fun l_ => by cases l_ <;> rfl, show ∀ l_ : List UInt8, (l_ == ([] : List UInt8)) = l_.isEmpty from fun l_ => by cases l_ <;> rfl] using c10))
     (try (have c10b2 : (((a0_0 = 8) = (decide ((l0_2.length : Int) > 0)))) = True := eq_true (by simpa using c10)))
     (try (have c10b3 : decide ((a0_0 == 8) = (decide ((l0_2.length : Int) > 0))) = true := by simpa using c10))
     (try (have c10b4 : ((a0_0 == 8) == (decide ((l0_2.length : Int) > 0))) = true := by simpa using c10))
     clear c10
     by_cases c11 : (l0_2.length : Int) > 4
     ·rw [if_pos c11] at H
      have c11b0 : decide (4 < (l0_2.length : Int)) = true := decide_eq_true c11
      have c11b1 : decide (4 < l0_2.length) = true := decide_eq_true (by omega)
      clear c11
      obtain rfl := Option.some.inj H
      go_enter Tryd.func62, Tryd.ntmps62
      try go_wp2_with (first | ((with_reducible refine Ym (N := 2) rfl ?_); (try (refine YH (by rfl) ?_; dsimp only)); refine Yl ?hg (N := 2) ?hd (cs := #[.int .i64 a0_0, .string a0_1, .slice A0_2 l0_2.length c0_2, .slice A0_3 l0_3.length c0_3]) (t := 37) ?hr ?_; (case hd => rfl); (case hg => rfl); (case hr => exact Z6); intro gb101 hg w12 hbox hb; have n_ := Y1T (Y5 QB hb) (hbox) ((by rw [hg]; exact (Y6 QB) : w.heap.size ≤ gb101)) ((by rw [hg]; exact (Y6 QB) : w.heap.size ≤ gb101)); clear HB; obtain ⟨HB, BK101, GW101, GE101⟩ := n_; clear hb hbox hg; obtain ⟨hcz13_0, hcz13_1, hcz13_2, hcz13_3, hfz13_0, hfz13_1, hfz13_2, hfz13_3⟩ := Yt BK101.out))
      have n_ := Y2d (Y8 BK101.out) (YI HB.out)
      clear BK101
      clear HB
      obtain ⟨BK101, HB⟩ := n_
      refine Y1v (n := 40) (S := fun w' => w'.cell? ⟨gb101, 0, none⟩ = some (.int .i64 a0_0) ∧ w'.cell? ⟨gb101, 1, none⟩ = some (.string a0_1) ∧ w'.cell? ⟨gb101, 2, none⟩ = some (.slice A0_2 l0_2.length c0_2) ∧ w'.cell? ⟨gb101, 3, none⟩ = some (.slice A0_3 l0_3.length c0_3)) (ds := []) Y27 Z4 rfl rfl ⟨(Y2 BK101.out 0).trans rfl, (Y2 BK101.out 1).trans rfl, (Y2 BK101.out 2).trans rfl, (Y2 BK101.out 3).trans rfl⟩ (fun hHeld => ?_); refine YT Yj.tab3 Yj.bits3 (fun HT_ HW_ => ?_)
      generalize w12.drew = w14 at BK101 HB hHeld ⊢
      refine pY 0 26 Y28 ?_
      refine pY 1 27 Y29 ?_
      refine pY 2 28 Y2a ?_
      refine pY 3 29 Y2b ?_
      refine pY 6 32 Y1V ?_
      refine pT 4 30 Y1W ?_
      refine pY 5 31 Y1R ?_
      refine pT 7 33 Y1S ?_
      refine Y23 (i := 8) (N := some 34) Y1I rfl rfl (Y1f HT_.out Z4) (by decide) (fun K hK => ?_)
      refine Y1G Tryd.func98 Z4 rfl #[.int .i64 a0_0] (by rfl) rfl rfl Z0 ?_
      with_reducible refine (Yx.calls k a0_0 t102 _ A7.out).mono ?_
      rintro e w' ⟨rfl, ⟨nd, rfl⟩⟩
      refine ⟨_, rfl, ?_⟩
      refine hK.out _ _ ⟨(Y2 BK101.out 0).trans rfl, (Y2 BK101.out 1).trans rfl, (Y2 BK101.out 2).trans rfl, (Y2 BK101.out 3).trans rfl⟩ (fun hHeld => ?_)
      clear hK K
      refine Y1w (a' := ?_) ?_ ?_
      rotate_left
      ·show Act.put _ (some 34) _ = _
       simp only [Act.put, List.setIfInBounds_toArray, List.set_cons_zero, List.set_cons_succ, Y11, Y18]
       rfl
      refine pY 9 35 Y1J ?_
      refine pY 10 36 Y1K ?_
      refine pY 11 37 Y1L ?_
      refine pY 12 38 Y1y ?_
      refine pY 13 39 Y1z ?_
      refine pY 14 40 Y1A ?_
      refine pY 15 41 Y1B ?_
      refine pY 16 42 Y1o ?_
      refine pY 17 43 Y1p ?_
      refine pY 18 44 Y1q ?_
      refine pY 19 45 Y1r ?_
      refine pY 20 46 Y1h ?_
      refine pT 21 47 Y1i ?_
      refine pY 22 48 Y1j ?_
      refine pY 23 49 Y1k ?_
      refine pY 24 50 Y1b ?_
      refine pY 25 51 Y1c ?_
      refine pU 26 52 Y1d ?_
      refine pU 27 53 Y1e ?_
      refine pU 28 54 Y13 ?_
      refine pU 29 55 Y14 ?_
      refine pU 30 56 Y15 ?_
      refine pU 31 57 Y16 ?_
      refine pU 32 58 YU ?_
      refine pU 33 59 YV ?_
      refine pY 34 60 YW ?_
      refine pY 35 61 YX ?_
      refine pU 36 62 YP ?_
      refine pU 37 63 YQ ?_
      refine pU 38 64 YR ?_
      refine pY 39 65 YS ?_
      refine Y1Q (Y1n HT_.out Z4) ?_
      try go_wp2
      go_ret
      exact Z1y
     ·rw [if_neg c11] at H
      have c11b0 : decide (4 < (l0_2.length : Int)) = false := decide_eq_false c11
      have c11b1 : decide (4 < l0_2.length) = false := decide_eq_false (by omega)
      clear c11
      by_cases c15 : a0_1.toList = ([] : List UInt8)
      ·rw [if_pos c15] at H
       have c15b0 : (a0_1.toList == ([] : List UInt8)) = true := beq_iff_eq.mpr c15
       have c15b1 : (a0_1.toList != ([] : List UInt8)) = false := bne_eq_false_iff_eq.mpr c15
       (try (have c15c9b0_true : (a0_0 == 1) = true := by have z_ := c9b0; rw [c15b1] at z_; simpa using z_))
       (try (have c15c9b0_false : (a0_0 == 1) = false := by have z_ := c9b0; rw [c15b1] at z_; simpa using z_))
       clear c15
       replace H := Option.bind_eq_some_iff.mp H
       obtain ⟨t103, A160, H⟩ := H
       replace H : (if t103 = true then (some (-1)) else (Yj.l0 k a1 1 l0_3 (l0_3.length : Int) 0)) = some r := H
       have A16 := Y0.mk A160
       clear A160
       by_cases c17 : t103 = true
       ·subst c17
        have H1 : (some (-1)) = some r := by rw [if_pos rfl] at H; exact H
        clear H
        have H := H1
        clear H1
        obtain rfl := Option.some.inj H
        go_enter Tryd.func62, Tryd.ntmps62
        try go_wp2_with (first | ((with_reducible refine Ym (N := 2) rfl ?_); (try (refine YH (by rfl) ?_; dsimp only)); refine Yl ?hg (N := 2) ?hd (cs := #[.int .i64 a0_0, .string a0_1, .slice A0_2 l0_2.length c0_2, .slice A0_3 l0_3.length c0_3]) (t := 37) ?hr ?_; (case hd => rfl); (case hg => rfl); (case hr => exact Z6); intro gb101 hg w18 hbox hb; have n_ := Y1T (Y5 QB hb) (hbox) ((by rw [hg]; exact (Y6 QB) : w.heap.size ≤ gb101)) ((by rw [hg]; exact (Y6 QB) : w.heap.size ≤ gb101)); clear HB; obtain ⟨HB, BK101, GW101, GE101⟩ := n_; clear hb hbox hg; obtain ⟨hcz19_0, hcz19_1, hcz19_2, hcz19_3, hfz19_0, hfz19_1, hfz19_2, hfz19_3⟩ := Yt BK101.out))
        have n_ := Y2d (Y8 BK101.out) (YI HB.out)
        clear BK101
        clear HB
        obtain ⟨BK101, HB⟩ := n_
        refine Y1v (n := 40) (S := fun w' => w'.cell? ⟨gb101, 0, none⟩ = some (.int .i64 a0_0) ∧ w'.cell? ⟨gb101, 1, none⟩ = some (.string a0_1) ∧ w'.cell? ⟨gb101, 2, none⟩ = some (.slice A0_2 l0_2.length c0_2) ∧ w'.cell? ⟨gb101, 3, none⟩ = some (.slice A0_3 l0_3.length c0_3)) (ds := []) Y27 Z4 rfl rfl ⟨(Y2 BK101.out 0).trans rfl, (Y2 BK101.out 1).trans rfl, (Y2 BK101.out 2).trans rfl, (Y2 BK101.out 3).trans rfl⟩ (fun hHeld => ?_); refine YT Yj.tab3 Yj.bits3 (fun HT_ HW_ => ?_)
        generalize w18.drew = w20 at BK101 HB hHeld ⊢
        refine pY 0 26 Y28 ?_
        refine pY 1 27 Y29 ?_
        refine pY 2 28 Y2a ?_
        refine pY 3 29 Y2b ?_
        refine pY 6 32 Y1V ?_
        refine pT 4 30 Y1W ?_
        refine pY 5 31 Y1R ?_
        refine pT 7 33 Y1S ?_
        refine Y23 (i := 8) (N := some 34) Y1I rfl rfl (Y1f HT_.out Z4) (by decide) (fun K hK => ?_)
        refine Y1G Tryd.func98 Z4 rfl #[.int .i64 a0_0] (by rfl) rfl rfl Z0 ?_
        with_reducible refine (Yx.calls k a0_0 t102 _ A7.out).mono ?_
        rintro e w' ⟨rfl, ⟨nd, rfl⟩⟩
        refine ⟨_, rfl, ?_⟩
        refine hK.out _ _ ⟨(Y2 BK101.out 0).trans rfl, (Y2 BK101.out 1).trans rfl, (Y2 BK101.out 2).trans rfl, (Y2 BK101.out 3).trans rfl⟩ (fun hHeld => ?_)
        clear hK K
        refine Y1w (a' := ?_) ?_ ?_
        rotate_left
        ·show Act.put _ (some 34) _ = _
         simp only [Act.put, List.setIfInBounds_toArray, List.set_cons_zero, List.set_cons_succ, Y11, Y18]
         rfl
        refine pY 9 35 Y1J ?_
        refine pY 10 36 Y1K ?_
        refine pY 11 37 Y1L ?_
        refine pY 12 38 Y1y ?_
        refine pY 13 39 Y1z ?_
        refine pY 14 40 Y1A ?_
        refine pY 15 41 Y1B ?_
        refine pY 16 42 Y1o ?_
        refine pY 17 43 Y1p ?_
        refine pY 18 44 Y1q ?_
        refine pY 19 45 Y1r ?_
        refine pY 20 46 Y1h ?_
        refine pT 21 47 Y1i ?_
        refine pY 22 48 Y1j ?_
        refine pY 23 49 Y1k ?_
        refine pY 24 50 Y1b ?_
        refine pY 25 51 Y1c ?_
        refine pY 26 52 Y1d ?_
        refine pT 27 53 Y1e ?_
        refine pY 28 54 Y13 ?_
        refine pY 29 55 Y14 ?_
        refine pU 30 56 Y15 ?_
        refine pU 31 57 Y16 ?_
        refine pU 32 58 YU ?_
        refine pY 33 59 YV ?_
        refine pY 34 60 YW ?_
        refine pY 35 61 YX ?_
        refine pY 36 62 YP ?_
        refine pT 37 63 YQ ?_
        refine Y23 (i := 38) (N := some 64) YR rfl rfl (Y1f HT_.out Z4) (by decide) (fun K hK => ?_)
        refine Y1G Tryd.func100 Z4 rfl #[.slice A0_2 l0_2.length c0_2, .func (.func 99) #[] #[]] (by rfl) rfl rfl Z0 ?_
        with_reducible refine (Yk.calls k _ _ l0_2  true _ ?side1 ?side2 ?side3 A16.out).mono ?_
        (case side1 => exact Z3)
        (case side2 => exact Z1a)
        (case side3 => exact HC0_2.out)
        rintro e w21 ⟨rfl, hb⟩
        refine ⟨_, rfl, ?_⟩
        have n_ := Y2d (Yh (g := gb101) (o := .cells #[.int .i64 a0_0, .string a0_1, .slice A0_2 l0_2.length c0_2, .slice A0_3 l0_3.length c0_3] 37 (0, 0)) QQ hb) (Y5 QB hb)
        clear BK101
        clear HB
        obtain ⟨BK101, HB⟩ := n_
        (try clear hb)
        (try clear hb2)
        (try clear hk)
        (try clear hi)
        refine hK.out _ _ ⟨(Y2 BK101.out 0).trans rfl, (Y2 BK101.out 1).trans rfl, (Y2 BK101.out 2).trans rfl, (Y2 BK101.out 3).trans rfl⟩ (fun hHeld => ?_)
        clear hK K
        refine Y1w (a' := ?_) ?_ ?_
        rotate_left
        ·show Act.put _ (some 64) _ = _
         simp only [Act.put, List.setIfInBounds_toArray, List.set_cons_zero, List.set_cons_succ, Y11, Y18]
         rfl
        refine pY 39 65 YS ?_
        refine Y1Q (Y1n HT_.out Z4) ?_
        try go_wp2
        go_ret
        exact Z1y
       ·replace c17 := Bool.eq_false_iff.mpr c17
        subst c17
        have H1 : (Yj.l0 k a1 1 l0_3 (l0_3.length : Int) 0) = some r := by rw [if_neg (show ¬ (false = true) by decide)] at H; exact H
        clear H
        have H := H1
        clear H1
        have H' := Y0.mk H
        clear H
        go_enter Tryd.func62, Tryd.ntmps62
        try go_wp2_with (first | ((with_reducible refine Ym (N := 2) rfl ?_); (try (refine YH (by rfl) ?_; dsimp only)); refine Yl ?hg (N := 2) ?hd (cs := #[.int .i64 a0_0, .string a0_1, .slice A0_2 l0_2.length c0_2, .slice A0_3 l0_3.length c0_3]) (t := 37) ?hr ?_; (case hd => rfl); (case hg => rfl); (case hr => exact Z6); intro gb101 hg w22 hbox hb; have n_ := Y1T (Y5 QB hb) (hbox) ((by rw [hg]; exact (Y6 QB) : w.heap.size ≤ gb101)) ((by rw [hg]; exact (Y6 QB) : w.heap.size ≤ gb101)); clear HB; obtain ⟨HB, BK101, GW101, GE101⟩ := n_; clear hb hbox hg; obtain ⟨hcz23_0, hcz23_1, hcz23_2, hcz23_3, hfz23_0, hfz23_1, hfz23_2, hfz23_3⟩ := Yt BK101.out))
        have n_ := Y2d (Y8 BK101.out) (YI HB.out)
        clear BK101
        clear HB
        obtain ⟨BK101, HB⟩ := n_
        refine Y1v (n := 40) (S := fun w' => w'.cell? ⟨gb101, 0, none⟩ = some (.int .i64 a0_0) ∧ w'.cell? ⟨gb101, 1, none⟩ = some (.string a0_1) ∧ w'.cell? ⟨gb101, 2, none⟩ = some (.slice A0_2 l0_2.length c0_2) ∧ w'.cell? ⟨gb101, 3, none⟩ = some (.slice A0_3 l0_3.length c0_3)) (ds := []) Y27 Z4 rfl rfl ⟨(Y2 BK101.out 0).trans rfl, (Y2 BK101.out 1).trans rfl, (Y2 BK101.out 2).trans rfl, (Y2 BK101.out 3).trans rfl⟩ (fun hHeld => ?_); refine YT Yj.tab3 Yj.bits3 (fun HT_ HW_ => ?_)
        generalize w22.drew = w24 at BK101 HB hHeld ⊢
        refine pY 0 26 Y28 ?_
        refine pY 1 27 Y29 ?_
        refine pY 2 28 Y2a ?_
        refine pY 3 29 Y2b ?_
        refine pY 6 32 Y1V ?_
        refine pT 4 30 Y1W ?_
        refine pY 5 31 Y1R ?_
        refine pT 7 33 Y1S ?_
        refine Y23 (i := 8) (N := some 34) Y1I rfl rfl (Y1f HT_.out Z4) (by decide) (fun K hK => ?_)
        refine Y1G Tryd.func98 Z4 rfl #[.int .i64 a0_0] (by rfl) rfl rfl Z0 ?_
        with_reducible refine (Yx.calls k a0_0 t102 _ A7.out).mono ?_
        rintro e w' ⟨rfl, ⟨nd, rfl⟩⟩
        refine ⟨_, rfl, ?_⟩
        refine hK.out _ _ ⟨(Y2 BK101.out 0).trans rfl, (Y2 BK101.out 1).trans rfl, (Y2 BK101.out 2).trans rfl, (Y2 BK101.out 3).trans rfl⟩ (fun hHeld => ?_)
        clear hK K
        refine Y1w (a' := ?_) ?_ ?_
        rotate_left
        ·show Act.put _ (some 34) _ = _
         simp only [Act.put, List.setIfInBounds_toArray, List.set_cons_zero, List.set_cons_succ, Y11, Y18]
         rfl
        refine pY 9 35 Y1J ?_
        refine pY 10 36 Y1K ?_
        refine pY 11 37 Y1L ?_
        refine pY 12 38 Y1y ?_
        refine pY 13 39 Y1z ?_
        refine pY 14 40 Y1A ?_
        refine pY 15 41 Y1B ?_
        refine pY 16 42 Y1o ?_
        refine pY 17 43 Y1p ?_
        refine pY 18 44 Y1q ?_
        refine pY 19 45 Y1r ?_
        refine pY 20 46 Y1h ?_
        refine pT 21 47 Y1i ?_
        refine pY 22 48 Y1j ?_
        refine pY 23 49 Y1k ?_
        refine pY 24 50 Y1b ?_
        refine pY 25 51 Y1c ?_
        refine pY 26 52 Y1d ?_
        refine pT 27 53 Y1e ?_
        refine pY 28 54 Y13 ?_
        refine pY 29 55 Y14 ?_
        refine pU 30 56 Y15 ?_
        refine pU 31 57 Y16 ?_
        refine pU 32 58 YU ?_
        refine pY 33 59 YV ?_
        refine pY 34 60 YW ?_
        refine pY 35 61 YX ?_
        refine pY 36 62 YP ?_
        refine pT 37 63 YQ ?_
        refine Y23 (i := 38) (N := some 64) YR rfl rfl (Y1f HT_.out Z4) (by decide) (fun K hK => ?_)
        refine Y1G Tryd.func100 Z4 rfl #[.slice A0_2 l0_2.length c0_2, .func (.func 99) #[] #[]] (by rfl) rfl rfl Z0 ?_
        with_reducible refine (Yk.calls k _ _ l0_2  false _ ?side1 ?side2 ?side3 A16.out).mono ?_
        (case side1 => exact Z3)
        (case side2 => exact Z1a)
        (case side3 => exact HC0_2.out)
        rintro e w25 ⟨rfl, hb⟩
        refine ⟨_, rfl, ?_⟩
        have n_ := Y2d (Yh (g := gb101) (o := .cells #[.int .i64 a0_0, .string a0_1, .slice A0_2 l0_2.length c0_2, .slice A0_3 l0_3.length c0_3] 37 (0, 0)) QQ hb) (Y5 QB hb)
        clear BK101
        clear HB
        obtain ⟨BK101, HB⟩ := n_
        (try clear hb)
        (try clear hb2)
        (try clear hk)
        (try clear hi)
        refine hK.out _ _ ⟨(Y2 BK101.out 0).trans rfl, (Y2 BK101.out 1).trans rfl, (Y2 BK101.out 2).trans rfl, (Y2 BK101.out 3).trans rfl⟩ (fun hHeld => ?_)
        clear hK K
        refine Y1w (a' := ?_) ?_ ?_
        rotate_left
        ·show Act.put _ (some 64) _ = _
         simp only [Act.put, List.setIfInBounds_toArray, List.set_cons_zero, List.set_cons_succ, Y11, Y18]
         rfl
        refine pY 39 65 YS ?_
        refine Y1Q (Y1n HT_.out Z4) ?_
        obtain ⟨hcz26_0, hcz26_1, hcz26_2, hcz26_3, hfz26_0, hfz26_1, hfz26_2, hfz26_3⟩ := Yt BK101.out
        try go_wp2
        go_loopg [7, 69] k (fun kq v7 v69 w' => ∃ (x7_1 : Int) (x69_1 : Int), v7 = .int .i64 x7_1 ∧ v69 = .int .i64 x69_1 ∧ Y0 (Yj.l0 kq a1 x7_1 l0_3 (l0_3.length : Int) x69_1 = some r) ∧ Y0 (kq ≤ k) ∧ Y0 (w'.heap[gb101]? = some (.cells #[.int .i64 a0_0, .string a0_1, (.slice A0_2 l0_2.length c0_2), (.slice A0_3 l0_3.length c0_3)] 37 (0, 0))) ∧ Y0 (Below w.heap.size w w'))
        case atStart => exact ⟨(1), (0), Zb, Zb, H', ⟨Nat.le_refl _⟩, ⟨Zf⟩, ⟨QB⟩⟩
        case round =>
         clear H'
         try clear c1
         try clear p2
         try clear c6
         try clear c9
         try clear c10
         try clear c17
         try clear hcz23_0 hcz23_1 hcz23_2 hcz23_3
         try clear hcz26_0 hcz26_1 hcz26_2 hcz26_3
         try clear hfz23_0
         try clear hfz23_1
         try clear hfz23_2
         try clear hfz23_3
         try clear hfz26_0
         try clear hfz26_1
         try clear hfz26_2
         try clear hfz26_3
         obtain ⟨x7_1, x69_1, rfl, rfl, HA, HK1, BK101, HB⟩ := hrel
         cases gk with
         | zero => exact absurd HA.out (by simp [Yj.l0])
         | succ k1 =>
          have H := HA.out
          clear HA
          simp only [Yj.l0] at H
          by_cases c27 : x69_1 < (l0_3.length : Int)
          ·rw [if_pos c27] at H
           have c27b0 : decide (x69_1 < (l0_3.length : Int)) = true := decide_eq_true c27
           clear c27
           by_cases c28 : 0 ≤ x69_1
           ·rw [if_pos c28] at H
            have c28b0 : decide (0 ≤ x69_1) = true := decide_eq_true c28
            clear c28
            by_cases c29 : x69_1 < (l0_3.length : Int)
            ·rw [if_pos c29] at H
             have c29b0 : decide (x69_1 < (l0_3.length : Int)) = true := decide_eq_true c29
             clear c29
             replace H := Option.bind_eq_some_iff.mp H
             obtain ⟨t106, A300, H⟩ := H
             replace H : (if t106 < 0 then (some (-1)) else (Yj.l0 k1 a1 (wrap64 (x7_1 + t106)) l0_3 (l0_3.length : Int) (wrap64 (x69_1 + 1)))) = some r := H
             have A30 := Y0.mk A300
             clear A300
             by_cases c31 : t106 < 0
             ·rw [if_pos c31] at H
              have c31b0 : decide (t106 < 0) = true := decide_eq_true c31
              clear c31
              obtain rfl := Option.some.inj H
              have p104 : 0 ≤ (x69_1 : Int) := of_decide_eq_true Z5
              have q104 : x69_1 < (l0_3.length : Int) := of_decide_eq_true Z5
              obtain ⟨ad104, A104_2, c104_2, A104_3, c104_3, e104, hx104_0, hx104_1, hx104_2, hx104_3, hl104_2, hi104_2, hl104_3, hi104_3⟩ := Y1x HR0_3.out x69_1 p104 q104
              cases e104
              replace hx104_0 := YM HB.out hx104_0
              replace hx104_1 := YM HB.out hx104_1
              replace hx104_2 := YM HB.out hx104_2
              replace hx104_3 := YM HB.out hx104_3
              have HR104_2 := Y0.mk hi104_2
              have HC104_2 := Y0.mk hl104_2
              clear hi104_2 hl104_2
              have HR104_3 := Y0.mk hi104_3
              have HC104_3 := Y0.mk hl104_3
              clear hi104_3 hl104_3
              replace p104 := eq_true p104
              replace q104 := eq_true q104
              go_wp2_with (first | ((with_reducible refine Ym (N := 9) rfl ?_); (try (refine YH (by rfl) ?_; dsimp only)); refine Yl ?hg (N := 9) ?hd (cs := #[.int .i64 0, .string (⟨#[]⟩ : ByteArray), .slice none 0 0, .slice none 0 0]) (t := 37) ?hr ?_; (case hd => rfl); (case hg => rfl); (case hr => exact Z6); intro gb105 hg w32 hbox hb; have n_ := Y3p (Yh (g := gb101) (o := .cells #[.int .i64 a0_0, .string a0_1, .slice A0_2 l0_2.length c0_2, .slice (some ad104) l0_3.length c0_3] 37 (0, 0)) QQ hb) (Y5 QB hb) (hbox) ((by rw [hg]; exact (Y6 QB) : w.heap.size ≤ gb105)) ((by rw [hg]; exact (Y6 QB) : w.heap.size ≤ gb105)) ((by rw [hg]; exact Nat.ne_of_lt (YO (g := gb101) (o := .cells #[.int .i64 a0_0, .string a0_1, .slice A0_2 l0_2.length c0_2, .slice (some ad104) l0_3.length c0_3] 37 (0, 0)) QQ) : gb101 ≠ gb105)) ((by rw [hg]; exact Nat.ne_of_gt (YO (g := gb101) (o := .cells #[.int .i64 a0_0, .string a0_1, .slice A0_2 l0_2.length c0_2, .slice (some ad104) l0_3.length c0_3] 37 (0, 0)) QQ) : gb105 ≠ gb101)); clear BK101 HB; obtain ⟨BK101, HB, BK105, GW105, GE105, NB101_105, NB105_101⟩ := n_; clear hb hbox hg; have hnb33 := NB105_101.out; have hnc33 := NB101_105.out; obtain ⟨hcz34_0, hcz34_1, hcz34_2, hcz34_3, hfz34_0, hfz34_1, hfz34_2, hfz34_3⟩ := Yt BK105.out) | ((with_reducible refine Yg (f := 62) rfl ?_); refine YG (some 76) rfl rfl Tryd.func62 Z4 rfl #[.agg #[.int .i64 ((Y1 l0_3 x69_1).f0), .string ((Y1 l0_3 x69_1).f1), .slice A104_2 ((Y1 l0_3 x69_1).f2).length c104_2, .slice A104_3 ((Y1 l0_3 x69_1).f3).length c104_3], .int .i64 (wrap64 (a1 + 1))] rfl Z0 ?_; (with_reducible refine (ih k1 ZT ((Y1 l0_3 x69_1).f0) ((Y1 l0_3 x69_1).f1) _ _ ((Y1 l0_3 x69_1).f2) _ _ ((Y1 l0_3 x69_1).f3) (wrap64 (a1 + 1)) t106 _ ?side1 ?side2 ?side3 ?side4 ?side5 A30.out).mono ?_); (case side1 => exact Z3); (case side2 => exact Kd.C_below HR104_2.out QB); (case side3 => exact HC104_2.out); (case side4 => exact Kd.C_below HR104_3.out QB); (case side5 => exact HC104_3.out); rintro e w35 ⟨rfl, hb⟩; refine ⟨_, rfl, ?_⟩; have n_ := Y1X (Yh (g := gb101) (o := .cells #[.int .i64 a0_0, .string a0_1, .slice A0_2 l0_2.length c0_2, .slice (some ad104) l0_3.length c0_3] 37 (0, 0)) Z9 hb) (Yh (g := gb105) (o := .cells #[.int .i64 ((Y1 l0_3 x69_1).f0), .string ((Y1 l0_3 x69_1).f1), .slice A104_2 ((Y1 l0_3 x69_1).f2).length c104_2, .slice A104_3 ((Y1 l0_3 x69_1).f3).length c104_3] 37 (0, 0)) Z1o hb) (Y5 QB hb); clear BK101 BK105 HB; obtain ⟨BK101, BK105, HB⟩ := n_; (try clear hb); (try clear hb2); (try clear hk); (try clear hi)))
              go_ret
              exact Z1y
             ·rw [if_neg c31] at H
              have c31b0 : decide (t106 < 0) = false := decide_eq_false c31
              clear c31
              have H' := Y0.mk H
              clear H
              have p104 : 0 ≤ (x69_1 : Int) := of_decide_eq_true Z5
              have q104 : x69_1 < (l0_3.length : Int) := of_decide_eq_true Z5
              obtain ⟨ad104, A104_2, c104_2, A104_3, c104_3, e104, hx104_0, hx104_1, hx104_2, hx104_3, hl104_2, hi104_2, hl104_3, hi104_3⟩ := Y1x HR0_3.out x69_1 p104 q104
              cases e104
              replace hx104_0 := YM HB.out hx104_0
              replace hx104_1 := YM HB.out hx104_1
              replace hx104_2 := YM HB.out hx104_2
              replace hx104_3 := YM HB.out hx104_3
              have HR104_2 := Y0.mk hi104_2
              have HC104_2 := Y0.mk hl104_2
              clear hi104_2 hl104_2
              have HR104_3 := Y0.mk hi104_3
              have HC104_3 := Y0.mk hl104_3
              clear hi104_3 hl104_3
              replace p104 := eq_true p104
              replace q104 := eq_true q104
              go_wp2_with (first | ((with_reducible refine Ym (N := 9) rfl ?_); (try (refine YH (by rfl) ?_; dsimp only)); refine Yl ?hg (N := 9) ?hd (cs := #[.int .i64 0, .string (⟨#[]⟩ : ByteArray), .slice none 0 0, .slice none 0 0]) (t := 37) ?hr ?_; (case hd => rfl); (case hg => rfl); (case hr => exact Z6); intro gb105 hg w36 hbox hb; have n_ := Y3p (Yh (g := gb101) (o := .cells #[.int .i64 a0_0, .string a0_1, .slice A0_2 l0_2.length c0_2, .slice (some ad104) l0_3.length c0_3] 37 (0, 0)) QQ hb) (Y5 QB hb) (hbox) ((by rw [hg]; exact (Y6 QB) : w.heap.size ≤ gb105)) ((by rw [hg]; exact (Y6 QB) : w.heap.size ≤ gb105)) ((by rw [hg]; exact Nat.ne_of_lt (YO (g := gb101) (o := .cells #[.int .i64 a0_0, .string a0_1, .slice A0_2 l0_2.length c0_2, .slice (some ad104) l0_3.length c0_3] 37 (0, 0)) QQ) : gb101 ≠ gb105)) ((by rw [hg]; exact Nat.ne_of_gt (YO (g := gb101) (o := .cells #[.int .i64 a0_0, .string a0_1, .slice A0_2 l0_2.length c0_2, .slice (some ad104) l0_3.length c0_3] 37 (0, 0)) QQ) : gb105 ≠ gb101)); clear BK101 HB; obtain ⟨BK101, HB, BK105, GW105, GE105, NB101_105, NB105_101⟩ := n_; clear hb hbox hg; have hnb37 := NB105_101.out; have hnc37 := NB101_105.out; obtain ⟨hcz38_0, hcz38_1, hcz38_2, hcz38_3, hfz38_0, hfz38_1, hfz38_2, hfz38_3⟩ := Yt BK105.out) | ((with_reducible refine Yg (f := 62) rfl ?_); refine YG (some 76) rfl rfl Tryd.func62 Z4 rfl #[.agg #[.int .i64 ((Y1 l0_3 x69_1).f0), .string ((Y1 l0_3 x69_1).f1), .slice A104_2 ((Y1 l0_3 x69_1).f2).length c104_2, .slice A104_3 ((Y1 l0_3 x69_1).f3).length c104_3], .int .i64 (wrap64 (a1 + 1))] rfl Z0 ?_; (with_reducible refine (ih k1 ZT ((Y1 l0_3 x69_1).f0) ((Y1 l0_3 x69_1).f1) _ _ ((Y1 l0_3 x69_1).f2) _ _ ((Y1 l0_3 x69_1).f3) (wrap64 (a1 + 1)) t106 _ ?side1 ?side2 ?side3 ?side4 ?side5 A30.out).mono ?_); (case side1 => exact Z3); (case side2 => exact Kd.C_below HR104_2.out QB); (case side3 => exact HC104_2.out); (case side4 => exact Kd.C_below HR104_3.out QB); (case side5 => exact HC104_3.out); rintro e w39 ⟨rfl, hb⟩; refine ⟨_, rfl, ?_⟩; have n_ := Y1X (Yh (g := gb101) (o := .cells #[.int .i64 a0_0, .string a0_1, .slice A0_2 l0_2.length c0_2, .slice (some ad104) l0_3.length c0_3] 37 (0, 0)) Z9 hb) (Yh (g := gb105) (o := .cells #[.int .i64 ((Y1 l0_3 x69_1).f0), .string ((Y1 l0_3 x69_1).f1), .slice A104_2 ((Y1 l0_3 x69_1).f2).length c104_2, .slice A104_3 ((Y1 l0_3 x69_1).f3).length c104_3] 37 (0, 0)) Z1o hb) (Y5 QB hb); clear BK101 BK105 HB; obtain ⟨BK101, BK105, HB⟩ := n_; (try clear hb); (try clear hb2); (try clear hk); (try clear hi)))
              go_roundg k1
              case measure => have := HK1.out; omega
              case rel => exact ⟨(wrap64 (x7_1 + t106)), (wrap64 (x69_1 + 1)), Zb, Zb, H', ⟨ZT⟩, ⟨Zf⟩, ⟨QB⟩⟩
            ·rw [if_neg c29] at H
             exact Zt
           ·rw [if_neg c28] at H
            exact Zt
          ·rw [if_neg c27] at H
           have c27b0 : decide (x69_1 < (l0_3.length : Int)) = false := decide_eq_false c27
           clear c27
           obtain rfl := Option.some.inj H
           go_wp2
           go_ret
           exact Z1y
      ·rw [if_neg c15] at H
       have c15b0 : (a0_1.toList == ([] : List UInt8)) = false := beq_eq_false_iff_ne.mpr c15
       have c15b1 : (a0_1.toList != ([] : List UInt8)) = true := bne_iff_ne.mpr c15
       (try (have c15c9b0_true : (a0_0 == 1) = true := by have z_ := c9b0; rw [c15b1] at z_; simpa using z_))
       (try (have c15c9b0_false : (a0_0 == 1) = false := by have z_ := c9b0; rw [c15b1] at z_; simpa using z_))
       replace H := Option.bind_eq_some_iff.mp H
       obtain ⟨t107, A400, H⟩ := H
       replace H : (if t107 = true then (some (-1)) else ((Yk.f k l0_2).bind fun t108 => (if t108 = true then (some (-1)) else (Yj.l0 k a1 1 l0_3 (l0_3.length : Int) 0)))) = some r := H
       have A40 := Y0.mk A400
       clear A400
       by_cases c41 : t107 = true
       ·subst c41
        have H1 : (some (-1)) = some r := by rw [if_pos rfl] at H; exact H
        clear H
        have H := H1
        clear H1
        obtain rfl := Option.some.inj H
        go_enter Tryd.func62, Tryd.ntmps62
        try go_wp2_with (first | ((with_reducible refine Ym (N := 2) rfl ?_); (try (refine YH (by rfl) ?_; dsimp only)); refine Yl ?hg (N := 2) ?hd (cs := #[.int .i64 a0_0, .string a0_1, .slice A0_2 l0_2.length c0_2, .slice A0_3 l0_3.length c0_3]) (t := 37) ?hr ?_; (case hd => rfl); (case hg => rfl); (case hr => exact Z6); intro gb101 hg w42 hbox hb; have n_ := Y1T (Y5 QB hb) (hbox) ((by rw [hg]; exact (Y6 QB) : w.heap.size ≤ gb101)) ((by rw [hg]; exact (Y6 QB) : w.heap.size ≤ gb101)); clear HB; obtain ⟨HB, BK101, GW101, GE101⟩ := n_; clear hb hbox hg; obtain ⟨hcz43_0, hcz43_1, hcz43_2, hcz43_3, hfz43_0, hfz43_1, hfz43_2, hfz43_3⟩ := Yt BK101.out))
        have n_ := Y2d (Y8 BK101.out) (YI HB.out)
        clear BK101
        clear HB
        obtain ⟨BK101, HB⟩ := n_
        refine Y1v (n := 40) (S := fun w' => w'.cell? ⟨gb101, 0, none⟩ = some (.int .i64 a0_0) ∧ w'.cell? ⟨gb101, 1, none⟩ = some (.string a0_1) ∧ w'.cell? ⟨gb101, 2, none⟩ = some (.slice A0_2 l0_2.length c0_2) ∧ w'.cell? ⟨gb101, 3, none⟩ = some (.slice A0_3 l0_3.length c0_3)) (ds := []) Y27 Z4 rfl rfl ⟨(Y2 BK101.out 0).trans rfl, (Y2 BK101.out 1).trans rfl, (Y2 BK101.out 2).trans rfl, (Y2 BK101.out 3).trans rfl⟩ (fun hHeld => ?_); refine YT Yj.tab3 Yj.bits3 (fun HT_ HW_ => ?_)
        generalize w42.drew = w44 at BK101 HB hHeld ⊢
        refine pY 0 26 Y28 ?_
        refine pY 1 27 Y29 ?_
        refine pY 2 28 Y2a ?_
        refine pY 3 29 Y2b ?_
        refine pY 6 32 Y1V ?_
        refine pT 4 30 Y1W ?_
        refine pY 5 31 Y1R ?_
        refine pT 7 33 Y1S ?_
        refine Y23 (i := 8) (N := some 34) Y1I rfl rfl (Y1f HT_.out Z4) (by decide) (fun K hK => ?_)
        refine Y1G Tryd.func98 Z4 rfl #[.int .i64 a0_0] (by rfl) rfl rfl Z0 ?_
        with_reducible refine (Yx.calls k a0_0 t102 _ A7.out).mono ?_
        rintro e w' ⟨rfl, ⟨nd, rfl⟩⟩
        refine ⟨_, rfl, ?_⟩
        refine hK.out _ _ ⟨(Y2 BK101.out 0).trans rfl, (Y2 BK101.out 1).trans rfl, (Y2 BK101.out 2).trans rfl, (Y2 BK101.out 3).trans rfl⟩ (fun hHeld => ?_)
        clear hK K
        refine Y1w (a' := ?_) ?_ ?_
        rotate_left
        ·show Act.put _ (some 34) _ = _
         simp only [Act.put, List.setIfInBounds_toArray, List.set_cons_zero, List.set_cons_succ, Y11, Y18]
         rfl
        refine pY 9 35 Y1J ?_
        refine pY 10 36 Y1K ?_
        refine pY 11 37 Y1L ?_
        refine pY 12 38 Y1y ?_
        refine pY 13 39 Y1z ?_
        refine pY 14 40 Y1A ?_
        refine pY 15 41 Y1B ?_
        refine pY 16 42 Y1o ?_
        refine pY 17 43 Y1p ?_
        refine pY 18 44 Y1q ?_
        refine pY 19 45 Y1r ?_
        refine pY 20 46 Y1h ?_
        refine pT 21 47 Y1i ?_
        refine pY 22 48 Y1j ?_
        refine pY 23 49 Y1k ?_
        refine pY 24 50 Y1b ?_
        refine pY 25 51 Y1c ?_
        refine pY 26 52 Y1d ?_
        refine pT 27 53 Y1e ?_
        refine pY 28 54 Y13 ?_
        refine pY 29 55 Y14 ?_
        refine pY 30 56 Y15 ?_
        refine pT 31 57 Y16 ?_
        refine Y23 (i := 32) (N := some 58) YU rfl rfl (Y1f HT_.out Z4) (by decide) (fun K hK => ?_)
        refine Y1G Tryd.func99 Z4 rfl #[.string a0_1] (by rfl) rfl rfl Z0 ?_
        with_reducible refine (Y19.calls a0_1 true _ ?side1 A40.out).mono ?_
        (case side1 => exact Z3)
        rintro e w45 ⟨rfl, hb⟩
        refine ⟨_, rfl, ?_⟩
        have n_ := Y2d (Yh (g := gb101) (o := .cells #[.int .i64 a0_0, .string a0_1, .slice A0_2 l0_2.length c0_2, .slice A0_3 l0_3.length c0_3] 37 (0, 0)) QQ hb) (Y5 QB hb)
        clear BK101
        clear HB
        obtain ⟨BK101, HB⟩ := n_
        (try clear hb)
        (try clear hb2)
        (try clear hk)
        (try clear hi)
        refine hK.out _ _ ⟨(Y2 BK101.out 0).trans rfl, (Y2 BK101.out 1).trans rfl, (Y2 BK101.out 2).trans rfl, (Y2 BK101.out 3).trans rfl⟩ (fun hHeld => ?_)
        clear hK K
        refine Y1w (a' := ?_) ?_ ?_
        rotate_left
        ·show Act.put _ (some 58) _ = _
         simp only [Act.put, List.setIfInBounds_toArray, List.set_cons_zero, List.set_cons_succ, Y11, Y18]
         rfl
        refine pY 33 59 YV ?_
        refine pY 34 60 YW ?_
        refine pY 35 61 YX ?_
        refine pU 36 62 YP ?_
        refine pU 37 63 YQ ?_
        refine pU 38 64 YR ?_
        refine pY 39 65 YS ?_
        refine Y1Q (Y1n HT_.out Z4) ?_
        try go_wp2
        go_ret
        exact Z1y
       ·replace c41 := Bool.eq_false_iff.mpr c41
        subst c41
        have H1 : ((Yk.f k l0_2).bind fun t108 => (if t108 = true then (some (-1)) else (Yj.l0 k a1 1 l0_3 (l0_3.length : Int) 0))) = some r := by rw [if_neg (show ¬ (false = true) by decide)] at H; exact H
        clear H
        have H := H1
        clear H1
        replace H := Option.bind_eq_some_iff.mp H
        obtain ⟨t108, A460, H⟩ := H
        replace H : (if t108 = true then (some (-1)) else (Yj.l0 k a1 1 l0_3 (l0_3.length : Int) 0)) = some r := H
        have A46 := Y0.mk A460
        clear A460
        by_cases c47 : t108 = true
        ·subst c47
         have H1 : (some (-1)) = some r := by rw [if_pos rfl] at H; exact H
         clear H
         have H := H1
         clear H1
         obtain rfl := Option.some.inj H
         go_enter Tryd.func62, Tryd.ntmps62
         try go_wp2_with (first | ((with_reducible refine Ym (N := 2) rfl ?_); (try (refine YH (by rfl) ?_; dsimp only)); refine Yl ?hg (N := 2) ?hd (cs := #[.int .i64 a0_0, .string a0_1, .slice A0_2 l0_2.length c0_2, .slice A0_3 l0_3.length c0_3]) (t := 37) ?hr ?_; (case hd => rfl); (case hg => rfl); (case hr => exact Z6); intro gb101 hg w48 hbox hb; have n_ := Y1T (Y5 QB hb) (hbox) ((by rw [hg]; exact (Y6 QB) : w.heap.size ≤ gb101)) ((by rw [hg]; exact (Y6 QB) : w.heap.size ≤ gb101)); clear HB; obtain ⟨HB, BK101, GW101, GE101⟩ := n_; clear hb hbox hg; obtain ⟨hcz49_0, hcz49_1, hcz49_2, hcz49_3, hfz49_0, hfz49_1, hfz49_2, hfz49_3⟩ := Yt BK101.out))
         have n_ := Y2d (Y8 BK101.out) (YI HB.out)
         clear BK101
         clear HB
         obtain ⟨BK101, HB⟩ := n_
         refine Y1v (n := 40) (S := fun w' => w'.cell? ⟨gb101, 0, none⟩ = some (.int .i64 a0_0) ∧ w'.cell? ⟨gb101, 1, none⟩ = some (.string a0_1) ∧ w'.cell? ⟨gb101, 2, none⟩ = some (.slice A0_2 l0_2.length c0_2) ∧ w'.cell? ⟨gb101, 3, none⟩ = some (.slice A0_3 l0_3.length c0_3)) (ds := []) Y27 Z4 rfl rfl ⟨(Y2 BK101.out 0).trans rfl, (Y2 BK101.out 1).trans rfl, (Y2 BK101.out 2).trans rfl, (Y2 BK101.out 3).trans rfl⟩ (fun hHeld => ?_); refine YT Yj.tab3 Yj.bits3 (fun HT_ HW_ => ?_)
         generalize w48.drew = w50 at BK101 HB hHeld ⊢
         refine pY 0 26 Y28 ?_
         refine pY 1 27 Y29 ?_
         refine pY 2 28 Y2a ?_
         refine pY 3 29 Y2b ?_
         refine pY 6 32 Y1V ?_
         refine pT 4 30 Y1W ?_
         refine pY 5 31 Y1R ?_
         refine pT 7 33 Y1S ?_
         refine Y23 (i := 8) (N := some 34) Y1I rfl rfl (Y1f HT_.out Z4) (by decide) (fun K hK => ?_)
         refine Y1G Tryd.func98 Z4 rfl #[.int .i64 a0_0] (by rfl) rfl rfl Z0 ?_
         with_reducible refine (Yx.calls k a0_0 t102 _ A7.out).mono ?_
         rintro e w' ⟨rfl, ⟨nd, rfl⟩⟩
         refine ⟨_, rfl, ?_⟩
         refine hK.out _ _ ⟨(Y2 BK101.out 0).trans rfl, (Y2 BK101.out 1).trans rfl, (Y2 BK101.out 2).trans rfl, (Y2 BK101.out 3).trans rfl⟩ (fun hHeld => ?_)
         clear hK K
         refine Y1w (a' := ?_) ?_ ?_
         rotate_left
         ·show Act.put _ (some 34) _ = _
          simp only [Act.put, List.setIfInBounds_toArray, List.set_cons_zero, List.set_cons_succ, Y11, Y18]
          rfl
         refine pY 9 35 Y1J ?_
         refine pY 10 36 Y1K ?_
         refine pY 11 37 Y1L ?_
         refine pY 12 38 Y1y ?_
         refine pY 13 39 Y1z ?_
         refine pY 14 40 Y1A ?_
         refine pY 15 41 Y1B ?_
         refine pY 16 42 Y1o ?_
         refine pY 17 43 Y1p ?_
         refine pY 18 44 Y1q ?_
         refine pY 19 45 Y1r ?_
         refine pY 20 46 Y1h ?_
         refine pT 21 47 Y1i ?_
         refine pY 22 48 Y1j ?_
         refine pY 23 49 Y1k ?_
         refine pY 24 50 Y1b ?_
         refine pY 25 51 Y1c ?_
         refine pY 26 52 Y1d ?_
         refine pT 27 53 Y1e ?_
         refine pY 28 54 Y13 ?_
         refine pY 29 55 Y14 ?_
         refine pY 30 56 Y15 ?_
         refine pT 31 57 Y16 ?_
         refine Y23 (i := 32) (N := some 58) YU rfl rfl (Y1f HT_.out Z4) (by decide) (fun K hK => ?_)
         refine Y1G Tryd.func99 Z4 rfl #[.string a0_1] (by rfl) rfl rfl Z0 ?_
         with_reducible refine (Y19.calls a0_1 false _ ?side1 A40.out).mono ?_
         (case side1 => exact Z3)
         rintro e w51 ⟨rfl, hb⟩
         refine ⟨_, rfl, ?_⟩
         have n_ := Y2d (Yh (g := gb101) (o := .cells #[.int .i64 a0_0, .string a0_1, .slice A0_2 l0_2.length c0_2, .slice A0_3 l0_3.length c0_3] 37 (0, 0)) QQ hb) (Y5 QB hb)
         clear BK101
         clear HB
         obtain ⟨BK101, HB⟩ := n_
         (try clear hb)
         (try clear hb2)
         (try clear hk)
         (try clear hi)
         refine hK.out _ _ ⟨(Y2 BK101.out 0).trans rfl, (Y2 BK101.out 1).trans rfl, (Y2 BK101.out 2).trans rfl, (Y2 BK101.out 3).trans rfl⟩ (fun hHeld => ?_)
         clear hK K
         refine Y1w (a' := ?_) ?_ ?_
         rotate_left
         ·show Act.put _ (some 58) _ = _
          simp only [Act.put, List.setIfInBounds_toArray, List.set_cons_zero, List.set_cons_succ, Y11, Y18]
          rfl
         refine pY 33 59 YV ?_
         refine pY 34 60 YW ?_
         refine pY 35 61 YX ?_
         refine pY 36 62 YP ?_
         refine pT 37 63 YQ ?_
         refine Y23 (i := 38) (N := some 64) YR rfl rfl (Y1f HT_.out Z4) (by decide) (fun K hK => ?_)
         refine Y1G Tryd.func100 Z4 rfl #[.slice A0_2 l0_2.length c0_2, .func (.func 99) #[] #[]] (by rfl) rfl rfl Z0 ?_
         with_reducible refine (Yk.calls k _ _ l0_2  true _ ?side1 ?side2 ?side3 A46.out).mono ?_
         (case side1 => exact Z3)
         (case side2 => exact Ze)
         (case side3 => exact HC0_2.out)
         rintro e w52 ⟨rfl, hb⟩
         refine ⟨_, rfl, ?_⟩
         have n_ := Y2d (Yh (g := gb101) (o := .cells #[.int .i64 a0_0, .string a0_1, .slice A0_2 l0_2.length c0_2, .slice A0_3 l0_3.length c0_3] 37 (0, 0)) QQ hb) (Y5 QB hb)
         clear BK101
         clear HB
         obtain ⟨BK101, HB⟩ := n_
         (try clear hb)
         (try clear hb2)
         (try clear hk)
         (try clear hi)
         refine hK.out _ _ ⟨(Y2 BK101.out 0).trans rfl, (Y2 BK101.out 1).trans rfl, (Y2 BK101.out 2).trans rfl, (Y2 BK101.out 3).trans rfl⟩ (fun hHeld => ?_)
         clear hK K
         refine Y1w (a' := ?_) ?_ ?_
         rotate_left
         ·show Act.put _ (some 64) _ = _
          simp only [Act.put, List.setIfInBounds_toArray, List.set_cons_zero, List.set_cons_succ, Y11, Y18]
          rfl
         refine pY 39 65 YS ?_
         refine Y1Q (Y1n HT_.out Z4) ?_
         try go_wp2
         go_ret
         exact Z1y
        ·replace c47 := Bool.eq_false_iff.mpr c47
         subst c47
         have H1 : (Yj.l0 k a1 1 l0_3 (l0_3.length : Int) 0) = some r := by rw [if_neg (show ¬ (false = true) by decide)] at H; exact H
         clear H
         have H := H1
         clear H1
         have H' := Y0.mk H
         clear H
         go_enter Tryd.func62, Tryd.ntmps62
         try go_wp2_with (first | ((with_reducible refine Ym (N := 2) rfl ?_); (try (refine YH (by rfl) ?_; dsimp only)); refine Yl ?hg (N := 2) ?hd (cs := #[.int .i64 a0_0, .string a0_1, .slice A0_2 l0_2.length c0_2, .slice A0_3 l0_3.length c0_3]) (t := 37) ?hr ?_; (case hd => rfl); (case hg => rfl); (case hr => exact Z6); intro gb101 hg w53 hbox hb; have n_ := Y1T (Y5 QB hb) (hbox) ((by rw [hg]; exact (Y6 QB) : w.heap.size ≤ gb101)) ((by rw [hg]; exact (Y6 QB) : w.heap.size ≤ gb101)); clear HB; obtain ⟨HB, BK101, GW101, GE101⟩ := n_; clear hb hbox hg; obtain ⟨hcz54_0, hcz54_1, hcz54_2, hcz54_3, hfz54_0, hfz54_1, hfz54_2, hfz54_3⟩ := Yt BK101.out))
         have n_ := Y2d (Y8 BK101.out) (YI HB.out)
         clear BK101
         clear HB
         obtain ⟨BK101, HB⟩ := n_
         refine Y1v (n := 40) (S := fun w' => w'.cell? ⟨gb101, 0, none⟩ = some (.int .i64 a0_0) ∧ w'.cell? ⟨gb101, 1, none⟩ = some (.string a0_1) ∧ w'.cell? ⟨gb101, 2, none⟩ = some (.slice A0_2 l0_2.length c0_2) ∧ w'.cell? ⟨gb101, 3, none⟩ = some (.slice A0_3 l0_3.length c0_3)) (ds := []) Y27 Z4 rfl rfl ⟨(Y2 BK101.out 0).trans rfl, (Y2 BK101.out 1).trans rfl, (Y2 BK101.out 2).trans rfl, (Y2 BK101.out 3).trans rfl⟩ (fun hHeld => ?_); refine YT Yj.tab3 Yj.bits3 (fun HT_ HW_ => ?_)
         generalize w53.drew = w55 at BK101 HB hHeld ⊢
         refine pY 0 26 Y28 ?_
         refine pY 1 27 Y29 ?_
         refine pY 2 28 Y2a ?_
         refine pY 3 29 Y2b ?_
         refine pY 6 32 Y1V ?_
         refine pT 4 30 Y1W ?_
         refine pY 5 31 Y1R ?_
         refine pT 7 33 Y1S ?_
         refine Y23 (i := 8) (N := some 34) Y1I rfl rfl (Y1f HT_.out Z4) (by decide) (fun K hK => ?_)
         refine Y1G Tryd.func98 Z4 rfl #[.int .i64 a0_0] (by rfl) rfl rfl Z0 ?_
         with_reducible refine (Yx.calls k a0_0 t102 _ A7.out).mono ?_
         rintro e w' ⟨rfl, ⟨nd, rfl⟩⟩
         refine ⟨_, rfl, ?_⟩
         refine hK.out _ _ ⟨(Y2 BK101.out 0).trans rfl, (Y2 BK101.out 1).trans rfl, (Y2 BK101.out 2).trans rfl, (Y2 BK101.out 3).trans rfl⟩ (fun hHeld => ?_)
         clear hK K
         refine Y1w (a' := ?_) ?_ ?_
         rotate_left
         ·show Act.put _ (some 34) _ = _
          simp only [Act.put, List.setIfInBounds_toArray, List.set_cons_zero, List.set_cons_succ, Y11, Y18]
          rfl
         refine pY 9 35 Y1J ?_
         refine pY 10 36 Y1K ?_
         refine pY 11 37 Y1L ?_
         refine pY 12 38 Y1y ?_
         refine pY 13 39 Y1z ?_
         refine pY 14 40 Y1A ?_
         refine pY 15 41 Y1B ?_
         refine pY 16 42 Y1o ?_
         refine pY 17 43 Y1p ?_
         refine pY 18 44 Y1q ?_
         refine pY 19 45 Y1r ?_
         refine pY 20 46 Y1h ?_
         refine pT 21 47 Y1i ?_
         refine pY 22 48 Y1j ?_
         refine pY 23 49 Y1k ?_
         refine pY 24 50 Y1b ?_
         refine pY 25 51 Y1c ?_
         refine pY 26 52 Y1d ?_
         refine pT 27 53 Y1e ?_
         refine pY 28 54 Y13 ?_
         refine pY 29 55 Y14 ?_
         refine pY 30 56 Y15 ?_
         refine pT 31 57 Y16 ?_
         refine Y23 (i := 32) (N := some 58) YU rfl rfl (Y1f HT_.out Z4) (by decide) (fun K hK => ?_)
         refine Y1G Tryd.func99 Z4 rfl #[.string a0_1] (by rfl) rfl rfl Z0 ?_
         with_reducible refine (Y19.calls a0_1 false _ ?side1 A40.out).mono ?_
         (case side1 => exact Z3)
         rintro e w56 ⟨rfl, hb⟩
         refine ⟨_, rfl, ?_⟩
         have n_ := Y2d (Yh (g := gb101) (o := .cells #[.int .i64 a0_0, .string a0_1, .slice A0_2 l0_2.length c0_2, .slice A0_3 l0_3.length c0_3] 37 (0, 0)) QQ hb) (Y5 QB hb)
         clear BK101
         clear HB
         obtain ⟨BK101, HB⟩ := n_
         (try clear hb)
         (try clear hb2)
         (try clear hk)
         (try clear hi)
         refine hK.out _ _ ⟨(Y2 BK101.out 0).trans rfl, (Y2 BK101.out 1).trans rfl, (Y2 BK101.out 2).trans rfl, (Y2 BK101.out 3).trans rfl⟩ (fun hHeld => ?_)
         clear hK K
         refine Y1w (a' := ?_) ?_ ?_
         rotate_left
         ·show Act.put _ (some 58) _ = _
          simp only [Act.put, List.setIfInBounds_toArray, List.set_cons_zero, List.set_cons_succ, Y11, Y18]
          rfl
         refine pY 33 59 YV ?_
         refine pY 34 60 YW ?_
         refine pY 35 61 YX ?_
         refine pY 36 62 YP ?_
         refine pT 37 63 YQ ?_
         refine Y23 (i := 38) (N := some 64) YR rfl rfl (Y1f HT_.out Z4) (by decide) (fun K hK => ?_)
         refine Y1G Tryd.func100 Z4 rfl #[.slice A0_2 l0_2.length c0_2, .func (.func 99) #[] #[]] (by rfl) rfl rfl Z0 ?_
         with_reducible refine (Yk.calls k _ _ l0_2  false _ ?side1 ?side2 ?side3 A46.out).mono ?_
         (case side1 => exact Z3)
         (case side2 => exact Ze)
         (case side3 => exact HC0_2.out)
         rintro e w57 ⟨rfl, hb⟩
         refine ⟨_, rfl, ?_⟩
         have n_ := Y2d (Yh (g := gb101) (o := .cells #[.int .i64 a0_0, .string a0_1, .slice A0_2 l0_2.length c0_2, .slice A0_3 l0_3.length c0_3] 37 (0, 0)) QQ hb) (Y5 QB hb)
         clear BK101
         clear HB
         obtain ⟨BK101, HB⟩ := n_
         (try clear hb)
         (try clear hb2)
         (try clear hk)
         (try clear hi)
         refine hK.out _ _ ⟨(Y2 BK101.out 0).trans rfl, (Y2 BK101.out 1).trans rfl, (Y2 BK101.out 2).trans rfl, (Y2 BK101.out 3).trans rfl⟩ (fun hHeld => ?_)
         clear hK K
         refine Y1w (a' := ?_) ?_ ?_
         rotate_left
         ·show Act.put _ (some 64) _ = _
          simp only [Act.put, List.setIfInBounds_toArray, List.set_cons_zero, List.set_cons_succ, Y11, Y18]
          rfl
         refine pY 39 65 YS ?_
         refine Y1Q (Y1n HT_.out Z4) ?_
         obtain ⟨hcz58_0, hcz58_1, hcz58_2, hcz58_3, hfz58_0, hfz58_1, hfz58_2, hfz58_3⟩ := Yt BK101.out
         try go_wp2
         go_loopg [7, 69] k (fun kq v7 v69 w' => ∃ (x7_1 : Int) (x69_1 : Int), v7 = .int .i64 x7_1 ∧ v69 = .int .i64 x69_1 ∧ Y0 (Yj.l0 kq a1 x7_1 l0_3 (l0_3.length : Int) x69_1 = some r) ∧ Y0 (kq ≤ k) ∧ Y0 (w'.heap[gb101]? = some (.cells #[.int .i64 a0_0, .string a0_1, (.slice A0_2 l0_2.length c0_2), (.slice A0_3 l0_3.length c0_3)] 37 (0, 0))) ∧ Y0 (Below w.heap.size w w'))
         case atStart => exact ⟨(1), (0), Zb, Zb, H', ⟨Nat.le_refl _⟩, ⟨Zf⟩, ⟨QB⟩⟩
         case round =>
          clear H'
          try clear c1
          try clear p2
          try clear c4
          try clear c6
          try clear c9
          try clear c10
          try clear c47
          try clear hcz54_0 hcz54_1 hcz54_2 hcz54_3
          try clear hcz58_0 hcz58_1 hcz58_2 hcz58_3
          try clear hfz54_0
          try clear hfz54_1
          try clear hfz54_2
          try clear hfz54_3
          try clear hfz58_0
          try clear hfz58_1
          try clear hfz58_2
          try clear hfz58_3
          obtain ⟨x7_1, x69_1, rfl, rfl, HA, HK1, BK101, HB⟩ := hrel
          cases gk with
          | zero => exact absurd HA.out (by simp [Yj.l0])
          | succ k1 =>
           have H := HA.out
           clear HA
           simp only [Yj.l0] at H
           by_cases c59 : x69_1 < (l0_3.length : Int)
           ·rw [if_pos c59] at H
            have c59b0 : decide (x69_1 < (l0_3.length : Int)) = true := decide_eq_true c59
            clear c59
            by_cases c60 : 0 ≤ x69_1
            ·rw [if_pos c60] at H
             have c60b0 : decide (0 ≤ x69_1) = true := decide_eq_true c60
             clear c60
             by_cases c61 : x69_1 < (l0_3.length : Int)
             ·rw [if_pos c61] at H
              have c61b0 : decide (x69_1 < (l0_3.length : Int)) = true := decide_eq_true c61
              clear c61
              replace H := Option.bind_eq_some_iff.mp H
              obtain ⟨t106, A620, H⟩ := H
              replace H : (if t106 < 0 then (some (-1)) else (Yj.l0 k1 a1 (wrap64 (x7_1 + t106)) l0_3 (l0_3.length : Int) (wrap64 (x69_1 + 1)))) = some r := H
              have A62 := Y0.mk A620
              clear A620
              by_cases c63 : t106 < 0
              ·rw [if_pos c63] at H
               have c63b0 : decide (t106 < 0) = true := decide_eq_true c63
               clear c63
               obtain rfl := Option.some.inj H
               have p104 : 0 ≤ (x69_1 : Int) := of_decide_eq_true Z5
               have q104 : x69_1 < (l0_3.length : Int) := of_decide_eq_true Z5
               obtain ⟨ad104, A104_2, c104_2, A104_3, c104_3, e104, hx104_0, hx104_1, hx104_2, hx104_3, hl104_2, hi104_2, hl104_3, hi104_3⟩ := Y1x HR0_3.out x69_1 p104 q104
               cases e104
               replace hx104_0 := YM HB.out hx104_0
               replace hx104_1 := YM HB.out hx104_1
               replace hx104_2 := YM HB.out hx104_2
               replace hx104_3 := YM HB.out hx104_3
               have HR104_2 := Y0.mk hi104_2
               have HC104_2 := Y0.mk hl104_2
               clear hi104_2 hl104_2
               have HR104_3 := Y0.mk hi104_3
               have HC104_3 := Y0.mk hl104_3
               clear hi104_3 hl104_3
               replace p104 := eq_true p104
               replace q104 := eq_true q104
               go_wp2_with (first | ((with_reducible refine Ym (N := 9) rfl ?_); (try (refine YH (by rfl) ?_; dsimp only)); refine Yl ?hg (N := 9) ?hd (cs := #[.int .i64 0, .string (⟨#[]⟩ : ByteArray), .slice none 0 0, .slice none 0 0]) (t := 37) ?hr ?_; (case hd => rfl); (case hg => rfl); (case hr => exact Z6); intro gb105 hg w64 hbox hb; have n_ := Y3p (Yh (g := gb101) (o := .cells #[.int .i64 a0_0, .string a0_1, .slice A0_2 l0_2.length c0_2, .slice (some ad104) l0_3.length c0_3] 37 (0, 0)) QQ hb) (Y5 QB hb) (hbox) ((by rw [hg]; exact (Y6 QB) : w.heap.size ≤ gb105)) ((by rw [hg]; exact (Y6 QB) : w.heap.size ≤ gb105)) ((by rw [hg]; exact Nat.ne_of_lt (YO (g := gb101) (o := .cells #[.int .i64 a0_0, .string a0_1, .slice A0_2 l0_2.length c0_2, .slice (some ad104) l0_3.length c0_3] 37 (0, 0)) QQ) : gb101 ≠ gb105)) ((by rw [hg]; exact Nat.ne_of_gt (YO (g := gb101) (o := .cells #[.int .i64 a0_0, .string a0_1, .slice A0_2 l0_2.length c0_2, .slice (some ad104) l0_3.length c0_3] 37 (0, 0)) QQ) : gb105 ≠ gb101)); clear BK101 HB; obtain ⟨BK101, HB, BK105, GW105, GE105, NB101_105, NB105_101⟩ := n_; clear hb hbox hg; have hnb65 := NB105_101.out; have hnc65 := NB101_105.out; obtain ⟨hcz66_0, hcz66_1, hcz66_2, hcz66_3, hfz66_0, hfz66_1, hfz66_2, hfz66_3⟩ := Yt BK105.out) | ((with_reducible refine Yg (f := 62) rfl ?_); refine YG (some 76) rfl rfl Tryd.func62 Z4 rfl #[.agg #[.int .i64 ((Y1 l0_3 x69_1).f0), .string ((Y1 l0_3 x69_1).f1), .slice A104_2 ((Y1 l0_3 x69_1).f2).length c104_2, .slice A104_3 ((Y1 l0_3 x69_1).f3).length c104_3], .int .i64 (wrap64 (a1 + 1))] rfl Z0 ?_; (with_reducible refine (ih k1 ZT ((Y1 l0_3 x69_1).f0) ((Y1 l0_3 x69_1).f1) _ _ ((Y1 l0_3 x69_1).f2) _ _ ((Y1 l0_3 x69_1).f3) (wrap64 (a1 + 1)) t106 _ ?side1 ?side2 ?side3 ?side4 ?side5 A62.out).mono ?_); (case side1 => exact Z3); (case side2 => exact Kd.C_below HR104_2.out QB); (case side3 => exact HC104_2.out); (case side4 => exact Kd.C_below HR104_3.out QB); (case side5 => exact HC104_3.out); rintro e w67 ⟨rfl, hb⟩; refine ⟨_, rfl, ?_⟩; have n_ := Y1X (Yh (g := gb101) (o := .cells #[.int .i64 a0_0, .string a0_1, .slice A0_2 l0_2.length c0_2, .slice (some ad104) l0_3.length c0_3] 37 (0, 0)) Z9 hb) (Yh (g := gb105) (o := .cells #[.int .i64 ((Y1 l0_3 x69_1).f0), .string ((Y1 l0_3 x69_1).f1), .slice A104_2 ((Y1 l0_3 x69_1).f2).length c104_2, .slice A104_3 ((Y1 l0_3 x69_1).f3).length c104_3] 37 (0, 0)) Z1o hb) (Y5 QB hb); clear BK101 BK105 HB; obtain ⟨BK101, BK105, HB⟩ := n_; (try clear hb); (try clear hb2); (try clear hk); (try clear hi)))
               go_ret
               exact Z1y
              ·rw [if_neg c63] at H
               have c63b0 : decide (t106 < 0) = false := decide_eq_false c63
               clear c63
               have H' := Y0.mk H
               clear H
               have p104 : 0 ≤ (x69_1 : Int) := of_decide_eq_true Z5
               have q104 : x69_1 < (l0_3.length : Int) := of_decide_eq_true Z5
               obtain ⟨ad104, A104_2, c104_2, A104_3, c104_3, e104, hx104_0, hx104_1, hx104_2, hx104_3, hl104_2, hi104_2, hl104_3, hi104_3⟩ := Y1x HR0_3.out x69_1 p104 q104
               cases e104
               replace hx104_0 := YM HB.out hx104_0
               replace hx104_1 := YM HB.out hx104_1
               replace hx104_2 := YM HB.out hx104_2
               replace hx104_3 := YM HB.out hx104_3
               have HR104_2 := Y0.mk hi104_2
               have HC104_2 := Y0.mk hl104_2
               clear hi104_2 hl104_2
               have HR104_3 := Y0.mk hi104_3
               have HC104_3 := Y0.mk hl104_3
               clear hi104_3 hl104_3
               replace p104 := eq_true p104
               replace q104 := eq_true q104
               go_wp2_with (first | ((with_reducible refine Ym (N := 9) rfl ?_); (try (refine YH (by rfl) ?_; dsimp only)); refine Yl ?hg (N := 9) ?hd (cs := #[.int .i64 0, .string (⟨#[]⟩ : ByteArray), .slice none 0 0, .slice none 0 0]) (t := 37) ?hr ?_; (case hd => rfl); (case hg => rfl); (case hr => exact Z6); intro gb105 hg w68 hbox hb; have n_ := Y3p (Yh (g := gb101) (o := .cells #[.int .i64 a0_0, .string a0_1, .slice A0_2 l0_2.length c0_2, .slice (some ad104) l0_3.length c0_3] 37 (0, 0)) QQ hb) (Y5 QB hb) (hbox) ((by rw [hg]; exact (Y6 QB) : w.heap.size ≤ gb105)) ((by rw [hg]; exact (Y6 QB) : w.heap.size ≤ gb105)) ((by rw [hg]; exact Nat.ne_of_lt (YO (g := gb101) (o := .cells #[.int .i64 a0_0, .string a0_1, .slice A0_2 l0_2.length c0_2, .slice (some ad104) l0_3.length c0_3] 37 (0, 0)) QQ) : gb101 ≠ gb105)) ((by rw [hg]; exact Nat.ne_of_gt (YO (g := gb101) (o := .cells #[.int .i64 a0_0, .string a0_1, .slice A0_2 l0_2.length c0_2, .slice (some ad104) l0_3.length c0_3] 37 (0, 0)) QQ) : gb105 ≠ gb101)); clear BK101 HB; obtain ⟨BK101, HB, BK105, GW105, GE105, NB101_105, NB105_101⟩ := n_; clear hb hbox hg; have hnb69 := NB105_101.out; have hnc69 := NB101_105.out; obtain ⟨hcz70_0, hcz70_1, hcz70_2, hcz70_3, hfz70_0, hfz70_1, hfz70_2, hfz70_3⟩ := Yt BK105.out) | ((with_reducible refine Yg (f := 62) rfl ?_); refine YG (some 76) rfl rfl Tryd.func62 Z4 rfl #[.agg #[.int .i64 ((Y1 l0_3 x69_1).f0), .string ((Y1 l0_3 x69_1).f1), .slice A104_2 ((Y1 l0_3 x69_1).f2).length c104_2, .slice A104_3 ((Y1 l0_3 x69_1).f3).length c104_3], .int .i64 (wrap64 (a1 + 1))] rfl Z0 ?_; (with_reducible refine (ih k1 ZT ((Y1 l0_3 x69_1).f0) ((Y1 l0_3 x69_1).f1) _ _ ((Y1 l0_3 x69_1).f2) _ _ ((Y1 l0_3 x69_1).f3) (wrap64 (a1 + 1)) t106 _ ?side1 ?side2 ?side3 ?side4 ?side5 A62.out).mono ?_); (case side1 => exact Z3); (case side2 => exact Kd.C_below HR104_2.out QB); (case side3 => exact HC104_2.out); (case side4 => exact Kd.C_below HR104_3.out QB); (case side5 => exact HC104_3.out); rintro e w71 ⟨rfl, hb⟩; refine ⟨_, rfl, ?_⟩; have n_ := Y1X (Yh (g := gb101) (o := .cells #[.int .i64 a0_0, .string a0_1, .slice A0_2 l0_2.length c0_2, .slice (some ad104) l0_3.length c0_3] 37 (0, 0)) Z9 hb) (Yh (g := gb105) (o := .cells #[.int .i64 ((Y1 l0_3 x69_1).f0), .string ((Y1 l0_3 x69_1).f1), .slice A104_2 ((Y1 l0_3 x69_1).f2).length c104_2, .slice A104_3 ((Y1 l0_3 x69_1).f3).length c104_3] 37 (0, 0)) Z1o hb) (Y5 QB hb); clear BK101 BK105 HB; obtain ⟨BK101, BK105, HB⟩ := n_; (try clear hb); (try clear hb2); (try clear hk); (try clear hi)))
               go_roundg k1
               case measure => have := HK1.out; omega
               case rel => exact ⟨(wrap64 (x7_1 + t106)), (wrap64 (x69_1 + 1)), Zb, Zb, H', ⟨ZT⟩, ⟨Zf⟩, ⟨QB⟩⟩
             ·rw [if_neg c61] at H
              exact Zt
            ·rw [if_neg c60] at H
             exact Zt
           ·rw [if_neg c59] at H
            have c59b0 : decide (x69_1 < (l0_3.length : Int)) = false := decide_eq_false c59
            clear c59
            obtain rfl := Option.some.inj H
            go_wp2
            go_ret
            exact Z1y
    ·rw [if_neg c10] at H
     have c10b0 : ((a0_0 == 8) == (decide ((l0_2.length : Int) > 0))) = false := by simpa using c10
     (try (have c10b1 : ((a0_0 == 8) == decide (0 < l0_2.length)) = false := by first | simpa using c10 | simpa [show ∀ l_ : List UInt8, (l_ != ([] : List UInt8)) = !l_.isEmpty from fun l_ => by cases l_ <;> rfl, show ∀ l_ : List UInt8, (l_ == ([] : List UInt8)) = l_.isEmpty from fun l_ => by cases l_ <;> rfl] using c10))
     (try (have c10b2 : (((a0_0 = 8) = (decide ((l0_2.length : Int) > 0)))) = False := eq_false (by simpa using c10)))
     (try (have c10b3 : decide ((a0_0 == 8) = (decide ((l0_2.length : Int) > 0))) = false := by simpa using c10))
     (try (have c10b4 : ((a0_0 == 8) == (decide ((l0_2.length : Int) > 0))) = false := by simpa using c10))
     (try (have c10b5 : ¬ ((a0_0 == 8) = (decide ((l0_2.length : Int) > 0))) := by simpa using c10))
     clear c10
     obtain rfl := Option.some.inj H
     go_enter Tryd.func62, Tryd.ntmps62
     try go_wp2_with (first | ((with_reducible refine Ym (N := 2) rfl ?_); (try (refine YH (by rfl) ?_; dsimp only)); refine Yl ?hg (N := 2) ?hd (cs := #[.int .i64 a0_0, .string a0_1, .slice A0_2 l0_2.length c0_2, .slice A0_3 l0_3.length c0_3]) (t := 37) ?hr ?_; (case hd => rfl); (case hg => rfl); (case hr => exact Z6); intro gb101 hg w72 hbox hb; have n_ := Y1T (Y5 QB hb) (hbox) ((by rw [hg]; exact (Y6 QB) : w.heap.size ≤ gb101)) ((by rw [hg]; exact (Y6 QB) : w.heap.size ≤ gb101)); clear HB; obtain ⟨HB, BK101, GW101, GE101⟩ := n_; clear hb hbox hg; obtain ⟨hcz73_0, hcz73_1, hcz73_2, hcz73_3, hfz73_0, hfz73_1, hfz73_2, hfz73_3⟩ := Yt BK101.out))
     have n_ := Y2d (Y8 BK101.out) (YI HB.out)
     clear BK101
     clear HB
     obtain ⟨BK101, HB⟩ := n_
     refine Y1v (n := 40) (S := fun w' => w'.cell? ⟨gb101, 0, none⟩ = some (.int .i64 a0_0) ∧ w'.cell? ⟨gb101, 1, none⟩ = some (.string a0_1) ∧ w'.cell? ⟨gb101, 2, none⟩ = some (.slice A0_2 l0_2.length c0_2) ∧ w'.cell? ⟨gb101, 3, none⟩ = some (.slice A0_3 l0_3.length c0_3)) (ds := []) Y27 Z4 rfl rfl ⟨(Y2 BK101.out 0).trans rfl, (Y2 BK101.out 1).trans rfl, (Y2 BK101.out 2).trans rfl, (Y2 BK101.out 3).trans rfl⟩ (fun hHeld => ?_); refine YT Yj.tab3 Yj.bits3 (fun HT_ HW_ => ?_)
     generalize w72.drew = w74 at BK101 HB hHeld ⊢
     refine pY 0 26 Y28 ?_
     refine pY 1 27 Y29 ?_
     refine pY 2 28 Y2a ?_
     refine pY 3 29 Y2b ?_
     refine pY 6 32 Y1V ?_
     refine pT 4 30 Y1W ?_
     refine pY 5 31 Y1R ?_
     refine pT 7 33 Y1S ?_
     refine Y23 (i := 8) (N := some 34) Y1I rfl rfl (Y1f HT_.out Z4) (by decide) (fun K hK => ?_)
     refine Y1G Tryd.func98 Z4 rfl #[.int .i64 a0_0] (by rfl) rfl rfl Z0 ?_
     with_reducible refine (Yx.calls k a0_0 t102 _ A7.out).mono ?_
     rintro e w' ⟨rfl, ⟨nd, rfl⟩⟩
     refine ⟨_, rfl, ?_⟩
     refine hK.out _ _ ⟨(Y2 BK101.out 0).trans rfl, (Y2 BK101.out 1).trans rfl, (Y2 BK101.out 2).trans rfl, (Y2 BK101.out 3).trans rfl⟩ (fun hHeld => ?_)
     clear hK K
     refine Y1w (a' := ?_) ?_ ?_
     rotate_left
     ·show Act.put _ (some 34) _ = _
      simp only [Act.put, List.setIfInBounds_toArray, List.set_cons_zero, List.set_cons_succ, Y11, Y18]
      rfl
     refine pY 9 35 Y1J ?_
     refine pY 10 36 Y1K ?_
     refine pY 11 37 Y1L ?_
     refine pY 12 38 Y1y ?_
     refine pY 13 39 Y1z ?_
     refine pY 14 40 Y1A ?_
     refine pY 15 41 Y1B ?_
     refine pY 16 42 Y1o ?_
     refine pY 17 43 Y1p ?_
     refine pY 18 44 Y1q ?_
     refine pY 19 45 Y1r ?_
     refine pU 20 46 Y1h ?_
     refine pU 21 47 Y1i ?_
     refine pU 22 48 Y1j ?_
     refine pU 23 49 Y1k ?_
     refine pY 24 50 Y1b ?_
     refine pY 25 51 Y1c ?_
     refine pU 26 52 Y1d ?_
     refine pU 27 53 Y1e ?_
     refine pU 28 54 Y13 ?_
     refine pU 29 55 Y14 ?_
     refine pU 30 56 Y15 ?_
     refine pU 31 57 Y16 ?_
     refine pU 32 58 YU ?_
     refine pU 33 59 YV ?_
     refine pY 34 60 YW ?_
     refine pY 35 61 YX ?_
     refine pU 36 62 YP ?_
     refine pU 37 63 YQ ?_
     refine pU 38 64 YR ?_
     refine pY 39 65 YS ?_
     refine Y1Q (Y1n HT_.out Z4) ?_
     try go_wp2
     go_ret
     exact Z1y
   ·rw [if_neg c9] at H
    have c9b0 : ((a0_0 == 1) == (a0_1.toList != ([] : List UInt8))) = false := by simpa using c9
    (try (have c9b1 : ((a0_0 == 1) == !a0_1.toList.isEmpty) = false := by first | simpa using c9 | simpa [show ∀ l_ : List UInt8, (l_ != ([] : List UInt8)) = !l_.isEmpty from fun l_ => by cases l_ <;> rfl, show ∀ l_ : List UInt8, (l_ == ([] : List UInt8)) = l_.isEmpty from fun l_ => by cases l_ <;> rfl] using c9))
    (try (have c9b2 : (((a0_0 = 1) = (a0_1.toList != ([] : List UInt8)))) = False := eq_false (by simpa using c9)))
    (try (have c9b3 : decide ((a0_0 == 1) = (a0_1.toList != ([] : List UInt8))) = false := by simpa using c9))
    (try (have c9b4 : ((a0_0 == 1) == (a0_1.toList != ([] : List UInt8))) = false := by simpa using c9))
    (try (have c9b5 : ¬ ((a0_0 == 1) = (a0_1.toList != ([] : List UInt8))) := by simpa using c9))
    clear c9
    obtain rfl := Option.some.inj H
    go_enter Tryd.func62, Tryd.ntmps62
    try go_wp2_with (first | ((with_reducible refine Ym (N := 2) rfl ?_); (try (refine YH (by rfl) ?_; dsimp only)); refine Yl ?hg (N := 2) ?hd (cs := #[.int .i64 a0_0, .string a0_1, .slice A0_2 l0_2.length c0_2, .slice A0_3 l0_3.length c0_3]) (t := 37) ?hr ?_; (case hd => rfl); (case hg => rfl); (case hr => exact Z6); intro gb101 hg w75 hbox hb; have n_ := Y1T (Y5 QB hb) (hbox) ((by rw [hg]; exact (Y6 QB) : w.heap.size ≤ gb101)) ((by rw [hg]; exact (Y6 QB) : w.heap.size ≤ gb101)); clear HB; obtain ⟨HB, BK101, GW101, GE101⟩ := n_; clear hb hbox hg; obtain ⟨hcz76_0, hcz76_1, hcz76_2, hcz76_3, hfz76_0, hfz76_1, hfz76_2, hfz76_3⟩ := Yt BK101.out))
    have n_ := Y2d (Y8 BK101.out) (YI HB.out)
    clear BK101
    clear HB
    obtain ⟨BK101, HB⟩ := n_
    refine Y1v (n := 40) (S := fun w' => w'.cell? ⟨gb101, 0, none⟩ = some (.int .i64 a0_0) ∧ w'.cell? ⟨gb101, 1, none⟩ = some (.string a0_1) ∧ w'.cell? ⟨gb101, 2, none⟩ = some (.slice A0_2 l0_2.length c0_2) ∧ w'.cell? ⟨gb101, 3, none⟩ = some (.slice A0_3 l0_3.length c0_3)) (ds := []) Y27 Z4 rfl rfl ⟨(Y2 BK101.out 0).trans rfl, (Y2 BK101.out 1).trans rfl, (Y2 BK101.out 2).trans rfl, (Y2 BK101.out 3).trans rfl⟩ (fun hHeld => ?_); refine YT Yj.tab3 Yj.bits3 (fun HT_ HW_ => ?_)
    generalize w75.drew = w77 at BK101 HB hHeld ⊢
    refine pY 0 26 Y28 ?_
    refine pY 1 27 Y29 ?_
    refine pY 2 28 Y2a ?_
    refine pY 3 29 Y2b ?_
    refine pY 6 32 Y1V ?_
    refine pT 4 30 Y1W ?_
    refine pY 5 31 Y1R ?_
    refine pT 7 33 Y1S ?_
    refine Y23 (i := 8) (N := some 34) Y1I rfl rfl (Y1f HT_.out Z4) (by decide) (fun K hK => ?_)
    refine Y1G Tryd.func98 Z4 rfl #[.int .i64 a0_0] (by rfl) rfl rfl Z0 ?_
    with_reducible refine (Yx.calls k a0_0 t102 _ A7.out).mono ?_
    rintro e w' ⟨rfl, ⟨nd, rfl⟩⟩
    refine ⟨_, rfl, ?_⟩
    refine hK.out _ _ ⟨(Y2 BK101.out 0).trans rfl, (Y2 BK101.out 1).trans rfl, (Y2 BK101.out 2).trans rfl, (Y2 BK101.out 3).trans rfl⟩ (fun hHeld => ?_)
    clear hK K
    refine Y1w (a' := ?_) ?_ ?_
    rotate_left
    ·show Act.put _ (some 34) _ = _
     simp only [Act.put, List.setIfInBounds_toArray, List.set_cons_zero, List.set_cons_succ, Y11, Y18]
     rfl
    refine pY 9 35 Y1J ?_
    refine pY 10 36 Y1K ?_
    refine pY 11 37 Y1L ?_
    refine pY 12 38 Y1y ?_
    refine pY 13 39 Y1z ?_
    refine pY 14 40 Y1A ?_
    refine pY 15 41 Y1B ?_
    refine pU 16 42 Y1o ?_
    refine pU 17 43 Y1p ?_
    refine pY 18 44 Y1q ?_
    refine pY 19 45 Y1r ?_
    refine pU 20 46 Y1h ?_
    refine pU 21 47 Y1i ?_
    refine pU 22 48 Y1j ?_
    refine pU 23 49 Y1k ?_
    refine pY 24 50 Y1b ?_
    refine pY 25 51 Y1c ?_
    refine pU 26 52 Y1d ?_
    refine pU 27 53 Y1e ?_
    refine pU 28 54 Y13 ?_
    refine pU 29 55 Y14 ?_
    refine pU 30 56 Y15 ?_
    refine pU 31 57 Y16 ?_
    refine pU 32 58 YU ?_
    refine pU 33 59 YV ?_
    refine pY 34 60 YW ?_
    refine pY 35 61 YX ?_
    refine pU 36 62 YP ?_
    refine pU 37 63 YQ ?_
    refine pU 38 64 YR ?_
    refine pY 39 65 YS ?_
    refine Y1Q (Y1n HT_.out Z4) ?_
    try go_wp2
    go_ret
    exact Z1y
  ·rw [if_neg c8] at H
   have c8b0 : ((l0_3.length : Int) == t102) = false := beq_eq_false_iff_ne.mpr c8
   have c8b1 : ((l0_3.length : Int) != t102) = true := bne_iff_ne.mpr c8
   obtain rfl := Option.some.inj H
   go_enter Tryd.func62, Tryd.ntmps62
   try go_wp2_with (first | ((with_reducible refine Ym (N := 2) rfl ?_); (try (refine YH (by rfl) ?_; dsimp only)); refine Yl ?hg (N := 2) ?hd (cs := #[.int .i64 a0_0, .string a0_1, .slice A0_2 l0_2.length c0_2, .slice A0_3 l0_3.length c0_3]) (t := 37) ?hr ?_; (case hd => rfl); (case hg => rfl); (case hr => exact Z6); intro gb101 hg w78 hbox hb; have n_ := Y1T (Y5 QB hb) (hbox) ((by rw [hg]; exact (Y6 QB) : w.heap.size ≤ gb101)) ((by rw [hg]; exact (Y6 QB) : w.heap.size ≤ gb101)); clear HB; obtain ⟨HB, BK101, GW101, GE101⟩ := n_; clear hb hbox hg; obtain ⟨hcz79_0, hcz79_1, hcz79_2, hcz79_3, hfz79_0, hfz79_1, hfz79_2, hfz79_3⟩ := Yt BK101.out))
   have n_ := Y2d (Y8 BK101.out) (YI HB.out)
   clear BK101
   clear HB
   obtain ⟨BK101, HB⟩ := n_
   refine Y1v (n := 40) (S := fun w' => w'.cell? ⟨gb101, 0, none⟩ = some (.int .i64 a0_0) ∧ w'.cell? ⟨gb101, 1, none⟩ = some (.string a0_1) ∧ w'.cell? ⟨gb101, 2, none⟩ = some (.slice A0_2 l0_2.length c0_2) ∧ w'.cell? ⟨gb101, 3, none⟩ = some (.slice A0_3 l0_3.length c0_3)) (ds := []) Y27 Z4 rfl rfl ⟨(Y2 BK101.out 0).trans rfl, (Y2 BK101.out 1).trans rfl, (Y2 BK101.out 2).trans rfl, (Y2 BK101.out 3).trans rfl⟩ (fun hHeld => ?_); refine YT Yj.tab3 Yj.bits3 (fun HT_ HW_ => ?_)
   generalize w78.drew = w80 at BK101 HB hHeld ⊢
   refine pY 0 26 Y28 ?_
   refine pY 1 27 Y29 ?_
   refine pY 2 28 Y2a ?_
   refine pY 3 29 Y2b ?_
   refine pY 6 32 Y1V ?_
   refine pT 4 30 Y1W ?_
   refine pY 5 31 Y1R ?_
   refine pT 7 33 Y1S ?_
   refine Y23 (i := 8) (N := some 34) Y1I rfl rfl (Y1f HT_.out Z4) (by decide) (fun K hK => ?_)
   refine Y1G Tryd.func98 Z4 rfl #[.int .i64 a0_0] (by rfl) rfl rfl Z0 ?_
   with_reducible refine (Yx.calls k a0_0 t102 _ A7.out).mono ?_
   rintro e w' ⟨rfl, ⟨nd, rfl⟩⟩
   refine ⟨_, rfl, ?_⟩
   refine hK.out _ _ ⟨(Y2 BK101.out 0).trans rfl, (Y2 BK101.out 1).trans rfl, (Y2 BK101.out 2).trans rfl, (Y2 BK101.out 3).trans rfl⟩ (fun hHeld => ?_)
   clear hK K
   refine Y1w (a' := ?_) ?_ ?_
   rotate_left
   ·show Act.put _ (some 34) _ = _
    simp only [Act.put, List.setIfInBounds_toArray, List.set_cons_zero, List.set_cons_succ, Y11, Y18]
    rfl
   refine pY 9 35 Y1J ?_
   refine pY 10 36 Y1K ?_
   refine pY 11 37 Y1L ?_
   refine pU 12 38 Y1y ?_
   refine pU 13 39 Y1z ?_
   refine pY 14 40 Y1A ?_
   refine pY 15 41 Y1B ?_
   refine pU 16 42 Y1o ?_
   refine pU 17 43 Y1p ?_
   refine pY 18 44 Y1q ?_
   refine pY 19 45 Y1r ?_
   refine pU 20 46 Y1h ?_
   refine pU 21 47 Y1i ?_
   refine pU 22 48 Y1j ?_
   refine pU 23 49 Y1k ?_
   refine pY 24 50 Y1b ?_
   refine pY 25 51 Y1c ?_
   refine pU 26 52 Y1d ?_
   refine pU 27 53 Y1e ?_
   refine pU 28 54 Y13 ?_
   refine pU 29 55 Y14 ?_
   refine pU 30 56 Y15 ?_
   refine pU 31 57 Y16 ?_
   refine pU 32 58 YU ?_
   refine pU 33 59 YV ?_
   refine pY 34 60 YW ?_
   refine pY 35 61 YX ?_
   refine pU 36 62 YP ?_
   refine pU 37 63 YQ ?_
   refine pU 38 64 YR ?_
   refine pY 39 65 YS ?_
   refine Y1Q (Y1n HT_.out Z4) ?_
   try go_wp2
   go_ret
   exact Z1y
def Y10.f (k : Nat) (a0_0 : Int) (a0_1 : ByteArray) (l0_2 : List ByteArray) (l0_3 : List (S37)) : Option (Bool) := (Yj.f k a0_0 a0_1 l0_2 l0_3 0).bind fun t102 => (if t102 > 0 then (some (decide (t102 ≤ 30))) else (some false))
set_option maxHeartbeats 8000000 in
set_option maxRecDepth 100000 in
theorem Y10.calls (k : Nat) (a0_0 : Int) (a0_1 : ByteArray) (A0_2 : Option Addr) (c0_2 : Nat) (l0_2 : List ByteArray) (A0_3 : Option Addr) (c0_3 : Nat) (l0_3 : List (S37)) (r : Bool) (w : World) (hT : Tabs w) (hr0_2 : Kd.C Kd.string w A0_2 l0_2.length l0_2) (hc0_2 : l0_2.length ≤ c0_2) (hr0_3 : Kd.C k37 w A0_3 l0_3.length l0_3) (hc0_3 : l0_3.length ≤ c0_3) (h : Y10.f k a0_0 a0_1 l0_2 l0_3 = some r) :
  Calls Tryd.prog 31 #[.agg #[.int .i64 a0_0, .string a0_1, .slice A0_2 l0_2.length c0_2, .slice A0_3 l0_3.length c0_3]] w fun e w' => e = .returned (.bool r) ∧ Below w.heap.size w w' := by
 have HT := Y0.mk hT
 clear hT
 have hu37 := Tryd.underlying37
 have HR0_2 := Y0.mk hr0_2
 have HC0_2 := Y0.mk hc0_2
 clear hr0_2 hc0_2
 have HR0_3 := Y0.mk hr0_3
 have HC0_3 := Y0.mk hc0_3
 clear hr0_3 hc0_3
 have HB := Y0.mk (Below.refl w.heap.size w)
 have H : ((Yj.f k a0_0 a0_1 l0_2 l0_3 0).bind fun t102 => (if t102 > 0 then (some (decide (t102 ≤ 30))) else (some false))) = some r := h
 clear h
 replace H := Option.bind_eq_some_iff.mp H
 obtain ⟨t102, A20, H⟩ := H
 replace H : (if t102 > 0 then (some (decide (t102 ≤ 30))) else (some false)) = some r := H
 have A2 := Y0.mk A20
 clear A20
 by_cases c3 : t102 > 0
 ·rw [if_pos c3] at H
  have c3b0 : decide (0 < t102) = true := decide_eq_true c3
  clear c3
  obtain rfl := Option.some.inj H
  go_enter Tryd.func31, Tryd.ntmps31
  go_wp2_with (first | ((with_reducible refine Ym (N := 1) rfl ?_); refine Yl ?hg (N := 1) ?hd (cs := #[.int .i64 a0_0, .string a0_1, .slice A0_2 l0_2.length c0_2, .slice A0_3 l0_3.length c0_3]) (t := 37) ?hr ?_; (case hd => rfl); (case hg => rfl); (case hr => exact Z6); intro gb101 hg w4 hbox hb; have n_ := Y1T (Y5 QB hb) (hbox) ((by rw [hg]; exact (Y6 QB) : w.heap.size ≤ gb101)) ((by rw [hg]; exact (Y6 QB) : w.heap.size ≤ gb101)); clear HB; obtain ⟨HB, BK101, GW101, GE101⟩ := n_; clear hb hbox hg; obtain ⟨hcz5_0, hcz5_1, hcz5_2, hcz5_3, hfz5_0, hfz5_1, hfz5_2, hfz5_3⟩ := Yt BK101.out) | ((with_reducible refine Yg (f := 62) rfl ?_); refine YG (some 5) rfl rfl Tryd.func62 Z4 rfl #[.agg #[.int .i64 a0_0, .string a0_1, .slice A0_2 l0_2.length c0_2, .slice A0_3 l0_3.length c0_3], .int .i64 0] rfl Z0 ?_; (with_reducible refine (Yj.calls k a0_0 a0_1 _ _ l0_2 _ _ l0_3 0 t102 _ ?side1 ?side2 ?side3 ?side4 ?side5 A2.out).mono ?_); (case side1 => exact Z3); (case side2 => exact Ze); (case side3 => exact HC0_2.out); (case side4 => exact ZK); (case side5 => exact HC0_3.out); rintro e w6 ⟨rfl, hb⟩; refine ⟨_, rfl, ?_⟩; have n_ := Y2d (Yh (g := gb101) (o := .cells #[.int .i64 a0_0, .string a0_1, .slice A0_2 l0_2.length c0_2, .slice A0_3 l0_3.length c0_3] 37 (0, 0)) QQ hb) (Y5 QB hb); clear BK101 HB; obtain ⟨BK101, HB⟩ := n_; (try clear hb); (try clear hb2); (try clear hk); (try clear hi)))
  go_ret
  exact Z1y
 ·rw [if_neg c3] at H
  have c3b0 : decide (0 < t102) = false := decide_eq_false c3
  clear c3
  obtain rfl := Option.some.inj H
  go_enter Tryd.func31, Tryd.ntmps31
  go_wp2_with (first | ((with_reducible refine Ym (N := 1) rfl ?_); refine Yl ?hg (N := 1) ?hd (cs := #[.int .i64 a0_0, .string a0_1, .slice A0_2 l0_2.length c0_2, .slice A0_3 l0_3.length c0_3]) (t := 37) ?hr ?_; (case hd => rfl); (case hg => rfl); (case hr => exact Z6); intro gb101 hg w7 hbox hb; have n_ := Y1T (Y5 QB hb) (hbox) ((by rw [hg]; exact (Y6 QB) : w.heap.size ≤ gb101)) ((by rw [hg]; exact (Y6 QB) : w.heap.size ≤ gb101)); clear HB; obtain ⟨HB, BK101, GW101, GE101⟩ := n_; clear hb hbox hg; obtain ⟨hcz8_0, hcz8_1, hcz8_2, hcz8_3, hfz8_0, hfz8_1, hfz8_2, hfz8_3⟩ := Yt BK101.out) | ((with_reducible refine Yg (f := 62) rfl ?_); refine YG (some 5) rfl rfl Tryd.func62 Z4 rfl #[.agg #[.int .i64 a0_0, .string a0_1, .slice A0_2 l0_2.length c0_2, .slice A0_3 l0_3.length c0_3], .int .i64 0] rfl Z0 ?_; (with_reducible refine (Yj.calls k a0_0 a0_1 _ _ l0_2 _ _ l0_3 0 t102 _ ?side1 ?side2 ?side3 ?side4 ?side5 A2.out).mono ?_); (case side1 => exact Z3); (case side2 => exact Ze); (case side3 => exact HC0_2.out); (case side4 => exact ZK); (case side5 => exact HC0_3.out); rintro e w9 ⟨rfl, hb⟩; refine ⟨_, rfl, ?_⟩; have n_ := Y2d (Yh (g := gb101) (o := .cells #[.int .i64 a0_0, .string a0_1, .slice A0_2 l0_2.length c0_2, .slice A0_3 l0_3.length c0_3] 37 (0, 0)) QQ hb) (Y5 QB hb); clear BK101 HB; obtain ⟨BK101, HB⟩ := n_; (try clear hb); (try clear hb2); (try clear hk); (try clear hi)))
  go_ret
  exact Z1y
def Ys.l0 : Nat → List ByteArray → List ByteArray → Int → Int → Option (Bool)
 | 0, _, _, _, _ => none
 | k + 1, x0, x1, x12, x13 => if x13 < x12 then (if 0 ≤ x13 then (if x13 < (x0.length : Int) then (if x13 < (x1.length : Int) then (if (Y3s ByteArray.empty x0 x13).toList = (Y3s ByteArray.empty x1 x13).toList then (Ys.l0 k x0 x1 x12 (wrap64 (x13 + 1))) else (some false)) else (none)) else (none)) else (none)) else (some true)
def Ys.f (k : Nat) (l0 : List ByteArray) (l1 : List ByteArray) : Option (Bool) := if (l0.length : Int) = (l1.length : Int) then (Ys.l0 k l0 l1 (l0.length : Int) 0) else (some false)
set_option maxHeartbeats 8000000 in
set_option maxRecDepth 100000 in
theorem Ys.calls (k : Nat) (A0 : Option Addr) (c0 : Nat) (l0 : List ByteArray) (A1 : Option Addr) (c1 : Nat) (l1 : List ByteArray) (r : Bool) (w : World) (hr0 : Kd.C Kd.string w A0 l0.length l0) (hc0 : l0.length ≤ c0) (hr1 : Kd.C Kd.string w A1 l1.length l1) (hc1 : l1.length ≤ c1) (h : Ys.f k l0 l1 = some r) :
  Calls Tryd.prog 60 #[.slice A0 l0.length c0, .slice A1 l1.length c1] w fun e w' => e = .returned (.bool r) ∧ Y1M w w' := by
 have HR0 := Y0.mk hr0
 have HC0 := Y0.mk hc0
 clear hr0 hc0
 have HR1 := Y0.mk hr1
 have HC1 := Y0.mk hc1
 clear hr1 hc1
 have H : (if (l0.length : Int) = (l1.length : Int) then (Ys.l0 k l0 l1 (l0.length : Int) 0) else (some false)) = some r := h
 clear h
 by_cases c3 : (l0.length : Int) = (l1.length : Int)
 ·rw [if_pos c3] at H
  have c3b0 : ((l0.length : Int) == (l1.length : Int)) = true := beq_iff_eq.mpr c3
  have c3b1 : ((l0.length : Int) != (l1.length : Int)) = false := bne_eq_false_iff_eq.mpr c3
  have c3b2 : (l0.length == l1.length) = true := by first | simpa using c3 | (simp at c3 ⊢; omega)
  clear c3
  have H' := Y0.mk H
  clear H
  go_enter Tryd.func60, Tryd.ntmps60
  go_wp2
  repeat (go_quiet (fail); try go_wp2)
  go_loopg [13] k (fun kq v13 w' => ∃ (x13_1 : Int), v13 = .int .i64 x13_1 ∧ Y0 (Ys.l0 kq l0 l1 (l0.length : Int) x13_1 = some r) ∧ Y0 (kq ≤ k) ∧ Y1M w w')
  case atStart => exact ⟨(0), Zb, H', ⟨Nat.le_refl _⟩, Zp⟩
  case round =>
   clear H'
   try clear c1
   try clear p2
   try clear c3
   try clear c3b0
   try clear c3b1
   try clear c3b2
   obtain ⟨x13_1, rfl, HA, HK1, ⟨m1, rfl⟩⟩ := hrel
   cases gk with
   | zero => exact absurd HA.out (by simp [Ys.l0])
   | succ k1 =>
    have H := HA.out
    clear HA
    simp only [Ys.l0] at H
    by_cases c4 : x13_1 < (l0.length : Int)
    ·rw [if_pos c4] at H
     have c4b0 : decide (x13_1 < (l0.length : Int)) = true := decide_eq_true c4
     clear c4
     by_cases c5 : 0 ≤ x13_1
     ·rw [if_pos c5] at H
      have c5b0 : decide (0 ≤ x13_1) = true := decide_eq_true c5
      clear c5
      by_cases c6 : x13_1 < (l0.length : Int)
      ·rw [if_pos c6] at H
       have c6b0 : decide (x13_1 < (l0.length : Int)) = true := decide_eq_true c6
       clear c6
       by_cases c7 : x13_1 < (l1.length : Int)
       ·rw [if_pos c7] at H
        have c7b0 : decide (x13_1 < (l1.length : Int)) = true := decide_eq_true c7
        clear c7
        by_cases c8 : (Y3s ByteArray.empty l0 x13_1).toList = (Y3s ByteArray.empty l1 x13_1).toList
        ·rw [if_pos c8] at H
         have c8b0 : ((Y3s ByteArray.empty l0 x13_1).toList == (Y3s ByteArray.empty l1 x13_1).toList) = true := beq_iff_eq.mpr c8
         have c8b1 : ((Y3s ByteArray.empty l0 x13_1).toList != (Y3s ByteArray.empty l1 x13_1).toList) = false := bne_eq_false_iff_eq.mpr c8
         clear c8
         have H' := Y0.mk H
         clear H
         have p101 : 0 ≤ (x13_1 : Int) := of_decide_eq_true Z5
         have q101 : x13_1 < (l0.length : Int) := of_decide_eq_true Z5
         obtain ⟨ad101, e101, hx101_0⟩ := Kd.at_string HR0.out x13_1 p101 q101
         cases e101
         replace p101 := eq_true p101
         replace q101 := eq_true q101
         have p102 : 0 ≤ (x13_1 : Int) := of_decide_eq_true Z5
         have q102 : x13_1 < (l1.length : Int) := of_decide_eq_true Z5
         obtain ⟨ad102, e102, hx102_0⟩ := Kd.at_string HR1.out x13_1 p102 q102
         cases e102
         replace p102 := eq_true p102
         replace q102 := eq_true q102
         go_wp2
         repeat (go_quiet (fail); try go_wp2)
         go_roundg k1
         case measure => have := HK1.out; omega
         case rel => exact ⟨(wrap64 (x13_1 + 1)), Zb, H', ⟨ZT⟩, Zp⟩
        ·rw [if_neg c8] at H
         have c8b0 : ((Y3s ByteArray.empty l0 x13_1).toList == (Y3s ByteArray.empty l1 x13_1).toList) = false := beq_eq_false_iff_ne.mpr c8
         have c8b1 : ((Y3s ByteArray.empty l0 x13_1).toList != (Y3s ByteArray.empty l1 x13_1).toList) = true := bne_iff_ne.mpr c8
         obtain rfl := Option.some.inj H
         have p101 : 0 ≤ (x13_1 : Int) := of_decide_eq_true Z5
         have q101 : x13_1 < (l0.length : Int) := of_decide_eq_true Z5
         obtain ⟨ad101, e101, hx101_0⟩ := Kd.at_string HR0.out x13_1 p101 q101
         cases e101
         replace p101 := eq_true p101
         replace q101 := eq_true q101
         have p102 : 0 ≤ (x13_1 : Int) := of_decide_eq_true Z5
         have q102 : x13_1 < (l1.length : Int) := of_decide_eq_true Z5
         obtain ⟨ad102, e102, hx102_0⟩ := Kd.at_string HR1.out x13_1 p102 q102
         cases e102
         replace p102 := eq_true p102
         replace q102 := eq_true q102
         go_wp2
         repeat (go_quiet (fail); try go_wp2)
         go_ret
         exact ⟨Zb, Zp⟩
       ·rw [if_neg c7] at H
        exact Zt
      ·rw [if_neg c6] at H
       exact Zt
     ·rw [if_neg c5] at H
      exact Zt
    ·rw [if_neg c4] at H
     have c4b0 : decide (x13_1 < (l0.length : Int)) = false := decide_eq_false c4
     clear c4
     obtain rfl := Option.some.inj H
     go_wp2
     repeat (go_quiet (fail); try go_wp2)
     go_ret
     exact ⟨Zb, Zp⟩
 ·rw [if_neg c3] at H
  have c3b0 : ((l0.length : Int) == (l1.length : Int)) = false := beq_eq_false_iff_ne.mpr c3
  have c3b1 : ((l0.length : Int) != (l1.length : Int)) = true := bne_iff_ne.mpr c3
  have c3b2 : (l0.length == l1.length) = false := by first | simpa using c3 | (simp at c3 ⊢; omega)
  obtain rfl := Option.some.inj H
  go_enter Tryd.func60, Tryd.ntmps60
  go_wp2
  repeat (go_quiet (fail); try go_wp2)
  go_ret
  exact ⟨Zb, Zp⟩
mutual
def Yz.f : Nat → Int → ByteArray → List ByteArray → List (S37) → Int → ByteArray → List ByteArray → List (S37) → Option (Bool)
 | 0, _, _, _, _, _, _, _, _ => none
 | k + 1, a0_0, a0_1, l0_2, l0_3, a1_0, a1_1, l1_2, l1_3 => if a0_0 = a1_0 then (if a0_1.toList = a1_1.toList then ((Ys.f k l0_2 l1_2).bind fun t103 => (if t103 = true then ((YY.f k l0_3 l1_3).bind fun t104 => (some t104)) else (some false))) else (some false)) else (some false)
def YY.l0 : Nat → List (S37) → List (S37) → Int → Int → Option (Bool)
 | 0, _, _, _, _ => none
 | k + 1, x1, x15, x16, x17 => if x17 < x16 then (if 0 ≤ x17 then (if x17 < (x15.length : Int) then (if x17 < (x1.length : Int) then ((Yz.f k ((Y1 x15 x17).f0) ((Y1 x15 x17).f1) ((Y1 x15 x17).f2) ((Y1 x15 x17).f3) ((Y1 x1 x17).f0) ((Y1 x1 x17).f1) ((Y1 x1 x17).f2) ((Y1 x1 x17).f3)).bind fun t109 => (if t109 = true then (YY.l0 k x1 x15 x16 (wrap64 (x17 + 1))) else (some false))) else (none)) else (none)) else (none)) else (some true)
def YY.f : Nat → List (S37) → List (S37) → Option (Bool)
 | 0, _, _ => none
 | k + 1, l0, l1 => if (l0.length : Int) = (l1.length : Int) then (YY.l0 k l1 l0 (l0.length : Int) 0) else (some false)
end
abbrev Yz.Spec (k : Nat) : Prop := ∀ (a0_0 : Int) (a0_1 : ByteArray) (A0_2 : Option Addr) (c0_2 : Nat) (l0_2 : List ByteArray) (A0_3 : Option Addr) (c0_3 : Nat) (l0_3 : List (S37)) (a1_0 : Int) (a1_1 : ByteArray) (A1_2 : Option Addr) (c1_2 : Nat) (l1_2 : List ByteArray) (A1_3 : Option Addr) (c1_3 : Nat) (l1_3 : List (S37)) (r : Bool) (w : World) (hr0_2 : Kd.C Kd.string w A0_2 l0_2.length l0_2) (hc0_2 : l0_2.length ≤ c0_2) (hr0_3 : Kd.C k37 w A0_3 l0_3.length l0_3) (hc0_3 : l0_3.length ≤ c0_3) (hr1_2 : Kd.C Kd.string w A1_2 l1_2.length l1_2) (hc1_2 : l1_2.length ≤ c1_2) (hr1_3 : Kd.C k37 w A1_3 l1_3.length l1_3) (hc1_3 : l1_3.length ≤ c1_3) (h : Yz.f k a0_0 a0_1 l0_2 l0_3 a1_0 a1_1 l1_2 l1_3 = some r),
  Calls Tryd.prog 30 #[.agg #[.int .i64 a0_0, .string a0_1, .slice A0_2 l0_2.length c0_2, .slice A0_3 l0_3.length c0_3], .agg #[.int .i64 a1_0, .string a1_1, .slice A1_2 l1_2.length c1_2, .slice A1_3 l1_3.length c1_3]] w fun e w' => e = .returned (.bool r) ∧ Below w.heap.size w w'
abbrev YY.Spec (k : Nat) : Prop := ∀ (A0 : Option Addr) (c0 : Nat) (l0 : List (S37)) (A1 : Option Addr) (c1 : Nat) (l1 : List (S37))  (r : Bool) (w : World) (hr0 : Kd.C k37 w A0 l0.length l0) (hc0 : l0.length ≤ c0) (hr1 : Kd.C k37 w A1 l1.length l1) (hc1 : l1.length ≤ c1) (h : YY.f k l0 l1 = some r),
  Calls Tryd.prog 61 #[.slice A0 l0.length c0, .slice A1 l1.length c1, .func (.func 30) #[] #[]] w fun e w' => e = .returned (.bool r) ∧ Below w.heap.size w w'
set_option maxHeartbeats 8000000 in
set_option maxRecDepth 100000 in
theorem Yz.Y2w (k : Nat) (ih : ∀ j_ < k, Yz.Spec j_ ∧ YY.Spec j_) : ∀ (a0_0 : Int) (a0_1 : ByteArray) (A0_2 : Option Addr) (c0_2 : Nat) (l0_2 : List ByteArray) (A0_3 : Option Addr) (c0_3 : Nat) (l0_3 : List (S37)) (a1_0 : Int) (a1_1 : ByteArray) (A1_2 : Option Addr) (c1_2 : Nat) (l1_2 : List ByteArray) (A1_3 : Option Addr) (c1_3 : Nat) (l1_3 : List (S37)) (r : Bool) (w : World) (hr0_2 : Kd.C Kd.string w A0_2 l0_2.length l0_2) (hc0_2 : l0_2.length ≤ c0_2) (hr0_3 : Kd.C k37 w A0_3 l0_3.length l0_3) (hc0_3 : l0_3.length ≤ c0_3) (hr1_2 : Kd.C Kd.string w A1_2 l1_2.length l1_2) (hc1_2 : l1_2.length ≤ c1_2) (hr1_3 : Kd.C k37 w A1_3 l1_3.length l1_3) (hc1_3 : l1_3.length ≤ c1_3) (h : Yz.f k a0_0 a0_1 l0_2 l0_3 a1_0 a1_1 l1_2 l1_3 = some r),
  Calls Tryd.prog 30 #[.agg #[.int .i64 a0_0, .string a0_1, .slice A0_2 l0_2.length c0_2, .slice A0_3 l0_3.length c0_3], .agg #[.int .i64 a1_0, .string a1_1, .slice A1_2 l1_2.length c1_2, .slice A1_3 l1_3.length c1_3]] w fun e w' => e = .returned (.bool r) ∧ Below w.heap.size w w' := by
 intro a0_0 a0_1 A0_2 c0_2 l0_2 A0_3 c0_3 l0_3 a1_0 a1_1 A1_2 c1_2 l1_2 A1_3 c1_3 l1_3 r w hr0_2 hc0_2 hr0_3 hc0_3 hr1_2 hc1_2 hr1_3 hc1_3 h
 cases k with
 | zero => exact absurd h (by simp [Yz.f])
 | succ k =>
 simp only [Yz.f] at h
 have hu37 := Tryd.underlying37
 have HR0_2 := Y0.mk hr0_2
 have HC0_2 := Y0.mk hc0_2
 clear hr0_2 hc0_2
 have HR0_3 := Y0.mk hr0_3
 have HC0_3 := Y0.mk hc0_3
 clear hr0_3 hc0_3
 have HR1_2 := Y0.mk hr1_2
 have HC1_2 := Y0.mk hc1_2
 clear hr1_2 hc1_2
 have HR1_3 := Y0.mk hr1_3
 have HC1_3 := Y0.mk hc1_3
 clear hr1_3 hc1_3
 have HB := Y0.mk (Below.refl w.heap.size w)
 have H : (if a0_0 = a1_0 then (if a0_1.toList = a1_1.toList then ((Ys.f k l0_2 l1_2).bind fun t103 => (if t103 = true then ((YY.f k l0_3 l1_3).bind fun t104 => (some t104)) else (some false))) else (some false)) else (some false)) = some r := h
 clear h
 by_cases c3 : a0_0 = a1_0
 ·rw [if_pos c3] at H
  have c3b0 : (a0_0 == a1_0) = true := beq_iff_eq.mpr c3
  have c3b1 : (a0_0 != a1_0) = false := bne_eq_false_iff_eq.mpr c3
  clear c3
  by_cases c4 : a0_1.toList = a1_1.toList
  ·rw [if_pos c4] at H
   have c4b0 : (a0_1.toList == a1_1.toList) = true := beq_iff_eq.mpr c4
   have c4b1 : (a0_1.toList != a1_1.toList) = false := bne_eq_false_iff_eq.mpr c4
   clear c4
   replace H := Option.bind_eq_some_iff.mp H
   obtain ⟨t103, A50, H⟩ := H
   replace H : (if t103 = true then ((YY.f k l0_3 l1_3).bind fun t104 => (some t104)) else (some false)) = some r := H
   have A5 := Y0.mk A50
   clear A50
   by_cases c6 : t103 = true
   ·subst c6
    have H1 : ((YY.f k l0_3 l1_3).bind fun t104 => (some t104)) = some r := by rw [if_pos rfl] at H; exact H
    clear H
    have H := H1
    clear H1
    replace H := Option.bind_eq_some_iff.mp H
    obtain ⟨t104, A70, H⟩ := H
    replace H : (some t104) = some r := H
    have A7 := Y0.mk A70
    clear A70
    obtain rfl := Option.some.inj H
    go_enter Tryd.func30, Tryd.ntmps30
    go_wp2_with (first | ((with_reducible refine Ym (N := 2) rfl ?_); refine Yl ?hg (N := 2) ?hd (cs := #[.int .i64 a0_0, .string a0_1, .slice A0_2 l0_2.length c0_2, .slice A0_3 l0_3.length c0_3]) (t := 37) ?hr ?_; (case hd => rfl); (case hg => rfl); (case hr => exact Z6); intro gb101 hg w8 hbox hb; have n_ := Y1T (Y5 QB hb) (hbox) ((by rw [hg]; exact (Y6 QB) : w.heap.size ≤ gb101)) ((by rw [hg]; exact (Y6 QB) : w.heap.size ≤ gb101)); clear HB; obtain ⟨HB, BK101, GW101, GE101⟩ := n_; clear hb hbox hg) | ((with_reducible refine Ym (N := 3) rfl ?_); refine Yl ?hg (N := 3) ?hd (cs := #[.int .i64 a1_0, .string a1_1, .slice A1_2 l1_2.length c1_2, .slice A1_3 l1_3.length c1_3]) (t := 37) ?hr ?_; (case hd => rfl); (case hg => rfl); (case hr => exact Z6); intro gb102 hg w9 hbox hb; have n_ := Y3p (Yh (g := gb101) (o := .cells #[.int .i64 a0_0, .string a0_1, .slice A0_2 l0_2.length c0_2, .slice A0_3 l0_3.length c0_3] 37 (0, 0)) QQ hb) (Y5 QB hb) (hbox) ((by rw [hg]; exact (Y6 QB) : w.heap.size ≤ gb102)) ((by rw [hg]; exact (Y6 QB) : w.heap.size ≤ gb102)) ((by rw [hg]; exact Nat.ne_of_lt (YO (g := gb101) (o := .cells #[.int .i64 a0_0, .string a0_1, .slice A0_2 l0_2.length c0_2, .slice A0_3 l0_3.length c0_3] 37 (0, 0)) QQ) : gb101 ≠ gb102)) ((by rw [hg]; exact Nat.ne_of_gt (YO (g := gb101) (o := .cells #[.int .i64 a0_0, .string a0_1, .slice A0_2 l0_2.length c0_2, .slice A0_3 l0_3.length c0_3] 37 (0, 0)) QQ) : gb102 ≠ gb101)); clear BK101 HB; obtain ⟨BK101, HB, BK102, GW102, GE102, NB101_102, NB102_101⟩ := n_; clear hb hbox hg; have hnb10 := NB101_102.out; have hnc10 := NB102_101.out; obtain ⟨hcz11_0, hcz11_1, hcz11_2, hcz11_3, hfz11_0, hfz11_1, hfz11_2, hfz11_3⟩ := Yt BK101.out; obtain ⟨hcz12_0, hcz12_1, hcz12_2, hcz12_3, hfz12_0, hfz12_1, hfz12_2, hfz12_3⟩ := Yt BK102.out) | (go_at_call 60; (with_reducible refine (Ys.calls k _ _ l0_2 _ _ l1_2 true _ ?side1 ?side2 ?side3 ?side4 A5.out).mono ?_); (case side1 => exact Ze); (case side2 => exact HC0_2.out); (case side3 => exact Z19); (case side4 => exact HC1_2.out); rintro e w' ⟨rfl, ⟨nd, rfl⟩⟩) | (go_at_call 61; (with_reducible refine ((ih k (by omega)).2 _ _ l0_3 _ _ l1_3  t104 _ ?side1 ?side2 ?side3 ?side4 A7.out).mono ?_); (case side1 => repeat (first | exact (Kd.C_below HR0_3.out QB) | (with_reducible refine Kd.C_alloc ?_ _) | (with_reducible refine Kd.C_drewN ?_ _) | (with_reducible refine Kd.C_drew ?_))); (case side2 => exact HC0_3.out); (case side3 => repeat (first | exact (Kd.C_below HR1_3.out QB) | (with_reducible refine Kd.C_alloc ?_ _) | (with_reducible refine Kd.C_drewN ?_ _) | (with_reducible refine Kd.C_drew ?_))); (case side4 => exact HC1_3.out); rintro e w13 ⟨rfl, hb⟩; have n_ := Y1X (Yh (g := gb101) (o := .cells #[.int .i64 a0_0, .string a0_1, .slice A0_2 l0_2.length c0_2, .slice A0_3 l0_3.length c0_3] 37 (0, 0)) QQ hb) (Yh (g := gb102) (o := .cells #[.int .i64 a1_0, .string a1_1, .slice A1_2 l1_2.length c1_2, .slice A1_3 l1_3.length c1_3] 37 (0, 0)) QQ hb) (Y5 QB hb); clear BK101 BK102 HB; obtain ⟨BK101, BK102, HB⟩ := n_; (try clear hb); (try clear hb2); (try clear hk); (try clear hi)))
    go_ret
    exact Z1y
   ·replace c6 := Bool.eq_false_iff.mpr c6
    subst c6
    have H1 : (some false) = some r := by rw [if_neg (show ¬ (false = true) by decide)] at H; exact H
    clear H
    have H := H1
    clear H1
    obtain rfl := Option.some.inj H
    go_enter Tryd.func30, Tryd.ntmps30
    go_wp2_with (first | ((with_reducible refine Ym (N := 2) rfl ?_); refine Yl ?hg (N := 2) ?hd (cs := #[.int .i64 a0_0, .string a0_1, .slice A0_2 l0_2.length c0_2, .slice A0_3 l0_3.length c0_3]) (t := 37) ?hr ?_; (case hd => rfl); (case hg => rfl); (case hr => exact Z6); intro gb101 hg w14 hbox hb; have n_ := Y1T (Y5 QB hb) (hbox) ((by rw [hg]; exact (Y6 QB) : w.heap.size ≤ gb101)) ((by rw [hg]; exact (Y6 QB) : w.heap.size ≤ gb101)); clear HB; obtain ⟨HB, BK101, GW101, GE101⟩ := n_; clear hb hbox hg) | ((with_reducible refine Ym (N := 3) rfl ?_); refine Yl ?hg (N := 3) ?hd (cs := #[.int .i64 a1_0, .string a1_1, .slice A1_2 l1_2.length c1_2, .slice A1_3 l1_3.length c1_3]) (t := 37) ?hr ?_; (case hd => rfl); (case hg => rfl); (case hr => exact Z6); intro gb102 hg w15 hbox hb; have n_ := Y3p (Yh (g := gb101) (o := .cells #[.int .i64 a0_0, .string a0_1, .slice A0_2 l0_2.length c0_2, .slice A0_3 l0_3.length c0_3] 37 (0, 0)) QQ hb) (Y5 QB hb) (hbox) ((by rw [hg]; exact (Y6 QB) : w.heap.size ≤ gb102)) ((by rw [hg]; exact (Y6 QB) : w.heap.size ≤ gb102)) ((by rw [hg]; exact Nat.ne_of_lt (YO (g := gb101) (o := .cells #[.int .i64 a0_0, .string a0_1, .slice A0_2 l0_2.length c0_2, .slice A0_3 l0_3.length c0_3] 37 (0, 0)) QQ) : gb101 ≠ gb102)) ((by rw [hg]; exact Nat.ne_of_gt (YO (g := gb101) (o := .cells #[.int .i64 a0_0, .string a0_1, .slice A0_2 l0_2.length c0_2, .slice A0_3 l0_3.length c0_3] 37 (0, 0)) QQ) : gb102 ≠ gb101)); clear BK101 HB; obtain ⟨BK101, HB, BK102, GW102, GE102, NB101_102, NB102_101⟩ := n_; clear hb hbox hg; have hnb16 := NB101_102.out; have hnc16 := NB102_101.out; obtain ⟨hcz17_0, hcz17_1, hcz17_2, hcz17_3, hfz17_0, hfz17_1, hfz17_2, hfz17_3⟩ := Yt BK101.out; obtain ⟨hcz18_0, hcz18_1, hcz18_2, hcz18_3, hfz18_0, hfz18_1, hfz18_2, hfz18_3⟩ := Yt BK102.out) | (go_at_call 60; (with_reducible refine (Ys.calls k _ _ l0_2 _ _ l1_2 false _ ?side1 ?side2 ?side3 ?side4 A5.out).mono ?_); (case side1 => exact Ze); (case side2 => exact HC0_2.out); (case side3 => exact Z19); (case side4 => exact HC1_2.out); rintro e w' ⟨rfl, ⟨nd, rfl⟩⟩))
    go_ret
    exact Z1y
  ·rw [if_neg c4] at H
   have c4b0 : (a0_1.toList == a1_1.toList) = false := beq_eq_false_iff_ne.mpr c4
   have c4b1 : (a0_1.toList != a1_1.toList) = true := bne_iff_ne.mpr c4
   obtain rfl := Option.some.inj H
   go_enter Tryd.func30, Tryd.ntmps30
   go_wp2_with (first | ((with_reducible refine Ym (N := 2) rfl ?_); refine Yl ?hg (N := 2) ?hd (cs := #[.int .i64 a0_0, .string a0_1, .slice A0_2 l0_2.length c0_2, .slice A0_3 l0_3.length c0_3]) (t := 37) ?hr ?_; (case hd => rfl); (case hg => rfl); (case hr => exact Z6); intro gb101 hg w19 hbox hb; have n_ := Y1T (Y5 QB hb) (hbox) ((by rw [hg]; exact (Y6 QB) : w.heap.size ≤ gb101)) ((by rw [hg]; exact (Y6 QB) : w.heap.size ≤ gb101)); clear HB; obtain ⟨HB, BK101, GW101, GE101⟩ := n_; clear hb hbox hg) | ((with_reducible refine Ym (N := 3) rfl ?_); refine Yl ?hg (N := 3) ?hd (cs := #[.int .i64 a1_0, .string a1_1, .slice A1_2 l1_2.length c1_2, .slice A1_3 l1_3.length c1_3]) (t := 37) ?hr ?_; (case hd => rfl); (case hg => rfl); (case hr => exact Z6); intro gb102 hg w20 hbox hb; have n_ := Y3p (Yh (g := gb101) (o := .cells #[.int .i64 a0_0, .string a0_1, .slice A0_2 l0_2.length c0_2, .slice A0_3 l0_3.length c0_3] 37 (0, 0)) QQ hb) (Y5 QB hb) (hbox) ((by rw [hg]; exact (Y6 QB) : w.heap.size ≤ gb102)) ((by rw [hg]; exact (Y6 QB) : w.heap.size ≤ gb102)) ((by rw [hg]; exact Nat.ne_of_lt (YO (g := gb101) (o := .cells #[.int .i64 a0_0, .string a0_1, .slice A0_2 l0_2.length c0_2, .slice A0_3 l0_3.length c0_3] 37 (0, 0)) QQ) : gb101 ≠ gb102)) ((by rw [hg]; exact Nat.ne_of_gt (YO (g := gb101) (o := .cells #[.int .i64 a0_0, .string a0_1, .slice A0_2 l0_2.length c0_2, .slice A0_3 l0_3.length c0_3] 37 (0, 0)) QQ) : gb102 ≠ gb101)); clear BK101 HB; obtain ⟨BK101, HB, BK102, GW102, GE102, NB101_102, NB102_101⟩ := n_; clear hb hbox hg; have hnb21 := NB101_102.out; have hnc21 := NB102_101.out; obtain ⟨hcz22_0, hcz22_1, hcz22_2, hcz22_3, hfz22_0, hfz22_1, hfz22_2, hfz22_3⟩ := Yt BK101.out; obtain ⟨hcz23_0, hcz23_1, hcz23_2, hcz23_3, hfz23_0, hfz23_1, hfz23_2, hfz23_3⟩ := Yt BK102.out))
   go_ret
   exact Z1y
 ·rw [if_neg c3] at H
  have c3b0 : (a0_0 == a1_0) = false := beq_eq_false_iff_ne.mpr c3
  have c3b1 : (a0_0 != a1_0) = true := bne_iff_ne.mpr c3
  obtain rfl := Option.some.inj H
  go_enter Tryd.func30, Tryd.ntmps30
  go_wp2_with (first | ((with_reducible refine Ym (N := 2) rfl ?_); refine Yl ?hg (N := 2) ?hd (cs := #[.int .i64 a0_0, .string a0_1, .slice A0_2 l0_2.length c0_2, .slice A0_3 l0_3.length c0_3]) (t := 37) ?hr ?_; (case hd => rfl); (case hg => rfl); (case hr => exact Z6); intro gb101 hg w24 hbox hb; have n_ := Y1T (Y5 QB hb) (hbox) ((by rw [hg]; exact (Y6 QB) : w.heap.size ≤ gb101)) ((by rw [hg]; exact (Y6 QB) : w.heap.size ≤ gb101)); clear HB; obtain ⟨HB, BK101, GW101, GE101⟩ := n_; clear hb hbox hg) | ((with_reducible refine Ym (N := 3) rfl ?_); refine Yl ?hg (N := 3) ?hd (cs := #[.int .i64 a1_0, .string a1_1, .slice A1_2 l1_2.length c1_2, .slice A1_3 l1_3.length c1_3]) (t := 37) ?hr ?_; (case hd => rfl); (case hg => rfl); (case hr => exact Z6); intro gb102 hg w25 hbox hb; have n_ := Y3p (Yh (g := gb101) (o := .cells #[.int .i64 a0_0, .string a0_1, .slice A0_2 l0_2.length c0_2, .slice A0_3 l0_3.length c0_3] 37 (0, 0)) QQ hb) (Y5 QB hb) (hbox) ((by rw [hg]; exact (Y6 QB) : w.heap.size ≤ gb102)) ((by rw [hg]; exact (Y6 QB) : w.heap.size ≤ gb102)) ((by rw [hg]; exact Nat.ne_of_lt (YO (g := gb101) (o := .cells #[.int .i64 a0_0, .string a0_1, .slice A0_2 l0_2.length c0_2, .slice A0_3 l0_3.length c0_3] 37 (0, 0)) QQ) : gb101 ≠ gb102)) ((by rw [hg]; exact Nat.ne_of_gt (YO (g := gb101) (o := .cells #[.int .i64 a0_0, .string a0_1, .slice A0_2 l0_2.length c0_2, .slice A0_3 l0_3.length c0_3] 37 (0, 0)) QQ) : gb102 ≠ gb101)); clear BK101 HB; obtain ⟨BK101, HB, BK102, GW102, GE102, NB101_102, NB102_101⟩ := n_; clear hb hbox hg; have hnb26 := NB101_102.out; have hnc26 := NB102_101.out; obtain ⟨hcz27_0, hcz27_1, hcz27_2, hcz27_3, hfz27_0, hfz27_1, hfz27_2, hfz27_3⟩ := Yt BK101.out; obtain ⟨hcz28_0, hcz28_1, hcz28_2, hcz28_3, hfz28_0, hfz28_1, hfz28_2, hfz28_3⟩ := Yt BK102.out))
  go_ret
  exact Z1y
set_option maxHeartbeats 8000000 in
set_option maxRecDepth 100000 in
theorem YY.Y2w (k : Nat) (ih : ∀ j_ < k, Yz.Spec j_ ∧ YY.Spec j_) : ∀ (A0 : Option Addr) (c0 : Nat) (l0 : List (S37)) (A1 : Option Addr) (c1 : Nat) (l1 : List (S37))  (r : Bool) (w : World) (hr0 : Kd.C k37 w A0 l0.length l0) (hc0 : l0.length ≤ c0) (hr1 : Kd.C k37 w A1 l1.length l1) (hc1 : l1.length ≤ c1) (h : YY.f k l0 l1 = some r),
  Calls Tryd.prog 61 #[.slice A0 l0.length c0, .slice A1 l1.length c1, .func (.func 30) #[] #[]] w fun e w' => e = .returned (.bool r) ∧ Below w.heap.size w w' := by
 intro A0 c0 l0 A1 c1 l1 r w hr0 hc0 hr1 hc1 h
 cases k with
 | zero => exact absurd h (by simp [YY.f])
 | succ k =>
 simp only [YY.f] at h
 have hu37 := Tryd.underlying37
 have HR0 := Y0.mk hr0
 have HC0 := Y0.mk hc0
 clear hr0 hc0
 have HR1 := Y0.mk hr1
 have HC1 := Y0.mk hc1
 clear hr1 hc1
 have HB := Y0.mk (Below.refl w.heap.size w)
 have H : (if (l0.length : Int) = (l1.length : Int) then (YY.l0 k l1 l0 (l0.length : Int) 0) else (some false)) = some r := h
 clear h
 by_cases c4 : (l0.length : Int) = (l1.length : Int)
 ·rw [if_pos c4] at H
  have c4b0 : ((l0.length : Int) == (l1.length : Int)) = true := beq_iff_eq.mpr c4
  have c4b1 : ((l0.length : Int) != (l1.length : Int)) = false := bne_eq_false_iff_eq.mpr c4
  have c4b2 : (l0.length == l1.length) = true := by first | simpa using c4 | (simp at c4 ⊢; omega)
  clear c4
  have H' := Y0.mk H
  clear H
  go_enter Tryd.func61, Tryd.ntmps61
  go_wp2
  go_loopg [17] k (fun kq v17 w' => ∃ (x17_1 : Int), v17 = .int .i64 x17_1 ∧ Y0 (YY.l0 kq l1 l0 (l0.length : Int) x17_1 = some r) ∧ Y0 (kq ≤ k) ∧ Y0 (Below w.heap.size w w'))
  case atStart => exact ⟨(0), Zb, H', ⟨Nat.le_refl _⟩, ⟨QB⟩⟩
  case round =>
   clear H'
   try clear c1
   try clear p2
   try clear c4
   try clear c4b0
   try clear c4b1
   try clear c4b2
   obtain ⟨x17_1, rfl, HA, HK1, HB⟩ := hrel
   cases gk with
   | zero => exact absurd HA.out (by simp [YY.l0])
   | succ k1 =>
    have H := HA.out
    clear HA
    simp only [YY.l0] at H
    by_cases c5 : x17_1 < (l0.length : Int)
    ·rw [if_pos c5] at H
     have c5b0 : decide (x17_1 < (l0.length : Int)) = true := decide_eq_true c5
     clear c5
     by_cases c6 : 0 ≤ x17_1
     ·rw [if_pos c6] at H
      have c6b0 : decide (0 ≤ x17_1) = true := decide_eq_true c6
      clear c6
      by_cases c7 : x17_1 < (l0.length : Int)
      ·rw [if_pos c7] at H
       have c7b0 : decide (x17_1 < (l0.length : Int)) = true := decide_eq_true c7
       clear c7
       by_cases c8 : x17_1 < (l1.length : Int)
       ·rw [if_pos c8] at H
        have c8b0 : decide (x17_1 < (l1.length : Int)) = true := decide_eq_true c8
        clear c8
        replace H := Option.bind_eq_some_iff.mp H
        obtain ⟨t109, A90, H⟩ := H
        replace H : (if t109 = true then (YY.l0 k1 l1 l0 (l0.length : Int) (wrap64 (x17_1 + 1))) else (some false)) = some r := H
        have A9 := Y0.mk A90
        clear A90
        by_cases c10 : t109 = true
        ·subst c10
         have H1 : (YY.l0 k1 l1 l0 (l0.length : Int) (wrap64 (x17_1 + 1))) = some r := by rw [if_pos rfl] at H; exact H
         clear H
         have H := H1
         clear H1
         have H' := Y0.mk H
         clear H
         have p105 : 0 ≤ (x17_1 : Int) := of_decide_eq_true Z5
         have q105 : x17_1 < (l0.length : Int) := of_decide_eq_true Z5
         obtain ⟨ad105, A105_2, c105_2, A105_3, c105_3, e105, hx105_0, hx105_1, hx105_2, hx105_3, hl105_2, hi105_2, hl105_3, hi105_3⟩ := Y1x HR0.out x17_1 p105 q105
         cases e105
         replace hx105_0 := YM HB.out hx105_0
         replace hx105_1 := YM HB.out hx105_1
         replace hx105_2 := YM HB.out hx105_2
         replace hx105_3 := YM HB.out hx105_3
         have HR105_2 := Y0.mk hi105_2
         have HC105_2 := Y0.mk hl105_2
         clear hi105_2 hl105_2
         have HR105_3 := Y0.mk hi105_3
         have HC105_3 := Y0.mk hl105_3
         clear hi105_3 hl105_3
         replace p105 := eq_true p105
         replace q105 := eq_true q105
         go_wp2_with (first | ((with_reducible refine Ym (N := 8) rfl ?_); refine Yl ?hg (N := 8) ?hd (cs := #[.int .i64 0, .string (⟨#[]⟩ : ByteArray), .slice none 0 0, .slice none 0 0]) (t := 37) ?hr ?_; (case hd => rfl); (case hg => rfl); (case hr => exact Z6); intro gb106 hg w11 hbox hb; have n_ := Y1T (Y5 QB hb) (hbox) ((by rw [hg]; exact (Y6 QB) : w.heap.size ≤ gb106)) ((by rw [hg]; exact (Y6 QB) : w.heap.size ≤ gb106)); clear HB; obtain ⟨HB, BK106, GW106, GE106⟩ := n_; clear hb hbox hg; obtain ⟨hcz12_0, hcz12_1, hcz12_2, hcz12_3, hfz12_0, hfz12_1, hfz12_2, hfz12_3⟩ := Yt BK106.out; have p107 : 0 ≤ (x17_1 : Int) := of_decide_eq_true Z5; have q107 : x17_1 < (l1.length : Int) := of_decide_eq_true Z5; obtain ⟨ad107, A107_2, c107_2, A107_3, c107_3, e107, hx107_0, hx107_1, hx107_2, hx107_3, hl107_2, hi107_2, hl107_3, hi107_3⟩ := Y1x HR1.out x17_1 p107 q107; cases e107; have hn107_0 : ad107.block ≠ gb106 := Nat.ne_of_lt (Nat.lt_of_lt_of_le Zu GW106.out); have hn107_1 : ad107.block ≠ gb106 := Nat.ne_of_lt (Nat.lt_of_lt_of_le Zu GW106.out); have hn107_2 : ad107.block ≠ gb106 := Nat.ne_of_lt (Nat.lt_of_lt_of_le Zu GW106.out); have hn107_3 : ad107.block ≠ gb106 := Nat.ne_of_lt (Nat.lt_of_lt_of_le Zu GW106.out); replace hx107_0 := YM HB.out hx107_0; replace hx107_1 := YM HB.out hx107_1; replace hx107_2 := YM HB.out hx107_2; replace hx107_3 := YM HB.out hx107_3; have HR107_2 := Y0.mk hi107_2; have HC107_2 := Y0.mk hl107_2; clear hi107_2 hl107_2; have HR107_3 := Y0.mk hi107_3; have HC107_3 := Y0.mk hl107_3; clear hi107_3 hl107_3; replace hx107_0 := (Yr (p := ⟨gb106, 0, none⟩) Zk (.int .i64 ((Y1 l0 x17_1).f0))).trans hx107_0; replace hx107_1 := (Yr (p := ⟨gb106, 0, none⟩) Zk (.int .i64 ((Y1 l0 x17_1).f0))).trans hx107_1; replace hx107_2 := (Yr (p := ⟨gb106, 0, none⟩) Zk (.int .i64 ((Y1 l0 x17_1).f0))).trans hx107_2; replace hx107_3 := (Yr (p := ⟨gb106, 0, none⟩) Zk (.int .i64 ((Y1 l0 x17_1).f0))).trans hx107_3; replace hx107_0 := (Yr (p := ⟨gb106, 1, none⟩) Zl (.string ((Y1 l0 x17_1).f1))).trans hx107_0; replace hx107_1 := (Yr (p := ⟨gb106, 1, none⟩) Zl (.string ((Y1 l0 x17_1).f1))).trans hx107_1; replace hx107_2 := (Yr (p := ⟨gb106, 1, none⟩) Zl (.string ((Y1 l0 x17_1).f1))).trans hx107_2; replace hx107_3 := (Yr (p := ⟨gb106, 1, none⟩) Zl (.string ((Y1 l0 x17_1).f1))).trans hx107_3; replace hx107_0 := (Yr (p := ⟨gb106, 2, none⟩) Zm (.slice A105_2 ((Y1 l0 x17_1).f2).length c105_2)).trans hx107_0; replace hx107_1 := (Yr (p := ⟨gb106, 2, none⟩) Zm (.slice A105_2 ((Y1 l0 x17_1).f2).length c105_2)).trans hx107_1; replace hx107_2 := (Yr (p := ⟨gb106, 2, none⟩) Zm (.slice A105_2 ((Y1 l0 x17_1).f2).length c105_2)).trans hx107_2; replace hx107_3 := (Yr (p := ⟨gb106, 2, none⟩) Zm (.slice A105_2 ((Y1 l0 x17_1).f2).length c105_2)).trans hx107_3; replace hx107_0 := (Yr (p := ⟨gb106, 3, none⟩) Zn (.slice A105_3 ((Y1 l0 x17_1).f3).length c105_3)).trans hx107_0; replace hx107_1 := (Yr (p := ⟨gb106, 3, none⟩) Zn (.slice A105_3 ((Y1 l0 x17_1).f3).length c105_3)).trans hx107_1; replace hx107_2 := (Yr (p := ⟨gb106, 3, none⟩) Zn (.slice A105_3 ((Y1 l0 x17_1).f3).length c105_3)).trans hx107_2; replace hx107_3 := (Yr (p := ⟨gb106, 3, none⟩) Zn (.slice A105_3 ((Y1 l0 x17_1).f3).length c105_3)).trans hx107_3; clear hn107_0 hn107_1 hn107_2 hn107_3; replace p107 := eq_true p107; replace q107 := eq_true q107) | ((with_reducible refine Ym (N := 9) rfl ?_); refine Yl ?hg (N := 9) ?hd (cs := #[.int .i64 0, .string (⟨#[]⟩ : ByteArray), .slice none 0 0, .slice none 0 0]) (t := 37) ?hr ?_; (case hd => rfl); (case hg => rfl); (case hr => exact Z6); intro gb108 hg w13 hbox hb; have n_ := Y3p (Yh (g := gb106) (o := .cells #[.int .i64 ((Y1 l0 x17_1).f0), .string ((Y1 l0 x17_1).f1), .slice A105_2 ((Y1 l0 x17_1).f2).length c105_2, .slice A105_3 ((Y1 l0 x17_1).f3).length c105_3] 37 (0, 0)) Z1m hb) (Y5 QB hb) (hbox) ((by rw [hg]; exact (Y6 QB) : w.heap.size ≤ gb108)) ((by rw [hg]; exact (Y6 QB) : w.heap.size ≤ gb108)) ((by rw [hg]; exact Nat.ne_of_lt (YO (g := gb106) (o := .cells #[.int .i64 ((Y1 l0 x17_1).f0), .string ((Y1 l0 x17_1).f1), .slice A105_2 ((Y1 l0 x17_1).f2).length c105_2, .slice A105_3 ((Y1 l0 x17_1).f3).length c105_3] 37 (0, 0)) Z1m) : gb106 ≠ gb108)) ((by rw [hg]; exact Nat.ne_of_gt (YO (g := gb106) (o := .cells #[.int .i64 ((Y1 l0 x17_1).f0), .string ((Y1 l0 x17_1).f1), .slice A105_2 ((Y1 l0 x17_1).f2).length c105_2, .slice A105_3 ((Y1 l0 x17_1).f3).length c105_3] 37 (0, 0)) Z1m) : gb108 ≠ gb106)); clear BK106 HB; obtain ⟨BK106, HB, BK108, GW108, GE108, NB106_108, NB108_106⟩ := n_; clear hb hbox hg; have hnb14 := NB108_106.out; have hnc14 := NB106_108.out; obtain ⟨hcz15_0, hcz15_1, hcz15_2, hcz15_3, hfz15_0, hfz15_1, hfz15_2, hfz15_3⟩ := Yt BK108.out; obtain ⟨hcz16_0, hcz16_1, hcz16_2, hcz16_3, hfz16_0, hfz16_1, hfz16_2, hfz16_3⟩ := Yt BK106.out) | (go_at_call 30; (with_reducible refine ((ih k1 ZT).1 ((Y1 l0 x17_1).f0) ((Y1 l0 x17_1).f1) _ _ ((Y1 l0 x17_1).f2) _ _ ((Y1 l0 x17_1).f3) ((Y1 l1 x17_1).f0) ((Y1 l1 x17_1).f1) _ _ ((Y1 l1 x17_1).f2) _ _ ((Y1 l1 x17_1).f3) true _ ?side1 ?side2 ?side3 ?side4 ?side5 ?side6 ?side7 ?side8 A9.out).mono ?_); (case side1 => exact Kd.C_below HR105_2.out QB); (case side2 => exact HC105_2.out); (case side3 => exact Kd.C_below HR105_3.out QB); (case side4 => exact HC105_3.out); (case side5 => exact Kd.C_below HR107_2.out QB); (case side6 => exact HC107_2.out); (case side7 => exact Kd.C_below HR107_3.out QB); (case side8 => exact HC107_3.out); rintro e w17 ⟨rfl, hb⟩; have n_ := Y1X (Yh (g := gb106) (o := .cells #[.int .i64 ((Y1 l0 x17_1).f0), .string ((Y1 l0 x17_1).f1), .slice A105_2 ((Y1 l0 x17_1).f2).length c105_2, .slice A105_3 ((Y1 l0 x17_1).f3).length c105_3] 37 (0, 0)) Zx hb) (Yh (g := gb108) (o := .cells #[.int .i64 ((Y1 l1 x17_1).f0), .string ((Y1 l1 x17_1).f1), .slice A107_2 ((Y1 l1 x17_1).f2).length c107_2, .slice A107_3 ((Y1 l1 x17_1).f3).length c107_3] 37 (0, 0)) Z1r hb) (Y5 QB hb); clear BK106 BK108 HB; obtain ⟨BK106, BK108, HB⟩ := n_; (try clear hb); (try clear hb2); (try clear hk); (try clear hi)))
         go_roundg k1
         case measure => have := HK1.out; omega
         case rel => exact ⟨(wrap64 (x17_1 + 1)), Zb, H', ⟨ZT⟩, ⟨QB⟩⟩
        ·replace c10 := Bool.eq_false_iff.mpr c10
         subst c10
         have H1 : (some false) = some r := by rw [if_neg (show ¬ (false = true) by decide)] at H; exact H
         clear H
         have H := H1
         clear H1
         obtain rfl := Option.some.inj H
         have p105 : 0 ≤ (x17_1 : Int) := of_decide_eq_true Z5
         have q105 : x17_1 < (l0.length : Int) := of_decide_eq_true Z5
         obtain ⟨ad105, A105_2, c105_2, A105_3, c105_3, e105, hx105_0, hx105_1, hx105_2, hx105_3, hl105_2, hi105_2, hl105_3, hi105_3⟩ := Y1x HR0.out x17_1 p105 q105
         cases e105
         replace hx105_0 := YM HB.out hx105_0
         replace hx105_1 := YM HB.out hx105_1
         replace hx105_2 := YM HB.out hx105_2
         replace hx105_3 := YM HB.out hx105_3
         have HR105_2 := Y0.mk hi105_2
         have HC105_2 := Y0.mk hl105_2
         clear hi105_2 hl105_2
         have HR105_3 := Y0.mk hi105_3
         have HC105_3 := Y0.mk hl105_3
         clear hi105_3 hl105_3
         replace p105 := eq_true p105
         replace q105 := eq_true q105
         go_wp2_with (first | ((with_reducible refine Ym (N := 8) rfl ?_); refine Yl ?hg (N := 8) ?hd (cs := #[.int .i64 0, .string (⟨#[]⟩ : ByteArray), .slice none 0 0, .slice none 0 0]) (t := 37) ?hr ?_; (case hd => rfl); (case hg => rfl); (case hr => exact Z6); intro gb106 hg w18 hbox hb; have n_ := Y1T (Y5 QB hb) (hbox) ((by rw [hg]; exact (Y6 QB) : w.heap.size ≤ gb106)) ((by rw [hg]; exact (Y6 QB) : w.heap.size ≤ gb106)); clear HB; obtain ⟨HB, BK106, GW106, GE106⟩ := n_; clear hb hbox hg; obtain ⟨hcz19_0, hcz19_1, hcz19_2, hcz19_3, hfz19_0, hfz19_1, hfz19_2, hfz19_3⟩ := Yt BK106.out; have p107 : 0 ≤ (x17_1 : Int) := of_decide_eq_true Z5; have q107 : x17_1 < (l1.length : Int) := of_decide_eq_true Z5; obtain ⟨ad107, A107_2, c107_2, A107_3, c107_3, e107, hx107_0, hx107_1, hx107_2, hx107_3, hl107_2, hi107_2, hl107_3, hi107_3⟩ := Y1x HR1.out x17_1 p107 q107; cases e107; have hn107_0 : ad107.block ≠ gb106 := Nat.ne_of_lt (Nat.lt_of_lt_of_le Zu GW106.out); have hn107_1 : ad107.block ≠ gb106 := Nat.ne_of_lt (Nat.lt_of_lt_of_le Zu GW106.out); have hn107_2 : ad107.block ≠ gb106 := Nat.ne_of_lt (Nat.lt_of_lt_of_le Zu GW106.out); have hn107_3 : ad107.block ≠ gb106 := Nat.ne_of_lt (Nat.lt_of_lt_of_le Zu GW106.out); replace hx107_0 := YM HB.out hx107_0; replace hx107_1 := YM HB.out hx107_1; replace hx107_2 := YM HB.out hx107_2; replace hx107_3 := YM HB.out hx107_3; have HR107_2 := Y0.mk hi107_2; have HC107_2 := Y0.mk hl107_2; clear hi107_2 hl107_2; have HR107_3 := Y0.mk hi107_3; have HC107_3 := Y0.mk hl107_3; clear hi107_3 hl107_3; replace hx107_0 := (Yr (p := ⟨gb106, 0, none⟩) Zk (.int .i64 ((Y1 l0 x17_1).f0))).trans hx107_0; replace hx107_1 := (Yr (p := ⟨gb106, 0, none⟩) Zk (.int .i64 ((Y1 l0 x17_1).f0))).trans hx107_1; replace hx107_2 := (Yr (p := ⟨gb106, 0, none⟩) Zk (.int .i64 ((Y1 l0 x17_1).f0))).trans hx107_2; replace hx107_3 := (Yr (p := ⟨gb106, 0, none⟩) Zk (.int .i64 ((Y1 l0 x17_1).f0))).trans hx107_3; replace hx107_0 := (Yr (p := ⟨gb106, 1, none⟩) Zl (.string ((Y1 l0 x17_1).f1))).trans hx107_0; replace hx107_1 := (Yr (p := ⟨gb106, 1, none⟩) Zl (.string ((Y1 l0 x17_1).f1))).trans hx107_1; replace hx107_2 := (Yr (p := ⟨gb106, 1, none⟩) Zl (.string ((Y1 l0 x17_1).f1))).trans hx107_2; replace hx107_3 := (Yr (p := ⟨gb106, 1, none⟩) Zl (.string ((Y1 l0 x17_1).f1))).trans hx107_3; replace hx107_0 := (Yr (p := ⟨gb106, 2, none⟩) Zm (.slice A105_2 ((Y1 l0 x17_1).f2).length c105_2)).trans hx107_0; replace hx107_1 := (Yr (p := ⟨gb106, 2, none⟩) Zm (.slice A105_2 ((Y1 l0 x17_1).f2).length c105_2)).trans hx107_1; replace hx107_2 := (Yr (p := ⟨gb106, 2, none⟩) Zm (.slice A105_2 ((Y1 l0 x17_1).f2).length c105_2)).trans hx107_2; replace hx107_3 := (Yr (p := ⟨gb106, 2, none⟩) Zm (.slice A105_2 ((Y1 l0 x17_1).f2).length c105_2)).trans hx107_3; replace hx107_0 := (Yr (p := ⟨gb106, 3, none⟩) Zn (.slice A105_3 ((Y1 l0 x17_1).f3).length c105_3)).trans hx107_0; replace hx107_1 := (Yr (p := ⟨gb106, 3, none⟩) Zn (.slice A105_3 ((Y1 l0 x17_1).f3).length c105_3)).trans hx107_1; replace hx107_2 := (Yr (p := ⟨gb106, 3, none⟩) Zn (.slice A105_3 ((Y1 l0 x17_1).f3).length c105_3)).trans hx107_2; replace hx107_3 := (Yr (p := ⟨gb106, 3, none⟩) Zn (.slice A105_3 ((Y1 l0 x17_1).f3).length c105_3)).trans hx107_3; clear hn107_0 hn107_1 hn107_2 hn107_3; replace p107 := eq_true p107; replace q107 := eq_true q107) | ((with_reducible refine Ym (N := 9) rfl ?_); refine Yl ?hg (N := 9) ?hd (cs := #[.int .i64 0, .string (⟨#[]⟩ : ByteArray), .slice none 0 0, .slice none 0 0]) (t := 37) ?hr ?_; (case hd => rfl); (case hg => rfl); (case hr => exact Z6); intro gb108 hg w20 hbox hb; have n_ := Y3p (Yh (g := gb106) (o := .cells #[.int .i64 ((Y1 l0 x17_1).f0), .string ((Y1 l0 x17_1).f1), .slice A105_2 ((Y1 l0 x17_1).f2).length c105_2, .slice A105_3 ((Y1 l0 x17_1).f3).length c105_3] 37 (0, 0)) Z1m hb) (Y5 QB hb) (hbox) ((by rw [hg]; exact (Y6 QB) : w.heap.size ≤ gb108)) ((by rw [hg]; exact (Y6 QB) : w.heap.size ≤ gb108)) ((by rw [hg]; exact Nat.ne_of_lt (YO (g := gb106) (o := .cells #[.int .i64 ((Y1 l0 x17_1).f0), .string ((Y1 l0 x17_1).f1), .slice A105_2 ((Y1 l0 x17_1).f2).length c105_2, .slice A105_3 ((Y1 l0 x17_1).f3).length c105_3] 37 (0, 0)) Z1m) : gb106 ≠ gb108)) ((by rw [hg]; exact Nat.ne_of_gt (YO (g := gb106) (o := .cells #[.int .i64 ((Y1 l0 x17_1).f0), .string ((Y1 l0 x17_1).f1), .slice A105_2 ((Y1 l0 x17_1).f2).length c105_2, .slice A105_3 ((Y1 l0 x17_1).f3).length c105_3] 37 (0, 0)) Z1m) : gb108 ≠ gb106)); clear BK106 HB; obtain ⟨BK106, HB, BK108, GW108, GE108, NB106_108, NB108_106⟩ := n_; clear hb hbox hg; have hnb21 := NB108_106.out; have hnc21 := NB106_108.out; obtain ⟨hcz22_0, hcz22_1, hcz22_2, hcz22_3, hfz22_0, hfz22_1, hfz22_2, hfz22_3⟩ := Yt BK108.out; obtain ⟨hcz23_0, hcz23_1, hcz23_2, hcz23_3, hfz23_0, hfz23_1, hfz23_2, hfz23_3⟩ := Yt BK106.out) | (go_at_call 30; (with_reducible refine ((ih k1 ZT).1 ((Y1 l0 x17_1).f0) ((Y1 l0 x17_1).f1) _ _ ((Y1 l0 x17_1).f2) _ _ ((Y1 l0 x17_1).f3) ((Y1 l1 x17_1).f0) ((Y1 l1 x17_1).f1) _ _ ((Y1 l1 x17_1).f2) _ _ ((Y1 l1 x17_1).f3) false _ ?side1 ?side2 ?side3 ?side4 ?side5 ?side6 ?side7 ?side8 A9.out).mono ?_); (case side1 => exact Kd.C_below HR105_2.out QB); (case side2 => exact HC105_2.out); (case side3 => exact Kd.C_below HR105_3.out QB); (case side4 => exact HC105_3.out); (case side5 => exact Kd.C_below HR107_2.out QB); (case side6 => exact HC107_2.out); (case side7 => exact Kd.C_below HR107_3.out QB); (case side8 => exact HC107_3.out); rintro e w24 ⟨rfl, hb⟩; have n_ := Y1X (Yh (g := gb106) (o := .cells #[.int .i64 ((Y1 l0 x17_1).f0), .string ((Y1 l0 x17_1).f1), .slice A105_2 ((Y1 l0 x17_1).f2).length c105_2, .slice A105_3 ((Y1 l0 x17_1).f3).length c105_3] 37 (0, 0)) Zx hb) (Yh (g := gb108) (o := .cells #[.int .i64 ((Y1 l1 x17_1).f0), .string ((Y1 l1 x17_1).f1), .slice A107_2 ((Y1 l1 x17_1).f2).length c107_2, .slice A107_3 ((Y1 l1 x17_1).f3).length c107_3] 37 (0, 0)) Z1r hb) (Y5 QB hb); clear BK106 BK108 HB; obtain ⟨BK106, BK108, HB⟩ := n_; (try clear hb); (try clear hb2); (try clear hk); (try clear hi)))
         go_ret
         exact Z1y
       ·rw [if_neg c8] at H
        exact Zt
      ·rw [if_neg c7] at H
       exact Zt
     ·rw [if_neg c6] at H
      exact Zt
    ·rw [if_neg c5] at H
     have c5b0 : decide (x17_1 < (l0.length : Int)) = false := decide_eq_false c5
     clear c5
     obtain rfl := Option.some.inj H
     go_wp2
     go_ret
     exact Z1y
 ·rw [if_neg c4] at H
  have c4b0 : ((l0.length : Int) == (l1.length : Int)) = false := beq_eq_false_iff_ne.mpr c4
  have c4b1 : ((l0.length : Int) != (l1.length : Int)) = true := bne_iff_ne.mpr c4
  have c4b2 : (l0.length == l1.length) = false := by first | simpa using c4 | (simp at c4 ⊢; omega)
  obtain rfl := Option.some.inj H
  go_enter Tryd.func61, Tryd.ntmps61
  go_wp2
  go_ret
  exact Z1y
theorem Yz.joint : ∀ k, Yz.Spec k ∧ YY.Spec k := by
 intro k
 induction k using Nat.strongRecOn with
 | _ k ih => exact ⟨Yz.Y2w k ih, YY.Y2w k ih⟩
theorem Yz.calls (k : Nat) : Yz.Spec k := (Yz.joint k).1
def Ye (w0 W : World) (g : Nat) (f0 : ByteArray) (f1 : Int) (f2 : Int) (f3 : Int) : Prop := W.heap[g]? = some (.cells #[.string f0, .int .i64 f1, .int .i64 f2, .int .i64 f3] 75 (0, 0)) ∧ w0.heap.size ≤ g
theorem Ye.grown {w0 W : World} {g : Nat} {f0 : ByteArray} {f1 : Int} {f2 : Int} {f3 : Int} {W1 : World} {row : Option Nat} (h : Ye w0 W g f0 f1 f2 f3) (hw : W.grownBy W1 row) (hne : some g ≠ row) : Ye w0 W1 g f0 f1 f2 f3 := by
 obtain ⟨hb, hg⟩ := h
 exact ⟨Y2C hb hw hne, hg⟩
theorem Ye.fresh {w0 W : World} {g : Nat} {f0 : ByteArray} {f1 : Int} {f2 : Int} {f3 : Int} (h : Ye w0 W g f0 f1 f2 f3) : ∀ k, W.heap.size ≤ k → k ≠ g := by
 obtain ⟨hb, hg⟩ := h
 exact Kd.freshB hb
theorem Ye.kept {w0 W : World} {g : Nat} {f0 : ByteArray} {f1 : Int} {f2 : Int} {f3 : Int} {W1 : World} {S : Nat → Prop} (h : Ye w0 W g f0 f1 f2 f3) (hk : Y2h W W1 S) (hne : ¬ S g) : Ye w0 W1 g f0 f1 f2 f3 := by
 obtain ⟨hb, hg⟩ := h
 exact ⟨blk_kept hb hk hne, hg⟩
theorem Ye.below {w0 W : World} {g : Nat} {f0 : ByteArray} {f1 : Int} {f2 : Int} {f3 : Int} {W1 : World} (h : Ye w0 W g f0 f1 f2 f3) (hw : Below W.heap.size W W1) : Ye w0 W1 g f0 f1 f2 f3 := h.grown (Y2c hw none) (by simp)
theorem Ye.alloc {w0 W : World} {g : Nat} {f0 : ByteArray} {f1 : Int} {f2 : Int} {f3 : Int} (h : Ye w0 W g f0 f1 f2 f3) (o : Obj) : Ye w0 (W.alloc o) g f0 f1 f2 f3 := h.below (Y1g (Below.refl _ _) o)
theorem Ye.drewN {w0 W : World} {g : Nat} {f0 : ByteArray} {f1 : Int} {f2 : Int} {f3 : Int} (h : Ye w0 W g f0 f1 f2 f3) (m : Nat) : Ye w0 (W.drewN m) g f0 f1 f2 f3 := h
theorem Ye.drew {w0 W : World} {g : Nat} {f0 : ByteArray} {f1 : Int} {f2 : Int} {f3 : Int} (h : Ye w0 W g f0 f1 f2 f3) : Ye w0 W.drew g f0 f1 f2 f3 := h
theorem Ye.at_ {w0 W : World} {g : Nat} {f0 : ByteArray} {f1 : Int} {f2 : Int} {f3 : Int} {w' : World} {m : Nat} (hq : W.drewN m = w') (h : Ye w0 W g f0 f1 f2 f3) : Ye w0 w' g f0 f1 f2 f3 := by subst hq; exact Ye.drewN h m
theorem Ye.apart {w0 W : World} {g : Nat} {f0 : ByteArray} {f1 : Int} {f2 : Int} {f3 : Int} {α : Type} {d : Kd α} {e : Nat} {base : Nat} {ok : Nat → Prop} {v : Value} {xs : List α} (h : Ye w0 W g f0 f1 f2 f3) (ho : d.R e W base ok v xs) (ht : ∀ q, q ∈ e :: d.E → q ≠ 75) : d.R e W base (fun k => ok k ∧ k ≠ g) v xs := by
 obtain ⟨hb, hg⟩ := h
 exact Kd.R_types ho hb ht
theorem Ye.Y45 {w0 W : World} {g : Nat} {f0 : ByteArray} {f1 : Int} {f2 : Int} {f3 : Int} {α : Type} {d : Kd α} {e : Nat} {base : Nat} {ok : Nat → Prop} {v : Value} {xs : List α} (h : Ye w0 W g f0 f1 f2 f3) (ho : d.R e W base ok v xs) (ht : e ≠ 75) : some g ≠ v.ownBlock := by
 obtain ⟨hb, hg⟩ := h
 exact Kd.R_ne ho hb ht
theorem Ye.lt {w0 W : World} {g : Nat} {f0 : ByteArray} {f1 : Int} {f2 : Int} {f3 : Int} (h : Ye w0 W g f0 f1 f2 f3) : g < W.heap.size := by
 obtain ⟨hb, hg⟩ := h
 exact YO hb
theorem Ye.ge {w0 W : World} {g : Nat} {f0 : ByteArray} {f1 : Int} {f2 : Int} {f3 : Int} (h : Ye w0 W g f0 f1 f2 f3) : w0.heap.size ≤ g := by
 obtain ⟨hb, hg⟩ := h
 exact hg
theorem Ye.far {w0 W : World} {g : Nat} {f0 : ByteArray} {f1 : Int} {f2 : Int} {f3 : Int} {p : Addr} (h : Ye w0 W g f0 f1 f2 f3) (hne : g ≠ p.block) (u : Value) : Ye w0 (W.setCell p u) g f0 f1 f2 f3 := by
 obtain ⟨hb, hg⟩ := h
 exact ⟨YL hb hne u, hg⟩
theorem YA {W : World} {g : Nat} {f0 : ByteArray} {f1 : Int} {f2 : Int} {f3 : Int} (h : W.heap[g]? = some (.cells #[.string f0, .int .i64 f1, .int .i64 f2, .int .i64 f3] 75 (0, 0))) : W.cell? ⟨g, 0, none⟩ = some (.string f0) := (Y2 h 0).trans rfl
theorem Ye.set_0 {w0 W : World} {g : Nat} {f0 : ByteArray} {f1 : Int} {f2 : Int} {f3 : Int} (h : Ye w0 W g f0 f1 f2 f3) (x : ByteArray) : Ye w0 (W.setCell ⟨g, 0, none⟩ (.string x)) g x f1 f2 f3 := by
 obtain ⟨hb, hg⟩ := h
 exact ⟨by simpa using Y2D hb 0 (.string x), hg⟩
theorem YB {W : World} {g : Nat} {f0 : ByteArray} {f1 : Int} {f2 : Int} {f3 : Int} (h : W.heap[g]? = some (.cells #[.string f0, .int .i64 f1, .int .i64 f2, .int .i64 f3] 75 (0, 0))) : W.cell? ⟨g, 1, none⟩ = some (.int .i64 f1) := (Y2 h 1).trans rfl
theorem Ye.set_1 {w0 W : World} {g : Nat} {f0 : ByteArray} {f1 : Int} {f2 : Int} {f3 : Int} (h : Ye w0 W g f0 f1 f2 f3) (x : Int) : Ye w0 (W.setCell ⟨g, 1, none⟩ (.int .i64 x)) g f0 x f2 f3 := by
 obtain ⟨hb, hg⟩ := h
 exact ⟨by simpa using Y2D hb 1 (.int .i64 x), hg⟩
theorem YC {W : World} {g : Nat} {f0 : ByteArray} {f1 : Int} {f2 : Int} {f3 : Int} (h : W.heap[g]? = some (.cells #[.string f0, .int .i64 f1, .int .i64 f2, .int .i64 f3] 75 (0, 0))) : W.cell? ⟨g, 2, none⟩ = some (.int .i64 f2) := (Y2 h 2).trans rfl
theorem Ye.set_2 {w0 W : World} {g : Nat} {f0 : ByteArray} {f1 : Int} {f2 : Int} {f3 : Int} (h : Ye w0 W g f0 f1 f2 f3) (x : Int) : Ye w0 (W.setCell ⟨g, 2, none⟩ (.int .i64 x)) g f0 f1 x f3 := by
 obtain ⟨hb, hg⟩ := h
 exact ⟨by simpa using Y2D hb 2 (.int .i64 x), hg⟩
theorem YD {W : World} {g : Nat} {f0 : ByteArray} {f1 : Int} {f2 : Int} {f3 : Int} (h : W.heap[g]? = some (.cells #[.string f0, .int .i64 f1, .int .i64 f2, .int .i64 f3] 75 (0, 0))) : W.cell? ⟨g, 3, none⟩ = some (.int .i64 f3) := (Y2 h 3).trans rfl
theorem Ye.set_3 {w0 W : World} {g : Nat} {f0 : ByteArray} {f1 : Int} {f2 : Int} {f3 : Int} (h : Ye w0 W g f0 f1 f2 f3) (x : Int) : Ye w0 (W.setCell ⟨g, 3, none⟩ (.int .i64 x)) g f0 f1 f2 x := by
 obtain ⟨hb, hg⟩ := h
 exact ⟨by simpa using Y2D hb 3 (.int .i64 x), hg⟩
def Yc.l0 : Nat → ByteArray → Int → Int → Int → Option (Int × ByteArray × Int × Int × Int)
 | 0, _, _, _, _ => none
 | k + 1, x1000, x1001, x1002, x1003 => if x1002 = 0 then (if x1001 < (x1000.size : Int) then (if 0 ≤ x1001 then (if (bt x1000 x1001) = 32 then (Yc.l0 k x1000 (wrap64 (x1001 + 1)) x1002 x1003) else (if x1001 ≥ (x1000.size : Int) then (some (0, x1000, x1001, x1002, x1003)) else (some (bt x1000 x1001, x1000, x1001, x1002, x1003)))) else (none)) else (if x1001 ≥ (x1000.size : Int) then (some (0, x1000, x1001, x1002, x1003)) else (if 0 ≤ x1001 then (none) else (none)))) else (some (0, x1000, x1001, x1002, x1003))
def Yc.f (k : Nat) (s0_0 : ByteArray) (s0_1 : Int) (s0_2 : Int) (s0_3 : Int) : Option (Int × ByteArray × Int × Int × Int) := Yc.l0 k s0_0 s0_1 s0_2 s0_3
set_option maxHeartbeats 8000000 in
set_option maxRecDepth 100000 in
theorem Yc.calls (k : Nat) (g : Nat) (s0_0 : ByteArray) (s0_1 : Int) (s0_2 : Int) (s0_3 : Int) (r1 : Int) (r2 : ByteArray) (r3 : Int) (r4 : Int) (r5 : Int) (w0 w : World) (hI : Ye w0 w g s0_0 s0_1 s0_2 s0_3) (hB : Below w0.heap.size w0 w) (h : Yc.f k s0_0 s0_1 s0_2 s0_3 = some (r1, r2, r3, r4, r5)) :
  Calls Tryd.prog 53 #[.pointer (some ⟨g, 0, none⟩)] w fun e w' => e = .returned (.int .u8 r1) ∧ Ye w0 w' g r2 r3 r4 r5 ∧ Below w0.heap.size w0 w' ∧ Y4 w w' g none := by
 have HI0 := Y0.mk hI
 have HK := Y0.mk (Y4.refl w g none)
 have HL := Y0.mk hB.size
 clear hI
 have HW0 := Y0.mk hB.size
 have HB := Y0.mk hB
 clear hB
 have H : (Yc.l0 k s0_0 s0_1 s0_2 s0_3) = some (r1, r2, r3, r4, r5) := h
 clear h
 have H' := Y0.mk H
 clear H
 go_enter Tryd.func53, Tryd.ntmps53
 go_wp2
 repeat (go_quiet (fail); try go_wp2)
 go_loopg [] k (fun kq w' => ∃ (x1001_1 : Int), Y0 (Yc.l0 kq s0_0 x1001_1 s0_2 s0_3 = some (r1, r2, r3, r4, r5)) ∧ Y0 (kq ≤ k) ∧ Y0 (Ye w0 w' g s0_0 x1001_1 s0_2 s0_3) ∧ Y0 (Y4 w w' g none) ∧ Y0 (Below w0.heap.size w0 w'))
 case atStart => exact ⟨(s0_1), H', ⟨Nat.le_refl _⟩, ⟨QI75_0⟩, ⟨QK⟩, ⟨QB⟩⟩
 case round =>
  clear H'
  obtain ⟨x1001_1, HA, HK1, HI0, HK, HB⟩ := hrel
  cases gk with
  | zero => exact absurd HA.out (by simp [Yc.l0])
  | succ k1 =>
   have H := HA.out
   clear HA
   simp only [Yc.l0] at H
   by_cases c2 : s0_2 = 0
   ·rw [if_pos c2] at H
    have c2b0 : (s0_2 == 0) = true := beq_iff_eq.mpr c2
    have c2b1 : (s0_2 != 0) = false := bne_eq_false_iff_eq.mpr c2
    clear c2
    by_cases c3 : x1001_1 < (s0_0.size : Int)
    ·rw [if_pos c3] at H
     have c3b0 : decide (x1001_1 < (s0_0.size : Int)) = true := decide_eq_true c3
     clear c3
     by_cases c4 : 0 ≤ x1001_1
     ·rw [if_pos c4] at H
      have c4b0 : decide (0 ≤ x1001_1) = true := decide_eq_true c4
      clear c4
      by_cases c6 : (bt s0_0 x1001_1) = 32
      ·rw [if_pos c6] at H
       have c6b0 : ((bt s0_0 x1001_1) == 32) = true := beq_iff_eq.mpr c6
       have c6b1 : ((bt s0_0 x1001_1) != 32) = false := bne_eq_false_iff_eq.mpr c6
       clear c6
       have H' := Y0.mk H
       clear H
       obtain ⟨hcz7_0, hcz7_1, hcz7_2, hcz7_3, hfz7_0, hfz7_1, hfz7_2, hfz7_3⟩ := Yt HI0.out.1
       have p5 : 0 ≤ (x1001_1 : Int) := of_decide_eq_true Z5
       have q5 : x1001_1 < (s0_0.size : Int) := of_decide_eq_true Z5
       have hx5 := bt_at s0_0 x1001_1
       replace p5 := eq_true p5
       replace q5 := eq_true q5
       go_wp2
       repeat (go_quiet (fail); try go_wp2)
       go_roundg k1
       case measure => have := HK1.out; omega
       case rel => exact ⟨(wrap64 (x1001_1 + 1)), H', ⟨ZT⟩, ⟨QI75_0⟩, ⟨QK⟩, ⟨QB⟩⟩
      ·rw [if_neg c6] at H
       have c6b0 : ((bt s0_0 x1001_1) == 32) = false := beq_eq_false_iff_ne.mpr c6
       have c6b1 : ((bt s0_0 x1001_1) != 32) = true := bne_iff_ne.mpr c6
       by_cases c8 : x1001_1 ≥ (s0_0.size : Int)
       ·rw [if_pos c8] at H
        have c8b0 : decide ((s0_0.size : Int) ≤ x1001_1) = true := decide_eq_true c8
        clear c8
        simp only [Option.some.injEq, Prod.mk.injEq] at H
        obtain ⟨rfl, rfl, rfl, rfl, rfl⟩ := H
        obtain ⟨hcz9_0, hcz9_1, hcz9_2, hcz9_3, hfz9_0, hfz9_1, hfz9_2, hfz9_3⟩ := Yt HI0.out.1
        have p5 : 0 ≤ (x1001_1 : Int) := of_decide_eq_true Z5
        have q5 : x1001_1 < (s0_0.size : Int) := of_decide_eq_true Z5
        have hx5 := bt_at s0_0 x1001_1
        replace p5 := eq_true p5
        replace q5 := eq_true q5
        go_wp2
        repeat (go_quiet (fail); try go_wp2)
        go_ret
        exact Z1C
       ·rw [if_neg c8] at H
        have c8b0 : decide ((s0_0.size : Int) ≤ x1001_1) = false := decide_eq_false c8
        clear c8
        simp only [Option.some.injEq, Prod.mk.injEq] at H
        obtain ⟨rfl, rfl, rfl, rfl, rfl⟩ := H
        obtain ⟨hcz11_0, hcz11_1, hcz11_2, hcz11_3, hfz11_0, hfz11_1, hfz11_2, hfz11_3⟩ := Yt HI0.out.1
        have p5 : 0 ≤ (x1001_1 : Int) := of_decide_eq_true Z5
        have q5 : x1001_1 < (s0_0.size : Int) := of_decide_eq_true Z5
        have hx5 := bt_at s0_0 x1001_1
        replace p5 := eq_true p5
        replace q5 := eq_true q5
        have p10 : 0 ≤ (x1001_1 : Int) := of_decide_eq_true Z5
        have q10 : x1001_1 < (s0_0.size : Int) := of_decide_eq_true Z5
        have hx10 := bt_at s0_0 x1001_1
        replace p10 := eq_true p10
        replace q10 := eq_true q10
        go_wp2
        repeat (go_quiet (fail); try go_wp2)
        go_ret
        exact Z1C
     ·rw [if_neg c4] at H
      exact Zt
    ·rw [if_neg c3] at H
     have c3b0 : decide (x1001_1 < (s0_0.size : Int)) = false := decide_eq_false c3
     clear c3
     by_cases c12 : x1001_1 ≥ (s0_0.size : Int)
     ·rw [if_pos c12] at H
      have c12b0 : decide ((s0_0.size : Int) ≤ x1001_1) = true := decide_eq_true c12
      clear c12
      simp only [Option.some.injEq, Prod.mk.injEq] at H
      obtain ⟨rfl, rfl, rfl, rfl, rfl⟩ := H
      obtain ⟨hcz13_0, hcz13_1, hcz13_2, hcz13_3, hfz13_0, hfz13_1, hfz13_2, hfz13_3⟩ := Yt HI0.out.1
      go_wp2
      repeat (go_quiet (fail); try go_wp2)
      go_ret
      exact Z1C
     ·rw [if_neg c12] at H
      have c12b0 : decide ((s0_0.size : Int) ≤ x1001_1) = false := decide_eq_false c12
      clear c12
      by_cases c14 : 0 ≤ x1001_1
      ·rw [if_pos c14] at H
       exact Zt
      ·rw [if_neg c14] at H
       exact Zt
   ·rw [if_neg c2] at H
    have c2b0 : (s0_2 == 0) = false := beq_eq_false_iff_ne.mpr c2
    have c2b1 : (s0_2 != 0) = true := bne_iff_ne.mpr c2
    simp only [Option.some.injEq, Prod.mk.injEq] at H
    obtain ⟨rfl, rfl, rfl, rfl, rfl⟩ := H
    obtain ⟨hcz15_0, hcz15_1, hcz15_2, hcz15_3, hfz15_0, hfz15_1, hfz15_2, hfz15_3⟩ := Yt HI0.out.1
    go_wp2
    repeat (go_quiet (fail); try go_wp2)
    go_ret
    exact Z1C
def Yb.f (s0_0 : ByteArray) (s0_1 : Int) (s0_2 : Int) (s0_3 : Int) (a1 : Int) (a2 : Int) : Option (Int × ByteArray × List ByteArray × (List (S37)) × ByteArray × Int × Int × Int) := if s0_2 = 0 then (some (0, (⟨#[]⟩ : ByteArray), ([] : List ByteArray), ([] : List (S37)), s0_0, s0_1, a2, a1)) else (some (0, (⟨#[]⟩ : ByteArray), ([] : List ByteArray), ([] : List (S37)), s0_0, s0_1, s0_2, s0_3))
set_option maxHeartbeats 8000000 in
set_option maxRecDepth 100000 in
theorem Yb.calls (g : Nat) (s0_0 : ByteArray) (s0_1 : Int) (s0_2 : Int) (s0_3 : Int) (a1 : Int) (a2 : Int) (r1 : Int) (r2 : ByteArray) (r3 : List ByteArray) (r4 : List (S37)) (r5 : ByteArray) (r6 : Int) (r7 : Int) (r8 : Int) (w0 w : World) (hI : Ye w0 w g s0_0 s0_1 s0_2 s0_3) (hB : Below w0.heap.size w0 w) (h : Yb.f s0_0 s0_1 s0_2 s0_3 a1 a2 = some (r1, r2, r3, r4, r5, r6, r7, r8)) :
  Calls Tryd.prog 54 #[.pointer (some ⟨g, 0, none⟩), .int .i64 a1, .int .i64 a2] w fun e w' => ∃ v2_ v3_ : Value, e = .returned (.agg #[.int .i64 r1, .string r2, v2_, v3_]) ∧ Kd.R Kd.string 9 w' w.heap.size (fun k_ => (w.heap.size ≤ k_)) v2_ r3 ∧ Kd.N k37 37 w' w.heap.size (fun k_ => (w.heap.size ≤ k_) ∧ some k_ ≠ (v2_ : Value).ownBlock) v3_ r4 ∧ Ye w0 w' g r5 r6 r7 r8 ∧ Below w0.heap.size w0 w' ∧ Y4 w w' g none := by
 have hu37 := Tryd.underlying37
 have HI0 := Y0.mk hI
 have HK := Y0.mk (Y4.refl w g none)
 have HL := Y0.mk hB.size
 clear hI
 have HW0 := Y0.mk hB.size
 have HB := Y0.mk hB
 clear hB
 have H : (if s0_2 = 0 then (some (0, (⟨#[]⟩ : ByteArray), ([] : List ByteArray), ([] : List (S37)), s0_0, s0_1, a2, a1)) else (some (0, (⟨#[]⟩ : ByteArray), ([] : List ByteArray), ([] : List (S37)), s0_0, s0_1, s0_2, s0_3))) = some (r1, r2, r3, r4, r5, r6, r7, r8) := h
 clear h
 by_cases c4 : s0_2 = 0
 ·rw [if_pos c4] at H
  have c4b0 : (s0_2 == 0) = true := beq_iff_eq.mpr c4
  have c4b1 : (s0_2 != 0) = false := bne_eq_false_iff_eq.mpr c4
  clear c4
  simp only [Option.some.injEq, Prod.mk.injEq] at H
  obtain ⟨rfl, rfl, rfl, rfl, rfl, rfl, rfl, rfl⟩ := H
  go_enter Tryd.func54, Tryd.ntmps54
  go_wp2_with (first | ((with_reducible refine Ym (N := 6) rfl ?_); refine Yl ?hg (N := 6) ?hd (cs := #[.int .i64 0, .string (⟨#[]⟩ : ByteArray), .slice none 0 0, .slice none 0 0]) (t := 37) ?hr ?_; (case hd => rfl); (case hg => rfl); (case hr => exact Z6); intro gb101 hg w5 hbox hb; have n_ := Y3q (Ye.below QI75_0 hb) (Y4.trans QK (Y4.of_below hb g none) (.inl rfl)) (Y5 QB hb) (hbox) ((by rw [hg]; exact (Ya (w := w) (g := g) (row := none) QK) : w.heap.size ≤ gb101)) ((Nat.le_trans HW0.out (by rw [hg]; exact (Ya (w := w) (g := g) (row := none) QK) : w.heap.size ≤ gb101) : w0.heap.size ≤ gb101)) ((by rw [hg]; exact Nat.ne_of_lt (Ye.lt (show Ye w0 _ g s0_0 s0_1 s0_2 s0_3 from QI75_0)) : g ≠ gb101)) ((by rw [hg]; exact Nat.ne_of_gt (Ye.lt (show Ye w0 _ g s0_0 s0_1 s0_2 s0_3 from QI75_0)) : gb101 ≠ g)); clear HI0 HK HB; obtain ⟨HI0, HK, HB, BK101, GW101, GE101, NB0_101, NB101_0⟩ := n_; clear hb hbox hg; obtain ⟨HGz6, hgz6⟩ := HI0.out; have hcz6_0 := YA HGz6; have hcz6_1 := YB HGz6; have hcz6_2 := YC HGz6; have hcz6_3 := YD HGz6; have hfz6_0 := Y3 HGz6 0; have hfz6_1 := Y3 HGz6 1; have hfz6_2 := Y3 HGz6 2; have hfz6_3 := Y3 HGz6 3; clear HGz6 hgz6; have hnb7 := NB101_0.out; have hnc7 := NB0_101.out; obtain ⟨hcz8_0, hcz8_1, hcz8_2, hcz8_3, hfz8_0, hfz8_1, hfz8_2, hfz8_3⟩ := Yt BK101.out))
  refine bodyPost_ret (results_cell_row rfl _ _ gb101 37 #[.int .i64 0, .string (⟨#[]⟩ : ByteArray), .slice none 0 0, .slice none 0 0] (0, 0) _ rfl (by (with_reducible repeat (first | refine Y9 ?_ _ | refine Y8 ?_ | refine Y7 ?_ _)); exact Yp (cs := #[.int .i64 0, .string (⟨#[]⟩ : ByteArray), .slice none 0 0, .slice none 0 0]) (by (with_reducible repeat (first | refine Y9 ?_ _ | refine Y8 ?_ | refine Y7 ?_ _)); exact Yp (cs := #[.int .i64 0, .string (⟨#[]⟩ : ByteArray), .slice none 0 0, .slice none 0 0]) (by (with_reducible repeat (first | refine Y9 ?_ _ | refine Y8 ?_ | refine Y7 ?_ _)); exact Yp (cs := #[.int .i64 0, .string (⟨#[]⟩ : ByteArray), .slice none 0 0, .slice none 0 0]) (by (with_reducible repeat (first | refine Y9 ?_ _ | refine Y8 ?_ | refine Y7 ?_ _)); exact Yp (cs := #[.int .i64 0, .string (⟨#[]⟩ : ByteArray), .slice none 0 0, .slice none 0 0]) (by (with_reducible repeat (first | refine Y9 ?_ _ | refine Y8 ?_ | refine Y7 ?_ _)); exact YL Z1b NB101_0.out _) 0 _ rfl) 1 _ rfl) 2 _ rfl) 3 _ rfl) Tryd.underlying37 rfl Z4) rfl ?_
  exact ⟨_, _, Z2, Z7, Z7, QI75_0, QB, QK⟩
 ·rw [if_neg c4] at H
  have c4b0 : (s0_2 == 0) = false := beq_eq_false_iff_ne.mpr c4
  have c4b1 : (s0_2 != 0) = true := bne_iff_ne.mpr c4
  simp only [Option.some.injEq, Prod.mk.injEq] at H
  obtain ⟨rfl, rfl, rfl, rfl, rfl, rfl, rfl, rfl⟩ := H
  go_enter Tryd.func54, Tryd.ntmps54
  go_wp2_with (first | ((with_reducible refine Ym (N := 6) rfl ?_); refine Yl ?hg (N := 6) ?hd (cs := #[.int .i64 0, .string (⟨#[]⟩ : ByteArray), .slice none 0 0, .slice none 0 0]) (t := 37) ?hr ?_; (case hd => rfl); (case hg => rfl); (case hr => exact Z6); intro gb101 hg w9 hbox hb; have n_ := Y3q (Ye.below QI75_0 hb) (Y4.trans QK (Y4.of_below hb g none) (.inl rfl)) (Y5 QB hb) (hbox) ((by rw [hg]; exact (Ya (w := w) (g := g) (row := none) QK) : w.heap.size ≤ gb101)) ((Nat.le_trans HW0.out (by rw [hg]; exact (Ya (w := w) (g := g) (row := none) QK) : w.heap.size ≤ gb101) : w0.heap.size ≤ gb101)) ((by rw [hg]; exact Nat.ne_of_lt (Ye.lt (show Ye w0 _ g s0_0 s0_1 s0_2 s0_3 from QI75_0)) : g ≠ gb101)) ((by rw [hg]; exact Nat.ne_of_gt (Ye.lt (show Ye w0 _ g s0_0 s0_1 s0_2 s0_3 from QI75_0)) : gb101 ≠ g)); clear HI0 HK HB; obtain ⟨HI0, HK, HB, BK101, GW101, GE101, NB0_101, NB101_0⟩ := n_; clear hb hbox hg; obtain ⟨HGz10, hgz10⟩ := HI0.out; have hcz10_0 := YA HGz10; have hcz10_1 := YB HGz10; have hcz10_2 := YC HGz10; have hcz10_3 := YD HGz10; have hfz10_0 := Y3 HGz10 0; have hfz10_1 := Y3 HGz10 1; have hfz10_2 := Y3 HGz10 2; have hfz10_3 := Y3 HGz10 3; clear HGz10 hgz10; have hnb11 := NB101_0.out; have hnc11 := NB0_101.out; obtain ⟨hcz12_0, hcz12_1, hcz12_2, hcz12_3, hfz12_0, hfz12_1, hfz12_2, hfz12_3⟩ := Yt BK101.out))
  refine bodyPost_ret (results_cell_row rfl _ _ gb101 37 #[.int .i64 0, .string (⟨#[]⟩ : ByteArray), .slice none 0 0, .slice none 0 0] (0, 0) _ rfl Z1p Tryd.underlying37 rfl Z4) rfl ?_
  exact ⟨_, _, Z2, Z7, Z7, QI75_0, QB, QK⟩
def YF.f (k : Nat) (s0_0 : ByteArray) (s0_1 : Int) (s0_2 : Int) (s0_3 : Int) : Option (ByteArray × ByteArray × Int × Int × Int) := (Yc.f k s0_0 s0_1 s0_2 s0_3).bind fun bt101 => (if bt101.1 = 60 then (if 0 ≤ (wrap64 (bt101.2.2.1 + 1)) then (if (wrap64 (bt101.2.2.1 + 1)) ≤ (bt101.2.1.size : Int) then ((strings_Cut.f (bt101.2.1.extract ((wrap64 (bt101.2.2.1 + 1)) : Int).toNat bt101.2.1.size) (⟨#[62]⟩ : ByteArray)).bind fun bt118 => (if bt118.2.2 = true then ((YN.f bt118.1).bind fun t121 => (if t121 = true then (some (bt118.1, bt101.2.1, wrap64 (bt101.2.2.1 + (wrap64 ((bt118.1.size : Int) + 2))), bt101.2.2.2.1, bt101.2.2.2.2)) else ((Yb.f bt101.2.1 bt101.2.2.1 bt101.2.2.2.1 bt101.2.2.2.2 bt101.2.2.1 2).bind fun bt122 => (some ((⟨#[]⟩ : ByteArray), bt122.2.2.2.2.1, bt122.2.2.2.2.2.1, bt122.2.2.2.2.2.2.1, bt122.2.2.2.2.2.2.2))))) else ((Yb.f bt101.2.1 bt101.2.2.1 bt101.2.2.2.1 bt101.2.2.2.2 bt101.2.2.1 2).bind fun bt134 => (some ((⟨#[]⟩ : ByteArray), bt134.2.2.2.2.1, bt134.2.2.2.2.2.1, bt134.2.2.2.2.2.2.1, bt134.2.2.2.2.2.2.2))))) else (none)) else (none)) else ((Yb.f bt101.2.1 bt101.2.2.1 bt101.2.2.2.1 bt101.2.2.2.2 bt101.2.2.1 2).bind fun bt106 => (some ((⟨#[]⟩ : ByteArray), bt106.2.2.2.2.1, bt106.2.2.2.2.2.1, bt106.2.2.2.2.2.2.1, bt106.2.2.2.2.2.2.2))))
set_option maxHeartbeats 8000000 in
set_option maxRecDepth 100000 in
theorem YF.calls (k : Nat) (g : Nat) (s0_0 : ByteArray) (s0_1 : Int) (s0_2 : Int) (s0_3 : Int) (r1 : ByteArray) (r2 : ByteArray) (r3 : Int) (r4 : Int) (r5 : Int) (w0 w : World) (hI : Ye w0 w g s0_0 s0_1 s0_2 s0_3) (hB : Below w0.heap.size w0 w) (hT : Tabs w0) (h : YF.f k s0_0 s0_1 s0_2 s0_3 = some (r1, r2, r3, r4, r5)) :
  Calls Tryd.prog 140 #[.pointer (some ⟨g, 0, none⟩)] w fun e w' => e = .returned (.string r1) ∧ Ye w0 w' g r2 r3 r4 r5 ∧ Below w0.heap.size w0 w' ∧ Y4 w w' g none := by
 have HT := Y0.mk hT
 clear hT
 have HI0 := Y0.mk hI
 have HK := Y0.mk (Y4.refl w g none)
 have HL := Y0.mk hB.size
 clear hI
 have HW0 := Y0.mk hB.size
 have HB := Y0.mk hB
 clear hB
 have H : ((Yc.f k s0_0 s0_1 s0_2 s0_3).bind fun bt101 => (if bt101.1 = 60 then (if 0 ≤ (wrap64 (bt101.2.2.1 + 1)) then (if (wrap64 (bt101.2.2.1 + 1)) ≤ (bt101.2.1.size : Int) then ((strings_Cut.f (bt101.2.1.extract ((wrap64 (bt101.2.2.1 + 1)) : Int).toNat bt101.2.1.size) (⟨#[62]⟩ : ByteArray)).bind fun bt118 => (if bt118.2.2 = true then ((YN.f bt118.1).bind fun t121 => (if t121 = true then (some (bt118.1, bt101.2.1, wrap64 (bt101.2.2.1 + (wrap64 ((bt118.1.size : Int) + 2))), bt101.2.2.2.1, bt101.2.2.2.2)) else ((Yb.f bt101.2.1 bt101.2.2.1 bt101.2.2.2.1 bt101.2.2.2.2 bt101.2.2.1 2).bind fun bt122 => (some ((⟨#[]⟩ : ByteArray), bt122.2.2.2.2.1, bt122.2.2.2.2.2.1, bt122.2.2.2.2.2.2.1, bt122.2.2.2.2.2.2.2))))) else ((Yb.f bt101.2.1 bt101.2.2.1 bt101.2.2.2.1 bt101.2.2.2.2 bt101.2.2.1 2).bind fun bt134 => (some ((⟨#[]⟩ : ByteArray), bt134.2.2.2.2.1, bt134.2.2.2.2.2.1, bt134.2.2.2.2.2.2.1, bt134.2.2.2.2.2.2.2))))) else (none)) else (none)) else ((Yb.f bt101.2.1 bt101.2.2.1 bt101.2.2.2.1 bt101.2.2.2.2 bt101.2.2.1 2).bind fun bt106 => (some ((⟨#[]⟩ : ByteArray), bt106.2.2.2.2.1, bt106.2.2.2.2.2.1, bt106.2.2.2.2.2.2.1, bt106.2.2.2.2.2.2.2))))) = some (r1, r2, r3, r4, r5) := h
 clear h
 replace H := Option.bind_eq_some_iff.mp H
 obtain ⟨⟨t101, t102, t103, t104, t105⟩, A20, H⟩ := H
 replace H : (if t101 = 60 then (if 0 ≤ (wrap64 (t103 + 1)) then (if (wrap64 (t103 + 1)) ≤ (t102.size : Int) then ((strings_Cut.f (t102.extract ((wrap64 (t103 + 1)) : Int).toNat t102.size) (⟨#[62]⟩ : ByteArray)).bind fun bt118 => (if bt118.2.2 = true then ((YN.f bt118.1).bind fun t121 => (if t121 = true then (some (bt118.1, t102, wrap64 (t103 + (wrap64 ((bt118.1.size : Int) + 2))), t104, t105)) else ((Yb.f t102 t103 t104 t105 t103 2).bind fun bt122 => (some ((⟨#[]⟩ : ByteArray), bt122.2.2.2.2.1, bt122.2.2.2.2.2.1, bt122.2.2.2.2.2.2.1, bt122.2.2.2.2.2.2.2))))) else ((Yb.f t102 t103 t104 t105 t103 2).bind fun bt134 => (some ((⟨#[]⟩ : ByteArray), bt134.2.2.2.2.1, bt134.2.2.2.2.2.1, bt134.2.2.2.2.2.2.1, bt134.2.2.2.2.2.2.2))))) else (none)) else (none)) else ((Yb.f t102 t103 t104 t105 t103 2).bind fun bt106 => (some ((⟨#[]⟩ : ByteArray), bt106.2.2.2.2.1, bt106.2.2.2.2.2.1, bt106.2.2.2.2.2.2.1, bt106.2.2.2.2.2.2.2)))) = some (r1, r2, r3, r4, r5) := H
 have A2 := Y0.mk A20
 clear A20
 by_cases c3 : t101 = 60
 ·rw [if_pos c3] at H
  have c3b0 : (t101 == 60) = true := beq_iff_eq.mpr c3
  have c3b1 : (t101 != 60) = false := bne_eq_false_iff_eq.mpr c3
  clear c3
  obtain ⟨ji4, hji4⟩ : ∃ j_ : Int, (wrap64 (t103 + 1)) = j_ := ⟨_, rfl⟩
  replace H : (if 0 ≤ (ji4) then (if (ji4) ≤ (t102.size : Int) then ((strings_Cut.f (t102.extract ((ji4) : Int).toNat t102.size) (⟨#[62]⟩ : ByteArray)).bind fun bt118 => (if bt118.2.2 = true then ((YN.f bt118.1).bind fun t121 => (if t121 = true then (some (bt118.1, t102, wrap64 (t103 + (wrap64 ((bt118.1.size : Int) + 2))), t104, t105)) else ((Yb.f t102 t103 t104 t105 t103 2).bind fun bt122 => (some ((⟨#[]⟩ : ByteArray), bt122.2.2.2.2.1, bt122.2.2.2.2.2.1, bt122.2.2.2.2.2.2.1, bt122.2.2.2.2.2.2.2))))) else ((Yb.f t102 t103 t104 t105 t103 2).bind fun bt134 => (some ((⟨#[]⟩ : ByteArray), bt134.2.2.2.2.1, bt134.2.2.2.2.2.1, bt134.2.2.2.2.2.2.1, bt134.2.2.2.2.2.2.2))))) else (none)) else (none)) = some (r1, r2, r3, r4, r5) := by first | (rw [hji4] at H; exact H) | (simp only [hji4] at H ⊢; exact H)
  (try rw [hji4] at A2)
  have hji4w : (IntKind.i64.wrap (t103 + 1)) = ji4 := (Y11 _).trans hji4
  by_cases c5 : 0 ≤ (ji4)
  ·rw [if_pos c5] at H
   have c5b0 := eq_true c5
   have c5b1 : decide (0 ≤ (ji4)) = true := decide_eq_true c5
   clear c5
   by_cases c6 : (ji4) ≤ (t102.size : Int)
   ·rw [if_pos c6] at H
    have c6b0 := eq_true c6
    have c6b1 : decide ((ji4) ≤ (t102.size : Int)) = true := decide_eq_true c6
    clear c6
    replace H := Option.bind_eq_some_iff.mp H
    obtain ⟨⟨t118, t119, t120⟩, A70, H⟩ := H
    replace H : (if t120 = true then ((YN.f t118).bind fun t121 => (if t121 = true then (some (t118, t102, wrap64 (t103 + (wrap64 ((t118.size : Int) + 2))), t104, t105)) else ((Yb.f t102 t103 t104 t105 t103 2).bind fun bt122 => (some ((⟨#[]⟩ : ByteArray), bt122.2.2.2.2.1, bt122.2.2.2.2.2.1, bt122.2.2.2.2.2.2.1, bt122.2.2.2.2.2.2.2))))) else ((Yb.f t102 t103 t104 t105 t103 2).bind fun bt134 => (some ((⟨#[]⟩ : ByteArray), bt134.2.2.2.2.1, bt134.2.2.2.2.2.1, bt134.2.2.2.2.2.2.1, bt134.2.2.2.2.2.2.2)))) = some (r1, r2, r3, r4, r5) := H
    have A7 := Y0.mk A70
    clear A70
    by_cases c8 : t120 = true
    ·subst c8
     have H1 : ((YN.f t118).bind fun t121 => (if t121 = true then (some (t118, t102, wrap64 (t103 + (wrap64 ((t118.size : Int) + 2))), t104, t105)) else ((Yb.f t102 t103 t104 t105 t103 2).bind fun bt122 => (some ((⟨#[]⟩ : ByteArray), bt122.2.2.2.2.1, bt122.2.2.2.2.2.1, bt122.2.2.2.2.2.2.1, bt122.2.2.2.2.2.2.2))))) = some (r1, r2, r3, r4, r5) := by rw [if_pos rfl] at H; exact H
     clear H
     have H := H1
     clear H1
     replace H := Option.bind_eq_some_iff.mp H
     obtain ⟨t121, A90, H⟩ := H
     replace H : (if t121 = true then (some (t118, t102, wrap64 (t103 + (wrap64 ((t118.size : Int) + 2))), t104, t105)) else ((Yb.f t102 t103 t104 t105 t103 2).bind fun bt122 => (some ((⟨#[]⟩ : ByteArray), bt122.2.2.2.2.1, bt122.2.2.2.2.2.1, bt122.2.2.2.2.2.2.1, bt122.2.2.2.2.2.2.2)))) = some (r1, r2, r3, r4, r5) := H
     have A9 := Y0.mk A90
     clear A90
     by_cases c10 : t121 = true
     ·subst c10
      have H1 : (some (t118, t102, wrap64 (t103 + (wrap64 ((t118.size : Int) + 2))), t104, t105)) = some (r1, r2, r3, r4, r5) := by rw [if_pos rfl] at H; exact H
      clear H
      have H := H1
      clear H1
      simp only [Option.some.injEq, Prod.mk.injEq] at H
      obtain ⟨rfl, rfl, rfl, rfl, rfl⟩ := H
      go_enter Tryd.func140, Tryd.ntmps140
      go_wp2_with (first | (go_at_call 53; (with_reducible refine (Yc.calls k g s0_0 s0_1 s0_2 s0_3 t101 t102 t103 t104 t105 w0 _ ?side1 ?side2 A2.out).mono ?_); (case side1 => exact Z13); (case side2 => exact QB); rintro e w11 ⟨rfl, hi, hb, hk⟩; have n_ := Y1X (Y4.trans QK hk (.inl rfl)) (hb) (hi); clear HK HB HI0; obtain ⟨HK, HB, HI0⟩ := n_; (try clear hb); (try clear hb2); (try clear hk); (try clear hi); obtain ⟨HGz12, hgz12⟩ := HI0.out; have hcz12_0 := YA HGz12; have hcz12_1 := YB HGz12; have hcz12_2 := YC HGz12; have hcz12_3 := YD HGz12; have hfz12_0 := Y3 HGz12 0; have hfz12_1 := Y3 HGz12 1; have hfz12_2 := Y3 HGz12 2; have hfz12_3 := Y3 HGz12 3; clear HGz12 hgz12) | (go_at_call 145; (with_reducible refine (strings_Cut.calls (t102.extract ((ji4) : Int).toNat t102.size) (⟨#[62]⟩ : ByteArray) t118 t119 true _ ?side1 A7.out).mono ?_); (case side1 => exact Z3); rintro e w' ⟨rfl, ⟨nd, rfl⟩⟩; (try first | exact ⟨rfl, _, World.drewN_drewN _ _ _⟩ | exact ⟨rfl, _, Eq.trans (World.drewN_drewN _ _ _) (congrArg (World.drewN _) (Nat.add_assoc _ _ _))⟩)) | (go_at_call 39; (with_reducible refine (YN.calls t118 true _ ?side1 A9.out).mono ?_); (case side1 => exact Z3); rintro e w13 ⟨rfl, hb⟩; have n_ := Y1X (Ye.below QI75_0 hb) (Y4.trans QK (Y4.of_below hb g none) (.inl rfl)) (Y5 QB hb); clear HI0 HK HB; obtain ⟨HI0, HK, HB⟩ := n_; (try clear hb); (try clear hb2); (try clear hk); (try clear hi); obtain ⟨HGz14, hgz14⟩ := HI0.out; have hcz14_0 := YA HGz14; have hcz14_1 := YB HGz14; have hcz14_2 := YC HGz14; have hcz14_3 := YD HGz14; have hfz14_0 := Y3 HGz14 0; have hfz14_1 := Y3 HGz14 1; have hfz14_2 := Y3 HGz14 2; have hfz14_3 := Y3 HGz14 3; clear HGz14 hgz14))
      repeat (go_quiet (first | (go_at_call 53; (with_reducible refine (Yc.calls k g s0_0 s0_1 s0_2 s0_3 t101 t102 t103 t104 t105 w0 _ ?side1 ?side2 A2.out).mono ?_); (case side1 => exact Z13); (case side2 => exact QB); rintro e w11 ⟨rfl, hi, hb, hk⟩; have n_ := Y1X (Y4.trans QK hk (.inl rfl)) (hb) (hi); clear HK HB HI0; obtain ⟨HK, HB, HI0⟩ := n_; (try clear hb); (try clear hb2); (try clear hk); (try clear hi); obtain ⟨HGz12, hgz12⟩ := HI0.out; have hcz12_0 := YA HGz12; have hcz12_1 := YB HGz12; have hcz12_2 := YC HGz12; have hcz12_3 := YD HGz12; have hfz12_0 := Y3 HGz12 0; have hfz12_1 := Y3 HGz12 1; have hfz12_2 := Y3 HGz12 2; have hfz12_3 := Y3 HGz12 3; clear HGz12 hgz12) | (go_at_call 145; (with_reducible refine (strings_Cut.calls (t102.extract ((ji4) : Int).toNat t102.size) (⟨#[62]⟩ : ByteArray) t118 t119 true _ ?side1 A7.out).mono ?_); (case side1 => exact Z3); rintro e w' ⟨rfl, ⟨nd, rfl⟩⟩; (try first | exact ⟨rfl, _, World.drewN_drewN _ _ _⟩ | exact ⟨rfl, _, Eq.trans (World.drewN_drewN _ _ _) (congrArg (World.drewN _) (Nat.add_assoc _ _ _))⟩)) | (go_at_call 39; (with_reducible refine (YN.calls t118 true _ ?side1 A9.out).mono ?_); (case side1 => exact Z3); rintro e w13 ⟨rfl, hb⟩; have n_ := Y1X (Ye.below QI75_0 hb) (Y4.trans QK (Y4.of_below hb g none) (.inl rfl)) (Y5 QB hb); clear HI0 HK HB; obtain ⟨HI0, HK, HB⟩ := n_; (try clear hb); (try clear hb2); (try clear hk); (try clear hi); obtain ⟨HGz14, hgz14⟩ := HI0.out; have hcz14_0 := YA HGz14; have hcz14_1 := YB HGz14; have hcz14_2 := YC HGz14; have hcz14_3 := YD HGz14; have hfz14_0 := Y3 HGz14 0; have hfz14_1 := Y3 HGz14 1; have hfz14_2 := Y3 HGz14 2; have hfz14_3 := Y3 HGz14 3; clear HGz14 hgz14)); try go_wp2_with (first | (go_at_call 53; (with_reducible refine (Yc.calls k g s0_0 s0_1 s0_2 s0_3 t101 t102 t103 t104 t105 w0 _ ?side1 ?side2 A2.out).mono ?_); (case side1 => exact Z13); (case side2 => exact QB); rintro e w11 ⟨rfl, hi, hb, hk⟩; have n_ := Y1X (Y4.trans QK hk (.inl rfl)) (hb) (hi); clear HK HB HI0; obtain ⟨HK, HB, HI0⟩ := n_; (try clear hb); (try clear hb2); (try clear hk); (try clear hi); obtain ⟨HGz12, hgz12⟩ := HI0.out; have hcz12_0 := YA HGz12; have hcz12_1 := YB HGz12; have hcz12_2 := YC HGz12; have hcz12_3 := YD HGz12; have hfz12_0 := Y3 HGz12 0; have hfz12_1 := Y3 HGz12 1; have hfz12_2 := Y3 HGz12 2; have hfz12_3 := Y3 HGz12 3; clear HGz12 hgz12) | (go_at_call 145; (with_reducible refine (strings_Cut.calls (t102.extract ((ji4) : Int).toNat t102.size) (⟨#[62]⟩ : ByteArray) t118 t119 true _ ?side1 A7.out).mono ?_); (case side1 => exact Z3); rintro e w' ⟨rfl, ⟨nd, rfl⟩⟩; (try first | exact ⟨rfl, _, World.drewN_drewN _ _ _⟩ | exact ⟨rfl, _, Eq.trans (World.drewN_drewN _ _ _) (congrArg (World.drewN _) (Nat.add_assoc _ _ _))⟩)) | (go_at_call 39; (with_reducible refine (YN.calls t118 true _ ?side1 A9.out).mono ?_); (case side1 => exact Z3); rintro e w13 ⟨rfl, hb⟩; have n_ := Y1X (Ye.below QI75_0 hb) (Y4.trans QK (Y4.of_below hb g none) (.inl rfl)) (Y5 QB hb); clear HI0 HK HB; obtain ⟨HI0, HK, HB⟩ := n_; (try clear hb); (try clear hb2); (try clear hk); (try clear hi); obtain ⟨HGz14, hgz14⟩ := HI0.out; have hcz14_0 := YA HGz14; have hcz14_1 := YB HGz14; have hcz14_2 := YC HGz14; have hcz14_3 := YD HGz14; have hfz14_0 := Y3 HGz14 0; have hfz14_1 := Y3 HGz14 1; have hfz14_2 := Y3 HGz14 2; have hfz14_3 := Y3 HGz14 3; clear HGz14 hgz14)))
      go_ret
      exact ZR
     ·replace c10 := Bool.eq_false_iff.mpr c10
      subst c10
      have H1 : ((Yb.f t102 t103 t104 t105 t103 2).bind fun bt122 => (some ((⟨#[]⟩ : ByteArray), bt122.2.2.2.2.1, bt122.2.2.2.2.2.1, bt122.2.2.2.2.2.2.1, bt122.2.2.2.2.2.2.2))) = some (r1, r2, r3, r4, r5) := by rw [if_neg (show ¬ (false = true) by decide)] at H; exact H
      clear H
      have H := H1
      clear H1
      replace H := Option.bind_eq_some_iff.mp H
      obtain ⟨⟨t122, t123, t124, t127, t130, t131, t132, t133⟩, A150, H⟩ := H
      replace H : (some ((⟨#[]⟩ : ByteArray), t130, t131, t132, t133)) = some (r1, r2, r3, r4, r5) := H
      have A15 := Y0.mk A150
      clear A150
      simp only [Option.some.injEq, Prod.mk.injEq] at H
      obtain ⟨rfl, rfl, rfl, rfl, rfl⟩ := H
      go_enter Tryd.func140, Tryd.ntmps140
      go_wp2_with (first | (go_at_call 53; (with_reducible refine (Yc.calls k g s0_0 s0_1 s0_2 s0_3 t101 t102 t103 t104 t105 w0 _ ?side1 ?side2 A2.out).mono ?_); (case side1 => exact Z13); (case side2 => exact QB); rintro e w16 ⟨rfl, hi, hb, hk⟩; have n_ := Y1X (Y4.trans QK hk (.inl rfl)) (hb) (hi); clear HK HB HI0; obtain ⟨HK, HB, HI0⟩ := n_; (try clear hb); (try clear hb2); (try clear hk); (try clear hi); obtain ⟨HGz17, hgz17⟩ := HI0.out; have hcz17_0 := YA HGz17; have hcz17_1 := YB HGz17; have hcz17_2 := YC HGz17; have hcz17_3 := YD HGz17; have hfz17_0 := Y3 HGz17 0; have hfz17_1 := Y3 HGz17 1; have hfz17_2 := Y3 HGz17 2; have hfz17_3 := Y3 HGz17 3; clear HGz17 hgz17) | (go_at_call 145; (with_reducible refine (strings_Cut.calls (t102.extract ((ji4) : Int).toNat t102.size) (⟨#[62]⟩ : ByteArray) t118 t119 true _ ?side1 A7.out).mono ?_); (case side1 => exact Z3); rintro e w' ⟨rfl, ⟨nd, rfl⟩⟩; (try first | exact ⟨rfl, _, World.drewN_drewN _ _ _⟩ | exact ⟨rfl, _, Eq.trans (World.drewN_drewN _ _ _) (congrArg (World.drewN _) (Nat.add_assoc _ _ _))⟩)) | (go_at_call 39; (with_reducible refine (YN.calls t118 false _ ?side1 A9.out).mono ?_); (case side1 => exact Z3); rintro e w18 ⟨rfl, hb⟩; have n_ := Y1X (Ye.below QI75_0 hb) (Y4.trans QK (Y4.of_below hb g none) (.inl rfl)) (Y5 QB hb); clear HI0 HK HB; obtain ⟨HI0, HK, HB⟩ := n_; (try clear hb); (try clear hb2); (try clear hk); (try clear hi); obtain ⟨HGz19, hgz19⟩ := HI0.out; have hcz19_0 := YA HGz19; have hcz19_1 := YB HGz19; have hcz19_2 := YC HGz19; have hcz19_3 := YD HGz19; have hfz19_0 := Y3 HGz19 0; have hfz19_1 := Y3 HGz19 1; have hfz19_2 := Y3 HGz19 2; have hfz19_3 := Y3 HGz19 3; clear HGz19 hgz19) | (go_at_call 54; (with_reducible refine (Yb.calls g t102 t103 t104 t105 t103 2 t122 t123 t124 t127 t130 t131 t132 t133 w0 _ ?side1 ?side2 A15.out).mono ?_); (case side1 => exact Z13); (case side2 => exact QB); rintro e w20 ⟨v125, v128, rfl, ho0, ho1, hi, hb, hk⟩; have n_ := Y3A (Kd.R_lower (Kd.R_mono (ok' := fun k_ => True) ho0 (fun _ hk_ => trivial)) (Ya (w := w) (g := g) (row := none) QK)) (Kd.N_lower (Kd.N_mono (ok' := fun k_ => some k_ ≠ (v125 : Value).ownBlock ∧ k_ ≠ g) ho1 (fun k_ hk_ => ⟨hk_.2, (Ye.fresh QI75_0 k_ hk_.1)⟩)) (Ya (w := w) (g := g) (row := none) QK)) (Y4.trans QK hk (.inl rfl)) (hb) (hi); clear HK HB HI0; obtain ⟨HO126, HO129, HK, HB, HI0⟩ := n_; (try clear hb); (try clear hb2); (try clear hk); (try clear hi); (try clear ho0); (try clear ho1)))
      repeat (go_quiet (first | (go_at_call 53; (with_reducible refine (Yc.calls k g s0_0 s0_1 s0_2 s0_3 t101 t102 t103 t104 t105 w0 _ ?side1 ?side2 A2.out).mono ?_); (case side1 => exact Z13); (case side2 => exact QB); rintro e w16 ⟨rfl, hi, hb, hk⟩; have n_ := Y1X (Y4.trans QK hk (.inl rfl)) (hb) (hi); clear HK HB HI0; obtain ⟨HK, HB, HI0⟩ := n_; (try clear hb); (try clear hb2); (try clear hk); (try clear hi); obtain ⟨HGz17, hgz17⟩ := HI0.out; have hcz17_0 := YA HGz17; have hcz17_1 := YB HGz17; have hcz17_2 := YC HGz17; have hcz17_3 := YD HGz17; have hfz17_0 := Y3 HGz17 0; have hfz17_1 := Y3 HGz17 1; have hfz17_2 := Y3 HGz17 2; have hfz17_3 := Y3 HGz17 3; clear HGz17 hgz17) | (go_at_call 145; (with_reducible refine (strings_Cut.calls (t102.extract ((ji4) : Int).toNat t102.size) (⟨#[62]⟩ : ByteArray) t118 t119 true _ ?side1 A7.out).mono ?_); (case side1 => exact Z3); rintro e w' ⟨rfl, ⟨nd, rfl⟩⟩; (try first | exact ⟨rfl, _, World.drewN_drewN _ _ _⟩ | exact ⟨rfl, _, Eq.trans (World.drewN_drewN _ _ _) (congrArg (World.drewN _) (Nat.add_assoc _ _ _))⟩)) | (go_at_call 39; (with_reducible refine (YN.calls t118 false _ ?side1 A9.out).mono ?_); (case side1 => exact Z3); rintro e w18 ⟨rfl, hb⟩; have n_ := Y1X (Ye.below QI75_0 hb) (Y4.trans QK (Y4.of_below hb g none) (.inl rfl)) (Y5 QB hb); clear HI0 HK HB; obtain ⟨HI0, HK, HB⟩ := n_; (try clear hb); (try clear hb2); (try clear hk); (try clear hi); obtain ⟨HGz19, hgz19⟩ := HI0.out; have hcz19_0 := YA HGz19; have hcz19_1 := YB HGz19; have hcz19_2 := YC HGz19; have hcz19_3 := YD HGz19; have hfz19_0 := Y3 HGz19 0; have hfz19_1 := Y3 HGz19 1; have hfz19_2 := Y3 HGz19 2; have hfz19_3 := Y3 HGz19 3; clear HGz19 hgz19) | (go_at_call 54; (with_reducible refine (Yb.calls g t102 t103 t104 t105 t103 2 t122 t123 t124 t127 t130 t131 t132 t133 w0 _ ?side1 ?side2 A15.out).mono ?_); (case side1 => exact Z13); (case side2 => exact QB); rintro e w20 ⟨v125, v128, rfl, ho0, ho1, hi, hb, hk⟩; have n_ := Y3A (Kd.R_lower (Kd.R_mono (ok' := fun k_ => True) ho0 (fun _ hk_ => trivial)) (Ya (w := w) (g := g) (row := none) QK)) (Kd.N_lower (Kd.N_mono (ok' := fun k_ => some k_ ≠ (v125 : Value).ownBlock ∧ k_ ≠ g) ho1 (fun k_ hk_ => ⟨hk_.2, (Ye.fresh QI75_0 k_ hk_.1)⟩)) (Ya (w := w) (g := g) (row := none) QK)) (Y4.trans QK hk (.inl rfl)) (hb) (hi); clear HK HB HI0; obtain ⟨HO126, HO129, HK, HB, HI0⟩ := n_; (try clear hb); (try clear hb2); (try clear hk); (try clear hi); (try clear ho0); (try clear ho1))); try go_wp2_with (first | (go_at_call 53; (with_reducible refine (Yc.calls k g s0_0 s0_1 s0_2 s0_3 t101 t102 t103 t104 t105 w0 _ ?side1 ?side2 A2.out).mono ?_); (case side1 => exact Z13); (case side2 => exact QB); rintro e w16 ⟨rfl, hi, hb, hk⟩; have n_ := Y1X (Y4.trans QK hk (.inl rfl)) (hb) (hi); clear HK HB HI0; obtain ⟨HK, HB, HI0⟩ := n_; (try clear hb); (try clear hb2); (try clear hk); (try clear hi); obtain ⟨HGz17, hgz17⟩ := HI0.out; have hcz17_0 := YA HGz17; have hcz17_1 := YB HGz17; have hcz17_2 := YC HGz17; have hcz17_3 := YD HGz17; have hfz17_0 := Y3 HGz17 0; have hfz17_1 := Y3 HGz17 1; have hfz17_2 := Y3 HGz17 2; have hfz17_3 := Y3 HGz17 3; clear HGz17 hgz17) | (go_at_call 145; (with_reducible refine (strings_Cut.calls (t102.extract ((ji4) : Int).toNat t102.size) (⟨#[62]⟩ : ByteArray) t118 t119 true _ ?side1 A7.out).mono ?_); (case side1 => exact Z3); rintro e w' ⟨rfl, ⟨nd, rfl⟩⟩; (try first | exact ⟨rfl, _, World.drewN_drewN _ _ _⟩ | exact ⟨rfl, _, Eq.trans (World.drewN_drewN _ _ _) (congrArg (World.drewN _) (Nat.add_assoc _ _ _))⟩)) | (go_at_call 39; (with_reducible refine (YN.calls t118 false _ ?side1 A9.out).mono ?_); (case side1 => exact Z3); rintro e w18 ⟨rfl, hb⟩; have n_ := Y1X (Ye.below QI75_0 hb) (Y4.trans QK (Y4.of_below hb g none) (.inl rfl)) (Y5 QB hb); clear HI0 HK HB; obtain ⟨HI0, HK, HB⟩ := n_; (try clear hb); (try clear hb2); (try clear hk); (try clear hi); obtain ⟨HGz19, hgz19⟩ := HI0.out; have hcz19_0 := YA HGz19; have hcz19_1 := YB HGz19; have hcz19_2 := YC HGz19; have hcz19_3 := YD HGz19; have hfz19_0 := Y3 HGz19 0; have hfz19_1 := Y3 HGz19 1; have hfz19_2 := Y3 HGz19 2; have hfz19_3 := Y3 HGz19 3; clear HGz19 hgz19) | (go_at_call 54; (with_reducible refine (Yb.calls g t102 t103 t104 t105 t103 2 t122 t123 t124 t127 t130 t131 t132 t133 w0 _ ?side1 ?side2 A15.out).mono ?_); (case side1 => exact Z13); (case side2 => exact QB); rintro e w20 ⟨v125, v128, rfl, ho0, ho1, hi, hb, hk⟩; have n_ := Y3A (Kd.R_lower (Kd.R_mono (ok' := fun k_ => True) ho0 (fun _ hk_ => trivial)) (Ya (w := w) (g := g) (row := none) QK)) (Kd.N_lower (Kd.N_mono (ok' := fun k_ => some k_ ≠ (v125 : Value).ownBlock ∧ k_ ≠ g) ho1 (fun k_ hk_ => ⟨hk_.2, (Ye.fresh QI75_0 k_ hk_.1)⟩)) (Ya (w := w) (g := g) (row := none) QK)) (Y4.trans QK hk (.inl rfl)) (hb) (hi); clear HK HB HI0; obtain ⟨HO126, HO129, HK, HB, HI0⟩ := n_; (try clear hb); (try clear hb2); (try clear hk); (try clear hi); (try clear ho0); (try clear ho1))))
      go_ret
      exact ZR
    ·replace c8 := Bool.eq_false_iff.mpr c8
     subst c8
     have H1 : ((Yb.f t102 t103 t104 t105 t103 2).bind fun bt134 => (some ((⟨#[]⟩ : ByteArray), bt134.2.2.2.2.1, bt134.2.2.2.2.2.1, bt134.2.2.2.2.2.2.1, bt134.2.2.2.2.2.2.2))) = some (r1, r2, r3, r4, r5) := by rw [if_neg (show ¬ (false = true) by decide)] at H; exact H
     clear H
     have H := H1
     clear H1
     replace H := Option.bind_eq_some_iff.mp H
     obtain ⟨⟨t134, t135, t136, t139, t142, t143, t144, t145⟩, A210, H⟩ := H
     replace H : (some ((⟨#[]⟩ : ByteArray), t142, t143, t144, t145)) = some (r1, r2, r3, r4, r5) := H
     have A21 := Y0.mk A210
     clear A210
     simp only [Option.some.injEq, Prod.mk.injEq] at H
     obtain ⟨rfl, rfl, rfl, rfl, rfl⟩ := H
     go_enter Tryd.func140, Tryd.ntmps140
     go_wp2_with (first | (go_at_call 53; (with_reducible refine (Yc.calls k g s0_0 s0_1 s0_2 s0_3 t101 t102 t103 t104 t105 w0 _ ?side1 ?side2 A2.out).mono ?_); (case side1 => exact Z13); (case side2 => exact QB); rintro e w22 ⟨rfl, hi, hb, hk⟩; have n_ := Y1X (Y4.trans QK hk (.inl rfl)) (hb) (hi); clear HK HB HI0; obtain ⟨HK, HB, HI0⟩ := n_; (try clear hb); (try clear hb2); (try clear hk); (try clear hi); obtain ⟨HGz23, hgz23⟩ := HI0.out; have hcz23_0 := YA HGz23; have hcz23_1 := YB HGz23; have hcz23_2 := YC HGz23; have hcz23_3 := YD HGz23; have hfz23_0 := Y3 HGz23 0; have hfz23_1 := Y3 HGz23 1; have hfz23_2 := Y3 HGz23 2; have hfz23_3 := Y3 HGz23 3; clear HGz23 hgz23) | (go_at_call 145; (with_reducible refine (strings_Cut.calls (t102.extract ((ji4) : Int).toNat t102.size) (⟨#[62]⟩ : ByteArray) t118 t119 false _ ?side1 A7.out).mono ?_); (case side1 => exact Z3); rintro e w' ⟨rfl, ⟨nd, rfl⟩⟩; (try first | exact ⟨rfl, _, World.drewN_drewN _ _ _⟩ | exact ⟨rfl, _, Eq.trans (World.drewN_drewN _ _ _) (congrArg (World.drewN _) (Nat.add_assoc _ _ _))⟩)) | (go_at_call 54; (with_reducible refine (Yb.calls g t102 t103 t104 t105 t103 2 t134 t135 t136 t139 t142 t143 t144 t145 w0 _ ?side1 ?side2 A21.out).mono ?_); (case side1 => exact Z13); (case side2 => exact QB); rintro e w24 ⟨v137, v140, rfl, ho0, ho1, hi, hb, hk⟩; have n_ := Y3A (Kd.R_lower (Kd.R_mono (ok' := fun k_ => True) ho0 (fun _ hk_ => trivial)) (Ya (w := w) (g := g) (row := none) QK)) (Kd.N_lower (Kd.N_mono (ok' := fun k_ => some k_ ≠ (v137 : Value).ownBlock ∧ k_ ≠ g) ho1 (fun k_ hk_ => ⟨hk_.2, (Ye.fresh QI75_0 k_ hk_.1)⟩)) (Ya (w := w) (g := g) (row := none) QK)) (Y4.trans QK hk (.inl rfl)) (hb) (hi); clear HK HB HI0; obtain ⟨HO138, HO141, HK, HB, HI0⟩ := n_; (try clear hb); (try clear hb2); (try clear hk); (try clear hi); (try clear ho0); (try clear ho1)))
     repeat (go_quiet (first | (go_at_call 53; (with_reducible refine (Yc.calls k g s0_0 s0_1 s0_2 s0_3 t101 t102 t103 t104 t105 w0 _ ?side1 ?side2 A2.out).mono ?_); (case side1 => exact Z13); (case side2 => exact QB); rintro e w22 ⟨rfl, hi, hb, hk⟩; have n_ := Y1X (Y4.trans QK hk (.inl rfl)) (hb) (hi); clear HK HB HI0; obtain ⟨HK, HB, HI0⟩ := n_; (try clear hb); (try clear hb2); (try clear hk); (try clear hi); obtain ⟨HGz23, hgz23⟩ := HI0.out; have hcz23_0 := YA HGz23; have hcz23_1 := YB HGz23; have hcz23_2 := YC HGz23; have hcz23_3 := YD HGz23; have hfz23_0 := Y3 HGz23 0; have hfz23_1 := Y3 HGz23 1; have hfz23_2 := Y3 HGz23 2; have hfz23_3 := Y3 HGz23 3; clear HGz23 hgz23) | (go_at_call 145; (with_reducible refine (strings_Cut.calls (t102.extract ((ji4) : Int).toNat t102.size) (⟨#[62]⟩ : ByteArray) t118 t119 false _ ?side1 A7.out).mono ?_); (case side1 => exact Z3); rintro e w' ⟨rfl, ⟨nd, rfl⟩⟩; (try first | exact ⟨rfl, _, World.drewN_drewN _ _ _⟩ | exact ⟨rfl, _, Eq.trans (World.drewN_drewN _ _ _) (congrArg (World.drewN _) (Nat.add_assoc _ _ _))⟩)) | (go_at_call 54; (with_reducible refine (Yb.calls g t102 t103 t104 t105 t103 2 t134 t135 t136 t139 t142 t143 t144 t145 w0 _ ?side1 ?side2 A21.out).mono ?_); (case side1 => exact Z13); (case side2 => exact QB); rintro e w24 ⟨v137, v140, rfl, ho0, ho1, hi, hb, hk⟩; have n_ := Y3A (Kd.R_lower (Kd.R_mono (ok' := fun k_ => True) ho0 (fun _ hk_ => trivial)) (Ya (w := w) (g := g) (row := none) QK)) (Kd.N_lower (Kd.N_mono (ok' := fun k_ => some k_ ≠ (v137 : Value).ownBlock ∧ k_ ≠ g) ho1 (fun k_ hk_ => ⟨hk_.2, (Ye.fresh QI75_0 k_ hk_.1)⟩)) (Ya (w := w) (g := g) (row := none) QK)) (Y4.trans QK hk (.inl rfl)) (hb) (hi); clear HK HB HI0; obtain ⟨HO138, HO141, HK, HB, HI0⟩ := n_; (try clear hb); (try clear hb2); (try clear hk); (try clear hi); (try clear ho0); (try clear ho1))); try go_wp2_with (first | (go_at_call 53; (with_reducible refine (Yc.calls k g s0_0 s0_1 s0_2 s0_3 t101 t102 t103 t104 t105 w0 _ ?side1 ?side2 A2.out).mono ?_); (case side1 => exact Z13); (case side2 => exact QB); rintro e w22 ⟨rfl, hi, hb, hk⟩; have n_ := Y1X (Y4.trans QK hk (.inl rfl)) (hb) (hi); clear HK HB HI0; obtain ⟨HK, HB, HI0⟩ := n_; (try clear hb); (try clear hb2); (try clear hk); (try clear hi); obtain ⟨HGz23, hgz23⟩ := HI0.out; have hcz23_0 := YA HGz23; have hcz23_1 := YB HGz23; have hcz23_2 := YC HGz23; have hcz23_3 := YD HGz23; have hfz23_0 := Y3 HGz23 0; have hfz23_1 := Y3 HGz23 1; have hfz23_2 := Y3 HGz23 2; have hfz23_3 := Y3 HGz23 3; clear HGz23 hgz23) | (go_at_call 145; (with_reducible refine (strings_Cut.calls (t102.extract ((ji4) : Int).toNat t102.size) (⟨#[62]⟩ : ByteArray) t118 t119 false _ ?side1 A7.out).mono ?_); (case side1 => exact Z3); rintro e w' ⟨rfl, ⟨nd, rfl⟩⟩; (try first | exact ⟨rfl, _, World.drewN_drewN _ _ _⟩ | exact ⟨rfl, _, Eq.trans (World.drewN_drewN _ _ _) (congrArg (World.drewN _) (Nat.add_assoc _ _ _))⟩)) | (go_at_call 54; (with_reducible refine (Yb.calls g t102 t103 t104 t105 t103 2 t134 t135 t136 t139 t142 t143 t144 t145 w0 _ ?side1 ?side2 A21.out).mono ?_); (case side1 => exact Z13); (case side2 => exact QB); rintro e w24 ⟨v137, v140, rfl, ho0, ho1, hi, hb, hk⟩; have n_ := Y3A (Kd.R_lower (Kd.R_mono (ok' := fun k_ => True) ho0 (fun _ hk_ => trivial)) (Ya (w := w) (g := g) (row := none) QK)) (Kd.N_lower (Kd.N_mono (ok' := fun k_ => some k_ ≠ (v137 : Value).ownBlock ∧ k_ ≠ g) ho1 (fun k_ hk_ => ⟨hk_.2, (Ye.fresh QI75_0 k_ hk_.1)⟩)) (Ya (w := w) (g := g) (row := none) QK)) (Y4.trans QK hk (.inl rfl)) (hb) (hi); clear HK HB HI0; obtain ⟨HO138, HO141, HK, HB, HI0⟩ := n_; (try clear hb); (try clear hb2); (try clear hk); (try clear hi); (try clear ho0); (try clear ho1))))
     go_ret
     exact ZR
   ·rw [if_neg c6] at H
    exact Zt
  ·rw [if_neg c5] at H
   exact Zt
 ·rw [if_neg c3] at H
  have c3b0 : (t101 == 60) = false := beq_eq_false_iff_ne.mpr c3
  have c3b1 : (t101 != 60) = true := bne_iff_ne.mpr c3
  replace H := Option.bind_eq_some_iff.mp H
  obtain ⟨⟨t106, t107, t108, t111, t114, t115, t116, t117⟩, A250, H⟩ := H
  replace H : (some ((⟨#[]⟩ : ByteArray), t114, t115, t116, t117)) = some (r1, r2, r3, r4, r5) := H
  have A25 := Y0.mk A250
  clear A250
  simp only [Option.some.injEq, Prod.mk.injEq] at H
  obtain ⟨rfl, rfl, rfl, rfl, rfl⟩ := H
  go_enter Tryd.func140, Tryd.ntmps140
  go_wp2_with (first | (go_at_call 53; (with_reducible refine (Yc.calls k g s0_0 s0_1 s0_2 s0_3 t101 t102 t103 t104 t105 w0 _ ?side1 ?side2 A2.out).mono ?_); (case side1 => exact Z13); (case side2 => exact QB); rintro e w26 ⟨rfl, hi, hb, hk⟩; have n_ := Y1X (Y4.trans QK hk (.inl rfl)) (hb) (hi); clear HK HB HI0; obtain ⟨HK, HB, HI0⟩ := n_; (try clear hb); (try clear hb2); (try clear hk); (try clear hi); obtain ⟨HGz27, hgz27⟩ := HI0.out; have hcz27_0 := YA HGz27; have hcz27_1 := YB HGz27; have hcz27_2 := YC HGz27; have hcz27_3 := YD HGz27; have hfz27_0 := Y3 HGz27 0; have hfz27_1 := Y3 HGz27 1; have hfz27_2 := Y3 HGz27 2; have hfz27_3 := Y3 HGz27 3; clear HGz27 hgz27) | (go_at_call 54; (with_reducible refine (Yb.calls g t102 t103 t104 t105 t103 2 t106 t107 t108 t111 t114 t115 t116 t117 w0 _ ?side1 ?side2 A25.out).mono ?_); (case side1 => exact Z13); (case side2 => exact QB); rintro e w28 ⟨v109, v112, rfl, ho0, ho1, hi, hb, hk⟩; have n_ := Y3A (Kd.R_lower (Kd.R_mono (ok' := fun k_ => True) ho0 (fun _ hk_ => trivial)) (Ya (w := w) (g := g) (row := none) QK)) (Kd.N_lower (Kd.N_mono (ok' := fun k_ => some k_ ≠ (v109 : Value).ownBlock ∧ k_ ≠ g) ho1 (fun k_ hk_ => ⟨hk_.2, (Ye.fresh QI75_0 k_ hk_.1)⟩)) (Ya (w := w) (g := g) (row := none) QK)) (Y4.trans QK hk (.inl rfl)) (hb) (hi); clear HK HB HI0; obtain ⟨HO110, HO113, HK, HB, HI0⟩ := n_; (try clear hb); (try clear hb2); (try clear hk); (try clear hi); (try clear ho0); (try clear ho1)))
  repeat (go_quiet (first | (go_at_call 53; (with_reducible refine (Yc.calls k g s0_0 s0_1 s0_2 s0_3 t101 t102 t103 t104 t105 w0 _ ?side1 ?side2 A2.out).mono ?_); (case side1 => exact Z13); (case side2 => exact QB); rintro e w26 ⟨rfl, hi, hb, hk⟩; have n_ := Y1X (Y4.trans QK hk (.inl rfl)) (hb) (hi); clear HK HB HI0; obtain ⟨HK, HB, HI0⟩ := n_; (try clear hb); (try clear hb2); (try clear hk); (try clear hi); obtain ⟨HGz27, hgz27⟩ := HI0.out; have hcz27_0 := YA HGz27; have hcz27_1 := YB HGz27; have hcz27_2 := YC HGz27; have hcz27_3 := YD HGz27; have hfz27_0 := Y3 HGz27 0; have hfz27_1 := Y3 HGz27 1; have hfz27_2 := Y3 HGz27 2; have hfz27_3 := Y3 HGz27 3; clear HGz27 hgz27) | (go_at_call 54; (with_reducible refine (Yb.calls g t102 t103 t104 t105 t103 2 t106 t107 t108 t111 t114 t115 t116 t117 w0 _ ?side1 ?side2 A25.out).mono ?_); (case side1 => exact Z13); (case side2 => exact QB); rintro e w28 ⟨v109, v112, rfl, ho0, ho1, hi, hb, hk⟩; have n_ := Y3A (Kd.R_lower (Kd.R_mono (ok' := fun k_ => True) ho0 (fun _ hk_ => trivial)) (Ya (w := w) (g := g) (row := none) QK)) (Kd.N_lower (Kd.N_mono (ok' := fun k_ => some k_ ≠ (v109 : Value).ownBlock ∧ k_ ≠ g) ho1 (fun k_ hk_ => ⟨hk_.2, (Ye.fresh QI75_0 k_ hk_.1)⟩)) (Ya (w := w) (g := g) (row := none) QK)) (Y4.trans QK hk (.inl rfl)) (hb) (hi); clear HK HB HI0; obtain ⟨HO110, HO113, HK, HB, HI0⟩ := n_; (try clear hb); (try clear hb2); (try clear hk); (try clear hi); (try clear ho0); (try clear ho1))); try go_wp2_with (first | (go_at_call 53; (with_reducible refine (Yc.calls k g s0_0 s0_1 s0_2 s0_3 t101 t102 t103 t104 t105 w0 _ ?side1 ?side2 A2.out).mono ?_); (case side1 => exact Z13); (case side2 => exact QB); rintro e w26 ⟨rfl, hi, hb, hk⟩; have n_ := Y1X (Y4.trans QK hk (.inl rfl)) (hb) (hi); clear HK HB HI0; obtain ⟨HK, HB, HI0⟩ := n_; (try clear hb); (try clear hb2); (try clear hk); (try clear hi); obtain ⟨HGz27, hgz27⟩ := HI0.out; have hcz27_0 := YA HGz27; have hcz27_1 := YB HGz27; have hcz27_2 := YC HGz27; have hcz27_3 := YD HGz27; have hfz27_0 := Y3 HGz27 0; have hfz27_1 := Y3 HGz27 1; have hfz27_2 := Y3 HGz27 2; have hfz27_3 := Y3 HGz27 3; clear HGz27 hgz27) | (go_at_call 54; (with_reducible refine (Yb.calls g t102 t103 t104 t105 t103 2 t106 t107 t108 t111 t114 t115 t116 t117 w0 _ ?side1 ?side2 A25.out).mono ?_); (case side1 => exact Z13); (case side2 => exact QB); rintro e w28 ⟨v109, v112, rfl, ho0, ho1, hi, hb, hk⟩; have n_ := Y3A (Kd.R_lower (Kd.R_mono (ok' := fun k_ => True) ho0 (fun _ hk_ => trivial)) (Ya (w := w) (g := g) (row := none) QK)) (Kd.N_lower (Kd.N_mono (ok' := fun k_ => some k_ ≠ (v109 : Value).ownBlock ∧ k_ ≠ g) ho1 (fun k_ hk_ => ⟨hk_.2, (Ye.fresh QI75_0 k_ hk_.1)⟩)) (Ya (w := w) (g := g) (row := none) QK)) (Y4.trans QK hk (.inl rfl)) (hb) (hi); clear HK HB HI0; obtain ⟨HO110, HO113, HK, HB, HI0⟩ := n_; (try clear hb); (try clear hb2); (try clear hk); (try clear hi); (try clear ho0); (try clear ho1))))
  go_ret
  exact Z1C
def YJ.f (k : Nat) (s0_0 : ByteArray) (s0_1 : Int) (s0_2 : Int) (s0_3 : Int) (a1 : Int) : Option (Bool × ByteArray × Int × Int × Int) := (Yc.f k s0_0 s0_1 s0_2 s0_3).bind fun bt101 => (if bt101.1 = a1 then (some (true, bt101.2.1, wrap64 (bt101.2.2.1 + 1), bt101.2.2.2.1, bt101.2.2.2.2)) else (some (false, bt101.2.1, bt101.2.2.1, bt101.2.2.2.1, bt101.2.2.2.2)))
set_option maxHeartbeats 8000000 in
set_option maxRecDepth 100000 in
theorem YJ.calls (k : Nat) (g : Nat) (s0_0 : ByteArray) (s0_1 : Int) (s0_2 : Int) (s0_3 : Int) (a1 : Int) (r1 : Bool) (r2 : ByteArray) (r3 : Int) (r4 : Int) (r5 : Int) (w0 w : World) (hI : Ye w0 w g s0_0 s0_1 s0_2 s0_3) (hB : Below w0.heap.size w0 w) (h : YJ.f k s0_0 s0_1 s0_2 s0_3 a1 = some (r1, r2, r3, r4, r5)) :
  Calls Tryd.prog 95 #[.pointer (some ⟨g, 0, none⟩), .int .u8 a1] w fun e w' => e = .returned (.bool r1) ∧ Ye w0 w' g r2 r3 r4 r5 ∧ Below w0.heap.size w0 w' ∧ Y4 w w' g none := by
 have HI0 := Y0.mk hI
 have HK := Y0.mk (Y4.refl w g none)
 have HL := Y0.mk hB.size
 clear hI
 have HW0 := Y0.mk hB.size
 have HB := Y0.mk hB
 clear hB
 have H : ((Yc.f k s0_0 s0_1 s0_2 s0_3).bind fun bt101 => (if bt101.1 = a1 then (some (true, bt101.2.1, wrap64 (bt101.2.2.1 + 1), bt101.2.2.2.1, bt101.2.2.2.2)) else (some (false, bt101.2.1, bt101.2.2.1, bt101.2.2.2.1, bt101.2.2.2.2)))) = some (r1, r2, r3, r4, r5) := h
 clear h
 replace H := Option.bind_eq_some_iff.mp H
 obtain ⟨⟨t101, t102, t103, t104, t105⟩, A30, H⟩ := H
 replace H : (if t101 = a1 then (some (true, t102, wrap64 (t103 + 1), t104, t105)) else (some (false, t102, t103, t104, t105))) = some (r1, r2, r3, r4, r5) := H
 have A3 := Y0.mk A30
 clear A30
 by_cases c4 : t101 = a1
 ·rw [if_pos c4] at H
  have c4b0 : (t101 == a1) = true := beq_iff_eq.mpr c4
  have c4b1 : (t101 != a1) = false := bne_eq_false_iff_eq.mpr c4
  clear c4
  simp only [Option.some.injEq, Prod.mk.injEq] at H
  obtain ⟨rfl, rfl, rfl, rfl, rfl⟩ := H
  go_enter Tryd.func95, Tryd.ntmps95
  go_wp2_with (first | ((with_reducible refine Yg (f := 53) rfl ?_); refine YG (some 6) rfl rfl Tryd.func53 Z4 rfl #[.pointer (some ⟨g, 0, none⟩)] rfl Z0 ?_; (with_reducible refine (Yc.calls k g s0_0 s0_1 s0_2 s0_3 t101 t102 t103 t104 t105 w0 _ ?side1 ?side2 A3.out).mono ?_); (case side1 => exact Z13); (case side2 => exact QB); rintro e w5 ⟨rfl, hi, hb, hk⟩; refine ⟨_, rfl, ?_⟩; have n_ := Y1X (Y4.trans QK hk (.inl rfl)) (hb) (hi); clear HK HB HI0; obtain ⟨HK, HB, HI0⟩ := n_; (try clear hb); (try clear hb2); (try clear hk); (try clear hi); obtain ⟨HGz6, hgz6⟩ := HI0.out; have hcz6_0 := YA HGz6; have hcz6_1 := YB HGz6; have hcz6_2 := YC HGz6; have hcz6_3 := YD HGz6; have hfz6_0 := Y3 HGz6 0; have hfz6_1 := Y3 HGz6 1; have hfz6_2 := Y3 HGz6 2; have hfz6_3 := Y3 HGz6 3; clear HGz6 hgz6))
  go_ret
  exact Z1C
 ·rw [if_neg c4] at H
  have c4b0 : (t101 == a1) = false := beq_eq_false_iff_ne.mpr c4
  have c4b1 : (t101 != a1) = true := bne_iff_ne.mpr c4
  simp only [Option.some.injEq, Prod.mk.injEq] at H
  obtain ⟨rfl, rfl, rfl, rfl, rfl⟩ := H
  go_enter Tryd.func95, Tryd.ntmps95
  go_wp2_with (first | ((with_reducible refine Yg (f := 53) rfl ?_); refine YG (some 6) rfl rfl Tryd.func53 Z4 rfl #[.pointer (some ⟨g, 0, none⟩)] rfl Z0 ?_; (with_reducible refine (Yc.calls k g s0_0 s0_1 s0_2 s0_3 t101 t102 t103 t104 t105 w0 _ ?side1 ?side2 A3.out).mono ?_); (case side1 => exact Z13); (case side2 => exact QB); rintro e w7 ⟨rfl, hi, hb, hk⟩; refine ⟨_, rfl, ?_⟩; have n_ := Y1X (Y4.trans QK hk (.inl rfl)) (hb) (hi); clear HK HB HI0; obtain ⟨HK, HB, HI0⟩ := n_; (try clear hb); (try clear hb2); (try clear hk); (try clear hi)))
  go_ret
  exact Z1C
def YK.f (k : Nat) (s0_0 : ByteArray) (s0_1 : Int) (s0_2 : Int) (s0_3 : Int) (a1 : Int) : Option (ByteArray × Int × Int × Int) := (YJ.f k s0_0 s0_1 s0_2 s0_3 a1).bind fun bt101 => (if bt101.1 = true then (some (bt101.2.1, bt101.2.2.1, bt101.2.2.2.1, bt101.2.2.2.2)) else ((Yb.f bt101.2.1 bt101.2.2.1 bt101.2.2.2.1 bt101.2.2.2.2 bt101.2.2.1 2).bind fun bt106 => (some (bt106.2.2.2.2.1, bt106.2.2.2.2.2.1, bt106.2.2.2.2.2.2.1, bt106.2.2.2.2.2.2.2))))
set_option maxHeartbeats 8000000 in
set_option maxRecDepth 100000 in
theorem YK.calls (k : Nat) (g : Nat) (s0_0 : ByteArray) (s0_1 : Int) (s0_2 : Int) (s0_3 : Int) (a1 : Int) (r1 : ByteArray) (r2 : Int) (r3 : Int) (r4 : Int) (w0 w : World) (hI : Ye w0 w g s0_0 s0_1 s0_2 s0_3) (hB : Below w0.heap.size w0 w) (h : YK.f k s0_0 s0_1 s0_2 s0_3 a1 = some (r1, r2, r3, r4)) :
  Calls Tryd.prog 142 #[.pointer (some ⟨g, 0, none⟩), .int .u8 a1] w fun e w' => e = .returned (.tuple #[]) ∧ Ye w0 w' g r1 r2 r3 r4 ∧ Below w0.heap.size w0 w' ∧ Y4 w w' g none := by
 have HI0 := Y0.mk hI
 have HK := Y0.mk (Y4.refl w g none)
 have HL := Y0.mk hB.size
 clear hI
 have HW0 := Y0.mk hB.size
 have HB := Y0.mk hB
 clear hB
 have H : ((YJ.f k s0_0 s0_1 s0_2 s0_3 a1).bind fun bt101 => (if bt101.1 = true then (some (bt101.2.1, bt101.2.2.1, bt101.2.2.2.1, bt101.2.2.2.2)) else ((Yb.f bt101.2.1 bt101.2.2.1 bt101.2.2.2.1 bt101.2.2.2.2 bt101.2.2.1 2).bind fun bt106 => (some (bt106.2.2.2.2.1, bt106.2.2.2.2.2.1, bt106.2.2.2.2.2.2.1, bt106.2.2.2.2.2.2.2))))) = some (r1, r2, r3, r4) := h
 clear h
 replace H := Option.bind_eq_some_iff.mp H
 obtain ⟨⟨t101, t102, t103, t104, t105⟩, A30, H⟩ := H
 replace H : (if t101 = true then (some (t102, t103, t104, t105)) else ((Yb.f t102 t103 t104 t105 t103 2).bind fun bt106 => (some (bt106.2.2.2.2.1, bt106.2.2.2.2.2.1, bt106.2.2.2.2.2.2.1, bt106.2.2.2.2.2.2.2)))) = some (r1, r2, r3, r4) := H
 have A3 := Y0.mk A30
 clear A30
 by_cases c4 : t101 = true
 ·subst c4
  have H1 : (some (t102, t103, t104, t105)) = some (r1, r2, r3, r4) := by rw [if_pos rfl] at H; exact H
  clear H
  have H := H1
  clear H1
  simp only [Option.some.injEq, Prod.mk.injEq] at H
  obtain ⟨rfl, rfl, rfl, rfl⟩ := H
  go_enter Tryd.func142, Tryd.ntmps142
  go_wp2_with (first | ((with_reducible refine Yg (f := 95) rfl ?_); refine YG (some 6) rfl rfl Tryd.func95 Z4 rfl #[.pointer (some ⟨g, 0, none⟩), .int .u8 a1] rfl Z0 ?_; (with_reducible refine (YJ.calls k g s0_0 s0_1 s0_2 s0_3 a1 true t102 t103 t104 t105 w0 _ ?side1 ?side2 A3.out).mono ?_); (case side1 => exact Z13); (case side2 => exact QB); rintro e w5 ⟨rfl, hi, hb, hk⟩; refine ⟨_, rfl, ?_⟩; have n_ := Y1X (Y4.trans QK hk (.inl rfl)) (hb) (hi); clear HK HB HI0; obtain ⟨HK, HB, HI0⟩ := n_; (try clear hb); (try clear hb2); (try clear hk); (try clear hi)))
  first | go_end0 | ((try simp only [Exit.inBlock, Exit.then]); refine bodyPost_ret (results_none rfl _ _ _) rfl ?_)
  exact Z1C
 ·replace c4 := Bool.eq_false_iff.mpr c4
  subst c4
  have H1 : ((Yb.f t102 t103 t104 t105 t103 2).bind fun bt106 => (some (bt106.2.2.2.2.1, bt106.2.2.2.2.2.1, bt106.2.2.2.2.2.2.1, bt106.2.2.2.2.2.2.2))) = some (r1, r2, r3, r4) := by rw [if_neg (show ¬ (false = true) by decide)] at H; exact H
  clear H
  have H := H1
  clear H1
  replace H := Option.bind_eq_some_iff.mp H
  obtain ⟨⟨t106, t107, t108, t111, t114, t115, t116, t117⟩, A60, H⟩ := H
  replace H : (some (t114, t115, t116, t117)) = some (r1, r2, r3, r4) := H
  have A6 := Y0.mk A60
  clear A60
  simp only [Option.some.injEq, Prod.mk.injEq] at H
  obtain ⟨rfl, rfl, rfl, rfl⟩ := H
  go_enter Tryd.func142, Tryd.ntmps142
  go_wp2_with (first | ((with_reducible refine Yg (f := 95) rfl ?_); refine YG (some 6) rfl rfl Tryd.func95 Z4 rfl #[.pointer (some ⟨g, 0, none⟩), .int .u8 a1] rfl Z0 ?_; (with_reducible refine (YJ.calls k g s0_0 s0_1 s0_2 s0_3 a1 false t102 t103 t104 t105 w0 _ ?side1 ?side2 A3.out).mono ?_); (case side1 => exact Z13); (case side2 => exact QB); rintro e w7 ⟨rfl, hi, hb, hk⟩; refine ⟨_, rfl, ?_⟩; have n_ := Y1X (Y4.trans QK hk (.inl rfl)) (hb) (hi); clear HK HB HI0; obtain ⟨HK, HB, HI0⟩ := n_; (try clear hb); (try clear hb2); (try clear hk); (try clear hi); obtain ⟨HGz8, hgz8⟩ := HI0.out; have hcz8_0 := YA HGz8; have hcz8_1 := YB HGz8; have hcz8_2 := YC HGz8; have hcz8_3 := YD HGz8; have hfz8_0 := Y3 HGz8 0; have hfz8_1 := Y3 HGz8 1; have hfz8_2 := Y3 HGz8 2; have hfz8_3 := Y3 HGz8 3; clear HGz8 hgz8) | ((with_reducible refine Yg (f := 54) rfl ?_); refine YG (some 13) rfl rfl Tryd.func54 Z4 rfl #[.pointer (some ⟨g, 0, none⟩), .int .i64 t103, .int .i64 2] rfl Z0 ?_; (with_reducible refine (Yb.calls g t102 t103 t104 t105 t103 2 t106 t107 t108 t111 t114 t115 t116 t117 w0 _ ?side1 ?side2 A6.out).mono ?_); (case side1 => exact Z13); (case side2 => exact QB); rintro e w9 ⟨v109, v112, rfl, ho0, ho1, hi, hb, hk⟩; refine ⟨_, rfl, ?_⟩; have n_ := Y3A (Kd.R_lower (Kd.R_mono (ok' := fun k_ => True) ho0 (fun _ hk_ => trivial)) (Ya (w := w) (g := g) (row := none) QK)) (Kd.N_lower (Kd.N_mono (ok' := fun k_ => some k_ ≠ (v109 : Value).ownBlock ∧ k_ ≠ g) ho1 (fun k_ hk_ => ⟨hk_.2, (Ye.fresh QI75_0 k_ hk_.1)⟩)) (Ya (w := w) (g := g) (row := none) QK)) (Y4.trans QK hk (.inl rfl)) (hb) (hi); clear HK HB HI0; obtain ⟨HO110, HO113, HK, HB, HI0⟩ := n_; (try clear hb); (try clear hb2); (try clear hk); (try clear hi); (try clear ho0); (try clear ho1)))
  first | go_end0 | ((try simp only [Exit.inBlock, Exit.then]); refine bodyPost_ret (results_none rfl _ _ _) rfl ?_)
  exact Z1C
mutual
def Yf.j0 : Nat → Bool → ByteArray → Int → Int → Int → Int → Option (Int × ByteArray × List ByteArray × (List (S37)) × ByteArray × Int × Int × Int)
 | 0, _, _, _, _, _, _ => none
 | k + 1, x26, x1000, x1001, x1002, x1003, x103000 => if x26 = true then ((YF.f k x1000 x1001 x1002 x1003).bind fun bt103 => (some (x103000, (⟨#[]⟩ : ByteArray), (([bt103.1] : List ByteArray)), ([] : List (S37)), bt103.2.1, bt103.2.2.1, bt103.2.2.2.1, bt103.2.2.2.2))) else ((YF.f k x1000 (wrap64 (x1001 + 1)) x1002 x1003).bind fun bt111 => (Yf.l0 k bt111.2.1 bt111.2.2.1 bt111.2.2.2.1 bt111.2.2.2.2 x103000 (([bt111.1] : List ByteArray))))
def Yf.l0 : Nat → ByteArray → Int → Int → Int → Int → List ByteArray → Option (Int × ByteArray × List ByteArray × (List (S37)) × ByteArray × Int × Int × Int)
 | 0, _, _, _, _, _, _ => none
 | k + 1, x1000, x1001, x1002, x1003, x103000, x103002 => (YJ.f k x1000 x1001 x1002 x1003 124).bind fun bt119 => (if bt119.1 = true then ((YF.f k bt119.2.1 bt119.2.2.1 bt119.2.2.2.1 bt119.2.2.2.2).bind fun bt124 => (if x103002.length < 8796093022208 then (Yf.l0 k bt124.2.1 bt124.2.2.1 bt124.2.2.2.1 bt124.2.2.2.2 x103000 (x103002 ++ [bt124.1])) else (none))) else ((YK.f k bt119.2.1 bt119.2.2.1 bt119.2.2.2.1 bt119.2.2.2.2 41).bind fun bt132 => (some (x103000, (⟨#[]⟩ : ByteArray), x103002, ([] : List (S37)), bt132.1, bt132.2.1, bt132.2.2.1, bt132.2.2.2))))
end
def Yf.f (k : Nat) (s0_0 : ByteArray) (s0_1 : Int) (s0_2 : Int) (s0_3 : Int) : Option (Int × ByteArray × List ByteArray × (List (S37)) × ByteArray × Int × Int × Int) := if s0_1 ≥ (s0_0.size : Int) then (Yf.j0 k true s0_0 s0_1 s0_2 s0_3 8) else (if 0 ≤ s0_1 then (if s0_1 < (s0_0.size : Int) then (Yf.j0 k ((bt s0_0 s0_1) != 40) s0_0 s0_1 s0_2 s0_3 8) else (none)) else (none))
def Yf.T2 : Bool × List (List Nat × List Nat) := (true, [([], []), ([0], [0]), ([1], [1]), ([2], [2]), ([], []), ([4], [4]), ([5], [5]), ([6], [6]), ([7], [7]), ([3, 8], [3, 8]), ([9], [9]), ([10], [10]), ([11, 10], [10, 11]), ([12, 10], [10, 12]), ([13, 10], [10, 13]), ([10], [10]), ([15, 10], [10, 15]), ([16, 10], [10, 16]), ([17, 10], [10, 17]), ([14, 18, 10], [10, 14, 18]), ([19, 10], [10, 19]), ([10, 20], [10, 20])])
def Yf.B2 : List Nat := [0, 1, 3, 7, 0, 16, 48, 112, 240, 511, 1023, 2047, 4095, 8191, 16383, 2047, 34815, 100351, 231423, 524287, 1048575, 2097151]
theorem Yf.tab2 : Y2u .any (Y3L Tryd.f141 2) = Yf.T2 := by kernel_rfl
theorem Yf.bits2 : Y1P Yf.T2.2 Yf.B2 = true := by kernel_rfl
def Yf.T8 : Bool × List (List Nat × List Nat) := (true, [([], []), ([0], [0]), ([], []), ([2], [2]), ([3], [3]), ([1, 4, 3], [1, 4]), ([0, 1, 2, 3, 4, 5], []), ([6, 5, 5, 0, 1, 2, 3, 4, 5], [5, 6])])
def Yf.B8 : List Nat := [0, 1, 0, 4, 12, 31, 63, 127]
theorem Yf.tab8 : Y2u .any (Y3L Tryd.f141 8) = Yf.T8 := by kernel_rfl
theorem Yf.bits8 : Y1P Yf.T8.2 Yf.B8 = true := by kernel_rfl
set_option maxHeartbeats 8000000 in
set_option maxRecDepth 100000 in
theorem Yf.calls (k : Nat) (g : Nat) (s0_0 : ByteArray) (s0_1 : Int) (s0_2 : Int) (s0_3 : Int) (r1 : Int) (r2 : ByteArray) (r3 : List ByteArray) (r4 : List (S37)) (r5 : ByteArray) (r6 : Int) (r7 : Int) (r8 : Int) (w0 w : World) (hI : Ye w0 w g s0_0 s0_1 s0_2 s0_3) (hB : Below w0.heap.size w0 w) (hT : Tabs w0) (h : Yf.f k s0_0 s0_1 s0_2 s0_3 = some (r1, r2, r3, r4, r5, r6, r7, r8)) :
  Calls Tryd.prog 141 #[.pointer (some ⟨g, 0, none⟩)] w fun e w' => ∃ v2_ v3_ : Value, e = .returned (.agg #[.int .i64 r1, .string r2, v2_, v3_]) ∧ Kd.R Kd.string 9 w' w.heap.size (fun _ => True) v2_ r3 ∧ Kd.R k37 37 w' w.heap.size (fun k_ => some k_ ≠ (v2_ : Value).ownBlock) v3_ r4 ∧ Ye w0 w' g r5 r6 r7 r8 ∧ Below w0.heap.size w0 w' ∧ Y4 w w' g none := by
 have HT := Y0.mk hT
 clear hT
 have hu37 := Tryd.underlying37
 have HI0 := Y0.mk hI
 have HK := Y0.mk (Y4.refl w g none)
 have HL := Y0.mk hB.size
 clear hI
 have HW0 := Y0.mk hB.size
 have HB := Y0.mk hB
 clear hB
 have H : (if s0_1 ≥ (s0_0.size : Int) then (Yf.j0 k true s0_0 s0_1 s0_2 s0_3 8) else (if 0 ≤ s0_1 then (if s0_1 < (s0_0.size : Int) then (Yf.j0 k ((bt s0_0 s0_1) != 40) s0_0 s0_1 s0_2 s0_3 8) else (none)) else (none))) = some (r1, r2, r3, r4, r5, r6, r7, r8) := h
 clear h
 have HC2 := Y0.mk H
 clear H
 go_enter Tryd.func141, Tryd.ntmps141
 go_upto_region 2 with (first | ((with_reducible refine Ym (N := 2) rfl ?_); refine Yl ?hg (N := 2) ?hd (cs := #[.int .i64 0, .string (⟨#[]⟩ : ByteArray), .slice none 0 0, .slice none 0 0]) (t := 37) ?hr ?_; (case hd => rfl); (case hg => rfl); (case hr => exact Z6); intro gb101 hg w3 hbox hb; have n_ := Y3q (Ye.below QI75_0 hb) (Y4.trans QK (Y4.of_below hb g none) (.inl rfl)) (Y5 QB hb) (hbox) ((by rw [hg]; exact (Ya (w := w) (g := g) (row := none) QK) : w.heap.size ≤ gb101)) ((Nat.le_trans HW0.out (by rw [hg]; exact (Ya (w := w) (g := g) (row := none) QK) : w.heap.size ≤ gb101) : w0.heap.size ≤ gb101)) ((by rw [hg]; exact Nat.ne_of_lt (Ye.lt (show Ye w0 _ g s0_0 s0_1 s0_2 s0_3 from QI75_0)) : g ≠ gb101)) ((by rw [hg]; exact Nat.ne_of_gt (Ye.lt (show Ye w0 _ g s0_0 s0_1 s0_2 s0_3 from QI75_0)) : gb101 ≠ g)); clear HI0 HK HB; obtain ⟨HI0, HK, HB, BK101, GW101, GE101, NB0_101, NB101_0⟩ := n_; clear hb hbox hg) | ((with_reducible refine Ym (N := 3) rfl ?_); refine Yl ?hg (N := 3) ?hd (cs := #[.int .i64 0, .string (⟨#[]⟩ : ByteArray), .slice none 0 0, .slice none 0 0]) (t := 37) ?hr ?_; (case hd => rfl); (case hg => rfl); (case hr => exact Z6); intro gb102 hg w4 hbox hb; have n0_ := Y0.mk (Ye.below QI75_0 hb); have n1_ := Y0.mk (Yh (g := gb101) (o := .cells #[.int .i64 0, .string (⟨#[]⟩ : ByteArray), .slice none 0 0, .slice none 0 0] 37 (0, 0)) QQ hb); have n2_ := Y0.mk (Y4.trans QK (Y4.of_below hb g none) (.inl rfl)); have n3_ := Y0.mk (Y5 QB hb); have n4_ := Y0.mk (hbox); have n5_ := Y0.mk ((by rw [hg]; exact (Ya (w := w) (g := g) (row := none) QK) : w.heap.size ≤ gb102)); have n6_ := Y0.mk ((Nat.le_trans HW0.out (by rw [hg]; exact (Ya (w := w) (g := g) (row := none) QK) : w.heap.size ≤ gb102) : w0.heap.size ≤ gb102)); have n7_ := Y0.mk ((by rw [hg]; exact Nat.ne_of_lt (YO (g := gb101) (o := .cells #[.int .i64 0, .string (⟨#[]⟩ : ByteArray), .slice none 0 0, .slice none 0 0] 37 (0, 0)) QQ) : gb101 ≠ gb102)); have n8_ := Y0.mk ((by rw [hg]; exact Nat.ne_of_gt (YO (g := gb101) (o := .cells #[.int .i64 0, .string (⟨#[]⟩ : ByteArray), .slice none 0 0, .slice none 0 0] 37 (0, 0)) QQ) : gb102 ≠ gb101)); have n9_ := Y0.mk ((by rw [hg]; exact Nat.ne_of_lt (Ye.lt (show Ye w0 _ g s0_0 s0_1 s0_2 s0_3 from QI75_0)) : g ≠ gb102)); have n10_ := Y0.mk ((by rw [hg]; exact Nat.ne_of_gt (Ye.lt (show Ye w0 _ g s0_0 s0_1 s0_2 s0_3 from QI75_0)) : gb102 ≠ g)); clear HI0 BK101 HK HB; have HI0 := n0_; have BK101 := n1_; have HK := n2_; have HB := n3_; have BK102 := n4_; have GW102 := n5_; have GE102 := n6_; have NB101_102 := n7_; have NB102_101 := n8_; have NB0_102 := n9_; have NB102_0 := n10_; clear n0_ n1_ n2_ n3_ n4_ n5_ n6_ n7_ n8_ n9_ n10_ hb hbox hg; have hnb5 := NB102_101.out; have hnc5 := NB101_102.out; have hnb6 := NB102_0.out; have hnc6 := NB0_102.out; obtain ⟨hcz7_0, hcz7_1, hcz7_2, hcz7_3, hfz7_0, hfz7_1, hfz7_2, hfz7_3⟩ := Yt BK102.out))
 (try simp only [Act.put, List.setIfInBounds_toArray, List.set_cons_zero, List.set_cons_succ])
 go_cut [26] (fun v26 wc => ∃ (kq : Nat) (x26_1 : Bool), v26 = .bool x26_1 ∧ Y0 (Yf.j0 kq x26_1 s0_0 s0_1 s0_2 s0_3 8 = some (r1, r2, r3, r4, r5, r6, r7, r8)) ∧ Y0 (kq ≤ k) ∧ Y0 (wc.heap[gb101]? = some (.cells #[.int .i64 0, .string (⟨#[]⟩ : ByteArray), (.slice none 0 0), (.slice none 0 0)] 37 (0, 0))) ∧ Y0 (wc.heap[gb102]? = some (.cells #[.int .i64 8, .string (⟨#[]⟩ : ByteArray), (.slice none 0 0), (.slice none 0 0)] 37 (0, 0))) ∧ Y0 (Ye w0 wc g s0_0 s0_1 s0_2 s0_3) ∧ Y0 (Y4 w wc g none) ∧ Y0 (Below w0.heap.size w0 wc))
 case first =>
  have H := HC2.out
  clear HC2
  by_cases c8 : s0_1 ≥ (s0_0.size : Int)
  ·rw [if_pos c8] at H
   have c8b0 : decide ((s0_0.size : Int) ≤ s0_1) = true := decide_eq_true c8
   clear c8
   (first | rw [c8b0] | (simp only [Y11, Y18]; rw [c8b0]) | skip)
   have H' := Y0.mk H
   clear H
   try go_wp2
   have n0_ : Y0 (((((w4.setCell ⟨gb102, 0, none⟩ (.int .i64 8)).setCell ⟨gb102, 1, none⟩ (.string (⟨#[]⟩ : ByteArray))).setCell ⟨gb102, 2, none⟩ (.slice none 0 0)).setCell ⟨gb102, 3, none⟩ (.slice none 0 0)).heap[gb101]? = some (.cells #[.int .i64 0, .string (⟨#[]⟩ : ByteArray), .slice none 0 0, .slice none 0 0] 37 (0, 0))) := ⟨ZA⟩
   have n1_ : Y0 (((((w4.setCell ⟨gb102, 0, none⟩ (.int .i64 8)).setCell ⟨gb102, 1, none⟩ (.string (⟨#[]⟩ : ByteArray))).setCell ⟨gb102, 2, none⟩ (.slice none 0 0)).setCell ⟨gb102, 3, none⟩ (.slice none 0 0)).heap[gb102]? = some (.cells #[.int .i64 8, .string (⟨#[]⟩ : ByteArray), .slice none 0 0, .slice none 0 0] 37 (0, 0))) := ⟨Z1F⟩
   have n2_ : Y0 (Ye w0 ((((w4.setCell ⟨gb102, 0, none⟩ (.int .i64 8)).setCell ⟨gb102, 1, none⟩ (.string (⟨#[]⟩ : ByteArray))).setCell ⟨gb102, 2, none⟩ (.slice none 0 0)).setCell ⟨gb102, 3, none⟩ (.slice none 0 0)) g s0_0 s0_1 s0_2 s0_3) := ⟨QI75_0⟩
   have n3_ : Y0 (Y4 w ((((w4.setCell ⟨gb102, 0, none⟩ (.int .i64 8)).setCell ⟨gb102, 1, none⟩ (.string (⟨#[]⟩ : ByteArray))).setCell ⟨gb102, 2, none⟩ (.slice none 0 0)).setCell ⟨gb102, 3, none⟩ (.slice none 0 0)) g none) := ⟨QK⟩
   have n4_ : Y0 (Below w0.heap.size w0 ((((w4.setCell ⟨gb102, 0, none⟩ (.int .i64 8)).setCell ⟨gb102, 1, none⟩ (.string (⟨#[]⟩ : ByteArray))).setCell ⟨gb102, 2, none⟩ (.slice none 0 0)).setCell ⟨gb102, 3, none⟩ (.slice none 0 0))) := ⟨QB⟩
   (try clear BK101)
   (try clear BK102)
   (try clear HI0)
   (try clear HK)
   (try clear HB)
   generalize ((((w4.setCell ⟨gb102, 0, none⟩ (.int .i64 8)).setCell ⟨gb102, 1, none⟩ (.string (⟨#[]⟩ : ByteArray))).setCell ⟨gb102, 2, none⟩ (.slice none 0 0)).setCell ⟨gb102, 3, none⟩ (.slice none 0 0)) = w9 at n0_ n1_ n2_ n3_ n4_ ⊢
   have BK101 := n0_
   have BK102 := n1_
   have HI0 := n2_
   have HK := n3_
   have HB := n4_
   clear n0_ n1_ n2_ n3_ n4_
   have n_ := Y3A (Y8 BK101.out) (Y8 BK102.out) (Ye.drew HI0.out) (Y1U HK.out) (YI HB.out)
   clear BK101
   clear BK102
   clear HI0
   clear HK
   clear HB
   obtain ⟨BK101, BK102, HI0, HK, HB⟩ := n_
   refine Y1v (n := 22) (S := fun w' => w'.cell? ⟨g, 0, none⟩ = some (.string s0_0) ∧ w'.cell? ⟨g, 1, none⟩ = some (.int .i64 s0_1) ∧ w'.cell? ⟨g, 2, none⟩ = some (.int .i64 s0_2) ∧ w'.cell? ⟨g, 3, none⟩ = some (.int .i64 s0_3)) (ds := []) bz22_0 Z4 rfl rfl ⟨YA HI0.out.1, YB HI0.out.1, YC HI0.out.1, YD HI0.out.1⟩ (fun hHeld => ?_); refine YT Yf.tab2 Yf.bits2 (fun HT_ HW_ => ?_)
   generalize w9.drew = w10 at BK101 BK102 HI0 HK HB hHeld ⊢
   refine pY 0 5 bz22_1 ?_
   refine pY 1 6 bz22_3 ?_
   refine pY 2 7 bz22_7 ?_
   refine pY 4 9 bz22_17 ?_
   refine pY 5 10 bz22_37 ?_
   refine pY 6 11 bz22_77 ?_
   refine pT 3 8 bz22_7f ?_
   refine pT 7 12 bz22_ff ?_
   refine pY 8 13 Y3Z ?_
   refine pY 9 14 Y40 ?_
   refine pY 10 15 Y41 ?_
   refine pU 11 16 Y42 ?_
   refine pU 12 17 Y3g ?_
   refine pU 13 18 Y3h ?_
   refine pU 14 19 bz22_7fff ?_
   refine pU 15 20 bz22_ffff ?_
   refine pU 16 21 Y4b ?_
   refine pU 17 22 Y2Q ?_
   refine pU 18 23 Y2R ?_
   refine pU 19 24 Y2S ?_
   refine pU 20 25 Y2E ?_
   refine pY 21 26 Y2F ?_
   refine Y1Q (Y1n HT_.out Z4) ?_
   try go_wp2
   go_meet
   case rel => exact ⟨_, (true), Zb, H', ⟨Z10⟩, ⟨Zf⟩, ⟨Z1f⟩, ⟨QI75_0⟩, ⟨QK⟩, ⟨QB⟩⟩
  ·rw [if_neg c8] at H
   have c8b0 : decide ((s0_0.size : Int) ≤ s0_1) = false := decide_eq_false c8
   clear c8
   (first | rw [c8b0] | (simp only [Y11, Y18]; rw [c8b0]) | skip)
   by_cases c11 : 0 ≤ s0_1
   ·rw [if_pos c11] at H
    have c11b0 : decide (0 ≤ s0_1) = true := decide_eq_true c11
    clear c11
    by_cases c12 : s0_1 < (s0_0.size : Int)
    ·rw [if_pos c12] at H
     have c12b0 : decide (s0_1 < (s0_0.size : Int)) = true := decide_eq_true c12
     clear c12
     have H' := Y0.mk H
     clear H
     try go_wp2
     have n0_ : Y0 (((((w4.setCell ⟨gb102, 0, none⟩ (.int .i64 8)).setCell ⟨gb102, 1, none⟩ (.string (⟨#[]⟩ : ByteArray))).setCell ⟨gb102, 2, none⟩ (.slice none 0 0)).setCell ⟨gb102, 3, none⟩ (.slice none 0 0)).heap[gb101]? = some (.cells #[.int .i64 0, .string (⟨#[]⟩ : ByteArray), .slice none 0 0, .slice none 0 0] 37 (0, 0))) := ⟨ZA⟩
     have n1_ : Y0 (((((w4.setCell ⟨gb102, 0, none⟩ (.int .i64 8)).setCell ⟨gb102, 1, none⟩ (.string (⟨#[]⟩ : ByteArray))).setCell ⟨gb102, 2, none⟩ (.slice none 0 0)).setCell ⟨gb102, 3, none⟩ (.slice none 0 0)).heap[gb102]? = some (.cells #[.int .i64 8, .string (⟨#[]⟩ : ByteArray), .slice none 0 0, .slice none 0 0] 37 (0, 0))) := ⟨Z1F⟩
     have n2_ : Y0 (Ye w0 ((((w4.setCell ⟨gb102, 0, none⟩ (.int .i64 8)).setCell ⟨gb102, 1, none⟩ (.string (⟨#[]⟩ : ByteArray))).setCell ⟨gb102, 2, none⟩ (.slice none 0 0)).setCell ⟨gb102, 3, none⟩ (.slice none 0 0)) g s0_0 s0_1 s0_2 s0_3) := ⟨QI75_0⟩
     have n3_ : Y0 (Y4 w ((((w4.setCell ⟨gb102, 0, none⟩ (.int .i64 8)).setCell ⟨gb102, 1, none⟩ (.string (⟨#[]⟩ : ByteArray))).setCell ⟨gb102, 2, none⟩ (.slice none 0 0)).setCell ⟨gb102, 3, none⟩ (.slice none 0 0)) g none) := ⟨QK⟩
     have n4_ : Y0 (Below w0.heap.size w0 ((((w4.setCell ⟨gb102, 0, none⟩ (.int .i64 8)).setCell ⟨gb102, 1, none⟩ (.string (⟨#[]⟩ : ByteArray))).setCell ⟨gb102, 2, none⟩ (.slice none 0 0)).setCell ⟨gb102, 3, none⟩ (.slice none 0 0))) := ⟨QB⟩
     (try clear BK101)
     (try clear BK102)
     (try clear HI0)
     (try clear HK)
     (try clear HB)
     generalize ((((w4.setCell ⟨gb102, 0, none⟩ (.int .i64 8)).setCell ⟨gb102, 1, none⟩ (.string (⟨#[]⟩ : ByteArray))).setCell ⟨gb102, 2, none⟩ (.slice none 0 0)).setCell ⟨gb102, 3, none⟩ (.slice none 0 0)) = w14 at n0_ n1_ n2_ n3_ n4_ ⊢
     have BK101 := n0_
     have BK102 := n1_
     have HI0 := n2_
     have HK := n3_
     have HB := n4_
     clear n0_ n1_ n2_ n3_ n4_
     have n_ := Y3A (Y8 BK101.out) (Y8 BK102.out) (Ye.drew HI0.out) (Y1U HK.out) (YI HB.out)
     clear BK101
     clear BK102
     clear HI0
     clear HK
     clear HB
     obtain ⟨BK101, BK102, HI0, HK, HB⟩ := n_
     have p13 : 0 ≤ (s0_1 : Int) := of_decide_eq_true Z5
     have q13 : s0_1 < (s0_0.size : Int) := of_decide_eq_true Z5
     have hx13 := bt_at s0_0 s0_1
     replace p13 := eq_true p13
     replace q13 := eq_true q13
     refine Y1v (n := 22) (S := fun w' => w'.cell? ⟨g, 0, none⟩ = some (.string s0_0) ∧ w'.cell? ⟨g, 1, none⟩ = some (.int .i64 s0_1) ∧ w'.cell? ⟨g, 2, none⟩ = some (.int .i64 s0_2) ∧ w'.cell? ⟨g, 3, none⟩ = some (.int .i64 s0_3)) (ds := []) bz22_0 Z4 rfl rfl ⟨YA HI0.out.1, YB HI0.out.1, YC HI0.out.1, YD HI0.out.1⟩ (fun hHeld => ?_); refine YT Yf.tab2 Yf.bits2 (fun HT_ HW_ => ?_)
     generalize w14.drew = w15 at BK101 BK102 HI0 HK HB hHeld ⊢
     refine pY 0 5 bz22_1 ?_
     refine pY 1 6 bz22_3 ?_
     refine pY 2 7 bz22_7 ?_
     refine pY 4 9 bz22_17 ?_
     refine pY 5 10 bz22_37 ?_
     refine pY 6 11 bz22_77 ?_
     refine pT 3 8 bz22_7f ?_
     refine pT 7 12 bz22_ff ?_
     refine pY 8 13 Y3Z ?_
     refine pY 9 14 Y40 ?_
     refine pY 10 15 Y41 ?_
     refine pY 11 16 Y42 ?_
     refine pY 12 17 Y3g ?_
     refine pY 13 18 Y3h ?_
     refine pY 15 20 bz22_bfff ?_
     refine pY 16 21 Y4a ?_
     refine pY 17 22 Y4c ?_
     refine pT 14 19 Y2Q ?_
     refine pT 18 23 Y2R ?_
     refine pT 19 24 Y2S ?_
     refine pY 20 25 Y2E ?_
     refine pY 21 26 Y2F ?_
     refine Y1Q (Y1n HT_.out Z4) ?_
     try go_wp2
     go_meet
     case rel => exact ⟨_, (((bt s0_0 s0_1) != 40)), Zb, H', ⟨Z10⟩, ⟨Zf⟩, ⟨Z1f⟩, ⟨QI75_0⟩, ⟨QK⟩, ⟨QB⟩⟩
    ·rw [if_neg c12] at H
     exact Zt
   ·rw [if_neg c11] at H
    exact Zt
 case rest =>
  clear HC2
  try clear c1
  try clear p1
  try clear q1
  try clear hx1
  try clear p2
  try clear c5
  try clear c6
  try clear c8
  try clear c8b0
  try clear c11
  try clear c11b0
  try clear c12
  try clear c12b0
  try clear p13
  try clear q13
  try clear hx13
  try clear c14
  try clear hcz7_0 hcz7_1 hcz7_2 hcz7_3 hfz7_0 hfz7_1 hfz7_2 hfz7_3
  try clear p13
  try clear q13
  obtain ⟨kq, x26_1, rfl, HA, HJ1, BK101, BK102, HI0, HK, HB⟩ := hcut
  cases kq with
  | zero => exact absurd HA.out (by simp [Yf.j0])
  | succ kj1 =>
   have H := HA.out
   clear HA
   simp only [Yf.j0] at H
   by_cases c16 : x26_1 = true
   ·subst c16
    have H1 : ((YF.f kj1 s0_0 s0_1 s0_2 s0_3).bind fun bt103 => (some (8, (⟨#[]⟩ : ByteArray), (([bt103.1] : List ByteArray)), ([] : List (S37)), bt103.2.1, bt103.2.2.1, bt103.2.2.2.1, bt103.2.2.2.2))) = some (r1, r2, r3, r4, r5, r6, r7, r8) := by rw [if_pos rfl] at H; exact H
    clear H
    have H := H1
    clear H1
    replace H := Option.bind_eq_some_iff.mp H
    obtain ⟨⟨t103, t104, t105, t106, t107⟩, A170, H⟩ := H
    replace H : (some (8, (⟨#[]⟩ : ByteArray), (([t103] : List ByteArray)), ([] : List (S37)), t104, t105, t106, t107)) = some (r1, r2, r3, r4, r5, r6, r7, r8) := H
    have A17 := Y0.mk A170
    clear A170
    obtain ⟨y108, hy108⟩ : ∃ y_ : List ByteArray, y_ = (([t103] : List ByteArray)) := ⟨_, rfl⟩
    replace H : (some (8, (⟨#[]⟩ : ByteArray), y108, ([] : List (S37)), t104, t105, t106, t107)) = some (r1, r2, r3, r4, r5, r6, r7, r8) := by first | (rw [hy108]; with_reducible exact H) | (have H2_ := (Option.bind_some _ _).symm.trans H; rw [hy108]; with_reducible exact H2_) | (have H2_ := (Option.bind_some _ _).symm.trans H; with_reducible exact H2_) | with_reducible exact H | (rw [hy108]; exact H) | exact H
    have Ny108 := Y0.mk hy108
    clear hy108
    simp only [Option.some.injEq, Prod.mk.injEq] at H
    obtain ⟨rfl, rfl, rfl, rfl, rfl, rfl, rfl, rfl⟩ := H
    go_wp2_with (first | ((with_reducible refine Yg (f := 140) rfl ?_); refine YG (some 28) rfl rfl Tryd.func140 Z4 rfl #[.pointer (some ⟨g, 0, none⟩)] rfl Z0 ?_; (with_reducible refine (YF.calls kj1 g s0_0 s0_1 s0_2 s0_3 t103 t104 t105 t106 t107 w0 _ ?side1 ?side2 ?side3 A17.out).mono ?_); (case side1 => exact Z13); (case side2 => exact QB); (case side3 => exact HT.out); rintro e w18 ⟨rfl, hi, hb, hk⟩; refine ⟨_, rfl, ?_⟩; have n_ := Y3A (Y4.blk hk (g' := gb101) (o := .cells #[.int .i64 0, .string (⟨#[]⟩ : ByteArray), .slice none 0 0, .slice none 0 0] 37 (0, 0)) QQ NB101_0.out (by simp)) (Y4.blk hk (g' := gb102) (o := .cells #[.int .i64 8, .string (⟨#[]⟩ : ByteArray), .slice none 0 0, .slice none 0 0] 37 (0, 0)) QQ NB102_0.out (by simp)) (Y4.trans QK hk (.inl rfl)) (hb) (hi); clear BK101 BK102 HK HB HI0; obtain ⟨BK101, BK102, HK, HB, HI0⟩ := n_; (try clear hb); (try clear hb2); (try clear hk); (try clear hi)) | ((with_reducible refine Ym (N := 29) rfl ?_); refine Kd.R_lit Kd.string _ 9 ?hg (N := 29) ?hd (xs := ([t103] : List ByteArray)) (inner := [.string t103]) (ok := fun _ => True) (okp := fun _ => True) ?hr ?hp (fun _ hk => hk) trivial (Below.refl _ _) (Nat.le_refl _) (by simp) ?_; (case hd => rfl); (case hg => rfl); (case hr => exact Z6); (case hp => exact (Y12.one (show Kd.M Kd.string _ _ _ t103 [.string t103] from rfl) (Y12.none _ _))); intro v109 w19 ho20 hb hg_ hnew_; clear hg_ hnew_; (first | rw [← Ny108.out] at ho20 | (simp only [Int.reduceToNat] at ho20; rw [← Ny108.out] at ho20)); have n_ := Y2W (Kd.R_lower ho20 (Ya (w := w) (g := g) (row := none) QK)) (Yh (g := gb101) (o := .cells #[.int .i64 0, .string (⟨#[]⟩ : ByteArray), .slice none 0 0, .slice none 0 0] 37 (0, 0)) QQ hb) (Yh (g := gb102) (o := .cells #[.int .i64 8, .string (⟨#[]⟩ : ByteArray), .slice none 0 0, .slice none 0 0] 37 (0, 0)) QQ hb) (Ye.below QI75_0 hb) (Y4.trans QK (Y4.of_below hb g none) (.inl rfl)) (Y5 QB hb); clear BK101 BK102 HI0 HK HB; obtain ⟨HO110, BK101, BK102, HI0, HK, HB⟩ := n_; clear hb ho20; obtain ⟨Ao21, co21, eo21⟩ := Kd.R_slice HO110.out; subst eo21; have hnb22 := NB102_101.out; have hnc22 := NB101_102.out; have hnb23 := NB102_0.out; have hnc23 := NB0_102.out; obtain ⟨hcz24_0, hcz24_1, hcz24_2, hcz24_3, hfz24_0, hfz24_1, hfz24_2, hfz24_3⟩ := Yt BK102.out; have hnb25 := NB101_0.out; have hnc25 := NB0_101.out; obtain ⟨hcz26_0, hcz26_1, hcz26_2, hcz26_3, hfz26_0, hfz26_1, hfz26_2, hfz26_3⟩ := Yt BK101.out))
    refine bodyPost_ret (results_cell_row rfl _ _ gb101 37 #[.int .i64 8, .string (⟨#[]⟩ : ByteArray), .slice Ao21 y108.length co21, .slice none 0 0] (0, 0) _ rfl (by (with_reducible repeat (first | refine Y9 ?_ _ | refine Y8 ?_ | refine Y7 ?_ _)); exact Yp (cs := #[.int .i64 8, .string (⟨#[]⟩ : ByteArray), .slice Ao21 y108.length co21, .slice none 0 0]) (by (with_reducible repeat (first | refine Y9 ?_ _ | refine Y8 ?_ | refine Y7 ?_ _)); exact Yp (cs := #[.int .i64 8, .string (⟨#[]⟩ : ByteArray), .slice none 0 0, .slice none 0 0]) (by (with_reducible repeat (first | refine Y9 ?_ _ | refine Y8 ?_ | refine Y7 ?_ _)); exact Yp (cs := #[.int .i64 8, .string (⟨#[]⟩ : ByteArray), .slice none 0 0, .slice none 0 0]) (by (with_reducible repeat (first | refine Y9 ?_ _ | refine Y8 ?_ | refine Y7 ?_ _)); exact Yp (cs := #[.int .i64 0, .string (⟨#[]⟩ : ByteArray), .slice none 0 0, .slice none 0 0]) Z1v 0 _ rfl) 1 _ rfl) 2 _ rfl) 3 _ rfl) Tryd.underlying37 rfl Z4) rfl ?_
    exact ⟨_, _, Z2, by (with_reducible repeat (first | apply Kd.R_alloc | apply Kd.R_drewN | apply Kd.R_drew)); exact Kd.R_mono (Kd.R_far (p := ⟨gb101, 3, none⟩) (Kd.R_far (p := ⟨gb101, 2, none⟩) (Kd.R_far (p := ⟨gb101, 1, none⟩) (Kd.R_far (p := ⟨gb101, 0, none⟩) (Kd.R_far (p := ⟨gb102, 2, none⟩) (Kd.R_types (Kd.R_types HO110.out BK102.out (by decide)) BK101.out (by decide)) (fun _ hk => hk.1.2) (.slice Ao21 y108.length co21)) (fun _ hk => hk.2) (.int .i64 8)) (fun _ hk => hk.2) (.string (⟨#[]⟩ : ByteArray))) (fun _ hk => hk.2) (.slice Ao21 y108.length co21)) (fun _ hk => hk.2) (.slice none 0 0)) (fun _ hk => trivial), Z7, QI75_0, QB, QK⟩
   ·replace c16 := Bool.eq_false_iff.mpr c16
    subst c16
    have H1 : ((YF.f kj1 s0_0 (wrap64 (s0_1 + 1)) s0_2 s0_3).bind fun bt111 => (Yf.l0 kj1 bt111.2.1 bt111.2.2.1 bt111.2.2.2.1 bt111.2.2.2.2 8 (([bt111.1] : List ByteArray)))) = some (r1, r2, r3, r4, r5, r6, r7, r8) := by rw [if_neg (show ¬ (false = true) by decide)] at H; exact H
    clear H
    have H := H1
    clear H1
    replace H := Option.bind_eq_some_iff.mp H
    obtain ⟨⟨t111, t112, t113, t114, t115⟩, A270, H⟩ := H
    replace H : (Yf.l0 kj1 t112 t113 t114 t115 8 (([t111] : List ByteArray))) = some (r1, r2, r3, r4, r5, r6, r7, r8) := H
    have A27 := Y0.mk A270
    clear A270
    obtain ⟨y116, hy116⟩ : ∃ y_ : List ByteArray, y_ = (([t111] : List ByteArray)) := ⟨_, rfl⟩
    replace H : (Yf.l0 kj1 t112 t113 t114 t115 8 y116) = some (r1, r2, r3, r4, r5, r6, r7, r8) := by first | (rw [hy116]; with_reducible exact H) | (have H2_ := (Option.bind_some _ _).symm.trans H; rw [hy116]; with_reducible exact H2_) | (have H2_ := (Option.bind_some _ _).symm.trans H; with_reducible exact H2_) | with_reducible exact H | (rw [hy116]; exact H) | exact H
    have Ny116 := Y0.mk hy116
    clear hy116
    have H' := Y0.mk H
    clear H
    obtain ⟨hcz28_0, hcz28_1, hcz28_2, hcz28_3, hfz28_0, hfz28_1, hfz28_2, hfz28_3⟩ := Yt HI0.out.1
    go_wp2_with (first | ((with_reducible refine Yg (f := 140) rfl ?_); refine YG (some 40) rfl rfl Tryd.func140 Z4 rfl #[.pointer (some ⟨g, 0, none⟩)] rfl Z0 ?_; (with_reducible refine (YF.calls kj1 g s0_0 (wrap64 (s0_1 + 1)) s0_2 s0_3 t111 t112 t113 t114 t115 w0 _ ?side1 ?side2 ?side3 A27.out).mono ?_); (case side1 => exact Z13); (case side2 => exact QB); (case side3 => exact HT.out); rintro e w29 ⟨rfl, hi, hb, hk⟩; refine ⟨_, rfl, ?_⟩; have n_ := Y3A (Y4.blk hk (g' := gb101) (o := .cells #[.int .i64 0, .string (⟨#[]⟩ : ByteArray), .slice none 0 0, .slice none 0 0] 37 (0, 0)) Z1b NB101_0.out (by simp)) (Y4.blk hk (g' := gb102) (o := .cells #[.int .i64 8, .string (⟨#[]⟩ : ByteArray), .slice none 0 0, .slice none 0 0] 37 (0, 0)) (by (with_reducible repeat (first | refine Y9 ?_ _ | refine Y8 ?_ | refine Y7 ?_ _)); exact YL QQ NB102_0.out _) NB102_0.out (by simp)) (Y4.trans QK hk (.inl rfl)) (hb) (hi); clear BK101 BK102 HK HB HI0; obtain ⟨BK101, BK102, HK, HB, HI0⟩ := n_; (try clear hb); (try clear hb2); (try clear hk); (try clear hi)) | ((with_reducible refine Ym (N := 41) rfl ?_); refine Kd.R_lit Kd.string _ 9 ?hg (N := 41) ?hd (xs := ([t111] : List ByteArray)) (inner := [.string t111]) (ok := fun _ => True) (okp := fun _ => True) ?hr ?hp (fun _ hk => hk) trivial (Below.refl _ _) (Nat.le_refl _) (by simp) ?_; (case hd => rfl); (case hg => rfl); (case hr => exact Z6); (case hp => exact (Y12.one (show Kd.M Kd.string _ _ _ t111 [.string t111] from rfl) (Y12.none _ _))); intro v117 w30 ho31 hb hg_ hnew_; clear hg_ hnew_; (first | rw [← Ny116.out] at ho31 | (simp only [Int.reduceToNat] at ho31; rw [← Ny116.out] at ho31)); have n_ := Y2W (Kd.R_lower ho31 (Ya (w := w) (g := g) (row := none) QK)) (Yh (g := gb101) (o := .cells #[.int .i64 0, .string (⟨#[]⟩ : ByteArray), .slice none 0 0, .slice none 0 0] 37 (0, 0)) QQ hb) (Yh (g := gb102) (o := .cells #[.int .i64 8, .string (⟨#[]⟩ : ByteArray), .slice none 0 0, .slice none 0 0] 37 (0, 0)) QQ hb) (Ye.below QI75_0 hb) (Y4.trans QK (Y4.of_below hb g none) (.inl rfl)) (Y5 QB hb); clear BK101 BK102 HI0 HK HB; obtain ⟨HO118, BK101, BK102, HI0, HK, HB⟩ := n_; clear hb ho31; obtain ⟨Ao32, co32, eo32⟩ := Kd.R_slice HO118.out; subst eo32; have hnb33 := NB102_101.out; have hnc33 := NB101_102.out; have hnb34 := NB102_0.out; have hnc34 := NB0_102.out; obtain ⟨hcz35_0, hcz35_1, hcz35_2, hcz35_3, hfz35_0, hfz35_1, hfz35_2, hfz35_3⟩ := Yt BK102.out))
    go_loopg [] kj1 (fun kq w' => ∃ (x1000_2 : ByteArray) (x1001_2 : Int) (x1002_2 : Int) (x1003_2 : Int) (x103002_2 : List ByteArray) (u103002 : Value), Y0 (Yf.l0 kq x1000_2 x1001_2 x1002_2 x1003_2 8 x103002_2 = some (r1, r2, r3, r4, r5, r6, r7, r8)) ∧ Y0 (kq ≤ kj1) ∧ Y0 (Kd.R Kd.string 9 w' w.heap.size (fun _ => True) u103002 x103002_2) ∧ Y0 (w'.heap[gb101]? = some (.cells #[.int .i64 0, .string (⟨#[]⟩ : ByteArray), (.slice none 0 0), (.slice none 0 0)] 37 (0, 0))) ∧ Y0 (w'.heap[gb102]? = some (.cells #[.int .i64 8, .string (⟨#[]⟩ : ByteArray), u103002, (.slice none 0 0)] 37 (0, 0))) ∧ Y0 (Ye w0 w' g x1000_2 x1001_2 x1002_2 x1003_2) ∧ Y0 (Y4 w w' g none) ∧ Y0 (Below w0.heap.size w0 w'))
    case atStart => exact ⟨(t112), (t113), (t114), (t115), (y116), (.slice Ao32 y116.length co32), H', ⟨Nat.le_refl _⟩, ⟨by (with_reducible repeat (first | apply Kd.R_alloc | apply Kd.R_drewN | apply Kd.R_drew)); exact Kd.R_mono (Kd.R_far (p := ⟨gb102, 2, none⟩) (Kd.R_types HO118.out BK102.out (by decide)) (fun _ hk => hk.2) (.slice Ao32 y116.length co32)) (fun _ hk => trivial)⟩, ⟨Z1v⟩, ⟨by (with_reducible repeat (first | refine Y9 ?_ _ | refine Y8 ?_ | refine Y7 ?_ _)); exact Yp (cs := #[.int .i64 8, .string (⟨#[]⟩ : ByteArray), .slice none 0 0, .slice none 0 0]) QQ 2 _ rfl⟩, ⟨QI75_0⟩, ⟨QK⟩, ⟨QB⟩⟩
    case round =>
     clear H'
     try clear c1
     try clear p1
     try clear q1
     try clear hx1
     try clear c2
     try clear p2
     try clear c3
     try clear c5
     try clear c6
     try clear p6
     try clear c8
     try clear c8b0
     try clear c11
     try clear c11b0
     try clear c12
     try clear c12b0
     try clear p13
     try clear q13
     try clear hx13
     try clear c14
     try clear c16
     try clear c22
     try clear c23
     try clear c25
     try clear c33
     try clear c34
     try clear hcz24_0 hcz24_1 hcz24_2 hcz24_3
     try clear hcz26_0 hcz26_1 hcz26_2 hcz26_3
     try clear hcz28_0 hcz28_1 hcz28_2 hcz28_3
     try clear hcz35_0 hcz35_1 hcz35_2 hcz35_3
     try clear hcz7_0 hcz7_1 hcz7_2 hcz7_3
     try clear hfz24_0
     try clear hfz24_1
     try clear hfz24_2
     try clear hfz24_3
     try clear hfz26_0
     try clear hfz26_1
     try clear hfz26_2
     try clear hfz26_3
     try clear hfz28_0
     try clear hfz28_1
     try clear hfz28_2
     try clear hfz28_3
     try clear hfz35_0
     try clear hfz35_1
     try clear hfz35_2
     try clear hfz35_3
     try clear hfz7_0
     try clear hfz7_1
     try clear hfz7_2
     try clear hfz7_3
     try clear p1
     try clear p13
     try clear p2
     try clear q1
     try clear q13
     obtain ⟨x1000_2, x1001_2, x1002_2, x1003_2, x103002_2, u103002, HA, HK2, HO_103002, BK101, BK102, HI0, HK, HB⟩ := hrel
     cases gk with
     | zero => exact absurd HA.out (by simp [Yf.l0])
     | succ k2 =>
      have H := HA.out
      clear HA
      simp only [Yf.l0] at H
      replace H := Option.bind_eq_some_iff.mp H
      obtain ⟨⟨t119, t120, t121, t122, t123⟩, A360, H⟩ := H
      replace H : (if t119 = true then ((YF.f k2 t120 t121 t122 t123).bind fun bt124 => (if x103002_2.length < 8796093022208 then (Yf.l0 k2 bt124.2.1 bt124.2.2.1 bt124.2.2.2.1 bt124.2.2.2.2 8 (x103002_2 ++ [bt124.1])) else (none))) else ((YK.f k2 t120 t121 t122 t123 41).bind fun bt132 => (some (8, (⟨#[]⟩ : ByteArray), x103002_2, ([] : List (S37)), bt132.1, bt132.2.1, bt132.2.2.1, bt132.2.2.2)))) = some (r1, r2, r3, r4, r5, r6, r7, r8) := H
      have A36 := Y0.mk A360
      clear A360
      by_cases c37 : t119 = true
      ·subst c37
       have H1 : ((YF.f k2 t120 t121 t122 t123).bind fun bt124 => (if x103002_2.length < 8796093022208 then (Yf.l0 k2 bt124.2.1 bt124.2.2.1 bt124.2.2.2.1 bt124.2.2.2.2 8 (x103002_2 ++ [bt124.1])) else (none))) = some (r1, r2, r3, r4, r5, r6, r7, r8) := by rw [if_pos rfl] at H; exact H
       clear H
       have H := H1
       clear H1
       replace H := Option.bind_eq_some_iff.mp H
       obtain ⟨⟨t124, t125, t126, t127, t128⟩, A380, H⟩ := H
       replace H : (if x103002_2.length < 8796093022208 then (Yf.l0 k2 t125 t126 t127 t128 8 (x103002_2 ++ [t124])) else (none)) = some (r1, r2, r3, r4, r5, r6, r7, r8) := H
       have A38 := Y0.mk A380
       clear A380
       by_cases c39 : x103002_2.length < 8796093022208
       ·rw [if_pos c39] at H
        have LMc39 := Y0.mk c39
        clear c39
        obtain ⟨y129, hy129⟩ : ∃ y_ : List ByteArray, y_ = (x103002_2 ++ [t124]) := ⟨_, rfl⟩
        replace H : (Yf.l0 k2 t125 t126 t127 t128 8 y129) = some (r1, r2, r3, r4, r5, r6, r7, r8) := by first | (rw [hy129]; with_reducible exact H) | (have H2_ := (Option.bind_some _ _).symm.trans H; rw [hy129]; with_reducible exact H2_) | (have H2_ := (Option.bind_some _ _).symm.trans H; with_reducible exact H2_) | with_reducible exact H | (rw [hy129]; exact H) | exact H
        have Ny129 := Y0.mk hy129
        clear hy129
        have H' := Y0.mk H
        clear H
        try go_wp2_with (first | ((with_reducible refine Yg (f := 95) rfl ?_); refine YG (some 44) rfl rfl Tryd.func95 Z4 rfl #[.pointer (some ⟨g, 0, none⟩), .int .u8 124] rfl Z0 ?_; (with_reducible refine (YJ.calls k2 g x1000_2 x1001_2 x1002_2 x1003_2 124 true t120 t121 t122 t123 w0 _ ?side1 ?side2 A36.out).mono ?_); (case side1 => exact Z13); (case side2 => exact QB); rintro e w40 ⟨rfl, hi, hb, hk⟩; refine ⟨_, rfl, ?_⟩; have n_ := Y2W (Kd.R_mono (Kd.R_keep (Ye.apart (show Ye w0 _ g x1000_2 x1001_2 x1002_2 x1003_2 from QI75_0) ZN (by decide)) hk (fun _ h => h.2)) (fun _ h => h.1)) (Y4.blk hk (g' := gb101) (o := .cells #[.int .i64 0, .string (⟨#[]⟩ : ByteArray), .slice none 0 0, .slice none 0 0] 37 (0, 0)) QQ NB101_0.out (by simp)) (Y4.blk hk (g' := gb102) (o := .cells #[.int .i64 8, .string (⟨#[]⟩ : ByteArray), u103002, .slice none 0 0] 37 (0, 0)) QQ NB102_0.out (by simp)) (Y4.trans QK hk (.inl rfl)) (hb) (hi); clear HO_103002 BK101 BK102 HK HB HI0; obtain ⟨HO_103002, BK101, BK102, HK, HB, HI0⟩ := n_; (try clear hb); (try clear hb2); (try clear hk); (try clear hi)))
        have n_ := Y2W (Kd.R_drew HO_103002.out) (Y8 BK101.out) (Y8 BK102.out) (Ye.drew HI0.out) (Y1U HK.out) (YI HB.out)
        clear HO_103002
        clear BK101
        clear BK102
        clear HI0
        clear HK
        clear HB
        obtain ⟨HO_103002, BK101, BK102, HI0, HK, HB⟩ := n_
        refine Y1v (n := 8) (S := fun w' => w'.cell? ⟨gb102, 0, none⟩ = some (.int .i64 8) ∧ w'.cell? ⟨gb102, 1, none⟩ = some (.string (⟨#[]⟩ : ByteArray)) ∧ w'.cell? ⟨gb102, 2, none⟩ = some (u103002) ∧ w'.cell? ⟨gb102, 3, none⟩ = some (.slice none 0 0)) (ds := [7]) bz8_0 Z4 rfl rfl ⟨(Y2 BK102.out 0).trans rfl, (Y2 BK102.out 1).trans rfl, (Y2 BK102.out 2).trans rfl, (Y2 BK102.out 3).trans rfl⟩ (fun hHeld => ?_); refine YT Yf.tab8 Yf.bits8 (fun HT_ HW_ => ?_)
        generalize w40.drew = w41 at HO_103002 BK101 BK102 HI0 HK HB hHeld ⊢
        refine pY 0 45 bz8_1 ?_
        refine pY 2 47 bz8_5 ?_
        refine pT 1 46 bz8_7 ?_
        refine Y23 (i := 3) (N := some 48) bz8_f rfl rfl (Y1f HT_.out Z4) (by decide) (fun K hK => ?_)
        refine Y1G Tryd.func140 Z4 rfl #[.pointer (some ⟨g, 0, none⟩)] (by rfl) rfl rfl Z0 ?_
        with_reducible refine (YF.calls k2 g t120 t121 t122 t123 t124 t125 t126 t127 t128 w0 _ ?side1 ?side2 ?side3 A38.out).mono ?_
        (case side1 => exact Z13)
        (case side2 => exact QB)
        (case side3 => exact HT.out)
        rintro e w42 ⟨rfl, hi, hb, hk⟩
        refine ⟨_, rfl, ?_⟩
        have n_ := Y2W (Kd.R_mono (Kd.R_keep (Ye.apart (show Ye w0 _ g t120 t121 t122 t123 from QI75_0) ZN (by decide)) hk (fun _ h => h.2)) (fun _ h => h.1)) (Y4.blk hk (g' := gb101) (o := .cells #[.int .i64 0, .string (⟨#[]⟩ : ByteArray), .slice none 0 0, .slice none 0 0] 37 (0, 0)) QQ NB101_0.out (by simp)) (Y4.blk hk (g' := gb102) (o := .cells #[.int .i64 8, .string (⟨#[]⟩ : ByteArray), u103002, .slice none 0 0] 37 (0, 0)) QQ NB102_0.out (by simp)) (Y4.trans QK hk (.inl rfl)) (hb) (hi)
        clear HO_103002
        clear BK101
        clear BK102
        clear HK
        clear HB
        clear HI0
        obtain ⟨HO_103002, BK101, BK102, HK, HB, HI0⟩ := n_
        (try clear hb)
        (try clear hb2)
        (try clear hk)
        (try clear hi)
        refine hK.out _ _ ⟨(Y2 BK102.out 0).trans rfl, (Y2 BK102.out 1).trans rfl, (Y2 BK102.out 2).trans rfl, (Y2 BK102.out 3).trans rfl⟩ (fun hHeld => ?_)
        clear hK K
        refine Y1w (a' := ?_) ?_ ?_
        rotate_left
        ·show Act.put _ (some 48) _ = _
         simp only [Act.put, List.setIfInBounds_toArray, List.set_cons_zero, List.set_cons_succ, Y11, Y18]
         rfl
        refine Y23 (i := 4) (N := some 49) bz8_1f rfl rfl (Y1f HT_.out Z4) (by decide) (fun K hK => ?_)
        refine value_ (w1 := ?_) (v := ?_) (by rfl) rfl ?_ ?_
        rotate_left 2
        ·go_simp
         constructor
         ·rfl
         ·rfl
        refine hK.out _ _ ⟨(Y2 (Y7 BK102.out _) 0).trans rfl, (Y2 (Y7 BK102.out _) 1).trans rfl, (Y2 (Y7 BK102.out _) 2).trans rfl, (Y2 (Y7 BK102.out _) 3).trans rfl⟩ (fun hHeld => ?_)
        clear hK K
        refine Y1w (a' := ?_) ?_ ?_
        rotate_left
        ·show Act.put _ (some 49) _ = _
         simp only [Act.put, List.setIfInBounds_toArray, List.set_cons_zero, List.set_cons_succ, Y11, Y18]
         rfl
        refine Y23 (i := 5) (N := some 50) bz8_3f rfl rfl (Y1f HT_.out Z4) (by decide) (fun K hK => ?_)
        refine Kd.R_append_step Kd.string w.heap.size (by rfl) (.tmp 46) (.tmp 49) 34 9 (.string ⟨#[]⟩) 16 rfl Tryd.underlying34 info9 rfl (by decide) (by omega) u103002 x103002_2 t124 [.string t124] (fun _ => True) (fun _ => False) rfl rfl ?aP (fun _ hk => hk.elim) ?aF ?aO (Below.refl _ _) ?aS ?aL ?_
        (case aP => exact rfl)
        (case aF => exact (fun _ _ => trivial))
        (case aO => exact ZN)
        (case aS => exact (Ya (w := w) (g := g) (row := none) QK))
        (case aL => have := LMc39.out; omega)
        intro v130 w43 ho hb hg hat
        rw [← Ny129.out] at ho
        have n_ := Y2W (Y2C (g := gb101) (o := .cells #[.int .i64 0, .string (⟨#[]⟩ : ByteArray), .slice none 0 0, .slice none 0 0] 37 (0, 0)) QQ hg (Kd.R_ne HO_103002.out BK101.out (by decide))) (Y2C (g := gb102) (o := .cells #[.int .i64 8, .string (⟨#[]⟩ : ByteArray), u103002, .slice none 0 0] 37 (0, 0)) QQ hg (Kd.R_ne HO_103002.out BK102.out (by decide))) (Ye.grown QI75_0 hg (Ye.Y45 HI0.out HO_103002.out (by decide))) (Y3e QB HL.out hb) (Y4.trans QK (Y4.of_grown hg g) (Kd.R_base2 HO_103002.out)) (ho)
        clear BK101
        clear BK102
        clear HI0
        clear HB
        clear HK
        clear HO_103002
        obtain ⟨BK101, BK102, HI0, HB, HK, HO131⟩ := n_
        clear ho hb hg hat
        obtain ⟨Ao44, co44, eo44⟩ := Kd.R_slice HO131.out
        (first | subst eo44 | (injection eo44 with f1_ f2_ f3_; have f4_ := f1_.symm; have f5_ := f3_.symm; clear f1_ f2_ f3_; subst f4_; subst f5_))
        refine hK.out _ _ ⟨(Y2 BK102.out 0).trans rfl, (Y2 BK102.out 1).trans rfl, (Y2 BK102.out 2).trans rfl, (Y2 BK102.out 3).trans rfl⟩ (fun hHeld => ?_)
        clear hK K
        refine Y1w (a' := ?_) ?_ ?_
        rotate_left
        ·show Act.put _ (some 50) _ = _
         simp only [Act.put, List.setIfInBounds_toArray, List.set_cons_zero, List.set_cons_succ, Y11, Y18]
         rfl
        refine pY 6 51 bz8_7f ?_
        refine last_ (i := 7) (N := none) bz8_ff rfl rfl (Y1f HT_.out Z4) (by decide) (fun K hK => ?_)
        have hs45 : w43.cell? ⟨gb102, 2, none⟩ = some (u103002) := (Y2 BK102.out 2).trans rfl
        have hfs45 := Y3 BK102.out 2
        have hns45_0 := NB101_102.out
        have hms45_0 := NB102_101.out
        refine skip_ (w1 := ?_) (by rfl) rfl ?_ ?_
        rotate_left
        ·go_simp
         rfl
        refine hK.out _ _ ?_
        clear hK K
        refine Y1Q (Y1n HT_.out Z4) ?_
        try go_wp2
        go_roundg k2
        case measure => have := HJ1.out; have := HK2.out; omega
        case rel => exact ⟨(t125), (t126), (t127), (t128), (y129), (.slice Ao44 y129.length co44), H', ⟨by have := HJ1.out; have := HK2.out; omega⟩, ⟨by (with_reducible repeat (first | apply Kd.R_alloc | apply Kd.R_drewN | apply Kd.R_drew)); exact Kd.R_mono (Kd.R_far (p := ⟨gb102, 2, none⟩) (Kd.R_types HO131.out BK102.out (by decide)) (fun _ hk => hk.2) (.slice Ao44 y129.length co44)) (fun _ hk => trivial)⟩, ⟨Z1v⟩, ⟨by (with_reducible repeat (first | refine Y9 ?_ _ | refine Y8 ?_ | refine Y7 ?_ _)); exact Yp (cs := #[.int .i64 8, .string (⟨#[]⟩ : ByteArray), u103002, .slice none 0 0]) QQ 2 _ rfl⟩, ⟨QI75_0⟩, ⟨QK⟩, ⟨QB⟩⟩
       ·rw [if_neg c39] at H
        exact Zt
      ·replace c37 := Bool.eq_false_iff.mpr c37
       subst c37
       have H1 : ((YK.f k2 t120 t121 t122 t123 41).bind fun bt132 => (some (8, (⟨#[]⟩ : ByteArray), x103002_2, ([] : List (S37)), bt132.1, bt132.2.1, bt132.2.2.1, bt132.2.2.2))) = some (r1, r2, r3, r4, r5, r6, r7, r8) := by rw [if_neg (show ¬ (false = true) by decide)] at H; exact H
       clear H
       have H := H1
       clear H1
       replace H := Option.bind_eq_some_iff.mp H
       obtain ⟨⟨t132, t133, t134, t135⟩, A460, H⟩ := H
       replace H : (some (8, (⟨#[]⟩ : ByteArray), x103002_2, ([] : List (S37)), t132, t133, t134, t135)) = some (r1, r2, r3, r4, r5, r6, r7, r8) := H
       have A46 := Y0.mk A460
       clear A460
       simp only [Option.some.injEq, Prod.mk.injEq] at H
       obtain ⟨rfl, rfl, rfl, rfl, rfl, rfl, rfl, rfl⟩ := H
       go_wp2_with (first | ((with_reducible refine Yg (f := 95) rfl ?_); refine YG (some 44) rfl rfl Tryd.func95 Z4 rfl #[.pointer (some ⟨g, 0, none⟩), .int .u8 124] rfl Z0 ?_; (with_reducible refine (YJ.calls k2 g x1000_2 x1001_2 x1002_2 x1003_2 124 false t120 t121 t122 t123 w0 _ ?side1 ?side2 A36.out).mono ?_); (case side1 => exact Z13); (case side2 => exact QB); rintro e w47 ⟨rfl, hi, hb, hk⟩; refine ⟨_, rfl, ?_⟩; have n_ := Y2W (Kd.R_mono (Kd.R_keep (Ye.apart (show Ye w0 _ g x1000_2 x1001_2 x1002_2 x1003_2 from QI75_0) ZN (by decide)) hk (fun _ h => h.2)) (fun _ h => h.1)) (Y4.blk hk (g' := gb101) (o := .cells #[.int .i64 0, .string (⟨#[]⟩ : ByteArray), .slice none 0 0, .slice none 0 0] 37 (0, 0)) QQ NB101_0.out (by simp)) (Y4.blk hk (g' := gb102) (o := .cells #[.int .i64 8, .string (⟨#[]⟩ : ByteArray), u103002, .slice none 0 0] 37 (0, 0)) QQ NB102_0.out (by simp)) (Y4.trans QK hk (.inl rfl)) (hb) (hi); clear HO_103002 BK101 BK102 HK HB HI0; obtain ⟨HO_103002, BK101, BK102, HK, HB, HI0⟩ := n_; (try clear hb); (try clear hb2); (try clear hk); (try clear hi)) | ((with_reducible refine Yg (f := 142) rfl ?_); refine YG (some 53) rfl rfl Tryd.func142 Z4 rfl #[.pointer (some ⟨g, 0, none⟩), .int .u8 41] rfl Z0 ?_; (with_reducible refine (YK.calls k2 g t120 t121 t122 t123 41 t132 t133 t134 t135 w0 _ ?side1 ?side2 A46.out).mono ?_); (case side1 => exact Z13); (case side2 => exact QB); rintro e w48 ⟨rfl, hi, hb, hk⟩; refine ⟨_, rfl, ?_⟩; have n_ := Y2W (Kd.R_mono (Kd.R_keep (Ye.apart (show Ye w0 _ g t120 t121 t122 t123 from QI75_0) ZN (by decide)) hk (fun _ h => h.2)) (fun _ h => h.1)) (Y4.blk hk (g' := gb101) (o := .cells #[.int .i64 0, .string (⟨#[]⟩ : ByteArray), .slice none 0 0, .slice none 0 0] 37 (0, 0)) QQ NB101_0.out (by simp)) (Y4.blk hk (g' := gb102) (o := .cells #[.int .i64 8, .string (⟨#[]⟩ : ByteArray), u103002, .slice none 0 0] 37 (0, 0)) QQ NB102_0.out (by simp)) (Y4.trans QK hk (.inl rfl)) (hb) (hi); clear HO_103002 BK101 BK102 HK HB HI0; obtain ⟨HO_103002, BK101, BK102, HK, HB, HI0⟩ := n_; (try clear hb); (try clear hb2); (try clear hk); (try clear hi); have hnb49 := NB102_101.out; have hnc49 := NB101_102.out; have hnb50 := NB102_0.out; have hnc50 := NB0_102.out; obtain ⟨hcz51_0, hcz51_1, hcz51_2, hcz51_3, hfz51_0, hfz51_1, hfz51_2, hfz51_3⟩ := Yt BK102.out; have hnb52 := NB101_0.out; have hnc52 := NB0_101.out; obtain ⟨hcz53_0, hcz53_1, hcz53_2, hcz53_3, hfz53_0, hfz53_1, hfz53_2, hfz53_3⟩ := Yt BK101.out; obtain ⟨Ao54, co54, eo54⟩ := Kd.R_slice HO_103002.out; subst eo54))
       refine bodyPost_ret (results_cell_row rfl _ _ gb101 37 #[.int .i64 8, .string (⟨#[]⟩ : ByteArray), .slice Ao54 x103002_2.length co54, .slice none 0 0] (0, 0) _ rfl (by (with_reducible repeat (first | refine Y9 ?_ _ | refine Y8 ?_ | refine Y7 ?_ _)); exact Yp (cs := #[.int .i64 8, .string (⟨#[]⟩ : ByteArray), .slice Ao54 x103002_2.length co54, .slice none 0 0]) Z1q 3 _ rfl) Tryd.underlying37 rfl Z4) rfl ?_
       exact ⟨_, _, Z2, by (with_reducible repeat (first | apply Kd.R_alloc | apply Kd.R_drewN | apply Kd.R_drew)); exact Kd.R_mono (Kd.R_far (p := ⟨gb101, 3, none⟩) (Kd.R_far (p := ⟨gb101, 2, none⟩) (Kd.R_far (p := ⟨gb101, 1, none⟩) (Kd.R_far (p := ⟨gb101, 0, none⟩) (Kd.R_types HO_103002.out BK101.out (by decide)) (fun _ hk => hk.2) (.int .i64 8)) (fun _ hk => hk.2) (.string (⟨#[]⟩ : ByteArray))) (fun _ hk => hk.2) (.slice Ao54 x103002_2.length co54)) (fun _ hk => hk.2) (.slice none 0 0)) (fun _ hk => trivial), Z7, QI75_0, QB, QK⟩
mutual
def Yi.l0 : Nat → Int → ByteArray → Int → Int → Int → Int → ByteArray → List ByteArray → List (S37) → Option (Int × ByteArray × List ByteArray × (List (S37)) × ByteArray × Int × Int × Int)
 | 0, _, _, _, _, _, _, _, _, _ => none
 | k + 1, x1, x1000, x1001, x1002, x1003, x115000, x115001, x115002, x115003 => (YJ.f k x1000 x1001 x1002 x1003 124).bind fun bt115 => (if bt115.1 = true then ((Yo.f k bt115.2.1 bt115.2.2.1 bt115.2.2.2.1 bt115.2.2.2.2 x1).bind fun bt120 => (Yi.l0 k x1 bt120.2.2.2.2.1 bt120.2.2.2.2.2.1 bt120.2.2.2.2.2.2.1 bt120.2.2.2.2.2.2.2 4 (⟨#[]⟩ : ByteArray) ([] : List ByteArray) (([(⟨x115000, x115001, x115002, x115003⟩ : S37), (⟨bt120.1, bt120.2.1, bt120.2.2.1, bt120.2.2.2.1⟩ : S37)] : List (S37))))) else (some (x115000, x115001, x115002, x115003, bt115.2.1, bt115.2.2.1, bt115.2.2.2.1, bt115.2.2.2.2)))
def Yi.f : Nat → ByteArray → Int → Int → Int → Int → Option (Int × ByteArray × List ByteArray × (List (S37)) × ByteArray × Int × Int × Int)
 | 0, _, _, _, _, _ => none
 | k + 1, s0_0, s0_1, s0_2, s0_3, a1 => (Yo.f k s0_0 s0_1 s0_2 s0_3 a1).bind fun bt102 => (Yi.l0 k a1 bt102.2.2.2.2.1 bt102.2.2.2.2.2.1 bt102.2.2.2.2.2.2.1 bt102.2.2.2.2.2.2.2 bt102.1 bt102.2.1 bt102.2.2.1 bt102.2.2.2.1)
def Yo.l0 : Nat → Int → ByteArray → Int → Int → Int → Int → ByteArray → List ByteArray → List (S37) → Option (Int × ByteArray × List ByteArray × (List (S37)) × ByteArray × Int × Int × Int)
 | 0, _, _, _, _, _, _, _, _, _ => none
 | k + 1, x1, x1000, x1001, x1002, x1003, x149000, x149001, x149002, x149003 => (YJ.f k x1000 x1001 x1002 x1003 47).bind fun bt149 => (if bt149.1 = true then ((Yd.f k bt149.2.1 bt149.2.2.1 bt149.2.2.2.1 bt149.2.2.2.2 x1).bind fun bt154 => (Yo.l0 k x1 bt154.2.2.2.2.1 bt154.2.2.2.2.2.1 bt154.2.2.2.2.2.2.1 bt154.2.2.2.2.2.2.2 3 (⟨#[]⟩ : ByteArray) ([] : List ByteArray) (([(⟨x149000, x149001, x149002, x149003⟩ : S37), (⟨bt154.1, bt154.2.1, bt154.2.2.1, bt154.2.2.2.1⟩ : S37)] : List (S37))))) else (some (x149000, x149001, x149002, x149003, bt149.2.1, bt149.2.2.1, bt149.2.2.2.1, bt149.2.2.2.2)))
def Yo.f : Nat → ByteArray → Int → Int → Int → Int → Option (Int × ByteArray × List ByteArray × (List (S37)) × ByteArray × Int × Int × Int)
 | 0, _, _, _, _, _ => none
 | k + 1, s0_0, s0_1, s0_2, s0_3, a1 => (Yd.f k s0_0 s0_1 s0_2 s0_3 a1).bind fun bt136 => (Yo.l0 k a1 bt136.2.2.2.2.1 bt136.2.2.2.2.2.1 bt136.2.2.2.2.2.2.1 bt136.2.2.2.2.2.2.2 bt136.1 bt136.2.1 bt136.2.2.1 bt136.2.2.2.1)
def Yd.l0 : Nat → ByteArray → Int → Int → Int → Int → ByteArray → List ByteArray → List (S37) → Option (Int × ByteArray × List ByteArray × (List (S37)) × ByteArray × Int × Int × Int)
 | 0, _, _, _, _, _, _, _, _ => none
 | k + 1, x1000, x1001, x1002, x1003, x183000, x183001, x183002, x183003 => (Yc.f k x1000 x1001 x1002 x1003).bind fun bt183 => (if bt183.1 = 42 then (Yd.j1 k 5 bt183.2.1 (wrap64 (bt183.2.2.1 + 1)) bt183.2.2.2.1 bt183.2.2.2.2 x183000 x183001 x183002 x183003) else (if bt183.1 = 43 then (Yd.j2 k 6 bt183.2.1 (wrap64 (bt183.2.2.1 + 1)) bt183.2.2.2.1 bt183.2.2.2.2 x183000 x183001 x183002 x183003) else (if bt183.1 = 63 then (Yd.j3 k 7 bt183.2.1 (wrap64 (bt183.2.2.1 + 1)) bt183.2.2.2.1 bt183.2.2.2.2 x183000 x183001 x183002 x183003) else (some (x183000, x183001, x183002, x183003, bt183.2.1, bt183.2.2.1, bt183.2.2.2.1, bt183.2.2.2.2)))))
def Yd.j1 : Nat → Int → ByteArray → Int → Int → Int → Int → ByteArray → List ByteArray → List (S37) → Option (Int × ByteArray × List ByteArray × (List (S37)) × ByteArray × Int × Int × Int)
 | 0, _, _, _, _, _, _, _, _, _ => none
 | k + 1, x6, x1000, x1001, x1002, x1003, x183000, x183001, x183002, x183003 => Yd.l0 k x1000 x1001 x1002 x1003 x6 (⟨#[]⟩ : ByteArray) ([] : List ByteArray) (([(⟨x183000, x183001, x183002, x183003⟩ : S37)] : List (S37)))
def Yd.j2 : Nat → Int → ByteArray → Int → Int → Int → Int → ByteArray → List ByteArray → List (S37) → Option (Int × ByteArray × List ByteArray × (List (S37)) × ByteArray × Int × Int × Int)
 | 0, _, _, _, _, _, _, _, _, _ => none
 | k + 1, x6, x1000, x1001, x1002, x1003, x183000, x183001, x183002, x183003 => Yd.l0 k x1000 x1001 x1002 x1003 x6 (⟨#[]⟩ : ByteArray) ([] : List ByteArray) (([(⟨x183000, x183001, x183002, x183003⟩ : S37)] : List (S37)))
def Yd.j3 : Nat → Int → ByteArray → Int → Int → Int → Int → ByteArray → List ByteArray → List (S37) → Option (Int × ByteArray × List ByteArray × (List (S37)) × ByteArray × Int × Int × Int)
 | 0, _, _, _, _, _, _, _, _, _ => none
 | k + 1, x6, x1000, x1001, x1002, x1003, x183000, x183001, x183002, x183003 => Yd.l0 k x1000 x1001 x1002 x1003 x6 (⟨#[]⟩ : ByteArray) ([] : List ByteArray) (([(⟨x183000, x183001, x183002, x183003⟩ : S37)] : List (S37)))
def Yd.f : Nat → ByteArray → Int → Int → Int → Int → Option (Int × ByteArray × List ByteArray × (List (S37)) × ByteArray × Int × Int × Int)
 | 0, _, _, _, _, _ => none
 | k + 1, s0_0, s0_1, s0_2, s0_3, a1 => (Yv.f k s0_0 s0_1 s0_2 s0_3 a1).bind fun bt170 => (Yd.l0 k bt170.2.2.2.2.1 bt170.2.2.2.2.2.1 bt170.2.2.2.2.2.2.1 bt170.2.2.2.2.2.2.2 bt170.1 bt170.2.1 bt170.2.2.1 bt170.2.2.2.1)
def Yv.f : Nat → ByteArray → Int → Int → Int → Int → Option (Int × ByteArray × List ByteArray × (List (S37)) × ByteArray × Int × Int × Int)
 | 0, _, _, _, _, _ => none
 | k + 1, s0_0, s0_1, s0_2, s0_3, a1 => (Yc.f k s0_0 s0_1 s0_2 s0_3).bind fun bt198 => (if bt198.1 = 94 then (if a1 ≥ 5 then ((Yb.f bt198.2.1 bt198.2.2.1 bt198.2.2.2.1 bt198.2.2.2.2 bt198.2.2.1 3).bind fun bt215 => (some (bt215.1, bt215.2.1, bt215.2.2.1, bt215.2.2.2.1, bt215.2.2.2.2.1, bt215.2.2.2.2.2.1, bt215.2.2.2.2.2.2.1, bt215.2.2.2.2.2.2.2))) else ((Yv.f k bt198.2.1 (wrap64 (bt198.2.2.1 + 1)) bt198.2.2.2.1 bt198.2.2.2.2 (wrap64 (a1 + 1))).bind fun bt227 => (some (2, (⟨#[]⟩ : ByteArray), ([] : List ByteArray), (([(⟨bt227.1, bt227.2.1, bt227.2.2.1, bt227.2.2.2.1⟩ : S37)] : List (S37))), bt227.2.2.2.2.1, bt227.2.2.2.2.2.1, bt227.2.2.2.2.2.2.1, bt227.2.2.2.2.2.2.2)))) else ((Yy.f k bt198.2.1 bt198.2.2.1 bt198.2.2.2.1 bt198.2.2.2.2 a1).bind fun bt203 => (some (bt203.1, bt203.2.1, bt203.2.2.1, bt203.2.2.2.1, bt203.2.2.2.2.1, bt203.2.2.2.2.2.1, bt203.2.2.2.2.2.2.1, bt203.2.2.2.2.2.2.2))))
def Yy.f : Nat → ByteArray → Int → Int → Int → Int → Option (Int × ByteArray × List ByteArray × (List (S37)) × ByteArray × Int × Int × Int)
 | 0, _, _, _, _, _ => none
 | k + 1, s0_0, s0_1, s0_2, s0_3, a1 => (Yc.f k s0_0 s0_1 s0_2 s0_3).bind fun bt243 => (if bt243.1 = 60 then ((YF.f k bt243.2.1 bt243.2.2.1 bt243.2.2.2.1 bt243.2.2.2.2).bind fun bt248 => (some (1, bt248.1, ([] : List ByteArray), ([] : List (S37)), bt248.2.1, bt248.2.2.1, bt248.2.2.2.1, bt248.2.2.2.2))) else (if bt243.1 = 33 then ((Yf.f k bt243.2.1 (wrap64 (bt243.2.2.1 + 1)) bt243.2.2.2.1 bt243.2.2.2.2).bind fun bt253 => (some (bt253.1, bt253.2.1, bt253.2.2.1, bt253.2.2.2.1, bt253.2.2.2.2.1, bt253.2.2.2.2.2.1, bt253.2.2.2.2.2.2.1, bt253.2.2.2.2.2.2.2))) else (if bt243.1 = 40 then (if a1 ≥ 5 then ((Yb.f bt243.2.1 bt243.2.2.1 bt243.2.2.2.1 bt243.2.2.2.2 bt243.2.2.1 3).bind fun bt265 => (some (bt265.1, bt265.2.1, bt265.2.2.1, bt265.2.2.2.1, bt265.2.2.2.2.1, bt265.2.2.2.2.2.1, bt265.2.2.2.2.2.2.1, bt265.2.2.2.2.2.2.2))) else ((Yi.f k bt243.2.1 (wrap64 (bt243.2.2.1 + 1)) bt243.2.2.2.1 bt243.2.2.2.2 (wrap64 (a1 + 1))).bind fun bt277 => ((YK.f k bt277.2.2.2.2.1 bt277.2.2.2.2.2.1 bt277.2.2.2.2.2.2.1 bt277.2.2.2.2.2.2.2 41).bind fun bt290 => (some (bt277.1, bt277.2.1, bt277.2.2.1, bt277.2.2.2.1, bt290.1, bt290.2.1, bt290.2.2.1, bt290.2.2.2))))) else ((Yb.f bt243.2.1 bt243.2.2.1 bt243.2.2.2.1 bt243.2.2.2.2 bt243.2.2.1 2).bind fun bt294 => (some (bt294.1, bt294.2.1, bt294.2.2.1, bt294.2.2.2.1, bt294.2.2.2.2.1, bt294.2.2.2.2.2.1, bt294.2.2.2.2.2.2.1, bt294.2.2.2.2.2.2.2))))))
end
abbrev Yi.Spec (k : Nat) : Prop := ∀ (g : Nat) (s0_0 : ByteArray) (s0_1 : Int) (s0_2 : Int) (s0_3 : Int) (a1 : Int) (r1 : Int) (r2 : ByteArray) (r3 : List ByteArray) (r4 : List (S37)) (r5 : ByteArray) (r6 : Int) (r7 : Int) (r8 : Int) (w0 w : World) (hI : Ye w0 w g s0_0 s0_1 s0_2 s0_3) (hB : Below w0.heap.size w0 w) (hT : Tabs w0) (h : Yi.f k s0_0 s0_1 s0_2 s0_3 a1 = some (r1, r2, r3, r4, r5, r6, r7, r8)),
  Calls Tryd.prog 52 #[.pointer (some ⟨g, 0, none⟩), .int .i64 a1] w fun e w' => ∃ v2_ v3_ : Value, e = .returned (.agg #[.int .i64 r1, .string r2, v2_, v3_]) ∧ Kd.R Kd.string 9 w' w.heap.size (fun k_ => (w.heap.size ≤ k_)) v2_ r3 ∧ Kd.N k37 37 w' w.heap.size (fun k_ => (w.heap.size ≤ k_) ∧ some k_ ≠ (v2_ : Value).ownBlock) v3_ r4 ∧ Ye w0 w' g r5 r6 r7 r8 ∧ Below w0.heap.size w0 w' ∧ Y4 w w' g none
abbrev Yo.Spec (k : Nat) : Prop := ∀ (g : Nat) (s0_0 : ByteArray) (s0_1 : Int) (s0_2 : Int) (s0_3 : Int) (a1 : Int) (r1 : Int) (r2 : ByteArray) (r3 : List ByteArray) (r4 : List (S37)) (r5 : ByteArray) (r6 : Int) (r7 : Int) (r8 : Int) (w0 w : World) (hI : Ye w0 w g s0_0 s0_1 s0_2 s0_3) (hB : Below w0.heap.size w0 w) (hT : Tabs w0) (h : Yo.f k s0_0 s0_1 s0_2 s0_3 a1 = some (r1, r2, r3, r4, r5, r6, r7, r8)),
  Calls Tryd.prog 94 #[.pointer (some ⟨g, 0, none⟩), .int .i64 a1] w fun e w' => ∃ v2_ v3_ : Value, e = .returned (.agg #[.int .i64 r1, .string r2, v2_, v3_]) ∧ Kd.R Kd.string 9 w' w.heap.size (fun k_ => (w.heap.size ≤ k_)) v2_ r3 ∧ Kd.N k37 37 w' w.heap.size (fun k_ => (w.heap.size ≤ k_) ∧ some k_ ≠ (v2_ : Value).ownBlock) v3_ r4 ∧ Ye w0 w' g r5 r6 r7 r8 ∧ Below w0.heap.size w0 w' ∧ Y4 w w' g none
abbrev Yd.Spec (k : Nat) : Prop := ∀ (g : Nat) (s0_0 : ByteArray) (s0_1 : Int) (s0_2 : Int) (s0_3 : Int) (a1 : Int) (r1 : Int) (r2 : ByteArray) (r3 : List ByteArray) (r4 : List (S37)) (r5 : ByteArray) (r6 : Int) (r7 : Int) (r8 : Int) (w0 w : World) (hI : Ye w0 w g s0_0 s0_1 s0_2 s0_3) (hB : Below w0.heap.size w0 w) (hT : Tabs w0) (h : Yd.f k s0_0 s0_1 s0_2 s0_3 a1 = some (r1, r2, r3, r4, r5, r6, r7, r8)),
  Calls Tryd.prog 112 #[.pointer (some ⟨g, 0, none⟩), .int .i64 a1] w fun e w' => ∃ v2_ v3_ : Value, e = .returned (.agg #[.int .i64 r1, .string r2, v2_, v3_]) ∧ Kd.R Kd.string 9 w' w.heap.size (fun k_ => (w.heap.size ≤ k_)) v2_ r3 ∧ Kd.N k37 37 w' w.heap.size (fun k_ => (w.heap.size ≤ k_) ∧ some k_ ≠ (v2_ : Value).ownBlock) v3_ r4 ∧ Ye w0 w' g r5 r6 r7 r8 ∧ Below w0.heap.size w0 w' ∧ Y4 w w' g none
abbrev Yv.Spec (k : Nat) : Prop := ∀ (g : Nat) (s0_0 : ByteArray) (s0_1 : Int) (s0_2 : Int) (s0_3 : Int) (a1 : Int) (r1 : Int) (r2 : ByteArray) (r3 : List ByteArray) (r4 : List (S37)) (r5 : ByteArray) (r6 : Int) (r7 : Int) (r8 : Int) (w0 w : World) (hI : Ye w0 w g s0_0 s0_1 s0_2 s0_3) (hB : Below w0.heap.size w0 w) (hT : Tabs w0) (h : Yv.f k s0_0 s0_1 s0_2 s0_3 a1 = some (r1, r2, r3, r4, r5, r6, r7, r8)),
  Calls Tryd.prog 123 #[.pointer (some ⟨g, 0, none⟩), .int .i64 a1] w fun e w' => ∃ v2_ v3_ : Value, e = .returned (.agg #[.int .i64 r1, .string r2, v2_, v3_]) ∧ Kd.R Kd.string 9 w' w.heap.size (fun k_ => (w.heap.size ≤ k_)) v2_ r3 ∧ Kd.N k37 37 w' w.heap.size (fun k_ => (w.heap.size ≤ k_) ∧ some k_ ≠ (v2_ : Value).ownBlock) v3_ r4 ∧ Ye w0 w' g r5 r6 r7 r8 ∧ Below w0.heap.size w0 w' ∧ Y4 w w' g none
abbrev Yy.Spec (k : Nat) : Prop := ∀ (g : Nat) (s0_0 : ByteArray) (s0_1 : Int) (s0_2 : Int) (s0_3 : Int) (a1 : Int) (r1 : Int) (r2 : ByteArray) (r3 : List ByteArray) (r4 : List (S37)) (r5 : ByteArray) (r6 : Int) (r7 : Int) (r8 : Int) (w0 w : World) (hI : Ye w0 w g s0_0 s0_1 s0_2 s0_3) (hB : Below w0.heap.size w0 w) (hT : Tabs w0) (h : Yy.f k s0_0 s0_1 s0_2 s0_3 a1 = some (r1, r2, r3, r4, r5, r6, r7, r8)),
  Calls Tryd.prog 134 #[.pointer (some ⟨g, 0, none⟩), .int .i64 a1] w fun e w' => ∃ v2_ v3_ : Value, e = .returned (.agg #[.int .i64 r1, .string r2, v2_, v3_]) ∧ Kd.R Kd.string 9 w' w.heap.size (fun k_ => (w.heap.size ≤ k_)) v2_ r3 ∧ Kd.N k37 37 w' w.heap.size (fun k_ => (w.heap.size ≤ k_) ∧ some k_ ≠ (v2_ : Value).ownBlock) v3_ r4 ∧ Ye w0 w' g r5 r6 r7 r8 ∧ Below w0.heap.size w0 w' ∧ Y4 w w' g none
end Go.Proofs.YtbpbfboaofkpaaaDoor.Print
end
