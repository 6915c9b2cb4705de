/- QueryBinds: ^ binds closest, then what stands behind, then /, then |: of every way. Conditions: none but the row's own (the two tables of unicode/utf8 as the program lays them). -/
import Derived.Test.YtbpbfboaofkpaaaDoorQbQ3
import Derived.Test.YtbpbfboaofkpaaaDoorCards
import Derived.Test.YtbpbfboaofkpaaaDoorTie
import Derived.SevenTiedAt
section
namespace Go.Proofs.YtbpbfboaofkpaaaDoor.Print
open Go.RowKit Go.Proofs.YtbpbfboaofkpaaaDoorW.PrintWords Go.Proofs.YtbpbfboaofkpaaaDoorW.PrintLast Go.Proofs.YtbpbfboaofkpaaaDoorW.PrintMore
attribute [local go_sem] max2_int min2_int max_two min_two max_three min_three max_four min_four
set_option linter.unusedVariables false
set_option linter.unusedSimpArgs false
set_option maxHeartbeats 8000000 in
set_option maxRecDepth 100000 in
theorem Yk.calls (k : Nat) : ∀ (a0_0 : Int) (a0_1 : ByteArray) (A0_2 : Option Addr) (c0_2 : Nat) (l0_2 : List ByteArray) (A0_3 : Option Addr) (c0_3 : Nat) (l0_3 : List (S37)) (a1 : Int) (r : Int) (w : World) (hT : Tabs w) (hr0_2 : Kd.C Kd.string w A0_2 l0_2.length l0_2) (hc0_2 : l0_2.length ≤ c0_2) (hr0_3 : Kd.C k37 w A0_3 l0_3.length l0_3) (hc0_3 : l0_3.length ≤ c0_3) (h : Yk.f k a0_0 a0_1 l0_2 l0_3 a1 = some r),
  Calls Tryd.prog 62 #[.agg #[.int .i64 a0_0, .string a0_1, .slice A0_2 l0_2.length c0_2, .slice A0_3 l0_3.length c0_3], .int .i64 a1] w fun e w' => e = .returned (.int .i64 r) ∧ Below w.heap.size w w' := by
 induction k using Nat.strongRecOn with
 | _ k ih =>
 intro a0_0 a0_1 A0_2 c0_2 l0_2 A0_3 c0_3 l0_3 a1 r w hT hr0_2 hc0_2 hr0_3 hc0_3 h
 cases k with
 | zero => exact absurd h (by simp [Yk.f])
 | succ k =>
 simp only [Yk.f] at h
 have HT := Y0.mk hT
 clear hT
 have hu37 := Tryd.underlying37
 have HR0_2 := Y0.mk hr0_2
 have HC0_2 := Y0.mk hc0_2
 clear hr0_2 hc0_2
 have HR0_3 := Y0.mk hr0_3
 have HC0_3 := Y0.mk hc0_3
 clear hr0_3 hc0_3
 have HB := Y0.mk (Below.refl w.heap.size w)
 have H : (if a1 > 5 then (some (-1)) else ((Yw.f k a0_0).bind fun t102 => (if (l0_3.length : Int) = t102 then (if (((a0_0 == 1) == (a0_1.toList != ([] : List UInt8))) = true) then (if (((a0_0 == 8) == (decide ((l0_2.length : Int) > 0))) = true) then (if (l0_2.length : Int) > 4 then (some (-1)) else (if a0_1.toList = ([] : List UInt8) then ((Yl.f k l0_2).bind fun t103 => (if t103 = true then (some (-1)) else (Yk.l0 k a1 1 l0_3 (l0_3.length : Int) 0))) else ((Y14.f a0_1).bind fun t107 => (if t107 = true then (some (-1)) else ((Yl.f k l0_2).bind fun t108 => (if t108 = true then (some (-1)) else (Yk.l0 k a1 1 l0_3 (l0_3.length : Int) 0))))))) else (some (-1))) else (some (-1))) else (some (-1))))) = some r := h
 clear h
 by_cases c3 : a1 > 5
 ·rw [if_pos c3] at H
  have c3b0 : decide (5 < a1) = true := decide_eq_true c3
  clear c3
  obtain rfl := Option.some.inj H
  go_enter Tryd.func62, Tryd.ntmps62
  try go_wp2_with (first | ((with_reducible refine Ym (N := 2) rfl ?_); (try (refine YL (by rfl) ?_; dsimp only)); refine Yn ?hg (N := 2) ?hd (cs := #[.int .i64 a0_0, .string a0_1, .slice A0_2 l0_2.length c0_2, .slice A0_3 l0_3.length c0_3]) (t := 37) ?hr ?_; (case hd => rfl); (case hg => rfl); (case hr => exact Za); intro gb101 hg w4 hbox hb; have n_ := Y1Z (Y6 QB hb) (hbox) ((by rw [hg]; exact (Y5 QB) : w.heap.size ≤ gb101)) ((by rw [hg]; exact (Y5 QB) : w.heap.size ≤ gb101)); clear HB; obtain ⟨HB, BK101, GW101, GE101⟩ := n_; clear hb hbox hg; obtain ⟨hcz5_0, hcz5_1, hcz5_2, hcz5_3, hfz5_0, hfz5_1, hfz5_2, hfz5_3⟩ := Yt BK101.out))
  have n_ := Y1V (Y8 BK101.out) (YF HB.out)
  clear BK101
  clear HB
  obtain ⟨BK101, HB⟩ := n_
  refine Y1q (n := 40) (S := fun w' => True) (ds := []) Y22 Z7 rfl rfl trivial (fun hHeld => ?_); refine YT Yk.tab3 Yk.bits3 (fun HT_ HW_ => ?_)
  generalize w4.drew = w6 at BK101 HB hHeld ⊢
  refine pY 0 26 Y23 ?_
  refine pY 1 27 Y24 ?_
  refine pY 2 28 Y25 ?_
  refine pU 3 29 Y26 ?_
  refine pU 4 30 bz40_1f ?_
  refine pU 5 31 bz40_3f ?_
  refine pU 6 32 Y1N ?_
  refine pU 7 33 Y1O ?_
  refine pU 8 34 Y1B ?_
  refine pU 9 35 Y1C ?_
  refine pY 10 36 Y1D ?_
  refine pY 11 37 Y1E ?_
  refine pU 12 38 Y1s ?_
  refine pU 13 39 Y1t ?_
  refine pY 14 40 Y1u ?_
  refine pY 15 41 Y1v ?_
  refine pU 16 42 Y1j ?_
  refine pU 17 43 Y1k ?_
  refine pY 18 44 Y1l ?_
  refine pY 19 45 Y1m ?_
  refine pU 20 46 Y1b ?_
  refine pU 21 47 Y1c ?_
  refine pU 22 48 Y1d ?_
  refine pU 23 49 Y1e ?_
  refine pY 24 50 Y16 ?_
  refine pY 25 51 Y17 ?_
  refine pU 26 52 Y18 ?_
  refine pU 27 53 Y19 ?_
  refine pU 28 54 YY ?_
  refine pU 29 55 YZ ?_
  refine pU 30 56 Y10 ?_
  refine pU 31 57 Y11 ?_
  refine pU 32 58 YU ?_
  refine pU 33 59 YV ?_
  refine pY 34 60 YW ?_
  refine pY 35 61 YX ?_
  refine pU 36 62 YP ?_
  refine pU 37 63 YQ ?_
  refine pU 38 64 YR ?_
  refine pY 39 65 YS ?_
  refine Y1L (Y1f HT_.out Z7) ?_
  try go_wp2
  go_ret
  exact Z1U
 ·rw [if_neg c3] at H
  have c3b0 : decide (5 < a1) = false := decide_eq_false c3
  clear c3
  replace H := Option.bind_eq_some_iff.mp H
  obtain ⟨t102, A70, H⟩ := H
  replace H : (if (l0_3.length : Int) = t102 then (if (((a0_0 == 1) == (a0_1.toList != ([] : List UInt8))) = true) then (if (((a0_0 == 8) == (decide ((l0_2.length : Int) > 0))) = true) then (if (l0_2.length : Int) > 4 then (some (-1)) else (if a0_1.toList = ([] : List UInt8) then ((Yl.f k l0_2).bind fun t103 => (if t103 = true then (some (-1)) else (Yk.l0 k a1 1 l0_3 (l0_3.length : Int) 0))) else ((Y14.f a0_1).bind fun t107 => (if t107 = true then (some (-1)) else ((Yl.f k l0_2).bind fun t108 => (if t108 = true then (some (-1)) else (Yk.l0 k a1 1 l0_3 (l0_3.length : Int) 0))))))) else (some (-1))) else (some (-1))) else (some (-1))) = some r := H
  have A7 := Y0.mk A70
  clear A70
  by_cases c8 : (l0_3.length : Int) = t102
  ·rw [if_pos c8] at H
   have c8b0 : ((l0_3.length : Int) == t102) = true := beq_iff_eq.mpr c8
   have c8b1 : ((l0_3.length : Int) != t102) = false := bne_eq_false_iff_eq.mpr c8
   clear c8
   by_cases c9 : (((a0_0 == 1) == (a0_1.toList != ([] : List UInt8))) = true)
   ·rw [if_pos c9] at H
    have c9b0 : ((a0_0 == 1) == (a0_1.toList != ([] : List UInt8))) = true := c9
    (try (have c9b1 : ((a0_0 == 1) == !a0_1.toList.isEmpty) = true := by first | simpa using c9 | simpa [show ∀ l_ : List UInt8, (l_ != ([] : List UInt8)) = !l_.isEmpty from fun l_ => by cases l_ <;> rfl, show ∀ l_ : List UInt8, (l_ == ([] : List UInt8)) = l_.isEmpty from fun l_ => by cases l_ <;> rfl] using c9))
    (try (have c9b2 : (((a0_0 = 1) = (a0_1.toList != ([] : List UInt8)))) = True := eq_true (by simpa using c9)))
    (try (have c9b3 : decide ((a0_0 == 1) = (a0_1.toList != ([] : List UInt8))) = true := by simpa using c9))
    (try (have c9b4 : ((a0_0 == 1) == (a0_1.toList != ([] : List UInt8))) = true := by simpa using c9))
    clear c9
    by_cases c10 : (((a0_0 == 8) == (decide ((l0_2.length : Int) > 0))) = true)
    ·rw [if_pos c10] at H
     have c10b0 : ((a0_0 == 8) == (decide ((l0_2.length : Int) > 0))) = true := c10
     (try (have c10b1 : ((a0_0 == 8) == decide (0 < l0_2.length)) = true := by first | simpa using c10 | simpa [show ∀ l_ : List UInt8, (l_ != ([] : List UInt8)) = !l_.isEmpty from fun l_ => by cases l_ <;> rfl, show ∀ l_ : List UInt8, (l_ == ([] : List UInt8)) = l_.isEmpty from fun l_ => by cases l_ <;> rfl] using c10))
     (try (have c10b2 : (((a0_0 = 8) = (decide ((l0_2.length : Int) > 0)))) = True := eq_true (by simpa using c10)))
     (try (have c10b3 : decide ((a0_0 == 8) = (decide ((l0_2.length : Int) > 0))) = true := by simpa using c10))
     (try (have c10b4 : ((a0_0 == 8) == (decide ((l0_2.length : Int) > 0))) = true := by simpa using c10))
     clear c10
     by_cases c11 : (l0_2.length : Int) > 4
     ·rw [if_pos c11] at H
      have c11b0 : decide (4 < (l0_2.length : Int)) = true := decide_eq_true c11
      have c11b1 : decide (4 < l0_2.length) = true := decide_eq_true (by omega)
      clear c11
      obtain rfl := Option.some.inj H
      go_enter Tryd.func62, Tryd.ntmps62
      try go_wp2_with (first | ((with_reducible refine Ym (N := 2) rfl ?_); (try (refine YL (by rfl) ?_; dsimp only)); refine Yn ?hg (N := 2) ?hd (cs := #[.int .i64 a0_0, .string a0_1, .slice A0_2 l0_2.length c0_2, .slice A0_3 l0_3.length c0_3]) (t := 37) ?hr ?_; (case hd => rfl); (case hg => rfl); (case hr => exact Za); intro gb101 hg w12 hbox hb; have n_ := Y1Z (Y6 QB hb) (hbox) ((by rw [hg]; exact (Y5 QB) : w.heap.size ≤ gb101)) ((by rw [hg]; exact (Y5 QB) : w.heap.size ≤ gb101)); clear HB; obtain ⟨HB, BK101, GW101, GE101⟩ := n_; clear hb hbox hg; obtain ⟨hcz13_0, hcz13_1, hcz13_2, hcz13_3, hfz13_0, hfz13_1, hfz13_2, hfz13_3⟩ := Yt BK101.out))
      have n_ := Y1V (Y8 BK101.out) (YF HB.out)
      clear BK101
      clear HB
      obtain ⟨BK101, HB⟩ := n_
      refine Y1q (n := 40) (S := fun w' => w'.cell? ⟨gb101, 0, none⟩ = some (.int .i64 a0_0) ∧ w'.cell? ⟨gb101, 1, none⟩ = some (.string a0_1) ∧ w'.cell? ⟨gb101, 2, none⟩ = some (.slice A0_2 l0_2.length c0_2) ∧ w'.cell? ⟨gb101, 3, none⟩ = some (.slice A0_3 l0_3.length c0_3)) (ds := []) Y22 Z7 rfl rfl ⟨(Y1 BK101.out 0).trans rfl, (Y1 BK101.out 1).trans rfl, (Y1 BK101.out 2).trans rfl, (Y1 BK101.out 3).trans rfl⟩ (fun hHeld => ?_); refine YT Yk.tab3 Yk.bits3 (fun HT_ HW_ => ?_)
      generalize w12.drew = w14 at BK101 HB hHeld ⊢
      refine pY 0 26 Y23 ?_
      refine pY 1 27 Y24 ?_
      refine pY 2 28 Y25 ?_
      refine pY 3 29 Y26 ?_
      refine pY 6 32 Y1R ?_
      refine pT 4 30 Y1S ?_
      refine pY 5 31 Y1N ?_
      refine pT 7 33 Y1O ?_
      refine Y28 (i := 8) (N := some 34) Y1B rfl rfl (Y1g HT_.out Z7) (by decide) (fun K hK => ?_)
      refine Y1G Tryd.func98 Z7 rfl #[.int .i64 a0_0] (by rfl) rfl rfl Z0 ?_
      with_reducible refine (Yw.calls k a0_0 t102 _ A7.out).mono ?_
      rintro e w' ⟨rfl, ⟨nd, rfl⟩⟩
      refine ⟨_, rfl, ?_⟩
      refine hK.out _ _ ⟨(Y1 BK101.out 0).trans rfl, (Y1 BK101.out 1).trans rfl, (Y1 BK101.out 2).trans rfl, (Y1 BK101.out 3).trans rfl⟩ (fun hHeld => ?_)
      clear hK K
      refine Y1z (a' := ?_) ?_ ?_
      rotate_left
      ·show Act.put _ (some 34) _ = _
       simp only [Act.put, List.setIfInBounds_toArray, List.set_cons_zero, List.set_cons_succ, Y13, Y15]
       rfl
      refine pY 9 35 Y1C ?_
      refine pY 10 36 Y1D ?_
      refine pY 11 37 Y1E ?_
      refine pY 12 38 Y1s ?_
      refine pY 13 39 Y1t ?_
      refine pY 14 40 Y1u ?_
      refine pY 15 41 Y1v ?_
      refine pY 16 42 Y1j ?_
      refine pY 17 43 Y1k ?_
      refine pY 18 44 Y1l ?_
      refine pY 19 45 Y1m ?_
      refine pY 20 46 Y1b ?_
      refine pT 21 47 Y1c ?_
      refine pY 22 48 Y1d ?_
      refine pY 23 49 Y1e ?_
      refine pY 24 50 Y16 ?_
      refine pY 25 51 Y17 ?_
      refine pU 26 52 Y18 ?_
      refine pU 27 53 Y19 ?_
      refine pU 28 54 YY ?_
      refine pU 29 55 YZ ?_
      refine pU 30 56 Y10 ?_
      refine pU 31 57 Y11 ?_
      refine pU 32 58 YU ?_
      refine pU 33 59 YV ?_
      refine pY 34 60 YW ?_
      refine pY 35 61 YX ?_
      refine pU 36 62 YP ?_
      refine pU 37 63 YQ ?_
      refine pU 38 64 YR ?_
      refine pY 39 65 YS ?_
      refine Y1L (Y1f HT_.out Z7) ?_
      try go_wp2
      go_ret
      exact Z1U
     ·rw [if_neg c11] at H
      have c11b0 : decide (4 < (l0_2.length : Int)) = false := decide_eq_false c11
      have c11b1 : decide (4 < l0_2.length) = false := decide_eq_false (by omega)
      clear c11
      by_cases c15 : a0_1.toList = ([] : List UInt8)
      ·rw [if_pos c15] at H
       have c15b0 : (a0_1.toList == ([] : List UInt8)) = true := beq_iff_eq.mpr c15
       have c15b1 : (a0_1.toList != ([] : List UInt8)) = false := bne_eq_false_iff_eq.mpr c15
       (try (have c15c9b0_true : (a0_0 == 1) = true := by have z_ := c9b0; rw [c15b1] at z_; simpa using z_))
       (try (have c15c9b0_false : (a0_0 == 1) = false := by have z_ := c9b0; rw [c15b1] at z_; simpa using z_))
       clear c15
       replace H := Option.bind_eq_some_iff.mp H
       obtain ⟨t103, A160, H⟩ := H
       replace H : (if t103 = true then (some (-1)) else (Yk.l0 k a1 1 l0_3 (l0_3.length : Int) 0)) = some r := H
       have A16 := Y0.mk A160
       clear A160
       by_cases c17 : t103 = true
       ·subst c17
        have H1 : (some (-1)) = some r := by rw [if_pos rfl] at H; exact H
        clear H
        have H := H1
        clear H1
        obtain rfl := Option.some.inj H
        go_enter Tryd.func62, Tryd.ntmps62
        try go_wp2_with (first | ((with_reducible refine Ym (N := 2) rfl ?_); (try (refine YL (by rfl) ?_; dsimp only)); refine Yn ?hg (N := 2) ?hd (cs := #[.int .i64 a0_0, .string a0_1, .slice A0_2 l0_2.length c0_2, .slice A0_3 l0_3.length c0_3]) (t := 37) ?hr ?_; (case hd => rfl); (case hg => rfl); (case hr => exact Za); intro gb101 hg w18 hbox hb; have n_ := Y1Z (Y6 QB hb) (hbox) ((by rw [hg]; exact (Y5 QB) : w.heap.size ≤ gb101)) ((by rw [hg]; exact (Y5 QB) : w.heap.size ≤ gb101)); clear HB; obtain ⟨HB, BK101, GW101, GE101⟩ := n_; clear hb hbox hg; obtain ⟨hcz19_0, hcz19_1, hcz19_2, hcz19_3, hfz19_0, hfz19_1, hfz19_2, hfz19_3⟩ := Yt BK101.out))
        have n_ := Y1V (Y8 BK101.out) (YF HB.out)
        clear BK101
        clear HB
        obtain ⟨BK101, HB⟩ := n_
        refine Y1q (n := 40) (S := fun w' => w'.cell? ⟨gb101, 0, none⟩ = some (.int .i64 a0_0) ∧ w'.cell? ⟨gb101, 1, none⟩ = some (.string a0_1) ∧ w'.cell? ⟨gb101, 2, none⟩ = some (.slice A0_2 l0_2.length c0_2) ∧ w'.cell? ⟨gb101, 3, none⟩ = some (.slice A0_3 l0_3.length c0_3)) (ds := []) Y22 Z7 rfl rfl ⟨(Y1 BK101.out 0).trans rfl, (Y1 BK101.out 1).trans rfl, (Y1 BK101.out 2).trans rfl, (Y1 BK101.out 3).trans rfl⟩ (fun hHeld => ?_); refine YT Yk.tab3 Yk.bits3 (fun HT_ HW_ => ?_)
        generalize w18.drew = w20 at BK101 HB hHeld ⊢
        refine pY 0 26 Y23 ?_
        refine pY 1 27 Y24 ?_
        refine pY 2 28 Y25 ?_
        refine pY 3 29 Y26 ?_
        refine pY 6 32 Y1R ?_
        refine pT 4 30 Y1S ?_
        refine pY 5 31 Y1N ?_
        refine pT 7 33 Y1O ?_
        refine Y28 (i := 8) (N := some 34) Y1B rfl rfl (Y1g HT_.out Z7) (by decide) (fun K hK => ?_)
        refine Y1G Tryd.func98 Z7 rfl #[.int .i64 a0_0] (by rfl) rfl rfl Z0 ?_
        with_reducible refine (Yw.calls k a0_0 t102 _ A7.out).mono ?_
        rintro e w' ⟨rfl, ⟨nd, rfl⟩⟩
        refine ⟨_, rfl, ?_⟩
        refine hK.out _ _ ⟨(Y1 BK101.out 0).trans rfl, (Y1 BK101.out 1).trans rfl, (Y1 BK101.out 2).trans rfl, (Y1 BK101.out 3).trans rfl⟩ (fun hHeld => ?_)
        clear hK K
        refine Y1z (a' := ?_) ?_ ?_
        rotate_left
        ·show Act.put _ (some 34) _ = _
         simp only [Act.put, List.setIfInBounds_toArray, List.set_cons_zero, List.set_cons_succ, Y13, Y15]
         rfl
        refine pY 9 35 Y1C ?_
        refine pY 10 36 Y1D ?_
        refine pY 11 37 Y1E ?_
        refine pY 12 38 Y1s ?_
        refine pY 13 39 Y1t ?_
        refine pY 14 40 Y1u ?_
        refine pY 15 41 Y1v ?_
        refine pY 16 42 Y1j ?_
        refine pY 17 43 Y1k ?_
        refine pY 18 44 Y1l ?_
        refine pY 19 45 Y1m ?_
        refine pY 20 46 Y1b ?_
        refine pT 21 47 Y1c ?_
        refine pY 22 48 Y1d ?_
        refine pY 23 49 Y1e ?_
        refine pY 24 50 Y16 ?_
        refine pY 25 51 Y17 ?_
        refine pY 26 52 Y18 ?_
        refine pT 27 53 Y19 ?_
        refine pY 28 54 YY ?_
        refine pY 29 55 YZ ?_
        refine pU 30 56 Y10 ?_
        refine pU 31 57 Y11 ?_
        refine pU 32 58 YU ?_
        refine pY 33 59 YV ?_
        refine pY 34 60 YW ?_
        refine pY 35 61 YX ?_
        refine pY 36 62 YP ?_
        refine pT 37 63 YQ ?_
        refine Y28 (i := 38) (N := some 64) YR rfl rfl (Y1g HT_.out Z7) (by decide) (fun K hK => ?_)
        refine Y1G Tryd.func100 Z7 rfl #[.slice A0_2 l0_2.length c0_2, .func (.func 99) #[] #[]] (by rfl) rfl rfl Z0 ?_
        with_reducible refine (Yl.calls k _ _ l0_2  true _ ?side1 ?side2 ?side3 A16.out).mono ?_
        (case side1 => exact Z3)
        (case side2 => exact Z1z)
        (case side3 => exact HC0_2.out)
        rintro e w21 ⟨rfl, hb⟩
        refine ⟨_, rfl, ?_⟩
        have n_ := Y1V (Yi (g := gb101) (o := .cells #[.int .i64 a0_0, .string a0_1, .slice A0_2 l0_2.length c0_2, .slice A0_3 l0_3.length c0_3] 37 (0, 0)) QQ hb) (Y6 QB hb)
        clear BK101
        clear HB
        obtain ⟨BK101, HB⟩ := n_
        (try clear hb)
        (try clear hb2)
        (try clear hk)
        (try clear hi)
        refine hK.out _ _ ⟨(Y1 BK101.out 0).trans rfl, (Y1 BK101.out 1).trans rfl, (Y1 BK101.out 2).trans rfl, (Y1 BK101.out 3).trans rfl⟩ (fun hHeld => ?_)
        clear hK K
        refine Y1z (a' := ?_) ?_ ?_
        rotate_left
        ·show Act.put _ (some 64) _ = _
         simp only [Act.put, List.setIfInBounds_toArray, List.set_cons_zero, List.set_cons_succ, Y13, Y15]
         rfl
        refine pY 39 65 YS ?_
        refine Y1L (Y1f HT_.out Z7) ?_
        try go_wp2
        go_ret
        exact Z1U
       ·replace c17 := Bool.eq_false_iff.mpr c17
        subst c17
        have H1 : (Yk.l0 k a1 1 l0_3 (l0_3.length : Int) 0) = some r := by rw [if_neg (show ¬ (false = true) by decide)] at H; exact H
        clear H
        have H := H1
        clear H1
        have H' := Y0.mk H
        clear H
        go_enter Tryd.func62, Tryd.ntmps62
        try go_wp2_with (first | ((with_reducible refine Ym (N := 2) rfl ?_); (try (refine YL (by rfl) ?_; dsimp only)); refine Yn ?hg (N := 2) ?hd (cs := #[.int .i64 a0_0, .string a0_1, .slice A0_2 l0_2.length c0_2, .slice A0_3 l0_3.length c0_3]) (t := 37) ?hr ?_; (case hd => rfl); (case hg => rfl); (case hr => exact Za); intro gb101 hg w22 hbox hb; have n_ := Y1Z (Y6 QB hb) (hbox) ((by rw [hg]; exact (Y5 QB) : w.heap.size ≤ gb101)) ((by rw [hg]; exact (Y5 QB) : w.heap.size ≤ gb101)); clear HB; obtain ⟨HB, BK101, GW101, GE101⟩ := n_; clear hb hbox hg; obtain ⟨hcz23_0, hcz23_1, hcz23_2, hcz23_3, hfz23_0, hfz23_1, hfz23_2, hfz23_3⟩ := Yt BK101.out))
        have n_ := Y1V (Y8 BK101.out) (YF HB.out)
        clear BK101
        clear HB
        obtain ⟨BK101, HB⟩ := n_
        refine Y1q (n := 40) (S := fun w' => w'.cell? ⟨gb101, 0, none⟩ = some (.int .i64 a0_0) ∧ w'.cell? ⟨gb101, 1, none⟩ = some (.string a0_1) ∧ w'.cell? ⟨gb101, 2, none⟩ = some (.slice A0_2 l0_2.length c0_2) ∧ w'.cell? ⟨gb101, 3, none⟩ = some (.slice A0_3 l0_3.length c0_3)) (ds := []) Y22 Z7 rfl rfl ⟨(Y1 BK101.out 0).trans rfl, (Y1 BK101.out 1).trans rfl, (Y1 BK101.out 2).trans rfl, (Y1 BK101.out 3).trans rfl⟩ (fun hHeld => ?_); refine YT Yk.tab3 Yk.bits3 (fun HT_ HW_ => ?_)
        generalize w22.drew = w24 at BK101 HB hHeld ⊢
        refine pY 0 26 Y23 ?_
        refine pY 1 27 Y24 ?_
        refine pY 2 28 Y25 ?_
        refine pY 3 29 Y26 ?_
        refine pY 6 32 Y1R ?_
        refine pT 4 30 Y1S ?_
        refine pY 5 31 Y1N ?_
        refine pT 7 33 Y1O ?_
        refine Y28 (i := 8) (N := some 34) Y1B rfl rfl (Y1g HT_.out Z7) (by decide) (fun K hK => ?_)
        refine Y1G Tryd.func98 Z7 rfl #[.int .i64 a0_0] (by rfl) rfl rfl Z0 ?_
        with_reducible refine (Yw.calls k a0_0 t102 _ A7.out).mono ?_
        rintro e w' ⟨rfl, ⟨nd, rfl⟩⟩
        refine ⟨_, rfl, ?_⟩
        refine hK.out _ _ ⟨(Y1 BK101.out 0).trans rfl, (Y1 BK101.out 1).trans rfl, (Y1 BK101.out 2).trans rfl, (Y1 BK101.out 3).trans rfl⟩ (fun hHeld => ?_)
        clear hK K
        refine Y1z (a' := ?_) ?_ ?_
        rotate_left
        ·show Act.put _ (some 34) _ = _
         simp only [Act.put, List.setIfInBounds_toArray, List.set_cons_zero, List.set_cons_succ, Y13, Y15]
         rfl
        refine pY 9 35 Y1C ?_
        refine pY 10 36 Y1D ?_
        refine pY 11 37 Y1E ?_
        refine pY 12 38 Y1s ?_
        refine pY 13 39 Y1t ?_
        refine pY 14 40 Y1u ?_
        refine pY 15 41 Y1v ?_
        refine pY 16 42 Y1j ?_
        refine pY 17 43 Y1k ?_
        refine pY 18 44 Y1l ?_
        refine pY 19 45 Y1m ?_
        refine pY 20 46 Y1b ?_
        refine pT 21 47 Y1c ?_
        refine pY 22 48 Y1d ?_
        refine pY 23 49 Y1e ?_
        refine pY 24 50 Y16 ?_
        refine pY 25 51 Y17 ?_
        refine pY 26 52 Y18 ?_
        refine pT 27 53 Y19 ?_
        refine pY 28 54 YY ?_
        refine pY 29 55 YZ ?_
        refine pU 30 56 Y10 ?_
        refine pU 31 57 Y11 ?_
        refine pU 32 58 YU ?_
        refine pY 33 59 YV ?_
        refine pY 34 60 YW ?_
        refine pY 35 61 YX ?_
        refine pY 36 62 YP ?_
        refine pT 37 63 YQ ?_
        refine Y28 (i := 38) (N := some 64) YR rfl rfl (Y1g HT_.out Z7) (by decide) (fun K hK => ?_)
        refine Y1G Tryd.func100 Z7 rfl #[.slice A0_2 l0_2.length c0_2, .func (.func 99) #[] #[]] (by rfl) rfl rfl Z0 ?_
        with_reducible refine (Yl.calls k _ _ l0_2  false _ ?side1 ?side2 ?side3 A16.out).mono ?_
        (case side1 => exact Z3)
        (case side2 => exact Z1z)
        (case side3 => exact HC0_2.out)
        rintro e w25 ⟨rfl, hb⟩
        refine ⟨_, rfl, ?_⟩
        have n_ := Y1V (Yi (g := gb101) (o := .cells #[.int .i64 a0_0, .string a0_1, .slice A0_2 l0_2.length c0_2, .slice A0_3 l0_3.length c0_3] 37 (0, 0)) QQ hb) (Y6 QB hb)
        clear BK101
        clear HB
        obtain ⟨BK101, HB⟩ := n_
        (try clear hb)
        (try clear hb2)
        (try clear hk)
        (try clear hi)
        refine hK.out _ _ ⟨(Y1 BK101.out 0).trans rfl, (Y1 BK101.out 1).trans rfl, (Y1 BK101.out 2).trans rfl, (Y1 BK101.out 3).trans rfl⟩ (fun hHeld => ?_)
        clear hK K
        refine Y1z (a' := ?_) ?_ ?_
        rotate_left
        ·show Act.put _ (some 64) _ = _
         simp only [Act.put, List.setIfInBounds_toArray, List.set_cons_zero, List.set_cons_succ, Y13, Y15]
         rfl
        refine pY 39 65 YS ?_
        refine Y1L (Y1f HT_.out Z7) ?_
        obtain ⟨hcz26_0, hcz26_1, hcz26_2, hcz26_3, hfz26_0, hfz26_1, hfz26_2, hfz26_3⟩ := Yt BK101.out
        try go_wp2
        go_loopg [7, 69] k (fun kq v7 v69 w' => ∃ (x7_1 : Int) (x69_1 : Int), v7 = .int .i64 x7_1 ∧ v69 = .int .i64 x69_1 ∧ Y0 (Yk.l0 kq a1 x7_1 l0_3 (l0_3.length : Int) x69_1 = some r) ∧ Y0 (kq ≤ k) ∧ Y0 (w'.heap[gb101]? = some (.cells #[.int .i64 a0_0, .string a0_1, (.slice A0_2 l0_2.length c0_2), (.slice A0_3 l0_3.length c0_3)] 37 (0, 0))) ∧ Y0 (Below w.heap.size w w'))
        case atStart => exact ⟨(1), (0), Ze, Ze, H', ⟨Nat.le_refl _⟩, ⟨Zd⟩, ⟨QB⟩⟩
        case round =>
         clear H'
         try clear c1
         try clear p2
         try clear c6
         try clear c9
         try clear c10
         try clear c17
         try clear hcz23_0 hcz23_1 hcz23_2 hcz23_3
         try clear hcz26_0 hcz26_1 hcz26_2 hcz26_3
         try clear hfz23_0
         try clear hfz23_1
         try clear hfz23_2
         try clear hfz23_3
         try clear hfz26_0
         try clear hfz26_1
         try clear hfz26_2
         try clear hfz26_3
         obtain ⟨x7_1, x69_1, rfl, rfl, HA, HK1, BK101, HB⟩ := hrel
         cases gk with
         | zero => exact absurd HA.out (by simp [Yk.l0])
         | succ k1 =>
          have H := HA.out
          clear HA
          simp only [Yk.l0] at H
          by_cases c27 : x69_1 < (l0_3.length : Int)
          ·rw [if_pos c27] at H
           have c27b0 : decide (x69_1 < (l0_3.length : Int)) = true := decide_eq_true c27
           clear c27
           by_cases c28 : 0 ≤ x69_1
           ·rw [if_pos c28] at H
            have c28b0 : decide (0 ≤ x69_1) = true := decide_eq_true c28
            clear c28
            by_cases c29 : x69_1 < (l0_3.length : Int)
            ·rw [if_pos c29] at H
             have c29b0 : decide (x69_1 < (l0_3.length : Int)) = true := decide_eq_true c29
             clear c29
             replace H := Option.bind_eq_some_iff.mp H
             obtain ⟨t106, A300, H⟩ := H
             replace H : (if t106 < 0 then (some (-1)) else (Yk.l0 k1 a1 (wrap64 (x7_1 + t106)) l0_3 (l0_3.length : Int) (wrap64 (x69_1 + 1)))) = some r := H
             have A30 := Y0.mk A300
             clear A300
             by_cases c31 : t106 < 0
             ·rw [if_pos c31] at H
              have c31b0 : decide (t106 < 0) = true := decide_eq_true c31
              clear c31
              obtain rfl := Option.some.inj H
              have p104 : 0 ≤ (x69_1 : Int) := of_decide_eq_true Z8
              have q104 : x69_1 < (l0_3.length : Int) := of_decide_eq_true Z8
              obtain ⟨ad104, A104_2, c104_2, A104_3, c104_3, e104, hx104_0, hx104_1, hx104_2, hx104_3, hl104_2, hi104_2, hl104_3, hi104_3⟩ := Y1I HR0_3.out x69_1 p104 q104
              cases e104
              replace hx104_0 := YM HB.out hx104_0
              replace hx104_1 := YM HB.out hx104_1
              replace hx104_2 := YM HB.out hx104_2
              replace hx104_3 := YM HB.out hx104_3
              have HR104_2 := Y0.mk hi104_2
              have HC104_2 := Y0.mk hl104_2
              clear hi104_2 hl104_2
              have HR104_3 := Y0.mk hi104_3
              have HC104_3 := Y0.mk hl104_3
              clear hi104_3 hl104_3
              replace p104 := eq_true p104
              replace q104 := eq_true q104
              go_wp2_with (first | ((with_reducible refine Ym (N := 9) rfl ?_); (try (refine YL (by rfl) ?_; dsimp only)); refine Yn ?hg (N := 9) ?hd (cs := #[.int .i64 0, .string (⟨#[]⟩ : ByteArray), .slice none 0 0, .slice none 0 0]) (t := 37) ?hr ?_; (case hd => rfl); (case hg => rfl); (case hr => exact Za); intro gb105 hg w32 hbox hb; have n_ := put7 (Yi (g := gb101) (o := .cells #[.int .i64 a0_0, .string a0_1, .slice A0_2 l0_2.length c0_2, .slice (some ad104) l0_3.length c0_3] 37 (0, 0)) QQ hb) (Y6 QB hb) (hbox) ((by rw [hg]; exact (Y5 QB) : w.heap.size ≤ gb105)) ((by rw [hg]; exact (Y5 QB) : w.heap.size ≤ gb105)) ((by rw [hg]; exact Nat.ne_of_lt (YO (g := gb101) (o := .cells #[.int .i64 a0_0, .string a0_1, .slice A0_2 l0_2.length c0_2, .slice (some ad104) l0_3.length c0_3] 37 (0, 0)) QQ) : gb101 ≠ gb105)) ((by rw [hg]; exact Nat.ne_of_gt (YO (g := gb101) (o := .cells #[.int .i64 a0_0, .string a0_1, .slice A0_2 l0_2.length c0_2, .slice (some ad104) l0_3.length c0_3] 37 (0, 0)) QQ) : gb105 ≠ gb101)); clear BK101 HB; obtain ⟨BK101, HB, BK105, GW105, GE105, NB101_105, NB105_101⟩ := n_; clear hb hbox hg; have hnb33 := NB105_101.out; have hnc33 := NB101_105.out; obtain ⟨hcz34_0, hcz34_1, hcz34_2, hcz34_3, hfz34_0, hfz34_1, hfz34_2, hfz34_3⟩ := Yt BK105.out) | ((with_reducible refine Yh (f := 62) rfl ?_); refine Yy (some 76) rfl rfl Tryd.func62 Z7 rfl #[.agg #[.int .i64 ((Ya l0_3 x69_1).f0), .string ((Ya l0_3 x69_1).f1), .slice A104_2 ((Ya l0_3 x69_1).f2).length c104_2, .slice A104_3 ((Ya l0_3 x69_1).f3).length c104_3], .int .i64 (wrap64 (a1 + 1))] rfl Z0 ?_; (with_reducible refine (ih k1 Z1q ((Ya l0_3 x69_1).f0) ((Ya l0_3 x69_1).f1) _ _ ((Ya l0_3 x69_1).f2) _ _ ((Ya l0_3 x69_1).f3) (wrap64 (a1 + 1)) t106 _ ?side1 ?side2 ?side3 ?side4 ?side5 A30.out).mono ?_); (case side1 => exact Z3); (case side2 => exact Kd.C_below HR104_2.out QB); (case side3 => exact HC104_2.out); (case side4 => exact Kd.C_below HR104_3.out QB); (case side5 => exact HC104_3.out); rintro e w35 ⟨rfl, hb⟩; refine ⟨_, rfl, ?_⟩; have n_ := Y1P (Yi (g := gb101) (o := .cells #[.int .i64 a0_0, .string a0_1, .slice A0_2 l0_2.length c0_2, .slice (some ad104) l0_3.length c0_3] 37 (0, 0)) Zf hb) (Yi (g := gb105) (o := .cells #[.int .i64 ((Ya l0_3 x69_1).f0), .string ((Ya l0_3 x69_1).f1), .slice A104_2 ((Ya l0_3 x69_1).f2).length c104_2, .slice A104_3 ((Ya l0_3 x69_1).f3).length c104_3] 37 (0, 0)) Z1N hb) (Y6 QB hb); clear BK101 BK105 HB; obtain ⟨BK101, BK105, HB⟩ := n_; (try clear hb); (try clear hb2); (try clear hk); (try clear hi)))
              go_ret
              exact Z1U
             ·rw [if_neg c31] at H
              have c31b0 : decide (t106 < 0) = false := decide_eq_false c31
              clear c31
              have H' := Y0.mk H
              clear H
              have p104 : 0 ≤ (x69_1 : Int) := of_decide_eq_true Z8
              have q104 : x69_1 < (l0_3.length : Int) := of_decide_eq_true Z8
              obtain ⟨ad104, A104_2, c104_2, A104_3, c104_3, e104, hx104_0, hx104_1, hx104_2, hx104_3, hl104_2, hi104_2, hl104_3, hi104_3⟩ := Y1I HR0_3.out x69_1 p104 q104
              cases e104
              replace hx104_0 := YM HB.out hx104_0
              replace hx104_1 := YM HB.out hx104_1
              replace hx104_2 := YM HB.out hx104_2
              replace hx104_3 := YM HB.out hx104_3
              have HR104_2 := Y0.mk hi104_2
              have HC104_2 := Y0.mk hl104_2
              clear hi104_2 hl104_2
              have HR104_3 := Y0.mk hi104_3
              have HC104_3 := Y0.mk hl104_3
              clear hi104_3 hl104_3
              replace p104 := eq_true p104
              replace q104 := eq_true q104
              go_wp2_with (first | ((with_reducible refine Ym (N := 9) rfl ?_); (try (refine YL (by rfl) ?_; dsimp only)); refine Yn ?hg (N := 9) ?hd (cs := #[.int .i64 0, .string (⟨#[]⟩ : ByteArray), .slice none 0 0, .slice none 0 0]) (t := 37) ?hr ?_; (case hd => rfl); (case hg => rfl); (case hr => exact Za); intro gb105 hg w36 hbox hb; have n_ := put7 (Yi (g := gb101) (o := .cells #[.int .i64 a0_0, .string a0_1, .slice A0_2 l0_2.length c0_2, .slice (some ad104) l0_3.length c0_3] 37 (0, 0)) QQ hb) (Y6 QB hb) (hbox) ((by rw [hg]; exact (Y5 QB) : w.heap.size ≤ gb105)) ((by rw [hg]; exact (Y5 QB) : w.heap.size ≤ gb105)) ((by rw [hg]; exact Nat.ne_of_lt (YO (g := gb101) (o := .cells #[.int .i64 a0_0, .string a0_1, .slice A0_2 l0_2.length c0_2, .slice (some ad104) l0_3.length c0_3] 37 (0, 0)) QQ) : gb101 ≠ gb105)) ((by rw [hg]; exact Nat.ne_of_gt (YO (g := gb101) (o := .cells #[.int .i64 a0_0, .string a0_1, .slice A0_2 l0_2.length c0_2, .slice (some ad104) l0_3.length c0_3] 37 (0, 0)) QQ) : gb105 ≠ gb101)); clear BK101 HB; obtain ⟨BK101, HB, BK105, GW105, GE105, NB101_105, NB105_101⟩ := n_; clear hb hbox hg; have hnb37 := NB105_101.out; have hnc37 := NB101_105.out; obtain ⟨hcz38_0, hcz38_1, hcz38_2, hcz38_3, hfz38_0, hfz38_1, hfz38_2, hfz38_3⟩ := Yt BK105.out) | ((with_reducible refine Yh (f := 62) rfl ?_); refine Yy (some 76) rfl rfl Tryd.func62 Z7 rfl #[.agg #[.int .i64 ((Ya l0_3 x69_1).f0), .string ((Ya l0_3 x69_1).f1), .slice A104_2 ((Ya l0_3 x69_1).f2).length c104_2, .slice A104_3 ((Ya l0_3 x69_1).f3).length c104_3], .int .i64 (wrap64 (a1 + 1))] rfl Z0 ?_; (with_reducible refine (ih k1 Z1q ((Ya l0_3 x69_1).f0) ((Ya l0_3 x69_1).f1) _ _ ((Ya l0_3 x69_1).f2) _ _ ((Ya l0_3 x69_1).f3) (wrap64 (a1 + 1)) t106 _ ?side1 ?side2 ?side3 ?side4 ?side5 A30.out).mono ?_); (case side1 => exact Z3); (case side2 => exact Kd.C_below HR104_2.out QB); (case side3 => exact HC104_2.out); (case side4 => exact Kd.C_below HR104_3.out QB); (case side5 => exact HC104_3.out); rintro e w39 ⟨rfl, hb⟩; refine ⟨_, rfl, ?_⟩; have n_ := Y1P (Yi (g := gb101) (o := .cells #[.int .i64 a0_0, .string a0_1, .slice A0_2 l0_2.length c0_2, .slice (some ad104) l0_3.length c0_3] 37 (0, 0)) Zf hb) (Yi (g := gb105) (o := .cells #[.int .i64 ((Ya l0_3 x69_1).f0), .string ((Ya l0_3 x69_1).f1), .slice A104_2 ((Ya l0_3 x69_1).f2).length c104_2, .slice A104_3 ((Ya l0_3 x69_1).f3).length c104_3] 37 (0, 0)) Z1N hb) (Y6 QB hb); clear BK101 BK105 HB; obtain ⟨BK101, BK105, HB⟩ := n_; (try clear hb); (try clear hb2); (try clear hk); (try clear hi)))
              go_roundg k1
              case measure => have := HK1.out; omega
              case rel => exact ⟨(wrap64 (x7_1 + t106)), (wrap64 (x69_1 + 1)), Ze, Ze, H', ⟨Z1q⟩, ⟨Zd⟩, ⟨QB⟩⟩
            ·rw [if_neg c29] at H
             exact ZH
           ·rw [if_neg c28] at H
            exact ZH
          ·rw [if_neg c27] at H
           have c27b0 : decide (x69_1 < (l0_3.length : Int)) = false := decide_eq_false c27
           clear c27
           obtain rfl := Option.some.inj H
           go_wp2
           go_ret
           exact Z1U
      ·rw [if_neg c15] at H
       have c15b0 : (a0_1.toList == ([] : List UInt8)) = false := beq_eq_false_iff_ne.mpr c15
       have c15b1 : (a0_1.toList != ([] : List UInt8)) = true := bne_iff_ne.mpr c15
       (try (have c15c9b0_true : (a0_0 == 1) = true := by have z_ := c9b0; rw [c15b1] at z_; simpa using z_))
       (try (have c15c9b0_false : (a0_0 == 1) = false := by have z_ := c9b0; rw [c15b1] at z_; simpa using z_))
       replace H := Option.bind_eq_some_iff.mp H
       obtain ⟨t107, A400, H⟩ := H
       replace H : (if t107 = true then (some (-1)) else ((Yl.f k l0_2).bind fun t108 => (if t108 = true then (some (-1)) else (Yk.l0 k a1 1 l0_3 (l0_3.length : Int) 0)))) = some r := H
       have A40 := Y0.mk A400
       clear A400
       by_cases c41 : t107 = true
       ·subst c41
        have H1 : (some (-1)) = some r := by rw [if_pos rfl] at H; exact H
        clear H
        have H := H1
        clear H1
        obtain rfl := Option.some.inj H
        go_enter Tryd.func62, Tryd.ntmps62
        try go_wp2_with (first | ((with_reducible refine Ym (N := 2) rfl ?_); (try (refine YL (by rfl) ?_; dsimp only)); refine Yn ?hg (N := 2) ?hd (cs := #[.int .i64 a0_0, .string a0_1, .slice A0_2 l0_2.length c0_2, .slice A0_3 l0_3.length c0_3]) (t := 37) ?hr ?_; (case hd => rfl); (case hg => rfl); (case hr => exact Za); intro gb101 hg w42 hbox hb; have n_ := Y1Z (Y6 QB hb) (hbox) ((by rw [hg]; exact (Y5 QB) : w.heap.size ≤ gb101)) ((by rw [hg]; exact (Y5 QB) : w.heap.size ≤ gb101)); clear HB; obtain ⟨HB, BK101, GW101, GE101⟩ := n_; clear hb hbox hg; obtain ⟨hcz43_0, hcz43_1, hcz43_2, hcz43_3, hfz43_0, hfz43_1, hfz43_2, hfz43_3⟩ := Yt BK101.out))
        have n_ := Y1V (Y8 BK101.out) (YF HB.out)
        clear BK101
        clear HB
        obtain ⟨BK101, HB⟩ := n_
        refine Y1q (n := 40) (S := fun w' => w'.cell? ⟨gb101, 0, none⟩ = some (.int .i64 a0_0) ∧ w'.cell? ⟨gb101, 1, none⟩ = some (.string a0_1) ∧ w'.cell? ⟨gb101, 2, none⟩ = some (.slice A0_2 l0_2.length c0_2) ∧ w'.cell? ⟨gb101, 3, none⟩ = some (.slice A0_3 l0_3.length c0_3)) (ds := []) Y22 Z7 rfl rfl ⟨(Y1 BK101.out 0).trans rfl, (Y1 BK101.out 1).trans rfl, (Y1 BK101.out 2).trans rfl, (Y1 BK101.out 3).trans rfl⟩ (fun hHeld => ?_); refine YT Yk.tab3 Yk.bits3 (fun HT_ HW_ => ?_)
        generalize w42.drew = w44 at BK101 HB hHeld ⊢
        refine pY 0 26 Y23 ?_
        refine pY 1 27 Y24 ?_
        refine pY 2 28 Y25 ?_
        refine pY 3 29 Y26 ?_
        refine pY 6 32 Y1R ?_
        refine pT 4 30 Y1S ?_
        refine pY 5 31 Y1N ?_
        refine pT 7 33 Y1O ?_
        refine Y28 (i := 8) (N := some 34) Y1B rfl rfl (Y1g HT_.out Z7) (by decide) (fun K hK => ?_)
        refine Y1G Tryd.func98 Z7 rfl #[.int .i64 a0_0] (by rfl) rfl rfl Z0 ?_
        with_reducible refine (Yw.calls k a0_0 t102 _ A7.out).mono ?_
        rintro e w' ⟨rfl, ⟨nd, rfl⟩⟩
        refine ⟨_, rfl, ?_⟩
        refine hK.out _ _ ⟨(Y1 BK101.out 0).trans rfl, (Y1 BK101.out 1).trans rfl, (Y1 BK101.out 2).trans rfl, (Y1 BK101.out 3).trans rfl⟩ (fun hHeld => ?_)
        clear hK K
        refine Y1z (a' := ?_) ?_ ?_
        rotate_left
        ·show Act.put _ (some 34) _ = _
         simp only [Act.put, List.setIfInBounds_toArray, List.set_cons_zero, List.set_cons_succ, Y13, Y15]
         rfl
        refine pY 9 35 Y1C ?_
        refine pY 10 36 Y1D ?_
        refine pY 11 37 Y1E ?_
        refine pY 12 38 Y1s ?_
        refine pY 13 39 Y1t ?_
        refine pY 14 40 Y1u ?_
        refine pY 15 41 Y1v ?_
        refine pY 16 42 Y1j ?_
        refine pY 17 43 Y1k ?_
        refine pY 18 44 Y1l ?_
        refine pY 19 45 Y1m ?_
        refine pY 20 46 Y1b ?_
        refine pT 21 47 Y1c ?_
        refine pY 22 48 Y1d ?_
        refine pY 23 49 Y1e ?_
        refine pY 24 50 Y16 ?_
        refine pY 25 51 Y17 ?_
        refine pY 26 52 Y18 ?_
        refine pT 27 53 Y19 ?_
        refine pY 28 54 YY ?_
        refine pY 29 55 YZ ?_
        refine pY 30 56 Y10 ?_
        refine pT 31 57 Y11 ?_
        refine Y28 (i := 32) (N := some 58) YU rfl rfl (Y1g HT_.out Z7) (by decide) (fun K hK => ?_)
        refine Y1G Tryd.func99 Z7 rfl #[.string a0_1] (by rfl) rfl rfl Z0 ?_
        with_reducible refine (Y14.calls a0_1 true _ ?side1 A40.out).mono ?_
        (case side1 => exact Z3)
        rintro e w45 ⟨rfl, hb⟩
        refine ⟨_, rfl, ?_⟩
        have n_ := Y1V (Yi (g := gb101) (o := .cells #[.int .i64 a0_0, .string a0_1, .slice A0_2 l0_2.length c0_2, .slice A0_3 l0_3.length c0_3] 37 (0, 0)) QQ hb) (Y6 QB hb)
        clear BK101
        clear HB
        obtain ⟨BK101, HB⟩ := n_
        (try clear hb)
        (try clear hb2)
        (try clear hk)
        (try clear hi)
        refine hK.out _ _ ⟨(Y1 BK101.out 0).trans rfl, (Y1 BK101.out 1).trans rfl, (Y1 BK101.out 2).trans rfl, (Y1 BK101.out 3).trans rfl⟩ (fun hHeld => ?_)
        clear hK K
        refine Y1z (a' := ?_) ?_ ?_
        rotate_left
        ·show Act.put _ (some 58) _ = _
         simp only [Act.put, List.setIfInBounds_toArray, List.set_cons_zero, List.set_cons_succ, Y13, Y15]
         rfl
        refine pY 33 59 YV ?_
        refine pY 34 60 YW ?_
        refine pY 35 61 YX ?_
        refine pU 36 62 YP ?_
        refine pU 37 63 YQ ?_
        refine pU 38 64 YR ?_
        refine pY 39 65 YS ?_
        refine Y1L (Y1f HT_.out Z7) ?_
        try go_wp2
        go_ret
        exact Z1U
       ·replace c41 := Bool.eq_false_iff.mpr c41
        subst c41
        have H1 : ((Yl.f k l0_2).bind fun t108 => (if t108 = true then (some (-1)) else (Yk.l0 k a1 1 l0_3 (l0_3.length : Int) 0))) = some r := by rw [if_neg (show ¬ (false = true) by decide)] at H; exact H
        clear H
        have H := H1
        clear H1
        replace H := Option.bind_eq_some_iff.mp H
        obtain ⟨t108, A460, H⟩ := H
        replace H : (if t108 = true then (some (-1)) else (Yk.l0 k a1 1 l0_3 (l0_3.length : Int) 0)) = some r := H
        have A46 := Y0.mk A460
        clear A460
        by_cases c47 : t108 = true
        ·subst c47
         have H1 : (some (-1)) = some r := by rw [if_pos rfl] at H; exact H
         clear H
         have H := H1
         clear H1
         obtain rfl := Option.some.inj H
         go_enter Tryd.func62, Tryd.ntmps62
         try go_wp2_with (first | ((with_reducible refine Ym (N := 2) rfl ?_); (try (refine YL (by rfl) ?_; dsimp only)); refine Yn ?hg (N := 2) ?hd (cs := #[.int .i64 a0_0, .string a0_1, .slice A0_2 l0_2.length c0_2, .slice A0_3 l0_3.length c0_3]) (t := 37) ?hr ?_; (case hd => rfl); (case hg => rfl); (case hr => exact Za); intro gb101 hg w48 hbox hb; have n_ := Y1Z (Y6 QB hb) (hbox) ((by rw [hg]; exact (Y5 QB) : w.heap.size ≤ gb101)) ((by rw [hg]; exact (Y5 QB) : w.heap.size ≤ gb101)); clear HB; obtain ⟨HB, BK101, GW101, GE101⟩ := n_; clear hb hbox hg; obtain ⟨hcz49_0, hcz49_1, hcz49_2, hcz49_3, hfz49_0, hfz49_1, hfz49_2, hfz49_3⟩ := Yt BK101.out))
         have n_ := Y1V (Y8 BK101.out) (YF HB.out)
         clear BK101
         clear HB
         obtain ⟨BK101, HB⟩ := n_
         refine Y1q (n := 40) (S := fun w' => w'.cell? ⟨gb101, 0, none⟩ = some (.int .i64 a0_0) ∧ w'.cell? ⟨gb101, 1, none⟩ = some (.string a0_1) ∧ w'.cell? ⟨gb101, 2, none⟩ = some (.slice A0_2 l0_2.length c0_2) ∧ w'.cell? ⟨gb101, 3, none⟩ = some (.slice A0_3 l0_3.length c0_3)) (ds := []) Y22 Z7 rfl rfl ⟨(Y1 BK101.out 0).trans rfl, (Y1 BK101.out 1).trans rfl, (Y1 BK101.out 2).trans rfl, (Y1 BK101.out 3).trans rfl⟩ (fun hHeld => ?_); refine YT Yk.tab3 Yk.bits3 (fun HT_ HW_ => ?_)
         generalize w48.drew = w50 at BK101 HB hHeld ⊢
         refine pY 0 26 Y23 ?_
         refine pY 1 27 Y24 ?_
         refine pY 2 28 Y25 ?_
         refine pY 3 29 Y26 ?_
         refine pY 6 32 Y1R ?_
         refine pT 4 30 Y1S ?_
         refine pY 5 31 Y1N ?_
         refine pT 7 33 Y1O ?_
         refine Y28 (i := 8) (N := some 34) Y1B rfl rfl (Y1g HT_.out Z7) (by decide) (fun K hK => ?_)
         refine Y1G Tryd.func98 Z7 rfl #[.int .i64 a0_0] (by rfl) rfl rfl Z0 ?_
         with_reducible refine (Yw.calls k a0_0 t102 _ A7.out).mono ?_
         rintro e w' ⟨rfl, ⟨nd, rfl⟩⟩
         refine ⟨_, rfl, ?_⟩
         refine hK.out _ _ ⟨(Y1 BK101.out 0).trans rfl, (Y1 BK101.out 1).trans rfl, (Y1 BK101.out 2).trans rfl, (Y1 BK101.out 3).trans rfl⟩ (fun hHeld => ?_)
         clear hK K
         refine Y1z (a' := ?_) ?_ ?_
         rotate_left
         ·show Act.put _ (some 34) _ = _
          simp only [Act.put, List.setIfInBounds_toArray, List.set_cons_zero, List.set_cons_succ, Y13, Y15]
          rfl
         refine pY 9 35 Y1C ?_
         refine pY 10 36 Y1D ?_
         refine pY 11 37 Y1E ?_
         refine pY 12 38 Y1s ?_
         refine pY 13 39 Y1t ?_
         refine pY 14 40 Y1u ?_
         refine pY 15 41 Y1v ?_
         refine pY 16 42 Y1j ?_
         refine pY 17 43 Y1k ?_
         refine pY 18 44 Y1l ?_
         refine pY 19 45 Y1m ?_
         refine pY 20 46 Y1b ?_
         refine pT 21 47 Y1c ?_
         refine pY 22 48 Y1d ?_
         refine pY 23 49 Y1e ?_
         refine pY 24 50 Y16 ?_
         refine pY 25 51 Y17 ?_
         refine pY 26 52 Y18 ?_
         refine pT 27 53 Y19 ?_
         refine pY 28 54 YY ?_
         refine pY 29 55 YZ ?_
         refine pY 30 56 Y10 ?_
         refine pT 31 57 Y11 ?_
         refine Y28 (i := 32) (N := some 58) YU rfl rfl (Y1g HT_.out Z7) (by decide) (fun K hK => ?_)
         refine Y1G Tryd.func99 Z7 rfl #[.string a0_1] (by rfl) rfl rfl Z0 ?_
         with_reducible refine (Y14.calls a0_1 false _ ?side1 A40.out).mono ?_
         (case side1 => exact Z3)
         rintro e w51 ⟨rfl, hb⟩
         refine ⟨_, rfl, ?_⟩
         have n_ := Y1V (Yi (g := gb101) (o := .cells #[.int .i64 a0_0, .string a0_1, .slice A0_2 l0_2.length c0_2, .slice A0_3 l0_3.length c0_3] 37 (0, 0)) QQ hb) (Y6 QB hb)
         clear BK101
         clear HB
         obtain ⟨BK101, HB⟩ := n_
         (try clear hb)
         (try clear hb2)
         (try clear hk)
         (try clear hi)
         refine hK.out _ _ ⟨(Y1 BK101.out 0).trans rfl, (Y1 BK101.out 1).trans rfl, (Y1 BK101.out 2).trans rfl, (Y1 BK101.out 3).trans rfl⟩ (fun hHeld => ?_)
         clear hK K
         refine Y1z (a' := ?_) ?_ ?_
         rotate_left
         ·show Act.put _ (some 58) _ = _
          simp only [Act.put, List.setIfInBounds_toArray, List.set_cons_zero, List.set_cons_succ, Y13, Y15]
          rfl
         refine pY 33 59 YV ?_
         refine pY 34 60 YW ?_
         refine pY 35 61 YX ?_
         refine pY 36 62 YP ?_
         refine pT 37 63 YQ ?_
         refine Y28 (i := 38) (N := some 64) YR rfl rfl (Y1g HT_.out Z7) (by decide) (fun K hK => ?_)
         refine Y1G Tryd.func100 Z7 rfl #[.slice A0_2 l0_2.length c0_2, .func (.func 99) #[] #[]] (by rfl) rfl rfl Z0 ?_
         with_reducible refine (Yl.calls k _ _ l0_2  true _ ?side1 ?side2 ?side3 A46.out).mono ?_
         (case side1 => exact Z3)
         (case side2 => exact Zn)
         (case side3 => exact HC0_2.out)
         rintro e w52 ⟨rfl, hb⟩
         refine ⟨_, rfl, ?_⟩
         have n_ := Y1V (Yi (g := gb101) (o := .cells #[.int .i64 a0_0, .string a0_1, .slice A0_2 l0_2.length c0_2, .slice A0_3 l0_3.length c0_3] 37 (0, 0)) QQ hb) (Y6 QB hb)
         clear BK101
         clear HB
         obtain ⟨BK101, HB⟩ := n_
         (try clear hb)
         (try clear hb2)
         (try clear hk)
         (try clear hi)
         refine hK.out _ _ ⟨(Y1 BK101.out 0).trans rfl, (Y1 BK101.out 1).trans rfl, (Y1 BK101.out 2).trans rfl, (Y1 BK101.out 3).trans rfl⟩ (fun hHeld => ?_)
         clear hK K
         refine Y1z (a' := ?_) ?_ ?_
         rotate_left
         ·show Act.put _ (some 64) _ = _
          simp only [Act.put, List.setIfInBounds_toArray, List.set_cons_zero, List.set_cons_succ, Y13, Y15]
          rfl
         refine pY 39 65 YS ?_
         refine Y1L (Y1f HT_.out Z7) ?_
         try go_wp2
         go_ret
         exact Z1U
        ·replace c47 := Bool.eq_false_iff.mpr c47
         subst c47
         have H1 : (Yk.l0 k a1 1 l0_3 (l0_3.length : Int) 0) = some r := by rw [if_neg (show ¬ (false = true) by decide)] at H; exact H
         clear H
         have H := H1
         clear H1
         have H' := Y0.mk H
         clear H
         go_enter Tryd.func62, Tryd.ntmps62
         try go_wp2_with (first | ((with_reducible refine Ym (N := 2) rfl ?_); (try (refine YL (by rfl) ?_; dsimp only)); refine Yn ?hg (N := 2) ?hd (cs := #[.int .i64 a0_0, .string a0_1, .slice A0_2 l0_2.length c0_2, .slice A0_3 l0_3.length c0_3]) (t := 37) ?hr ?_; (case hd => rfl); (case hg => rfl); (case hr => exact Za); intro gb101 hg w53 hbox hb; have n_ := Y1Z (Y6 QB hb) (hbox) ((by rw [hg]; exact (Y5 QB) : w.heap.size ≤ gb101)) ((by rw [hg]; exact (Y5 QB) : w.heap.size ≤ gb101)); clear HB; obtain ⟨HB, BK101, GW101, GE101⟩ := n_; clear hb hbox hg; obtain ⟨hcz54_0, hcz54_1, hcz54_2, hcz54_3, hfz54_0, hfz54_1, hfz54_2, hfz54_3⟩ := Yt BK101.out))
         have n_ := Y1V (Y8 BK101.out) (YF HB.out)
         clear BK101
         clear HB
         obtain ⟨BK101, HB⟩ := n_
         refine Y1q (n := 40) (S := fun w' => w'.cell? ⟨gb101, 0, none⟩ = some (.int .i64 a0_0) ∧ w'.cell? ⟨gb101, 1, none⟩ = some (.string a0_1) ∧ w'.cell? ⟨gb101, 2, none⟩ = some (.slice A0_2 l0_2.length c0_2) ∧ w'.cell? ⟨gb101, 3, none⟩ = some (.slice A0_3 l0_3.length c0_3)) (ds := []) Y22 Z7 rfl rfl ⟨(Y1 BK101.out 0).trans rfl, (Y1 BK101.out 1).trans rfl, (Y1 BK101.out 2).trans rfl, (Y1 BK101.out 3).trans rfl⟩ (fun hHeld => ?_); refine YT Yk.tab3 Yk.bits3 (fun HT_ HW_ => ?_)
         generalize w53.drew = w55 at BK101 HB hHeld ⊢
         refine pY 0 26 Y23 ?_
         refine pY 1 27 Y24 ?_
         refine pY 2 28 Y25 ?_
         refine pY 3 29 Y26 ?_
         refine pY 6 32 Y1R ?_
         refine pT 4 30 Y1S ?_
         refine pY 5 31 Y1N ?_
         refine pT 7 33 Y1O ?_
         refine Y28 (i := 8) (N := some 34) Y1B rfl rfl (Y1g HT_.out Z7) (by decide) (fun K hK => ?_)
         refine Y1G Tryd.func98 Z7 rfl #[.int .i64 a0_0] (by rfl) rfl rfl Z0 ?_
         with_reducible refine (Yw.calls k a0_0 t102 _ A7.out).mono ?_
         rintro e w' ⟨rfl, ⟨nd, rfl⟩⟩
         refine ⟨_, rfl, ?_⟩
         refine hK.out _ _ ⟨(Y1 BK101.out 0).trans rfl, (Y1 BK101.out 1).trans rfl, (Y1 BK101.out 2).trans rfl, (Y1 BK101.out 3).trans rfl⟩ (fun hHeld => ?_)
         clear hK K
         refine Y1z (a' := ?_) ?_ ?_
         rotate_left
         ·show Act.put _ (some 34) _ = _
          simp only [Act.put, List.setIfInBounds_toArray, List.set_cons_zero, List.set_cons_succ, Y13, Y15]
          rfl
         refine pY 9 35 Y1C ?_
         refine pY 10 36 Y1D ?_
         refine pY 11 37 Y1E ?_
         refine pY 12 38 Y1s ?_
         refine pY 13 39 Y1t ?_
         refine pY 14 40 Y1u ?_
         refine pY 15 41 Y1v ?_
         refine pY 16 42 Y1j ?_
         refine pY 17 43 Y1k ?_
         refine pY 18 44 Y1l ?_
         refine pY 19 45 Y1m ?_
         refine pY 20 46 Y1b ?_
         refine pT 21 47 Y1c ?_
         refine pY 22 48 Y1d ?_
         refine pY 23 49 Y1e ?_
         refine pY 24 50 Y16 ?_
         refine pY 25 51 Y17 ?_
         refine pY 26 52 Y18 ?_
         refine pT 27 53 Y19 ?_
         refine pY 28 54 YY ?_
         refine pY 29 55 YZ ?_
         refine pY 30 56 Y10 ?_
         refine pT 31 57 Y11 ?_
         refine Y28 (i := 32) (N := some 58) YU rfl rfl (Y1g HT_.out Z7) (by decide) (fun K hK => ?_)
         refine Y1G Tryd.func99 Z7 rfl #[.string a0_1] (by rfl) rfl rfl Z0 ?_
         with_reducible refine (Y14.calls a0_1 false _ ?side1 A40.out).mono ?_
         (case side1 => exact Z3)
         rintro e w56 ⟨rfl, hb⟩
         refine ⟨_, rfl, ?_⟩
         have n_ := Y1V (Yi (g := gb101) (o := .cells #[.int .i64 a0_0, .string a0_1, .slice A0_2 l0_2.length c0_2, .slice A0_3 l0_3.length c0_3] 37 (0, 0)) QQ hb) (Y6 QB hb)
         clear BK101
         clear HB
         obtain ⟨BK101, HB⟩ := n_
         (try clear hb)
         (try clear hb2)
         (try clear hk)
         (try clear hi)
         refine hK.out _ _ ⟨(Y1 BK101.out 0).trans rfl, (Y1 BK101.out 1).trans rfl, (Y1 BK101.out 2).trans rfl, (Y1 BK101.out 3).trans rfl⟩ (fun hHeld => ?_)
         clear hK K
         refine Y1z (a' := ?_) ?_ ?_
         rotate_left
         ·show Act.put _ (some 58) _ = _
          simp only [Act.put, List.setIfInBounds_toArray, List.set_cons_zero, List.set_cons_succ, Y13, Y15]
          rfl
         refine pY 33 59 YV ?_
         refine pY 34 60 YW ?_
         refine pY 35 61 YX ?_
         refine pY 36 62 YP ?_
         refine pT 37 63 YQ ?_
         refine Y28 (i := 38) (N := some 64) YR rfl rfl (Y1g HT_.out Z7) (by decide) (fun K hK => ?_)
         refine Y1G Tryd.func100 Z7 rfl #[.slice A0_2 l0_2.length c0_2, .func (.func 99) #[] #[]] (by rfl) rfl rfl Z0 ?_
         with_reducible refine (Yl.calls k _ _ l0_2  false _ ?side1 ?side2 ?side3 A46.out).mono ?_
         (case side1 => exact Z3)
         (case side2 => exact Zn)
         (case side3 => exact HC0_2.out)
         rintro e w57 ⟨rfl, hb⟩
         refine ⟨_, rfl, ?_⟩
         have n_ := Y1V (Yi (g := gb101) (o := .cells #[.int .i64 a0_0, .string a0_1, .slice A0_2 l0_2.length c0_2, .slice A0_3 l0_3.length c0_3] 37 (0, 0)) QQ hb) (Y6 QB hb)
         clear BK101
         clear HB
         obtain ⟨BK101, HB⟩ := n_
         (try clear hb)
         (try clear hb2)
         (try clear hk)
         (try clear hi)
         refine hK.out _ _ ⟨(Y1 BK101.out 0).trans rfl, (Y1 BK101.out 1).trans rfl, (Y1 BK101.out 2).trans rfl, (Y1 BK101.out 3).trans rfl⟩ (fun hHeld => ?_)
         clear hK K
         refine Y1z (a' := ?_) ?_ ?_
         rotate_left
         ·show Act.put _ (some 64) _ = _
          simp only [Act.put, List.setIfInBounds_toArray, List.set_cons_zero, List.set_cons_succ, Y13, Y15]
          rfl
         refine pY 39 65 YS ?_
         refine Y1L (Y1f HT_.out Z7) ?_
         obtain ⟨hcz58_0, hcz58_1, hcz58_2, hcz58_3, hfz58_0, hfz58_1, hfz58_2, hfz58_3⟩ := Yt BK101.out
         try go_wp2
         go_loopg [7, 69] k (fun kq v7 v69 w' => ∃ (x7_1 : Int) (x69_1 : Int), v7 = .int .i64 x7_1 ∧ v69 = .int .i64 x69_1 ∧ Y0 (Yk.l0 kq a1 x7_1 l0_3 (l0_3.length : Int) x69_1 = some r) ∧ Y0 (kq ≤ k) ∧ Y0 (w'.heap[gb101]? = some (.cells #[.int .i64 a0_0, .string a0_1, (.slice A0_2 l0_2.length c0_2), (.slice A0_3 l0_3.length c0_3)] 37 (0, 0))) ∧ Y0 (Below w.heap.size w w'))
         case atStart => exact ⟨(1), (0), Ze, Ze, H', ⟨Nat.le_refl _⟩, ⟨Zd⟩, ⟨QB⟩⟩
         case round =>
          clear H'
          try clear c1
          try clear p2
          try clear c4
          try clear c6
          try clear c9
          try clear c10
          try clear c47
          try clear hcz54_0 hcz54_1 hcz54_2 hcz54_3
          try clear hcz58_0 hcz58_1 hcz58_2 hcz58_3
          try clear hfz54_0
          try clear hfz54_1
          try clear hfz54_2
          try clear hfz54_3
          try clear hfz58_0
          try clear hfz58_1
          try clear hfz58_2
          try clear hfz58_3
          obtain ⟨x7_1, x69_1, rfl, rfl, HA, HK1, BK101, HB⟩ := hrel
          cases gk with
          | zero => exact absurd HA.out (by simp [Yk.l0])
          | succ k1 =>
           have H := HA.out
           clear HA
           simp only [Yk.l0] at H
           by_cases c59 : x69_1 < (l0_3.length : Int)
           ·rw [if_pos c59] at H
            have c59b0 : decide (x69_1 < (l0_3.length : Int)) = true := decide_eq_true c59
            clear c59
            by_cases c60 : 0 ≤ x69_1
            ·rw [if_pos c60] at H
             have c60b0 : decide (0 ≤ x69_1) = true := decide_eq_true c60
             clear c60
             by_cases c61 : x69_1 < (l0_3.length : Int)
             ·rw [if_pos c61] at H
              have c61b0 : decide (x69_1 < (l0_3.length : Int)) = true := decide_eq_true c61
              clear c61
              replace H := Option.bind_eq_some_iff.mp H
              obtain ⟨t106, A620, H⟩ := H
              replace H : (if t106 < 0 then (some (-1)) else (Yk.l0 k1 a1 (wrap64 (x7_1 + t106)) l0_3 (l0_3.length : Int) (wrap64 (x69_1 + 1)))) = some r := H
              have A62 := Y0.mk A620
              clear A620
              by_cases c63 : t106 < 0
              ·rw [if_pos c63] at H
               have c63b0 : decide (t106 < 0) = true := decide_eq_true c63
               clear c63
               obtain rfl := Option.some.inj H
               have p104 : 0 ≤ (x69_1 : Int) := of_decide_eq_true Z8
               have q104 : x69_1 < (l0_3.length : Int) := of_decide_eq_true Z8
               obtain ⟨ad104, A104_2, c104_2, A104_3, c104_3, e104, hx104_0, hx104_1, hx104_2, hx104_3, hl104_2, hi104_2, hl104_3, hi104_3⟩ := Y1I HR0_3.out x69_1 p104 q104
               cases e104
               replace hx104_0 := YM HB.out hx104_0
               replace hx104_1 := YM HB.out hx104_1
               replace hx104_2 := YM HB.out hx104_2
               replace hx104_3 := YM HB.out hx104_3
               have HR104_2 := Y0.mk hi104_2
               have HC104_2 := Y0.mk hl104_2
               clear hi104_2 hl104_2
               have HR104_3 := Y0.mk hi104_3
               have HC104_3 := Y0.mk hl104_3
               clear hi104_3 hl104_3
               replace p104 := eq_true p104
               replace q104 := eq_true q104
               go_wp2_with (first | ((with_reducible refine Ym (N := 9) rfl ?_); (try (refine YL (by rfl) ?_; dsimp only)); refine Yn ?hg (N := 9) ?hd (cs := #[.int .i64 0, .string (⟨#[]⟩ : ByteArray), .slice none 0 0, .slice none 0 0]) (t := 37) ?hr ?_; (case hd => rfl); (case hg => rfl); (case hr => exact Za); intro gb105 hg w64 hbox hb; have n_ := put7 (Yi (g := gb101) (o := .cells #[.int .i64 a0_0, .string a0_1, .slice A0_2 l0_2.length c0_2, .slice (some ad104) l0_3.length c0_3] 37 (0, 0)) QQ hb) (Y6 QB hb) (hbox) ((by rw [hg]; exact (Y5 QB) : w.heap.size ≤ gb105)) ((by rw [hg]; exact (Y5 QB) : w.heap.size ≤ gb105)) ((by rw [hg]; exact Nat.ne_of_lt (YO (g := gb101) (o := .cells #[.int .i64 a0_0, .string a0_1, .slice A0_2 l0_2.length c0_2, .slice (some ad104) l0_3.length c0_3] 37 (0, 0)) QQ) : gb101 ≠ gb105)) ((by rw [hg]; exact Nat.ne_of_gt (YO (g := gb101) (o := .cells #[.int .i64 a0_0, .string a0_1, .slice A0_2 l0_2.length c0_2, .slice (some ad104) l0_3.length c0_3] 37 (0, 0)) QQ) : gb105 ≠ gb101)); clear BK101 HB; obtain ⟨BK101, HB, BK105, GW105, GE105, NB101_105, NB105_101⟩ := n_; clear hb hbox hg; have hnb65 := NB105_101.out; have hnc65 := NB101_105.out; obtain ⟨hcz66_0, hcz66_1, hcz66_2, hcz66_3, hfz66_0, hfz66_1, hfz66_2, hfz66_3⟩ := Yt BK105.out) | ((with_reducible refine Yh (f := 62) rfl ?_); refine Yy (some 76) rfl rfl Tryd.func62 Z7 rfl #[.agg #[.int .i64 ((Ya l0_3 x69_1).f0), .string ((Ya l0_3 x69_1).f1), .slice A104_2 ((Ya l0_3 x69_1).f2).length c104_2, .slice A104_3 ((Ya l0_3 x69_1).f3).length c104_3], .int .i64 (wrap64 (a1 + 1))] rfl Z0 ?_; (with_reducible refine (ih k1 Z1q ((Ya l0_3 x69_1).f0) ((Ya l0_3 x69_1).f1) _ _ ((Ya l0_3 x69_1).f2) _ _ ((Ya l0_3 x69_1).f3) (wrap64 (a1 + 1)) t106 _ ?side1 ?side2 ?side3 ?side4 ?side5 A62.out).mono ?_); (case side1 => exact Z3); (case side2 => exact Kd.C_below HR104_2.out QB); (case side3 => exact HC104_2.out); (case side4 => exact Kd.C_below HR104_3.out QB); (case side5 => exact HC104_3.out); rintro e w67 ⟨rfl, hb⟩; refine ⟨_, rfl, ?_⟩; have n_ := Y1P (Yi (g := gb101) (o := .cells #[.int .i64 a0_0, .string a0_1, .slice A0_2 l0_2.length c0_2, .slice (some ad104) l0_3.length c0_3] 37 (0, 0)) Zf hb) (Yi (g := gb105) (o := .cells #[.int .i64 ((Ya l0_3 x69_1).f0), .string ((Ya l0_3 x69_1).f1), .slice A104_2 ((Ya l0_3 x69_1).f2).length c104_2, .slice A104_3 ((Ya l0_3 x69_1).f3).length c104_3] 37 (0, 0)) Z1N hb) (Y6 QB hb); clear BK101 BK105 HB; obtain ⟨BK101, BK105, HB⟩ := n_; (try clear hb); (try clear hb2); (try clear hk); (try clear hi)))
               go_ret
               exact Z1U
              ·rw [if_neg c63] at H
               have c63b0 : decide (t106 < 0) = false := decide_eq_false c63
               clear c63
               have H' := Y0.mk H
               clear H
               have p104 : 0 ≤ (x69_1 : Int) := of_decide_eq_true Z8
               have q104 : x69_1 < (l0_3.length : Int) := of_decide_eq_true Z8
               obtain ⟨ad104, A104_2, c104_2, A104_3, c104_3, e104, hx104_0, hx104_1, hx104_2, hx104_3, hl104_2, hi104_2, hl104_3, hi104_3⟩ := Y1I HR0_3.out x69_1 p104 q104
               cases e104
               replace hx104_0 := YM HB.out hx104_0
               replace hx104_1 := YM HB.out hx104_1
               replace hx104_2 := YM HB.out hx104_2
               replace hx104_3 := YM HB.out hx104_3
               have HR104_2 := Y0.mk hi104_2
               have HC104_2 := Y0.mk hl104_2
               clear hi104_2 hl104_2
               have HR104_3 := Y0.mk hi104_3
               have HC104_3 := Y0.mk hl104_3
               clear hi104_3 hl104_3
               replace p104 := eq_true p104
               replace q104 := eq_true q104
               go_wp2_with (first | ((with_reducible refine Ym (N := 9) rfl ?_); (try (refine YL (by rfl) ?_; dsimp only)); refine Yn ?hg (N := 9) ?hd (cs := #[.int .i64 0, .string (⟨#[]⟩ : ByteArray), .slice none 0 0, .slice none 0 0]) (t := 37) ?hr ?_; (case hd => rfl); (case hg => rfl); (case hr => exact Za); intro gb105 hg w68 hbox hb; have n_ := put7 (Yi (g := gb101) (o := .cells #[.int .i64 a0_0, .string a0_1, .slice A0_2 l0_2.length c0_2, .slice (some ad104) l0_3.length c0_3] 37 (0, 0)) QQ hb) (Y6 QB hb) (hbox) ((by rw [hg]; exact (Y5 QB) : w.heap.size ≤ gb105)) ((by rw [hg]; exact (Y5 QB) : w.heap.size ≤ gb105)) ((by rw [hg]; exact Nat.ne_of_lt (YO (g := gb101) (o := .cells #[.int .i64 a0_0, .string a0_1, .slice A0_2 l0_2.length c0_2, .slice (some ad104) l0_3.length c0_3] 37 (0, 0)) QQ) : gb101 ≠ gb105)) ((by rw [hg]; exact Nat.ne_of_gt (YO (g := gb101) (o := .cells #[.int .i64 a0_0, .string a0_1, .slice A0_2 l0_2.length c0_2, .slice (some ad104) l0_3.length c0_3] 37 (0, 0)) QQ) : gb105 ≠ gb101)); clear BK101 HB; obtain ⟨BK101, HB, BK105, GW105, GE105, NB101_105, NB105_101⟩ := n_; clear hb hbox hg; have hnb69 := NB105_101.out; have hnc69 := NB101_105.out; obtain ⟨hcz70_0, hcz70_1, hcz70_2, hcz70_3, hfz70_0, hfz70_1, hfz70_2, hfz70_3⟩ := Yt BK105.out) | ((with_reducible refine Yh (f := 62) rfl ?_); refine Yy (some 76) rfl rfl Tryd.func62 Z7 rfl #[.agg #[.int .i64 ((Ya l0_3 x69_1).f0), .string ((Ya l0_3 x69_1).f1), .slice A104_2 ((Ya l0_3 x69_1).f2).length c104_2, .slice A104_3 ((Ya l0_3 x69_1).f3).length c104_3], .int .i64 (wrap64 (a1 + 1))] rfl Z0 ?_; (with_reducible refine (ih k1 Z1q ((Ya l0_3 x69_1).f0) ((Ya l0_3 x69_1).f1) _ _ ((Ya l0_3 x69_1).f2) _ _ ((Ya l0_3 x69_1).f3) (wrap64 (a1 + 1)) t106 _ ?side1 ?side2 ?side3 ?side4 ?side5 A62.out).mono ?_); (case side1 => exact Z3); (case side2 => exact Kd.C_below HR104_2.out QB); (case side3 => exact HC104_2.out); (case side4 => exact Kd.C_below HR104_3.out QB); (case side5 => exact HC104_3.out); rintro e w71 ⟨rfl, hb⟩; refine ⟨_, rfl, ?_⟩; have n_ := Y1P (Yi (g := gb101) (o := .cells #[.int .i64 a0_0, .string a0_1, .slice A0_2 l0_2.length c0_2, .slice (some ad104) l0_3.length c0_3] 37 (0, 0)) Zf hb) (Yi (g := gb105) (o := .cells #[.int .i64 ((Ya l0_3 x69_1).f0), .string ((Ya l0_3 x69_1).f1), .slice A104_2 ((Ya l0_3 x69_1).f2).length c104_2, .slice A104_3 ((Ya l0_3 x69_1).f3).length c104_3] 37 (0, 0)) Z1N hb) (Y6 QB hb); clear BK101 BK105 HB; obtain ⟨BK101, BK105, HB⟩ := n_; (try clear hb); (try clear hb2); (try clear hk); (try clear hi)))
               go_roundg k1
               case measure => have := HK1.out; omega
               case rel => exact ⟨(wrap64 (x7_1 + t106)), (wrap64 (x69_1 + 1)), Ze, Ze, H', ⟨Z1q⟩, ⟨Zd⟩, ⟨QB⟩⟩
             ·rw [if_neg c61] at H
              exact ZH
            ·rw [if_neg c60] at H
             exact ZH
           ·rw [if_neg c59] at H
            have c59b0 : decide (x69_1 < (l0_3.length : Int)) = false := decide_eq_false c59
            clear c59
            obtain rfl := Option.some.inj H
            go_wp2
            go_ret
            exact Z1U
    ·rw [if_neg c10] at H
     have c10b0 : ((a0_0 == 8) == (decide ((l0_2.length : Int) > 0))) = false := by simpa using c10
     (try (have c10b1 : ((a0_0 == 8) == decide (0 < l0_2.length)) = false := by first | simpa using c10 | simpa [show ∀ l_ : List UInt8, (l_ != ([] : List UInt8)) = !l_.isEmpty from fun l_ => by cases l_ <;> rfl, show ∀ l_ : List UInt8, (l_ == ([] : List UInt8)) = l_.isEmpty from fun l_ => by cases l_ <;> rfl] using c10))
     (try (have c10b2 : (((a0_0 = 8) = (decide ((l0_2.length : Int) > 0)))) = False := eq_false (by simpa using c10)))
     (try (have c10b3 : decide ((a0_0 == 8) = (decide ((l0_2.length : Int) > 0))) = false := by simpa using c10))
     (try (have c10b4 : ((a0_0 == 8) == (decide ((l0_2.length : Int) > 0))) = false := by simpa using c10))
     (try (have c10b5 : ¬ ((a0_0 == 8) = (decide ((l0_2.length : Int) > 0))) := by simpa using c10))
     clear c10
     obtain rfl := Option.some.inj H
     go_enter Tryd.func62, Tryd.ntmps62
     try go_wp2_with (first | ((with_reducible refine Ym (N := 2) rfl ?_); (try (refine YL (by rfl) ?_; dsimp only)); refine Yn ?hg (N := 2) ?hd (cs := #[.int .i64 a0_0, .string a0_1, .slice A0_2 l0_2.length c0_2, .slice A0_3 l0_3.length c0_3]) (t := 37) ?hr ?_; (case hd => rfl); (case hg => rfl); (case hr => exact Za); intro gb101 hg w72 hbox hb; have n_ := Y1Z (Y6 QB hb) (hbox) ((by rw [hg]; exact (Y5 QB) : w.heap.size ≤ gb101)) ((by rw [hg]; exact (Y5 QB) : w.heap.size ≤ gb101)); clear HB; obtain ⟨HB, BK101, GW101, GE101⟩ := n_; clear hb hbox hg; obtain ⟨hcz73_0, hcz73_1, hcz73_2, hcz73_3, hfz73_0, hfz73_1, hfz73_2, hfz73_3⟩ := Yt BK101.out))
     have n_ := Y1V (Y8 BK101.out) (YF HB.out)
     clear BK101
     clear HB
     obtain ⟨BK101, HB⟩ := n_
     refine Y1q (n := 40) (S := fun w' => w'.cell? ⟨gb101, 0, none⟩ = some (.int .i64 a0_0) ∧ w'.cell? ⟨gb101, 1, none⟩ = some (.string a0_1) ∧ w'.cell? ⟨gb101, 2, none⟩ = some (.slice A0_2 l0_2.length c0_2) ∧ w'.cell? ⟨gb101, 3, none⟩ = some (.slice A0_3 l0_3.length c0_3)) (ds := []) Y22 Z7 rfl rfl ⟨(Y1 BK101.out 0).trans rfl, (Y1 BK101.out 1).trans rfl, (Y1 BK101.out 2).trans rfl, (Y1 BK101.out 3).trans rfl⟩ (fun hHeld => ?_); refine YT Yk.tab3 Yk.bits3 (fun HT_ HW_ => ?_)
     generalize w72.drew = w74 at BK101 HB hHeld ⊢
     refine pY 0 26 Y23 ?_
     refine pY 1 27 Y24 ?_
     refine pY 2 28 Y25 ?_
     refine pY 3 29 Y26 ?_
     refine pY 6 32 Y1R ?_
     refine pT 4 30 Y1S ?_
     refine pY 5 31 Y1N ?_
     refine pT 7 33 Y1O ?_
     refine Y28 (i := 8) (N := some 34) Y1B rfl rfl (Y1g HT_.out Z7) (by decide) (fun K hK => ?_)
     refine Y1G Tryd.func98 Z7 rfl #[.int .i64 a0_0] (by rfl) rfl rfl Z0 ?_
     with_reducible refine (Yw.calls k a0_0 t102 _ A7.out).mono ?_
     rintro e w' ⟨rfl, ⟨nd, rfl⟩⟩
     refine ⟨_, rfl, ?_⟩
     refine hK.out _ _ ⟨(Y1 BK101.out 0).trans rfl, (Y1 BK101.out 1).trans rfl, (Y1 BK101.out 2).trans rfl, (Y1 BK101.out 3).trans rfl⟩ (fun hHeld => ?_)
     clear hK K
     refine Y1z (a' := ?_) ?_ ?_
     rotate_left
     ·show Act.put _ (some 34) _ = _
      simp only [Act.put, List.setIfInBounds_toArray, List.set_cons_zero, List.set_cons_succ, Y13, Y15]
      rfl
     refine pY 9 35 Y1C ?_
     refine pY 10 36 Y1D ?_
     refine pY 11 37 Y1E ?_
     refine pY 12 38 Y1s ?_
     refine pY 13 39 Y1t ?_
     refine pY 14 40 Y1u ?_
     refine pY 15 41 Y1v ?_
     refine pY 16 42 Y1j ?_
     refine pY 17 43 Y1k ?_
     refine pY 18 44 Y1l ?_
     refine pY 19 45 Y1m ?_
     refine pU 20 46 Y1b ?_
     refine pU 21 47 Y1c ?_
     refine pU 22 48 Y1d ?_
     refine pU 23 49 Y1e ?_
     refine pY 24 50 Y16 ?_
     refine pY 25 51 Y17 ?_
     refine pU 26 52 Y18 ?_
     refine pU 27 53 Y19 ?_
     refine pU 28 54 YY ?_
     refine pU 29 55 YZ ?_
     refine pU 30 56 Y10 ?_
     refine pU 31 57 Y11 ?_
     refine pU 32 58 YU ?_
     refine pU 33 59 YV ?_
     refine pY 34 60 YW ?_
     refine pY 35 61 YX ?_
     refine pU 36 62 YP ?_
     refine pU 37 63 YQ ?_
     refine pU 38 64 YR ?_
     refine pY 39 65 YS ?_
     refine Y1L (Y1f HT_.out Z7) ?_
     try go_wp2
     go_ret
     exact Z1U
   ·rw [if_neg c9] at H
    have c9b0 : ((a0_0 == 1) == (a0_1.toList != ([] : List UInt8))) = false := by simpa using c9
    (try (have c9b1 : ((a0_0 == 1) == !a0_1.toList.isEmpty) = false := by first | simpa using c9 | simpa [show ∀ l_ : List UInt8, (l_ != ([] : List UInt8)) = !l_.isEmpty from fun l_ => by cases l_ <;> rfl, show ∀ l_ : List UInt8, (l_ == ([] : List UInt8)) = l_.isEmpty from fun l_ => by cases l_ <;> rfl] using c9))
    (try (have c9b2 : (((a0_0 = 1) = (a0_1.toList != ([] : List UInt8)))) = False := eq_false (by simpa using c9)))
    (try (have c9b3 : decide ((a0_0 == 1) = (a0_1.toList != ([] : List UInt8))) = false := by simpa using c9))
    (try (have c9b4 : ((a0_0 == 1) == (a0_1.toList != ([] : List UInt8))) = false := by simpa using c9))
    (try (have c9b5 : ¬ ((a0_0 == 1) = (a0_1.toList != ([] : List UInt8))) := by simpa using c9))
    clear c9
    obtain rfl := Option.some.inj H
    go_enter Tryd.func62, Tryd.ntmps62
    try go_wp2_with (first | ((with_reducible refine Ym (N := 2) rfl ?_); (try (refine YL (by rfl) ?_; dsimp only)); refine Yn ?hg (N := 2) ?hd (cs := #[.int .i64 a0_0, .string a0_1, .slice A0_2 l0_2.length c0_2, .slice A0_3 l0_3.length c0_3]) (t := 37) ?hr ?_; (case hd => rfl); (case hg => rfl); (case hr => exact Za); intro gb101 hg w75 hbox hb; have n_ := Y1Z (Y6 QB hb) (hbox) ((by rw [hg]; exact (Y5 QB) : w.heap.size ≤ gb101)) ((by rw [hg]; exact (Y5 QB) : w.heap.size ≤ gb101)); clear HB; obtain ⟨HB, BK101, GW101, GE101⟩ := n_; clear hb hbox hg; obtain ⟨hcz76_0, hcz76_1, hcz76_2, hcz76_3, hfz76_0, hfz76_1, hfz76_2, hfz76_3⟩ := Yt BK101.out))
    have n_ := Y1V (Y8 BK101.out) (YF HB.out)
    clear BK101
    clear HB
    obtain ⟨BK101, HB⟩ := n_
    refine Y1q (n := 40) (S := fun w' => w'.cell? ⟨gb101, 0, none⟩ = some (.int .i64 a0_0) ∧ w'.cell? ⟨gb101, 1, none⟩ = some (.string a0_1) ∧ w'.cell? ⟨gb101, 2, none⟩ = some (.slice A0_2 l0_2.length c0_2) ∧ w'.cell? ⟨gb101, 3, none⟩ = some (.slice A0_3 l0_3.length c0_3)) (ds := []) Y22 Z7 rfl rfl ⟨(Y1 BK101.out 0).trans rfl, (Y1 BK101.out 1).trans rfl, (Y1 BK101.out 2).trans rfl, (Y1 BK101.out 3).trans rfl⟩ (fun hHeld => ?_); refine YT Yk.tab3 Yk.bits3 (fun HT_ HW_ => ?_)
    generalize w75.drew = w77 at BK101 HB hHeld ⊢
    refine pY 0 26 Y23 ?_
    refine pY 1 27 Y24 ?_
    refine pY 2 28 Y25 ?_
    refine pY 3 29 Y26 ?_
    refine pY 6 32 Y1R ?_
    refine pT 4 30 Y1S ?_
    refine pY 5 31 Y1N ?_
    refine pT 7 33 Y1O ?_
    refine Y28 (i := 8) (N := some 34) Y1B rfl rfl (Y1g HT_.out Z7) (by decide) (fun K hK => ?_)
    refine Y1G Tryd.func98 Z7 rfl #[.int .i64 a0_0] (by rfl) rfl rfl Z0 ?_
    with_reducible refine (Yw.calls k a0_0 t102 _ A7.out).mono ?_
    rintro e w' ⟨rfl, ⟨nd, rfl⟩⟩
    refine ⟨_, rfl, ?_⟩
    refine hK.out _ _ ⟨(Y1 BK101.out 0).trans rfl, (Y1 BK101.out 1).trans rfl, (Y1 BK101.out 2).trans rfl, (Y1 BK101.out 3).trans rfl⟩ (fun hHeld => ?_)
    clear hK K
    refine Y1z (a' := ?_) ?_ ?_
    rotate_left
    ·show Act.put _ (some 34) _ = _
     simp only [Act.put, List.setIfInBounds_toArray, List.set_cons_zero, List.set_cons_succ, Y13, Y15]
     rfl
    refine pY 9 35 Y1C ?_
    refine pY 10 36 Y1D ?_
    refine pY 11 37 Y1E ?_
    refine pY 12 38 Y1s ?_
    refine pY 13 39 Y1t ?_
    refine pY 14 40 Y1u ?_
    refine pY 15 41 Y1v ?_
    refine pU 16 42 Y1j ?_
    refine pU 17 43 Y1k ?_
    refine pY 18 44 Y1l ?_
    refine pY 19 45 Y1m ?_
    refine pU 20 46 Y1b ?_
    refine pU 21 47 Y1c ?_
    refine pU 22 48 Y1d ?_
    refine pU 23 49 Y1e ?_
    refine pY 24 50 Y16 ?_
    refine pY 25 51 Y17 ?_
    refine pU 26 52 Y18 ?_
    refine pU 27 53 Y19 ?_
    refine pU 28 54 YY ?_
    refine pU 29 55 YZ ?_
    refine pU 30 56 Y10 ?_
    refine pU 31 57 Y11 ?_
    refine pU 32 58 YU ?_
    refine pU 33 59 YV ?_
    refine pY 34 60 YW ?_
    refine pY 35 61 YX ?_
    refine pU 36 62 YP ?_
    refine pU 37 63 YQ ?_
    refine pU 38 64 YR ?_
    refine pY 39 65 YS ?_
    refine Y1L (Y1f HT_.out Z7) ?_
    try go_wp2
    go_ret
    exact Z1U
  ·rw [if_neg c8] at H
   have c8b0 : ((l0_3.length : Int) == t102) = false := beq_eq_false_iff_ne.mpr c8
   have c8b1 : ((l0_3.length : Int) != t102) = true := bne_iff_ne.mpr c8
   obtain rfl := Option.some.inj H
   go_enter Tryd.func62, Tryd.ntmps62
   try go_wp2_with (first | ((with_reducible refine Ym (N := 2) rfl ?_); (try (refine YL (by rfl) ?_; dsimp only)); refine Yn ?hg (N := 2) ?hd (cs := #[.int .i64 a0_0, .string a0_1, .slice A0_2 l0_2.length c0_2, .slice A0_3 l0_3.length c0_3]) (t := 37) ?hr ?_; (case hd => rfl); (case hg => rfl); (case hr => exact Za); intro gb101 hg w78 hbox hb; have n_ := Y1Z (Y6 QB hb) (hbox) ((by rw [hg]; exact (Y5 QB) : w.heap.size ≤ gb101)) ((by rw [hg]; exact (Y5 QB) : w.heap.size ≤ gb101)); clear HB; obtain ⟨HB, BK101, GW101, GE101⟩ := n_; clear hb hbox hg; obtain ⟨hcz79_0, hcz79_1, hcz79_2, hcz79_3, hfz79_0, hfz79_1, hfz79_2, hfz79_3⟩ := Yt BK101.out))
   have n_ := Y1V (Y8 BK101.out) (YF HB.out)
   clear BK101
   clear HB
   obtain ⟨BK101, HB⟩ := n_
   refine Y1q (n := 40) (S := fun w' => w'.cell? ⟨gb101, 0, none⟩ = some (.int .i64 a0_0) ∧ w'.cell? ⟨gb101, 1, none⟩ = some (.string a0_1) ∧ w'.cell? ⟨gb101, 2, none⟩ = some (.slice A0_2 l0_2.length c0_2) ∧ w'.cell? ⟨gb101, 3, none⟩ = some (.slice A0_3 l0_3.length c0_3)) (ds := []) Y22 Z7 rfl rfl ⟨(Y1 BK101.out 0).trans rfl, (Y1 BK101.out 1).trans rfl, (Y1 BK101.out 2).trans rfl, (Y1 BK101.out 3).trans rfl⟩ (fun hHeld => ?_); refine YT Yk.tab3 Yk.bits3 (fun HT_ HW_ => ?_)
   generalize w78.drew = w80 at BK101 HB hHeld ⊢
   refine pY 0 26 Y23 ?_
   refine pY 1 27 Y24 ?_
   refine pY 2 28 Y25 ?_
   refine pY 3 29 Y26 ?_
   refine pY 6 32 Y1R ?_
   refine pT 4 30 Y1S ?_
   refine pY 5 31 Y1N ?_
   refine pT 7 33 Y1O ?_
   refine Y28 (i := 8) (N := some 34) Y1B rfl rfl (Y1g HT_.out Z7) (by decide) (fun K hK => ?_)
   refine Y1G Tryd.func98 Z7 rfl #[.int .i64 a0_0] (by rfl) rfl rfl Z0 ?_
   with_reducible refine (Yw.calls k a0_0 t102 _ A7.out).mono ?_
   rintro e w' ⟨rfl, ⟨nd, rfl⟩⟩
   refine ⟨_, rfl, ?_⟩
   refine hK.out _ _ ⟨(Y1 BK101.out 0).trans rfl, (Y1 BK101.out 1).trans rfl, (Y1 BK101.out 2).trans rfl, (Y1 BK101.out 3).trans rfl⟩ (fun hHeld => ?_)
   clear hK K
   refine Y1z (a' := ?_) ?_ ?_
   rotate_left
   ·show Act.put _ (some 34) _ = _
    simp only [Act.put, List.setIfInBounds_toArray, List.set_cons_zero, List.set_cons_succ, Y13, Y15]
    rfl
   refine pY 9 35 Y1C ?_
   refine pY 10 36 Y1D ?_
   refine pY 11 37 Y1E ?_
   refine pU 12 38 Y1s ?_
   refine pU 13 39 Y1t ?_
   refine pY 14 40 Y1u ?_
   refine pY 15 41 Y1v ?_
   refine pU 16 42 Y1j ?_
   refine pU 17 43 Y1k ?_
   refine pY 18 44 Y1l ?_
   refine pY 19 45 Y1m ?_
   refine pU 20 46 Y1b ?_
   refine pU 21 47 Y1c ?_
   refine pU 22 48 Y1d ?_
   refine pU 23 49 Y1e ?_
   refine pY 24 50 Y16 ?_
   refine pY 25 51 Y17 ?_
   refine pU 26 52 Y18 ?_
   refine pU 27 53 Y19 ?_
   refine pU 28 54 YY ?_
   refine pU 29 55 YZ ?_
   refine pU 30 56 Y10 ?_
   refine pU 31 57 Y11 ?_
   refine pU 32 58 YU ?_
   refine pU 33 59 YV ?_
   refine pY 34 60 YW ?_
   refine pY 35 61 YX ?_
   refine pU 36 62 YP ?_
   refine pU 37 63 YQ ?_
   refine pU 38 64 YR ?_
   refine pY 39 65 YS ?_
   refine Y1L (Y1f HT_.out Z7) ?_
   try go_wp2
   go_ret
   exact Z1U
def Y1p.f (k : Nat) (a0_0 : Int) (a0_1 : ByteArray) (l0_2 : List ByteArray) (l0_3 : List (S37)) : Option (Bool) := (Yk.f k a0_0 a0_1 l0_2 l0_3 0).bind fun t102 => (if t102 > 0 then (some (decide (t102 ≤ 30))) else (some false))
set_option maxHeartbeats 8000000 in
set_option maxRecDepth 100000 in
theorem Y1p.calls (k : Nat) (a0_0 : Int) (a0_1 : ByteArray) (A0_2 : Option Addr) (c0_2 : Nat) (l0_2 : List ByteArray) (A0_3 : Option Addr) (c0_3 : Nat) (l0_3 : List (S37)) (r : Bool) (w : World) (hT : Tabs w) (hr0_2 : Kd.C Kd.string w A0_2 l0_2.length l0_2) (hc0_2 : l0_2.length ≤ c0_2) (hr0_3 : Kd.C k37 w A0_3 l0_3.length l0_3) (hc0_3 : l0_3.length ≤ c0_3) (h : Y1p.f k a0_0 a0_1 l0_2 l0_3 = some r) :
  Calls Tryd.prog 31 #[.agg #[.int .i64 a0_0, .string a0_1, .slice A0_2 l0_2.length c0_2, .slice A0_3 l0_3.length c0_3]] w fun e w' => e = .returned (.bool r) ∧ Below w.heap.size w w' := by
 have HT := Y0.mk hT
 clear hT
 have hu37 := Tryd.underlying37
 have HR0_2 := Y0.mk hr0_2
 have HC0_2 := Y0.mk hc0_2
 clear hr0_2 hc0_2
 have HR0_3 := Y0.mk hr0_3
 have HC0_3 := Y0.mk hc0_3
 clear hr0_3 hc0_3
 have HB := Y0.mk (Below.refl w.heap.size w)
 have H : ((Yk.f k a0_0 a0_1 l0_2 l0_3 0).bind fun t102 => (if t102 > 0 then (some (decide (t102 ≤ 30))) else (some false))) = some r := h
 clear h
 replace H := Option.bind_eq_some_iff.mp H
 obtain ⟨t102, A20, H⟩ := H
 replace H : (if t102 > 0 then (some (decide (t102 ≤ 30))) else (some false)) = some r := H
 have A2 := Y0.mk A20
 clear A20
 by_cases c3 : t102 > 0
 ·rw [if_pos c3] at H
  have c3b0 : decide (0 < t102) = true := decide_eq_true c3
  clear c3
  obtain rfl := Option.some.inj H
  go_enter Tryd.func31, Tryd.ntmps31
  go_wp2_with (first | ((with_reducible refine Ym (N := 1) rfl ?_); refine Yn ?hg (N := 1) ?hd (cs := #[.int .i64 a0_0, .string a0_1, .slice A0_2 l0_2.length c0_2, .slice A0_3 l0_3.length c0_3]) (t := 37) ?hr ?_; (case hd => rfl); (case hg => rfl); (case hr => exact Za); intro gb101 hg w4 hbox hb; have n_ := Y1Z (Y6 QB hb) (hbox) ((by rw [hg]; exact (Y5 QB) : w.heap.size ≤ gb101)) ((by rw [hg]; exact (Y5 QB) : w.heap.size ≤ gb101)); clear HB; obtain ⟨HB, BK101, GW101, GE101⟩ := n_; clear hb hbox hg; obtain ⟨hcz5_0, hcz5_1, hcz5_2, hcz5_3, hfz5_0, hfz5_1, hfz5_2, hfz5_3⟩ := Yt BK101.out) | ((with_reducible refine Yh (f := 62) rfl ?_); refine Yy (some 5) rfl rfl Tryd.func62 Z7 rfl #[.agg #[.int .i64 a0_0, .string a0_1, .slice A0_2 l0_2.length c0_2, .slice A0_3 l0_3.length c0_3], .int .i64 0] rfl Z0 ?_; (with_reducible refine (Yk.calls k a0_0 a0_1 _ _ l0_2 _ _ l0_3 0 t102 _ ?side1 ?side2 ?side3 ?side4 ?side5 A2.out).mono ?_); (case side1 => exact Z3); (case side2 => exact Zn); (case side3 => exact HC0_2.out); (case side4 => exact Z12); (case side5 => exact HC0_3.out); rintro e w6 ⟨rfl, hb⟩; refine ⟨_, rfl, ?_⟩; have n_ := Y1V (Yi (g := gb101) (o := .cells #[.int .i64 a0_0, .string a0_1, .slice A0_2 l0_2.length c0_2, .slice A0_3 l0_3.length c0_3] 37 (0, 0)) QQ hb) (Y6 QB hb); clear BK101 HB; obtain ⟨BK101, HB⟩ := n_; (try clear hb); (try clear hb2); (try clear hk); (try clear hi)))
  go_ret
  exact Z1U
 ·rw [if_neg c3] at H
  have c3b0 : decide (0 < t102) = false := decide_eq_false c3
  clear c3
  obtain rfl := Option.some.inj H
  go_enter Tryd.func31, Tryd.ntmps31
  go_wp2_with (first | ((with_reducible refine Ym (N := 1) rfl ?_); refine Yn ?hg (N := 1) ?hd (cs := #[.int .i64 a0_0, .string a0_1, .slice A0_2 l0_2.length c0_2, .slice A0_3 l0_3.length c0_3]) (t := 37) ?hr ?_; (case hd => rfl); (case hg => rfl); (case hr => exact Za); intro gb101 hg w7 hbox hb; have n_ := Y1Z (Y6 QB hb) (hbox) ((by rw [hg]; exact (Y5 QB) : w.heap.size ≤ gb101)) ((by rw [hg]; exact (Y5 QB) : w.heap.size ≤ gb101)); clear HB; obtain ⟨HB, BK101, GW101, GE101⟩ := n_; clear hb hbox hg; obtain ⟨hcz8_0, hcz8_1, hcz8_2, hcz8_3, hfz8_0, hfz8_1, hfz8_2, hfz8_3⟩ := Yt BK101.out) | ((with_reducible refine Yh (f := 62) rfl ?_); refine Yy (some 5) rfl rfl Tryd.func62 Z7 rfl #[.agg #[.int .i64 a0_0, .string a0_1, .slice A0_2 l0_2.length c0_2, .slice A0_3 l0_3.length c0_3], .int .i64 0] rfl Z0 ?_; (with_reducible refine (Yk.calls k a0_0 a0_1 _ _ l0_2 _ _ l0_3 0 t102 _ ?side1 ?side2 ?side3 ?side4 ?side5 A2.out).mono ?_); (case side1 => exact Z3); (case side2 => exact Zn); (case side3 => exact HC0_2.out); (case side4 => exact Z12); (case side5 => exact HC0_3.out); rintro e w9 ⟨rfl, hb⟩; refine ⟨_, rfl, ?_⟩; have n_ := Y1V (Yi (g := gb101) (o := .cells #[.int .i64 a0_0, .string a0_1, .slice A0_2 l0_2.length c0_2, .slice A0_3 l0_3.length c0_3] 37 (0, 0)) QQ hb) (Y6 QB hb); clear BK101 HB; obtain ⟨BK101, HB⟩ := n_; (try clear hb); (try clear hb2); (try clear hk); (try clear hi)))
  go_ret
  exact Z1U
def YG.f (k : Nat)  : Option (Bool) := (Yr.f k (⟨#[60, 97, 62, 47, 60, 98, 62, 124, 60, 99, 62, 42]⟩ : ByteArray)).bind fun bt101 => (if bt101.2.2.2.2.2 = 0 then (if bt101.2.2.2.2.1 = 12 then (if bt101.1 = 4 then ((Ys.f k bt101.1 bt101.2.1 bt101.2.2.1 bt101.2.2.2.1).bind fun t112 => (if t112.toList = ([40, 60, 97, 62, 47, 60, 98, 62, 41, 124, 40, 60, 99, 62, 42, 41] : List UInt8) then ((Y1p.f k bt101.1 bt101.2.1 bt101.2.2.1 bt101.2.2.2.1).bind fun t113 => (some t113)) else (some false))) else (some false)) else (some false)) else (some false))
set_option maxHeartbeats 8000000 in
set_option maxRecDepth 100000 in
theorem YG.calls (k : Nat)  (r : Bool) (w : World) (hT : Tabs w) (h : YG.f k  = some r) :
  Calls Tryd.prog 27 #[] w fun e w' => e = .returned (.bool r) ∧ Below w.heap.size w w' := by
 have HT := Y0.mk hT
 clear hT
 have hu37 := Tryd.underlying37
 have HB := Y0.mk (Below.refl w.heap.size w)
 have H : ((Yr.f k (⟨#[60, 97, 62, 47, 60, 98, 62, 124, 60, 99, 62, 42]⟩ : ByteArray)).bind fun bt101 => (if bt101.2.2.2.2.2 = 0 then (if bt101.2.2.2.2.1 = 12 then (if bt101.1 = 4 then ((Ys.f k bt101.1 bt101.2.1 bt101.2.2.1 bt101.2.2.2.1).bind fun t112 => (if t112.toList = ([40, 60, 97, 62, 47, 60, 98, 62, 41, 124, 40, 60, 99, 62, 42, 41] : List UInt8) then ((Y1p.f k bt101.1 bt101.2.1 bt101.2.2.1 bt101.2.2.2.1).bind fun t113 => (some t113)) else (some false))) else (some false)) else (some false)) else (some false))) = some r := h
 clear h
 replace H := Option.bind_eq_some_iff.mp H
 obtain ⟨⟨t101, t102, t103, t106, t109, t110⟩, A10, H⟩ := H
 replace H : (if t110 = 0 then (if t109 = 12 then (if t101 = 4 then ((Ys.f k t101 t102 t103 t106).bind fun t112 => (if t112.toList = ([40, 60, 97, 62, 47, 60, 98, 62, 41, 124, 40, 60, 99, 62, 42, 41] : List UInt8) then ((Y1p.f k t101 t102 t103 t106).bind fun t113 => (some t113)) else (some false))) else (some false)) else (some false)) else (some false)) = some r := H
 have A1 := Y0.mk A10
 clear A10
 by_cases c2 : t110 = 0
 ·rw [if_pos c2] at H
  have c2b0 : (t110 == 0) = true := beq_iff_eq.mpr c2
  have c2b1 : (t110 != 0) = false := bne_eq_false_iff_eq.mpr c2
  clear c2
  by_cases c3 : t109 = 12
  ·rw [if_pos c3] at H
   have c3b0 : (t109 == 12) = true := beq_iff_eq.mpr c3
   have c3b1 : (t109 != 12) = false := bne_eq_false_iff_eq.mpr c3
   clear c3
   by_cases c4 : t101 = 4
   ·rw [if_pos c4] at H
    have c4b0 : (t101 == 4) = true := beq_iff_eq.mpr c4
    have c4b1 : (t101 != 4) = false := bne_eq_false_iff_eq.mpr c4
    clear c4
    replace H := Option.bind_eq_some_iff.mp H
    obtain ⟨t112, A50, H⟩ := H
    replace H : (if t112.toList = ([40, 60, 97, 62, 47, 60, 98, 62, 41, 124, 40, 60, 99, 62, 42, 41] : List UInt8) then ((Y1p.f k t101 t102 t103 t106).bind fun t113 => (some t113)) else (some false)) = some r := H
    have A5 := Y0.mk A50
    clear A50
    by_cases c6 : t112.toList = ([40, 60, 97, 62, 47, 60, 98, 62, 41, 124, 40, 60, 99, 62, 42, 41] : List UInt8)
    ·rw [if_pos c6] at H
     have c6b0 : (t112.toList == ([40, 60, 97, 62, 47, 60, 98, 62, 41, 124, 40, 60, 99, 62, 42, 41] : List UInt8)) = true := beq_iff_eq.mpr c6
     have c6b1 : (t112.toList != ([40, 60, 97, 62, 47, 60, 98, 62, 41, 124, 40, 60, 99, 62, 42, 41] : List UInt8)) = false := bne_eq_false_iff_eq.mpr c6
     clear c6
     replace H := Option.bind_eq_some_iff.mp H
     obtain ⟨t113, A70, H⟩ := H
     replace H : (some t113) = some r := H
     have A7 := Y0.mk A70
     clear A70
     obtain rfl := Option.some.inj H
     go_enter Tryd.func27, Tryd.ntmps27
     go_wp2_with (first | ((with_reducible refine Yh (f := 25) rfl ?_); refine Yy (some 5) rfl rfl Tryd.func25 Z7 rfl #[.string (⟨#[60, 97, 62, 47, 60, 98, 62, 124, 60, 99, 62, 42]⟩ : ByteArray)] rfl Z0 ?_; (with_reducible refine (Yr.calls k (⟨#[60, 97, 62, 47, 60, 98, 62, 124, 60, 99, 62, 42]⟩ : ByteArray) t101 t102 t103 t106 t109 t110 _ ?side1 A1.out).mono ?_); (case side1 => exact ZE); rintro e w8 ⟨v104, v107, rfl, ho0, ho1, hb⟩; refine ⟨_, rfl, ?_⟩; have n_ := Y1P (Kd.R_lower (Kd.R_mono (ok' := fun k_ => True) ho0 (fun _ hk_ => trivial)) (Y5 QB)) (Kd.N_lower (Kd.N_mono (ok' := fun k_ => some k_ ≠ (v104 : Value).ownBlock) ho1 (fun k_ hk_ => hk_.2)) (Y5 QB)) (Y6 QB hb); clear HB; obtain ⟨HO105, HO108, HB⟩ := n_; (try clear hb); (try clear hb2); (try clear hk); (try clear hi); (try clear ho0); (try clear ho1)) | ((with_reducible refine Ym (N := 1) rfl ?_); refine Yn ?hg (N := 1) ?hd (cs := #[.int .i64 0, .string (⟨#[]⟩ : ByteArray), .slice none 0 0, .slice none 0 0]) (t := 37) ?hr ?_; (case hd => rfl); (case hg => rfl); (case hr => exact Za); intro gb111 hg w9 hbox hb; have n_ := Y2T (Kd.R_below ZO hb) (Kd.N_below (Kd.N_elderB ZN gb111 (Nat.le_of_eq hg.symm)) hb) (Y6 QB hb) (hbox) ((by rw [hg]; exact (Y5 QB) : w.heap.size ≤ gb111)) ((by rw [hg]; exact (Y5 QB) : w.heap.size ≤ gb111)); clear HO105 HO108 HB; obtain ⟨HO105, HO108, HB, BK111, GW111, GE111⟩ := n_; clear hb hbox hg; obtain ⟨hcz10_0, hcz10_1, hcz10_2, hcz10_3, hfz10_0, hfz10_1, hfz10_2, hfz10_3⟩ := Yt BK111.out; obtain ⟨Ao11, co11, eo11⟩ := Kd.R_slice HO105.out; subst eo11; obtain ⟨Ao12, co12, eo12⟩ := Kd.N_slice HO108.out; subst eo12) | (go_at_call 24; (with_reducible refine (Ys.calls k t101 t102 _ _ t103 _ _ t106 t112 _ ?side1 ?side2 ?side3 ?side4 A5.out).mono ?_); (case side1 => refine (Kd.R_reads' (e := 9) (base := w.heap.size) (ok := fun k_ => True) (n := t103.length) (c := co11) ?_).2.2; exact Z13); (case side2 => exact (Kd.R_reads' HO105.out).2.1); (case side3 => refine (Kd.N_reads' (e := 37) (base := w.heap.size) (ok := fun k_ => (some k_ ≠ (.slice Ao11 t103.length co11 : Value).ownBlock ∧ k_ ≠ gb111)) (n := t106.length) (c := co12) ?_).2.2; exact ZQ); (case side4 => exact (Kd.N_reads' HO108.out).2.1); rintro e w13 ⟨rfl, hb⟩; have n0_ := Y0.mk (Kd.R_below Z13 hb); have n1_ := Y0.mk (Kd.N_below ZQ hb); have n2_ := Y0.mk (Yi (g := gb111) (o := .cells #[.int .i64 t101, .string t102, .slice Ao11 t103.length co11, .slice Ao12 t106.length co12] 37 (0, 0)) (by (with_reducible repeat (first | refine Y9 ?_ _ | refine Y8 ?_ | refine Y7 ?_ _)); exact Yo (cs := #[.int .i64 t101, .string t102, .slice Ao11 t103.length co11, .slice none 0 0]) Z1S 3 _ rfl) hb); have n3_ := Y0.mk (Y6 QB hb); clear HO105 HO108 BK111 HB; have HO105 := n0_; have HO108 := n1_; have BK111 := n2_; have HB := n3_; clear n0_ n1_ n2_ n3_; (try clear hb); (try clear hb2); (try clear hk); (try clear hi); obtain ⟨hcz14_0, hcz14_1, hcz14_2, hcz14_3, hfz14_0, hfz14_1, hfz14_2, hfz14_3⟩ := Yt BK111.out) | (go_at_call 31; (with_reducible refine (Y1p.calls k t101 t102 _ _ t103 _ _ t106 t113 _ ?side1 ?side2 ?side3 ?side4 ?side5 A7.out).mono ?_); (case side1 => exact Z3); (case side2 => repeat (first | exact (Kd.R_reads' HO105.out).2.2 | (with_reducible refine Kd.C_alloc ?_ _) | (with_reducible refine Kd.C_drewN ?_ _) | (with_reducible refine Kd.C_drew ?_))); (case side3 => exact (Kd.R_reads' HO105.out).2.1); (case side4 => repeat (first | exact (Kd.N_reads' HO108.out).2.2 | (with_reducible refine Kd.C_alloc ?_ _) | (with_reducible refine Kd.C_drewN ?_ _) | (with_reducible refine Kd.C_drew ?_))); (case side5 => exact (Kd.N_reads' HO108.out).2.1); rintro e w15 ⟨rfl, hb⟩; have n_ := Y1Z (Kd.R_below ZO hb) (Kd.N_below ZN hb) (Yi (g := gb111) (o := .cells #[.int .i64 t101, .string t102, .slice Ao11 t103.length co11, .slice Ao12 t106.length co12] 37 (0, 0)) QQ hb) (Y6 QB hb); clear HO105 HO108 BK111 HB; obtain ⟨HO105, HO108, BK111, HB⟩ := n_; (try clear hb); (try clear hb2); (try clear hk); (try clear hi)))
     go_ret
     exact Z1U
    ·rw [if_neg c6] at H
     have c6b0 : (t112.toList == ([40, 60, 97, 62, 47, 60, 98, 62, 41, 124, 40, 60, 99, 62, 42, 41] : List UInt8)) = false := beq_eq_false_iff_ne.mpr c6
     have c6b1 : (t112.toList != ([40, 60, 97, 62, 47, 60, 98, 62, 41, 124, 40, 60, 99, 62, 42, 41] : List UInt8)) = true := bne_iff_ne.mpr c6
     obtain rfl := Option.some.inj H
     go_enter Tryd.func27, Tryd.ntmps27
     go_wp2_with (first | ((with_reducible refine Yh (f := 25) rfl ?_); refine Yy (some 5) rfl rfl Tryd.func25 Z7 rfl #[.string (⟨#[60, 97, 62, 47, 60, 98, 62, 124, 60, 99, 62, 42]⟩ : ByteArray)] rfl Z0 ?_; (with_reducible refine (Yr.calls k (⟨#[60, 97, 62, 47, 60, 98, 62, 124, 60, 99, 62, 42]⟩ : ByteArray) t101 t102 t103 t106 t109 t110 _ ?side1 A1.out).mono ?_); (case side1 => exact ZE); rintro e w16 ⟨v104, v107, rfl, ho0, ho1, hb⟩; refine ⟨_, rfl, ?_⟩; have n_ := Y1P (Kd.R_lower (Kd.R_mono (ok' := fun k_ => True) ho0 (fun _ hk_ => trivial)) (Y5 QB)) (Kd.N_lower (Kd.N_mono (ok' := fun k_ => some k_ ≠ (v104 : Value).ownBlock) ho1 (fun k_ hk_ => hk_.2)) (Y5 QB)) (Y6 QB hb); clear HB; obtain ⟨HO105, HO108, HB⟩ := n_; (try clear hb); (try clear hb2); (try clear hk); (try clear hi); (try clear ho0); (try clear ho1)) | ((with_reducible refine Ym (N := 1) rfl ?_); refine Yn ?hg (N := 1) ?hd (cs := #[.int .i64 0, .string (⟨#[]⟩ : ByteArray), .slice none 0 0, .slice none 0 0]) (t := 37) ?hr ?_; (case hd => rfl); (case hg => rfl); (case hr => exact Za); intro gb111 hg w17 hbox hb; have n_ := Y2T (Kd.R_below ZO hb) (Kd.N_below (Kd.N_elderB ZN gb111 (Nat.le_of_eq hg.symm)) hb) (Y6 QB hb) (hbox) ((by rw [hg]; exact (Y5 QB) : w.heap.size ≤ gb111)) ((by rw [hg]; exact (Y5 QB) : w.heap.size ≤ gb111)); clear HO105 HO108 HB; obtain ⟨HO105, HO108, HB, BK111, GW111, GE111⟩ := n_; clear hb hbox hg; obtain ⟨hcz18_0, hcz18_1, hcz18_2, hcz18_3, hfz18_0, hfz18_1, hfz18_2, hfz18_3⟩ := Yt BK111.out; obtain ⟨Ao19, co19, eo19⟩ := Kd.R_slice HO105.out; subst eo19; obtain ⟨Ao20, co20, eo20⟩ := Kd.N_slice HO108.out; subst eo20) | (go_at_call 24; (with_reducible refine (Ys.calls k t101 t102 _ _ t103 _ _ t106 t112 _ ?side1 ?side2 ?side3 ?side4 A5.out).mono ?_); (case side1 => refine (Kd.R_reads' (e := 9) (base := w.heap.size) (ok := fun k_ => True) (n := t103.length) (c := co19) ?_).2.2; exact Z14); (case side2 => exact (Kd.R_reads' HO105.out).2.1); (case side3 => refine (Kd.N_reads' (e := 37) (base := w.heap.size) (ok := fun k_ => (some k_ ≠ (.slice Ao19 t103.length co19 : Value).ownBlock ∧ k_ ≠ gb111)) (n := t106.length) (c := co20) ?_).2.2; exact ZR); (case side4 => exact (Kd.N_reads' HO108.out).2.1); rintro e w21 ⟨rfl, hb⟩; have n0_ := Y0.mk (Kd.R_below Z14 hb); have n1_ := Y0.mk (Kd.N_below ZR hb); have n2_ := Y0.mk (Yi (g := gb111) (o := .cells #[.int .i64 t101, .string t102, .slice Ao19 t103.length co19, .slice Ao20 t106.length co20] 37 (0, 0)) (by (with_reducible repeat (first | refine Y9 ?_ _ | refine Y8 ?_ | refine Y7 ?_ _)); exact Yo (cs := #[.int .i64 t101, .string t102, .slice Ao19 t103.length co19, .slice none 0 0]) Z1S 3 _ rfl) hb); have n3_ := Y0.mk (Y6 QB hb); clear HO105 HO108 BK111 HB; have HO105 := n0_; have HO108 := n1_; have BK111 := n2_; have HB := n3_; clear n0_ n1_ n2_ n3_; (try clear hb); (try clear hb2); (try clear hk); (try clear hi)))
     go_ret
     exact Z1U
   ·rw [if_neg c4] at H
    have c4b0 : (t101 == 4) = false := beq_eq_false_iff_ne.mpr c4
    have c4b1 : (t101 != 4) = true := bne_iff_ne.mpr c4
    obtain rfl := Option.some.inj H
    go_enter Tryd.func27, Tryd.ntmps27
    go_wp2_with (first | ((with_reducible refine Yh (f := 25) rfl ?_); refine Yy (some 5) rfl rfl Tryd.func25 Z7 rfl #[.string (⟨#[60, 97, 62, 47, 60, 98, 62, 124, 60, 99, 62, 42]⟩ : ByteArray)] rfl Z0 ?_; (with_reducible refine (Yr.calls k (⟨#[60, 97, 62, 47, 60, 98, 62, 124, 60, 99, 62, 42]⟩ : ByteArray) t101 t102 t103 t106 t109 t110 _ ?side1 A1.out).mono ?_); (case side1 => exact ZE); rintro e w22 ⟨v104, v107, rfl, ho0, ho1, hb⟩; refine ⟨_, rfl, ?_⟩; have n_ := Y1P (Kd.R_lower (Kd.R_mono (ok' := fun k_ => True) ho0 (fun _ hk_ => trivial)) (Y5 QB)) (Kd.N_lower (Kd.N_mono (ok' := fun k_ => some k_ ≠ (v104 : Value).ownBlock) ho1 (fun k_ hk_ => hk_.2)) (Y5 QB)) (Y6 QB hb); clear HB; obtain ⟨HO105, HO108, HB⟩ := n_; (try clear hb); (try clear hb2); (try clear hk); (try clear hi); (try clear ho0); (try clear ho1)) | ((with_reducible refine Ym (N := 1) rfl ?_); refine Yn ?hg (N := 1) ?hd (cs := #[.int .i64 0, .string (⟨#[]⟩ : ByteArray), .slice none 0 0, .slice none 0 0]) (t := 37) ?hr ?_; (case hd => rfl); (case hg => rfl); (case hr => exact Za); intro gb111 hg w23 hbox hb; have n_ := Y2T (Kd.R_below ZO hb) (Kd.N_below (Kd.N_elderB ZN gb111 (Nat.le_of_eq hg.symm)) hb) (Y6 QB hb) (hbox) ((by rw [hg]; exact (Y5 QB) : w.heap.size ≤ gb111)) ((by rw [hg]; exact (Y5 QB) : w.heap.size ≤ gb111)); clear HO105 HO108 HB; obtain ⟨HO105, HO108, HB, BK111, GW111, GE111⟩ := n_; clear hb hbox hg; obtain ⟨hcz24_0, hcz24_1, hcz24_2, hcz24_3, hfz24_0, hfz24_1, hfz24_2, hfz24_3⟩ := Yt BK111.out; obtain ⟨Ao25, co25, eo25⟩ := Kd.R_slice HO105.out; subst eo25; obtain ⟨Ao26, co26, eo26⟩ := Kd.N_slice HO108.out; subst eo26))
    go_ret
    exact Z1U
  ·rw [if_neg c3] at H
   have c3b0 : (t109 == 12) = false := beq_eq_false_iff_ne.mpr c3
   have c3b1 : (t109 != 12) = true := bne_iff_ne.mpr c3
   obtain rfl := Option.some.inj H
   go_enter Tryd.func27, Tryd.ntmps27
   go_wp2_with (first | ((with_reducible refine Yh (f := 25) rfl ?_); refine Yy (some 5) rfl rfl Tryd.func25 Z7 rfl #[.string (⟨#[60, 97, 62, 47, 60, 98, 62, 124, 60, 99, 62, 42]⟩ : ByteArray)] rfl Z0 ?_; (with_reducible refine (Yr.calls k (⟨#[60, 97, 62, 47, 60, 98, 62, 124, 60, 99, 62, 42]⟩ : ByteArray) t101 t102 t103 t106 t109 t110 _ ?side1 A1.out).mono ?_); (case side1 => exact ZE); rintro e w27 ⟨v104, v107, rfl, ho0, ho1, hb⟩; refine ⟨_, rfl, ?_⟩; have n_ := Y1P (Kd.R_lower (Kd.R_mono (ok' := fun k_ => True) ho0 (fun _ hk_ => trivial)) (Y5 QB)) (Kd.N_lower (Kd.N_mono (ok' := fun k_ => some k_ ≠ (v104 : Value).ownBlock) ho1 (fun k_ hk_ => hk_.2)) (Y5 QB)) (Y6 QB hb); clear HB; obtain ⟨HO105, HO108, HB⟩ := n_; (try clear hb); (try clear hb2); (try clear hk); (try clear hi); (try clear ho0); (try clear ho1)) | ((with_reducible refine Ym (N := 1) rfl ?_); refine Yn ?hg (N := 1) ?hd (cs := #[.int .i64 0, .string (⟨#[]⟩ : ByteArray), .slice none 0 0, .slice none 0 0]) (t := 37) ?hr ?_; (case hd => rfl); (case hg => rfl); (case hr => exact Za); intro gb111 hg w28 hbox hb; have n_ := Y2T (Kd.R_below ZO hb) (Kd.N_below (Kd.N_elderB ZN gb111 (Nat.le_of_eq hg.symm)) hb) (Y6 QB hb) (hbox) ((by rw [hg]; exact (Y5 QB) : w.heap.size ≤ gb111)) ((by rw [hg]; exact (Y5 QB) : w.heap.size ≤ gb111)); clear HO105 HO108 HB; obtain ⟨HO105, HO108, HB, BK111, GW111, GE111⟩ := n_; clear hb hbox hg; obtain ⟨hcz29_0, hcz29_1, hcz29_2, hcz29_3, hfz29_0, hfz29_1, hfz29_2, hfz29_3⟩ := Yt BK111.out; obtain ⟨Ao30, co30, eo30⟩ := Kd.R_slice HO105.out; subst eo30; obtain ⟨Ao31, co31, eo31⟩ := Kd.N_slice HO108.out; subst eo31))
   go_ret
   exact Z1U
 ·rw [if_neg c2] at H
  have c2b0 : (t110 == 0) = false := beq_eq_false_iff_ne.mpr c2
  have c2b1 : (t110 != 0) = true := bne_iff_ne.mpr c2
  obtain rfl := Option.some.inj H
  go_enter Tryd.func27, Tryd.ntmps27
  go_wp2_with (first | ((with_reducible refine Yh (f := 25) rfl ?_); refine Yy (some 5) rfl rfl Tryd.func25 Z7 rfl #[.string (⟨#[60, 97, 62, 47, 60, 98, 62, 124, 60, 99, 62, 42]⟩ : ByteArray)] rfl Z0 ?_; (with_reducible refine (Yr.calls k (⟨#[60, 97, 62, 47, 60, 98, 62, 124, 60, 99, 62, 42]⟩ : ByteArray) t101 t102 t103 t106 t109 t110 _ ?side1 A1.out).mono ?_); (case side1 => exact ZE); rintro e w32 ⟨v104, v107, rfl, ho0, ho1, hb⟩; refine ⟨_, rfl, ?_⟩; have n_ := Y1P (Kd.R_lower (Kd.R_mono (ok' := fun k_ => True) ho0 (fun _ hk_ => trivial)) (Y5 QB)) (Kd.N_lower (Kd.N_mono (ok' := fun k_ => some k_ ≠ (v104 : Value).ownBlock) ho1 (fun k_ hk_ => hk_.2)) (Y5 QB)) (Y6 QB hb); clear HB; obtain ⟨HO105, HO108, HB⟩ := n_; (try clear hb); (try clear hb2); (try clear hk); (try clear hi); (try clear ho0); (try clear ho1)) | ((with_reducible refine Ym (N := 1) rfl ?_); refine Yn ?hg (N := 1) ?hd (cs := #[.int .i64 0, .string (⟨#[]⟩ : ByteArray), .slice none 0 0, .slice none 0 0]) (t := 37) ?hr ?_; (case hd => rfl); (case hg => rfl); (case hr => exact Za); intro gb111 hg w33 hbox hb; have n_ := Y2T (Kd.R_below ZO hb) (Kd.N_below (Kd.N_elderB ZN gb111 (Nat.le_of_eq hg.symm)) hb) (Y6 QB hb) (hbox) ((by rw [hg]; exact (Y5 QB) : w.heap.size ≤ gb111)) ((by rw [hg]; exact (Y5 QB) : w.heap.size ≤ gb111)); clear HO105 HO108 HB; obtain ⟨HO105, HO108, HB, BK111, GW111, GE111⟩ := n_; clear hb hbox hg; obtain ⟨hcz34_0, hcz34_1, hcz34_2, hcz34_3, hfz34_0, hfz34_1, hfz34_2, hfz34_3⟩ := Yt BK111.out; obtain ⟨Ao35, co35, eo35⟩ := Kd.R_slice HO105.out; subst eo35; obtain ⟨Ao36, co36, eo36⟩ := Kd.N_slice HO108.out; subst eo36))
  go_ret
  exact Z1U
mutual
def Y2.j0 : Nat → Bool → Int → ByteArray → List ByteArray → List (S37) → Int → ByteArray → List ByteArray → List (S37) → Option (Bool)
 | 0, _, _, _, _, _, _, _, _, _ => none
 | k + 1, x36, x102000, x102001, x102002, x102003, x103000, x103001, x103002, x103003 => if x36 = true then (some false) else (Y2.l0 k 0 x102000 x102001 x102002 x102003 x103000 x103001 x103002 x103003)
def Y2.l0 : Nat → Int → Int → ByteArray → List ByteArray → List (S37) → Int → ByteArray → List ByteArray → List (S37) → Option (Bool)
 | 0, _, _, _, _, _, _, _, _, _ => none
 | k + 1, x5, x102000, x102001, x102002, x102003, x103000, x103001, x103002, x103003 => if x5 < (x102002.length : Int) then (if 0 ≤ x5 then (if x5 < (x103002.length : Int) then (if (Y1x ByteArray.empty x102002 x5).toList = (Y1x ByteArray.empty x103002 x5).toList then (Y2.l0 k (wrap64 (x5 + 1)) x102000 x102001 x102002 x102003 x103000 x103001 x103002 x103003) else (some false)) else (none)) else (none)) else (Y2.l1 k 0 x102000 x102001 x102002 x102003 x103000 x103001 x103002 x103003)
def Y2.l1 : Nat → Int → Int → ByteArray → List ByteArray → List (S37) → Int → ByteArray → List ByteArray → List (S37) → Option (Bool)
 | 0, _, _, _, _, _, _, _, _, _ => none
 | k + 1, x6, x102000, x102001, x102002, x102003, x103000, x103001, x103002, x103003 => if x6 < (x102003.length : Int) then (if 0 ≤ x6 then (if x6 < (x103003.length : Int) then ((Y2.f k ((Ya x102003 x6).f0) ((Ya x102003 x6).f1) ((Ya x102003 x6).f2) ((Ya x102003 x6).f3) ((Ya x103003 x6).f0) ((Ya x103003 x6).f1) ((Ya x103003 x6).f2) ((Ya x103003 x6).f3)).bind fun t107 => (if t107 = true then (Y2.l1 k (wrap64 (x6 + 1)) x102000 x102001 x102002 x102003 x103000 x103001 x103002 x103003) else (some false))) else (none)) else (none)) else (some true)
def Y2.f : Nat → Int → ByteArray → List ByteArray → List (S37) → Int → ByteArray → List ByteArray → List (S37) → Option (Bool)
 | 0, _, _, _, _, _, _, _, _ => none
 | k + 1, a0_0, a0_1, l0_2, l0_3, a1_0, a1_1, l1_2, l1_3 => if a0_0 = a1_0 then (if a0_1.toList = a1_1.toList then (if (l0_2.length : Int) = (l1_2.length : Int) then (Y2.j0 k ((l0_3.length : Int) != (l1_3.length : Int)) a0_0 a0_1 l0_2 l0_3 a1_0 a1_1 l1_2 l1_3) else (Y2.j0 k true a0_0 a0_1 l0_2 l0_3 a1_0 a1_1 l1_2 l1_3)) else (Y2.j0 k true a0_0 a0_1 l0_2 l0_3 a1_0 a1_1 l1_2 l1_3)) else (Y2.j0 k true a0_0 a0_1 l0_2 l0_3 a1_0 a1_1 l1_2 l1_3)
end
def Y2.T6 : Bool × List (List Nat × List Nat) := (true, [([], []), ([0], [0]), ([], []), ([1, 2], [1, 2]), ([3], [3]), ([], []), ([5], [5]), ([], []), ([6, 7], [6, 7]), ([8], [8]), ([4, 9], [4, 9])])
def Y2.B6 : List Nat := [0, 1, 0, 7, 15, 0, 32, 0, 224, 480, 1023]
theorem Y2.tab6 : Y2g .any (Y39 Tryd.f28 6) = Y2.T6 := by kernel_rfl
theorem Y2.bits6 : Y1H Y2.T6.2 Y2.B6 = true := by kernel_rfl
def Y2.T11 : Bool × List (List Nat × List Nat) := (true, [([], []), ([0], [0]), ([], []), ([1, 2], [1, 2]), ([3], [3]), ([], []), ([5], [5]), ([], []), ([6, 7], [6, 7]), ([8], [8]), ([4, 9], [4, 9]), ([10], [10])])
def Y2.B11 : List Nat := [0, 1, 0, 7, 15, 0, 32, 0, 224, 480, 1023, 2047]
theorem Y2.tab11 : Y2g .any (Y39 Tryd.f28 11) = Y2.T11 := by kernel_rfl
theorem Y2.bits11 : Y1H Y2.T11.2 Y2.B11 = true := by kernel_rfl
set_option maxHeartbeats 8000000 in
set_option maxRecDepth 100000 in
theorem Y2.calls (k : Nat) : ∀ (a0_0 : Int) (a0_1 : ByteArray) (A0_2 : Option Addr) (c0_2 : Nat) (l0_2 : List ByteArray) (A0_3 : Option Addr) (c0_3 : Nat) (l0_3 : List (S37)) (a1_0 : Int) (a1_1 : ByteArray) (A1_2 : Option Addr) (c1_2 : Nat) (l1_2 : List ByteArray) (A1_3 : Option Addr) (c1_3 : Nat) (l1_3 : List (S37)) (r : Bool) (w : World) (hr0_2 : Kd.C Kd.string w A0_2 l0_2.length l0_2) (hc0_2 : l0_2.length ≤ c0_2) (hr0_3 : Kd.C k37 w A0_3 l0_3.length l0_3) (hc0_3 : l0_3.length ≤ c0_3) (hr1_2 : Kd.C Kd.string w A1_2 l1_2.length l1_2) (hc1_2 : l1_2.length ≤ c1_2) (hr1_3 : Kd.C k37 w A1_3 l1_3.length l1_3) (hc1_3 : l1_3.length ≤ c1_3) (h : Y2.f k a0_0 a0_1 l0_2 l0_3 a1_0 a1_1 l1_2 l1_3 = some r),
  Calls Tryd.prog 28 #[.agg #[.int .i64 a0_0, .string a0_1, .slice A0_2 l0_2.length c0_2, .slice A0_3 l0_3.length c0_3], .agg #[.int .i64 a1_0, .string a1_1, .slice A1_2 l1_2.length c1_2, .slice A1_3 l1_3.length c1_3]] w fun e w' => e = .returned (.bool r) ∧ Below w.heap.size w w' := by
 induction k using Nat.strongRecOn with
 | _ k ih =>
 intro a0_0 a0_1 A0_2 c0_2 l0_2 A0_3 c0_3 l0_3 a1_0 a1_1 A1_2 c1_2 l1_2 A1_3 c1_3 l1_3 r w hr0_2 hc0_2 hr0_3 hc0_3 hr1_2 hc1_2 hr1_3 hc1_3 h
 cases k with
 | zero => exact absurd h (by simp [Y2.f])
 | succ k =>
 simp only [Y2.f] at h
 have hu37 := Tryd.underlying37
 have HR0_2 := Y0.mk hr0_2
 have HC0_2 := Y0.mk hc0_2
 clear hr0_2 hc0_2
 have HR0_3 := Y0.mk hr0_3
 have HC0_3 := Y0.mk hc0_3
 clear hr0_3 hc0_3
 have HR1_2 := Y0.mk hr1_2
 have HC1_2 := Y0.mk hc1_2
 clear hr1_2 hc1_2
 have HR1_3 := Y0.mk hr1_3
 have HC1_3 := Y0.mk hc1_3
 clear hr1_3 hc1_3
 have HB := Y0.mk (Below.refl w.heap.size w)
 have H : (if a0_0 = a1_0 then (if a0_1.toList = a1_1.toList then (if (l0_2.length : Int) = (l1_2.length : Int) then (Y2.j0 k ((l0_3.length : Int) != (l1_3.length : Int)) a0_0 a0_1 l0_2 l0_3 a1_0 a1_1 l1_2 l1_3) else (Y2.j0 k true a0_0 a0_1 l0_2 l0_3 a1_0 a1_1 l1_2 l1_3)) else (Y2.j0 k true a0_0 a0_1 l0_2 l0_3 a1_0 a1_1 l1_2 l1_3)) else (Y2.j0 k true a0_0 a0_1 l0_2 l0_3 a1_0 a1_1 l1_2 l1_3)) = some r := h
 clear h
 have HC3 := Y0.mk H
 clear H
 go_enter Tryd.func28, Tryd.ntmps28
 go_upto_region 1 with (first | ((with_reducible refine Ym (N := 2) rfl ?_); (try (refine YL (by rfl) ?_; dsimp only)); refine Yn ?hg (N := 2) ?hd (cs := #[.int .i64 a0_0, .string a0_1, .slice A0_2 l0_2.length c0_2, .slice A0_3 l0_3.length c0_3]) (t := 37) ?hr ?_; (case hd => rfl); (case hg => rfl); (case hr => exact Za); intro gb101 hg w4 hbox hb; have n_ := Y1Z (Y6 QB hb) (hbox) ((by rw [hg]; exact (Y5 QB) : w.heap.size ≤ gb101)) ((by rw [hg]; exact (Y5 QB) : w.heap.size ≤ gb101)); clear HB; obtain ⟨HB, BK101, GW101, GE101⟩ := n_; clear hb hbox hg) | ((with_reducible refine Ym (N := 3) rfl ?_); (try (refine YL (by rfl) ?_; dsimp only)); refine Yn ?hg (N := 3) ?hd (cs := #[.int .i64 a1_0, .string a1_1, .slice A1_2 l1_2.length c1_2, .slice A1_3 l1_3.length c1_3]) (t := 37) ?hr ?_; (case hd => rfl); (case hg => rfl); (case hr => exact Za); intro gb102 hg w5 hbox hb; have n_ := put7 (Yi (g := gb101) (o := .cells #[.int .i64 a0_0, .string a0_1, .slice A0_2 l0_2.length c0_2, .slice A0_3 l0_3.length c0_3] 37 (0, 0)) QQ hb) (Y6 QB hb) (hbox) ((by rw [hg]; exact (Y5 QB) : w.heap.size ≤ gb102)) ((by rw [hg]; exact (Y5 QB) : w.heap.size ≤ gb102)) ((by rw [hg]; exact Nat.ne_of_lt (YO (g := gb101) (o := .cells #[.int .i64 a0_0, .string a0_1, .slice A0_2 l0_2.length c0_2, .slice A0_3 l0_3.length c0_3] 37 (0, 0)) QQ) : gb101 ≠ gb102)) ((by rw [hg]; exact Nat.ne_of_gt (YO (g := gb101) (o := .cells #[.int .i64 a0_0, .string a0_1, .slice A0_2 l0_2.length c0_2, .slice A0_3 l0_3.length c0_3] 37 (0, 0)) QQ) : gb102 ≠ gb101)); clear BK101 HB; obtain ⟨BK101, HB, BK102, GW102, GE102, NB101_102, NB102_101⟩ := n_; clear hb hbox hg))
 (try simp only [Act.put, List.setIfInBounds_toArray, List.set_cons_zero, List.set_cons_succ])
 go_cut [36] (fun v36 wc => ∃ (kq : Nat) (x36_2 : Bool), v36 = .bool x36_2 ∧ Y0 (Y2.j0 kq x36_2 a0_0 a0_1 l0_2 l0_3 a1_0 a1_1 l1_2 l1_3 = some r) ∧ Y0 (kq ≤ k) ∧ Y0 (wc.heap[gb101]? = some (.cells #[.int .i64 a0_0, .string a0_1, (.slice A0_2 l0_2.length c0_2), (.slice A0_3 l0_3.length c0_3)] 37 (0, 0))) ∧ Y0 (wc.heap[gb102]? = some (.cells #[.int .i64 a1_0, .string a1_1, (.slice A1_2 l1_2.length c1_2), (.slice A1_3 l1_3.length c1_3)] 37 (0, 0))) ∧ Y0 (Below w.heap.size w wc))
 case first =>
  have H := HC3.out
  clear HC3
  by_cases c6 : a0_0 = a1_0
  ·rw [if_pos c6] at H
   have c6b0 : (a0_0 == a1_0) = true := beq_iff_eq.mpr c6
   have c6b1 : (a0_0 != a1_0) = false := bne_eq_false_iff_eq.mpr c6
   clear c6
   (first | rw [c6b0] | (simp only [Y13, Y15]; rw [c6b0]) | skip)
   by_cases c7 : a0_1.toList = a1_1.toList
   ·rw [if_pos c7] at H
    have c7b0 : (a0_1.toList == a1_1.toList) = true := beq_iff_eq.mpr c7
    have c7b1 : (a0_1.toList != a1_1.toList) = false := bne_eq_false_iff_eq.mpr c7
    clear c7
    by_cases c8 : (l0_2.length : Int) = (l1_2.length : Int)
    ·rw [if_pos c8] at H
     have c8b0 : ((l0_2.length : Int) == (l1_2.length : Int)) = true := beq_iff_eq.mpr c8
     have c8b1 : ((l0_2.length : Int) != (l1_2.length : Int)) = false := bne_eq_false_iff_eq.mpr c8
     have c8b2 : (l0_2.length == l1_2.length) = true := by first | simpa using c8 | (simp at c8 ⊢; omega)
     clear c8
     have H' := Y0.mk H
     clear H
     have hnb9 := NB101_102.out
     have hnc9 := NB102_101.out
     obtain ⟨hcz10_0, hcz10_1, hcz10_2, hcz10_3, hfz10_0, hfz10_1, hfz10_2, hfz10_3⟩ := Yt BK101.out
     obtain ⟨hcz11_0, hcz11_1, hcz11_2, hcz11_3, hfz11_0, hfz11_1, hfz11_2, hfz11_3⟩ := Yt BK102.out
     go_wp2
     go_meet
     case rel => exact ⟨_, (((l0_3.length : Int) != (l1_3.length : Int))), Ze, H', ⟨Z1e⟩, ⟨Zd⟩, ⟨Zl⟩, ⟨QB⟩⟩
    ·rw [if_neg c8] at H
     have c8b0 : ((l0_2.length : Int) == (l1_2.length : Int)) = false := beq_eq_false_iff_ne.mpr c8
     have c8b1 : ((l0_2.length : Int) != (l1_2.length : Int)) = true := bne_iff_ne.mpr c8
     have c8b2 : (l0_2.length == l1_2.length) = false := by first | simpa using c8 | (simp at c8 ⊢; omega)
     have H' := Y0.mk H
     clear H
     have hnb12 := NB101_102.out
     have hnc12 := NB102_101.out
     obtain ⟨hcz13_0, hcz13_1, hcz13_2, hcz13_3, hfz13_0, hfz13_1, hfz13_2, hfz13_3⟩ := Yt BK101.out
     obtain ⟨hcz14_0, hcz14_1, hcz14_2, hcz14_3, hfz14_0, hfz14_1, hfz14_2, hfz14_3⟩ := Yt BK102.out
     go_wp2
     go_meet
     case rel => exact Z1W
   ·rw [if_neg c7] at H
    have c7b0 : (a0_1.toList == a1_1.toList) = false := beq_eq_false_iff_ne.mpr c7
    have c7b1 : (a0_1.toList != a1_1.toList) = true := bne_iff_ne.mpr c7
    have H' := Y0.mk H
    clear H
    have hnb15 := NB101_102.out
    have hnc15 := NB102_101.out
    obtain ⟨hcz16_0, hcz16_1, hcz16_2, hcz16_3, hfz16_0, hfz16_1, hfz16_2, hfz16_3⟩ := Yt BK101.out
    obtain ⟨hcz17_0, hcz17_1, hcz17_2, hcz17_3, hfz17_0, hfz17_1, hfz17_2, hfz17_3⟩ := Yt BK102.out
    go_wp2
    go_meet
    case rel => exact Z1W
  ·rw [if_neg c6] at H
   have c6b0 : (a0_0 == a1_0) = false := beq_eq_false_iff_ne.mpr c6
   have c6b1 : (a0_0 != a1_0) = true := bne_iff_ne.mpr c6
   (first | rw [c6b0] | (simp only [Y13, Y15]; rw [c6b0]) | skip)
   have H' := Y0.mk H
   clear H
   have hnb18 := NB101_102.out
   have hnc18 := NB102_101.out
   obtain ⟨hcz19_0, hcz19_1, hcz19_2, hcz19_3, hfz19_0, hfz19_1, hfz19_2, hfz19_3⟩ := Yt BK101.out
   obtain ⟨hcz20_0, hcz20_1, hcz20_2, hcz20_3, hfz20_0, hfz20_1, hfz20_2, hfz20_3⟩ := Yt BK102.out
   go_wp2
   go_meet
   case rel => exact Z1W
 case rest =>
  clear HC3
  try clear c1
  try clear c2
  try clear p2
  try clear c6
  try clear c6b0
  try clear c6b1
  try clear c7
  try clear c7b0
  try clear c7b1
  try clear c8
  try clear c8b0
  try clear c8b1
  try clear c8b2
  try clear c9
  try clear c12
  try clear c15
  try clear c18
  try clear hcz10_0 hcz10_1 hcz10_2 hcz10_3
  try clear hcz11_0 hcz11_1 hcz11_2 hcz11_3
  try clear hcz13_0 hcz13_1 hcz13_2 hcz13_3
  try clear hcz14_0 hcz14_1 hcz14_2 hcz14_3
  try clear hcz16_0 hcz16_1 hcz16_2 hcz16_3
  try clear hcz17_0 hcz17_1 hcz17_2 hcz17_3
  try clear hcz19_0 hcz19_1 hcz19_2 hcz19_3
  try clear hcz20_0 hcz20_1 hcz20_2 hcz20_3
  try clear hfz10_0
  try clear hfz10_1
  try clear hfz10_2
  try clear hfz10_3
  try clear hfz11_0
  try clear hfz11_1
  try clear hfz11_2
  try clear hfz11_3
  try clear hfz13_0
  try clear hfz13_1
  try clear hfz13_2
  try clear hfz13_3
  try clear hfz14_0
  try clear hfz14_1
  try clear hfz14_2
  try clear hfz14_3
  try clear hfz16_0
  try clear hfz16_1
  try clear hfz16_2
  try clear hfz16_3
  try clear hfz17_0
  try clear hfz17_1
  try clear hfz17_2
  try clear hfz17_3
  try clear hfz19_0
  try clear hfz19_1
  try clear hfz19_2
  try clear hfz19_3
  try clear hfz20_0
  try clear hfz20_1
  try clear hfz20_2
  try clear hfz20_3
  obtain ⟨kq, x36_2, rfl, HA, HJ2, BK101, BK102, HB⟩ := hcut
  cases kq with
  | zero => exact absurd HA.out (by simp [Y2.j0])
  | succ kj2 =>
   have H := HA.out
   clear HA
   simp only [Y2.j0] at H
   by_cases c21 : x36_2 = true
   ·subst c21
    have H1 : (some false) = some r := by rw [if_pos rfl] at H; exact H
    clear H
    have H := H1
    clear H1
    obtain rfl := Option.some.inj H
    go_wp2
    go_ret
    exact Z1U
   ·replace c21 := Bool.eq_false_iff.mpr c21
    subst c21
    have H1 : (Y2.l0 kj2 0 a0_0 a0_1 l0_2 l0_3 a1_0 a1_1 l1_2 l1_3) = some r := by rw [if_neg (show ¬ (false = true) by decide)] at H; exact H
    clear H
    have H := H1
    clear H1
    have H' := Y0.mk H
    clear H
    go_wp2
    go_loopg [5] kj2 (fun kq v5 w' => ∃ (x5_2 : Int), v5 = .int .i64 x5_2 ∧ Y0 (Y2.l0 kq x5_2 a0_0 a0_1 l0_2 l0_3 a1_0 a1_1 l1_2 l1_3 = some r) ∧ Y0 (kq ≤ kj2) ∧ Y0 (w'.heap[gb101]? = some (.cells #[.int .i64 a0_0, .string a0_1, (.slice A0_2 l0_2.length c0_2), (.slice A0_3 l0_3.length c0_3)] 37 (0, 0))) ∧ Y0 (w'.heap[gb102]? = some (.cells #[.int .i64 a1_0, .string a1_1, (.slice A1_2 l1_2.length c1_2), (.slice A1_3 l1_3.length c1_3)] 37 (0, 0))) ∧ Y0 (Below w.heap.size w w'))
    case atStart => exact ⟨(0), Ze, H', ⟨Nat.le_refl _⟩, ⟨Zd⟩, ⟨Zl⟩, ⟨QB⟩⟩
    case round =>
     clear H'
     try clear c1
     try clear c2
     try clear p2
     try clear c6
     try clear c6b0
     try clear c6b1
     try clear c7
     try clear c7b0
     try clear c7b1
     try clear c8
     try clear c8b0
     try clear c8b1
     try clear c8b2
     try clear c9
     try clear c12
     try clear c15
     try clear c18
     try clear c21
     try clear hcz10_0 hcz10_1 hcz10_2 hcz10_3
     try clear hcz11_0 hcz11_1 hcz11_2 hcz11_3
     try clear hcz13_0 hcz13_1 hcz13_2 hcz13_3
     try clear hcz14_0 hcz14_1 hcz14_2 hcz14_3
     try clear hcz16_0 hcz16_1 hcz16_2 hcz16_3
     try clear hcz17_0 hcz17_1 hcz17_2 hcz17_3
     try clear hcz19_0 hcz19_1 hcz19_2 hcz19_3
     try clear hcz20_0 hcz20_1 hcz20_2 hcz20_3
     try clear hfz10_0
     try clear hfz10_1
     try clear hfz10_2
     try clear hfz10_3
     try clear hfz11_0
     try clear hfz11_1
     try clear hfz11_2
     try clear hfz11_3
     try clear hfz13_0
     try clear hfz13_1
     try clear hfz13_2
     try clear hfz13_3
     try clear hfz14_0
     try clear hfz14_1
     try clear hfz14_2
     try clear hfz14_3
     try clear hfz16_0
     try clear hfz16_1
     try clear hfz16_2
     try clear hfz16_3
     try clear hfz17_0
     try clear hfz17_1
     try clear hfz17_2
     try clear hfz17_3
     try clear hfz19_0
     try clear hfz19_1
     try clear hfz19_2
     try clear hfz19_3
     try clear hfz20_0
     try clear hfz20_1
     try clear hfz20_2
     try clear hfz20_3
     try clear p2
     obtain ⟨x5_2, rfl, HA, HK2, BK101, BK102, HB⟩ := hrel
     cases gk with
     | zero => exact absurd HA.out (by simp [Y2.l0])
     | succ k2 =>
      have H := HA.out
      clear HA
      simp only [Y2.l0] at H
      by_cases c22 : x5_2 < (l0_2.length : Int)
      ·rw [if_pos c22] at H
       have c22b0 : decide (x5_2 < (l0_2.length : Int)) = true := decide_eq_true c22
       clear c22
       by_cases c23 : 0 ≤ x5_2
       ·rw [if_pos c23] at H
        have c23b0 : decide (0 ≤ x5_2) = true := decide_eq_true c23
        clear c23
        by_cases c24 : x5_2 < (l1_2.length : Int)
        ·rw [if_pos c24] at H
         have c24b0 : decide (x5_2 < (l1_2.length : Int)) = true := decide_eq_true c24
         clear c24
         by_cases c25 : (Y1x ByteArray.empty l0_2 x5_2).toList = (Y1x ByteArray.empty l1_2 x5_2).toList
         ·rw [if_pos c25] at H
          have c25b0 : ((Y1x ByteArray.empty l0_2 x5_2).toList == (Y1x ByteArray.empty l1_2 x5_2).toList) = true := beq_iff_eq.mpr c25
          have c25b1 : ((Y1x ByteArray.empty l0_2 x5_2).toList != (Y1x ByteArray.empty l1_2 x5_2).toList) = false := bne_eq_false_iff_eq.mpr c25
          clear c25
          have H' := Y0.mk H
          clear H
          have hnb26 := NB101_102.out
          have hnc26 := NB102_101.out
          obtain ⟨hcz27_0, hcz27_1, hcz27_2, hcz27_3, hfz27_0, hfz27_1, hfz27_2, hfz27_3⟩ := Yt BK101.out
          try go_wp2
          have n_ := Y1P (Y8 BK101.out) (Y8 BK102.out) (YF HB.out)
          clear BK101
          clear BK102
          clear HB
          obtain ⟨BK101, BK102, HB⟩ := n_
          have p103 : 0 ≤ (x5_2 : Int) := of_decide_eq_true Z8
          have q103 : x5_2 < (l0_2.length : Int) := of_decide_eq_true Z8
          obtain ⟨ad103, e103, hx103_0⟩ := Kd.at_string HR0_2.out x5_2 p103 q103
          have hw103_0 := hx103_0
          cases e103
          replace hx103_0 := YM HB.out hx103_0
          replace p103 := eq_true p103
          replace q103 := eq_true q103
          have p104 : 0 ≤ (x5_2 : Int) := of_decide_eq_true Z8
          have q104 : x5_2 < (l1_2.length : Int) := of_decide_eq_true Z8
          obtain ⟨ad104, e104, hx104_0⟩ := Kd.at_string HR1_2.out x5_2 p104 q104
          have hw104_0 := hx104_0
          cases e104
          replace hx104_0 := YM HB.out hx104_0
          replace p104 := eq_true p104
          replace q104 := eq_true q104
          refine Y1q (n := 11) (S := fun w' => w'.cell? ⟨gb101, 0, none⟩ = some (.int .i64 a0_0) ∧ w'.cell? ⟨gb101, 1, none⟩ = some (.string a0_1) ∧ w'.cell? ⟨gb101, 2, none⟩ = some (.slice (some ad103) l0_2.length c0_2) ∧ w'.cell? ⟨gb101, 3, none⟩ = some (.slice A0_3 l0_3.length c0_3) ∧ w'.cell? ⟨gb102, 0, none⟩ = some (.int .i64 a1_0) ∧ w'.cell? ⟨gb102, 1, none⟩ = some (.string a1_1) ∧ w'.cell? ⟨gb102, 2, none⟩ = some (.slice (some ad104) l1_2.length c1_2) ∧ w'.cell? ⟨gb102, 3, none⟩ = some (.slice A1_3 l1_3.length c1_3) ∧ w'.cell? (ad103.add (x5_2).toNat) = some (.string (Y1x ByteArray.empty l0_2 x5_2)) ∧ w'.cell? (ad104.add (x5_2).toNat) = some (.string (Y1x ByteArray.empty l1_2 x5_2))) (ds := []) bz11_0 Z7 rfl rfl ⟨(Y1 BK101.out 0).trans rfl, (Y1 BK101.out 1).trans rfl, (Y1 BK101.out 2).trans rfl, (Y1 BK101.out 3).trans rfl, (Y1 BK102.out 0).trans rfl, (Y1 BK102.out 1).trans rfl, (Y1 BK102.out 2).trans rfl, (Y1 BK102.out 3).trans rfl, ((HB.out.cell (World.block_lt_of_cell? w _ hw103_0)).trans hw103_0), ((HB.out.cell (World.block_lt_of_cell? w _ hw104_0)).trans hw104_0)⟩ (fun hHeld => ?_); refine YT Y2.tab6 Y2.bits6 (fun HT_ HW_ => ?_)
          generalize wr.drew = w28 at BK101 BK102 HB hx103_0 hx104_0 hHeld ⊢
          refine pY 0 44 bz11_1 ?_
          refine pY 2 46 bz11_5 ?_
          refine pY 5 49 bz11_25 ?_
          refine pY 7 51 bz11_a5 ?_
          refine pT 1 45 bz11_a7 ?_
          refine pY 3 47 bz11_af ?_
          refine pT 4 48 bz11_bf ?_
          refine pT 6 50 bz11_ff ?_
          refine pY 8 52 Y3t ?_
          refine pT 9 53 Y3u ?_
          refine pY 10 54 Y3v ?_
          refine Y1L (Y1f HT_.out Z7) ?_
          try go_wp2
          go_roundg k2
          case measure => have := HJ2.out; have := HK2.out; omega
          case rel => exact ⟨(wrap64 (x5_2 + 1)), Ze, H', ⟨by have := HJ2.out; have := HK2.out; omega⟩, ⟨Zd⟩, ⟨Zl⟩, ⟨QB⟩⟩
         ·rw [if_neg c25] at H
          have c25b0 : ((Y1x ByteArray.empty l0_2 x5_2).toList == (Y1x ByteArray.empty l1_2 x5_2).toList) = false := beq_eq_false_iff_ne.mpr c25
          have c25b1 : ((Y1x ByteArray.empty l0_2 x5_2).toList != (Y1x ByteArray.empty l1_2 x5_2).toList) = true := bne_iff_ne.mpr c25
          obtain rfl := Option.some.inj H
          have hnb29 := NB101_102.out
          have hnc29 := NB102_101.out
          obtain ⟨hcz30_0, hcz30_1, hcz30_2, hcz30_3, hfz30_0, hfz30_1, hfz30_2, hfz30_3⟩ := Yt BK101.out
          try go_wp2
          have n_ := Y1P (Y8 BK101.out) (Y8 BK102.out) (YF HB.out)
          clear BK101
          clear BK102
          clear HB
          obtain ⟨BK101, BK102, HB⟩ := n_
          have p103 : 0 ≤ (x5_2 : Int) := of_decide_eq_true Z8
          have q103 : x5_2 < (l0_2.length : Int) := of_decide_eq_true Z8
          obtain ⟨ad103, e103, hx103_0⟩ := Kd.at_string HR0_2.out x5_2 p103 q103
          have hw103_0 := hx103_0
          cases e103
          replace hx103_0 := YM HB.out hx103_0
          replace p103 := eq_true p103
          replace q103 := eq_true q103
          have p104 : 0 ≤ (x5_2 : Int) := of_decide_eq_true Z8
          have q104 : x5_2 < (l1_2.length : Int) := of_decide_eq_true Z8
          obtain ⟨ad104, e104, hx104_0⟩ := Kd.at_string HR1_2.out x5_2 p104 q104
          have hw104_0 := hx104_0
          cases e104
          replace hx104_0 := YM HB.out hx104_0
          replace p104 := eq_true p104
          replace q104 := eq_true q104
          refine Y1q (n := 11) (S := fun w' => w'.cell? ⟨gb101, 0, none⟩ = some (.int .i64 a0_0) ∧ w'.cell? ⟨gb101, 1, none⟩ = some (.string a0_1) ∧ w'.cell? ⟨gb101, 2, none⟩ = some (.slice (some ad103) l0_2.length c0_2) ∧ w'.cell? ⟨gb101, 3, none⟩ = some (.slice A0_3 l0_3.length c0_3) ∧ w'.cell? ⟨gb102, 0, none⟩ = some (.int .i64 a1_0) ∧ w'.cell? ⟨gb102, 1, none⟩ = some (.string a1_1) ∧ w'.cell? ⟨gb102, 2, none⟩ = some (.slice (some ad104) l1_2.length c1_2) ∧ w'.cell? ⟨gb102, 3, none⟩ = some (.slice A1_3 l1_3.length c1_3) ∧ w'.cell? (ad103.add (x5_2).toNat) = some (.string (Y1x ByteArray.empty l0_2 x5_2)) ∧ w'.cell? (ad104.add (x5_2).toNat) = some (.string (Y1x ByteArray.empty l1_2 x5_2))) (ds := []) bz11_0 Z7 rfl rfl ⟨(Y1 BK101.out 0).trans rfl, (Y1 BK101.out 1).trans rfl, (Y1 BK101.out 2).trans rfl, (Y1 BK101.out 3).trans rfl, (Y1 BK102.out 0).trans rfl, (Y1 BK102.out 1).trans rfl, (Y1 BK102.out 2).trans rfl, (Y1 BK102.out 3).trans rfl, ((HB.out.cell (World.block_lt_of_cell? w _ hw103_0)).trans hw103_0), ((HB.out.cell (World.block_lt_of_cell? w _ hw104_0)).trans hw104_0)⟩ (fun hHeld => ?_); refine YT Y2.tab6 Y2.bits6 (fun HT_ HW_ => ?_)
          generalize wr.drew = w31 at BK101 BK102 HB hx103_0 hx104_0 hHeld ⊢
          refine pY 0 44 bz11_1 ?_
          refine pY 2 46 bz11_5 ?_
          refine pY 5 49 bz11_25 ?_
          refine pY 7 51 bz11_a5 ?_
          refine pT 1 45 bz11_a7 ?_
          refine pY 3 47 bz11_af ?_
          refine pT 4 48 bz11_bf ?_
          refine pT 6 50 bz11_ff ?_
          refine pY 8 52 Y3t ?_
          refine pT 9 53 Y3u ?_
          refine pY 10 54 Y3v ?_
          refine Y1L (Y1f HT_.out Z7) ?_
          try go_wp2
          go_ret
          exact Z1U
        ·rw [if_neg c24] at H
         exact ZH
       ·rw [if_neg c23] at H
        exact ZH
      ·rw [if_neg c22] at H
       have c22b0 : decide (x5_2 < (l0_2.length : Int)) = false := decide_eq_false c22
       clear c22
       have H' := Y0.mk H
       clear H
       have hnb32 := NB101_102.out
       have hnc32 := NB102_101.out
       obtain ⟨hcz33_0, hcz33_1, hcz33_2, hcz33_3, hfz33_0, hfz33_1, hfz33_2, hfz33_3⟩ := Yt BK101.out
       go_wp2
       go_loopg [6] k2 (fun kq v6 w' => ∃ (x6_3 : Int), v6 = .int .i64 x6_3 ∧ Y0 (Y2.l1 kq x6_3 a0_0 a0_1 l0_2 l0_3 a1_0 a1_1 l1_2 l1_3 = some r) ∧ Y0 (kq ≤ k2) ∧ Y0 (w'.heap[gb101]? = some (.cells #[.int .i64 a0_0, .string a0_1, (.slice A0_2 l0_2.length c0_2), (.slice A0_3 l0_3.length c0_3)] 37 (0, 0))) ∧ Y0 (w'.heap[gb102]? = some (.cells #[.int .i64 a1_0, .string a1_1, (.slice A1_2 l1_2.length c1_2), (.slice A1_3 l1_3.length c1_3)] 37 (0, 0))) ∧ Y0 (Below w.heap.size w w'))
       case atStart => exact ⟨(0), Ze, H', ⟨Nat.le_refl _⟩, ⟨Zd⟩, ⟨Zl⟩, ⟨QB⟩⟩
       case round =>
        clear H'
        try clear c1
        try clear p1
        try clear q1
        try clear hx1
        try clear c2
        try clear p2
        try clear c3
        try clear c6
        try clear c6b0
        try clear c6b1
        try clear p6
        try clear c7
        try clear c7b0
        try clear c7b1
        try clear c8
        try clear c8b0
        try clear c8b1
        try clear c8b2
        try clear c9
        try clear p10
        try clear q10
        try clear hx10
        try clear c12
        try clear c15
        try clear c18
        try clear c21
        try clear c22
        try clear c22b0
        try clear c23
        try clear c23b0
        try clear c24
        try clear c24b0
        try clear c25
        try clear c25b0
        try clear c25b1
        try clear c26
        try clear c29
        try clear c32
        try clear hcz10_0 hcz10_1 hcz10_2 hcz10_3
        try clear hcz11_0 hcz11_1 hcz11_2 hcz11_3
        try clear hcz13_0 hcz13_1 hcz13_2 hcz13_3
        try clear hcz14_0 hcz14_1 hcz14_2 hcz14_3
        try clear hcz16_0 hcz16_1 hcz16_2 hcz16_3
        try clear hcz17_0 hcz17_1 hcz17_2 hcz17_3
        try clear hcz19_0 hcz19_1 hcz19_2 hcz19_3
        try clear hcz20_0 hcz20_1 hcz20_2 hcz20_3
        try clear hcz27_0 hcz27_1 hcz27_2 hcz27_3
        try clear hcz30_0 hcz30_1 hcz30_2 hcz30_3
        try clear hcz33_0 hcz33_1 hcz33_2 hcz33_3
        try clear hfz10_0
        try clear hfz10_1
        try clear hfz10_2
        try clear hfz10_3
        try clear hfz11_0
        try clear hfz11_1
        try clear hfz11_2
        try clear hfz11_3
        try clear hfz13_0
        try clear hfz13_1
        try clear hfz13_2
        try clear hfz13_3
        try clear hfz14_0
        try clear hfz14_1
        try clear hfz14_2
        try clear hfz14_3
        try clear hfz16_0
        try clear hfz16_1
        try clear hfz16_2
        try clear hfz16_3
        try clear hfz17_0
        try clear hfz17_1
        try clear hfz17_2
        try clear hfz17_3
        try clear hfz19_0
        try clear hfz19_1
        try clear hfz19_2
        try clear hfz19_3
        try clear hfz20_0
        try clear hfz20_1
        try clear hfz20_2
        try clear hfz20_3
        try clear hfz27_0
        try clear hfz27_1
        try clear hfz27_2
        try clear hfz27_3
        try clear hfz30_0
        try clear hfz30_1
        try clear hfz30_2
        try clear hfz30_3
        try clear hfz33_0
        try clear hfz33_1
        try clear hfz33_2
        try clear hfz33_3
        try clear hx103_0
        try clear hx104_0
        try clear p103
        try clear p104
        try clear p2
        try clear q103
        try clear q104
        obtain ⟨x6_3, rfl, HA, HK3, BK101, BK102, HB⟩ := hrel
        cases gk with
        | zero => exact absurd HA.out (by simp [Y2.l1])
        | succ k3 =>
         have H := HA.out
         clear HA
         simp only [Y2.l1] at H
         by_cases c34 : x6_3 < (l0_3.length : Int)
         ·rw [if_pos c34] at H
          have c34b0 : decide (x6_3 < (l0_3.length : Int)) = true := decide_eq_true c34
          clear c34
          by_cases c35 : 0 ≤ x6_3
          ·rw [if_pos c35] at H
           have c35b0 : decide (0 ≤ x6_3) = true := decide_eq_true c35
           clear c35
           by_cases c36 : x6_3 < (l1_3.length : Int)
           ·rw [if_pos c36] at H
            have c36b0 : decide (x6_3 < (l1_3.length : Int)) = true := decide_eq_true c36
            clear c36
            replace H := Option.bind_eq_some_iff.mp H
            obtain ⟨t107, A370, H⟩ := H
            replace H : (if t107 = true then (Y2.l1 k3 (wrap64 (x6_3 + 1)) a0_0 a0_1 l0_2 l0_3 a1_0 a1_1 l1_2 l1_3) else (some false)) = some r := H
            have A37 := Y0.mk A370
            clear A370
            by_cases c38 : t107 = true
            ·subst c38
             have H1 : (Y2.l1 k3 (wrap64 (x6_3 + 1)) a0_0 a0_1 l0_2 l0_3 a1_0 a1_1 l1_2 l1_3) = some r := by rw [if_pos rfl] at H; exact H
             clear H
             have H := H1
             clear H1
             have H' := Y0.mk H
             clear H
             have hnb39 := NB101_102.out
             have hnc39 := NB102_101.out
             obtain ⟨hcz40_0, hcz40_1, hcz40_2, hcz40_3, hfz40_0, hfz40_1, hfz40_2, hfz40_3⟩ := Yt BK101.out
             try go_wp2
             have n_ := Y1P (Y8 BK101.out) (Y8 BK102.out) (YF HB.out)
             clear BK101
             clear BK102
             clear HB
             obtain ⟨BK101, BK102, HB⟩ := n_
             have p105 : 0 ≤ (x6_3 : Int) := of_decide_eq_true Z8
             have q105 : x6_3 < (l0_3.length : Int) := of_decide_eq_true Z8
             obtain ⟨ad105, A105_2, c105_2, A105_3, c105_3, e105, hx105_0, hx105_1, hx105_2, hx105_3, hl105_2, hi105_2, hl105_3, hi105_3⟩ := Y1I HR0_3.out x6_3 p105 q105
             have hw105_3 := hx105_3
             have hw105_2 := hx105_2
             have hw105_1 := hx105_1
             have hw105_0 := hx105_0
             cases e105
             replace hx105_0 := YM HB.out hx105_0
             replace hx105_1 := YM HB.out hx105_1
             replace hx105_2 := YM HB.out hx105_2
             replace hx105_3 := YM HB.out hx105_3
             have HR105_2 := Y0.mk hi105_2
             have HC105_2 := Y0.mk hl105_2
             clear hi105_2 hl105_2
             have HR105_3 := Y0.mk hi105_3
             have HC105_3 := Y0.mk hl105_3
             clear hi105_3 hl105_3
             replace p105 := eq_true p105
             replace q105 := eq_true q105
             have p106 : 0 ≤ (x6_3 : Int) := of_decide_eq_true Z8
             have q106 : x6_3 < (l1_3.length : Int) := of_decide_eq_true Z8
             obtain ⟨ad106, A106_2, c106_2, A106_3, c106_3, e106, hx106_0, hx106_1, hx106_2, hx106_3, hl106_2, hi106_2, hl106_3, hi106_3⟩ := Y1I HR1_3.out x6_3 p106 q106
             have hw106_3 := hx106_3
             have hw106_2 := hx106_2
             have hw106_1 := hx106_1
             have hw106_0 := hx106_0
             cases e106
             replace hx106_0 := YM HB.out hx106_0
             replace hx106_1 := YM HB.out hx106_1
             replace hx106_2 := YM HB.out hx106_2
             replace hx106_3 := YM HB.out hx106_3
             have HR106_2 := Y0.mk hi106_2
             have HC106_2 := Y0.mk hl106_2
             clear hi106_2 hl106_2
             have HR106_3 := Y0.mk hi106_3
             have HC106_3 := Y0.mk hl106_3
             clear hi106_3 hl106_3
             replace p106 := eq_true p106
             replace q106 := eq_true q106
             refine Y1q (n := 12) (S := fun w' => w'.cell? ⟨gb101, 0, none⟩ = some (.int .i64 a0_0) ∧ w'.cell? ⟨gb101, 1, none⟩ = some (.string a0_1) ∧ w'.cell? ⟨gb101, 2, none⟩ = some (.slice A0_2 l0_2.length c0_2) ∧ w'.cell? ⟨gb101, 3, none⟩ = some (.slice (some ad105) l0_3.length c0_3) ∧ w'.cell? ⟨gb102, 0, none⟩ = some (.int .i64 a1_0) ∧ w'.cell? ⟨gb102, 1, none⟩ = some (.string a1_1) ∧ w'.cell? ⟨gb102, 2, none⟩ = some (.slice A1_2 l1_2.length c1_2) ∧ w'.cell? ⟨gb102, 3, none⟩ = some (.slice (some ad106) l1_3.length c1_3) ∧ w'.cell? (ad105.add ((x6_3).toNat * 4)) = some (.int .i64 ((Ya l0_3 x6_3).f0)) ∧ w'.cell? ⟨(ad105.add ((x6_3).toNat * 4)).block, (ad105.add ((x6_3).toNat * 4)).off + 1, none⟩ = some (.string ((Ya l0_3 x6_3).f1)) ∧ w'.cell? ⟨(ad105.add ((x6_3).toNat * 4)).block, (ad105.add ((x6_3).toNat * 4)).off + 2, none⟩ = some (.slice A105_2 ((Ya l0_3 x6_3).f2).length c105_2) ∧ w'.cell? ⟨(ad105.add ((x6_3).toNat * 4)).block, (ad105.add ((x6_3).toNat * 4)).off + 3, none⟩ = some (.slice A105_3 ((Ya l0_3 x6_3).f3).length c105_3) ∧ w'.cell? (ad106.add ((x6_3).toNat * 4)) = some (.int .i64 ((Ya l1_3 x6_3).f0)) ∧ w'.cell? ⟨(ad106.add ((x6_3).toNat * 4)).block, (ad106.add ((x6_3).toNat * 4)).off + 1, none⟩ = some (.string ((Ya l1_3 x6_3).f1)) ∧ w'.cell? ⟨(ad106.add ((x6_3).toNat * 4)).block, (ad106.add ((x6_3).toNat * 4)).off + 2, none⟩ = some (.slice A106_2 ((Ya l1_3 x6_3).f2).length c106_2) ∧ w'.cell? ⟨(ad106.add ((x6_3).toNat * 4)).block, (ad106.add ((x6_3).toNat * 4)).off + 3, none⟩ = some (.slice A106_3 ((Ya l1_3 x6_3).f3).length c106_3)) (ds := []) Y3w Z7 rfl rfl ⟨(Y1 BK101.out 0).trans rfl, (Y1 BK101.out 1).trans rfl, (Y1 BK101.out 2).trans rfl, (Y1 BK101.out 3).trans rfl, (Y1 BK102.out 0).trans rfl, (Y1 BK102.out 1).trans rfl, (Y1 BK102.out 2).trans rfl, (Y1 BK102.out 3).trans rfl, ((HB.out.cell (World.block_lt_of_cell? w _ hw105_0)).trans hw105_0), ((HB.out.cell (World.block_lt_of_cell? w _ hw105_1)).trans hw105_1), ((HB.out.cell (World.block_lt_of_cell? w _ hw105_2)).trans hw105_2), ((HB.out.cell (World.block_lt_of_cell? w _ hw105_3)).trans hw105_3), ((HB.out.cell (World.block_lt_of_cell? w _ hw106_0)).trans hw106_0), ((HB.out.cell (World.block_lt_of_cell? w _ hw106_1)).trans hw106_1), ((HB.out.cell (World.block_lt_of_cell? w _ hw106_2)).trans hw106_2), ((HB.out.cell (World.block_lt_of_cell? w _ hw106_3)).trans hw106_3)⟩ (fun hHeld => ?_); refine YT Y2.tab11 Y2.bits11 (fun HT_ HW_ => ?_)
             generalize wr.drew = w41 at BK101 BK102 HB HR105_2 HR105_3 HR106_2 HR106_3 hx105_0 hx105_1 hx105_2 hx105_3 hx106_0 hx106_1 hx106_2 hx106_3 hHeld ⊢
             refine pY 0 62 Y3x ?_
             refine pY 2 64 bz12_5 ?_
             refine pY 5 67 bz12_25 ?_
             refine pY 7 69 bz12_a5 ?_
             refine pT 1 63 bz12_a7 ?_
             refine pY 3 65 bz12_af ?_
             refine pT 4 66 bz12_bf ?_
             refine pT 6 68 Y2O ?_
             refine pY 8 70 Y2n ?_
             refine pT 9 71 Y2o ?_
             refine Y28 (i := 10) (N := some 72) Y2p rfl rfl (Y1g HT_.out Z7) (by decide) (fun K hK => ?_)
             refine Y1G Tryd.func28 Z7 rfl #[.agg #[.int .i64 ((Ya l0_3 x6_3).f0), .string ((Ya l0_3 x6_3).f1), .slice A105_2 ((Ya l0_3 x6_3).f2).length c105_2, .slice A105_3 ((Ya l0_3 x6_3).f3).length c105_3], .agg #[.int .i64 ((Ya l1_3 x6_3).f0), .string ((Ya l1_3 x6_3).f1), .slice A106_2 ((Ya l1_3 x6_3).f2).length c106_2, .slice A106_3 ((Ya l1_3 x6_3).f3).length c106_3]] (by rfl) rfl rfl Z0 ?_
             with_reducible refine (ih k3 Z1E ((Ya l0_3 x6_3).f0) ((Ya l0_3 x6_3).f1) _ _ ((Ya l0_3 x6_3).f2) _ _ ((Ya l0_3 x6_3).f3) ((Ya l1_3 x6_3).f0) ((Ya l1_3 x6_3).f1) _ _ ((Ya l1_3 x6_3).f2) _ _ ((Ya l1_3 x6_3).f3) true _ ?side1 ?side2 ?side3 ?side4 ?side5 ?side6 ?side7 ?side8 A37.out).mono ?_
             (case side1 => exact Z1u)
             (case side2 => exact HC105_2.out)
             (case side3 => exact Z1v)
             (case side4 => exact HC105_3.out)
             (case side5 => exact Z1n)
             (case side6 => exact HC106_2.out)
             (case side7 => exact Z1o)
             (case side8 => exact HC106_3.out)
             rintro e w42 ⟨rfl, hb⟩
             refine ⟨_, rfl, ?_⟩
             have n_ := Y1P (Yi (g := gb101) (o := .cells #[.int .i64 a0_0, .string a0_1, .slice A0_2 l0_2.length c0_2, .slice (some ad105) l0_3.length c0_3] 37 (0, 0)) QQ hb) (Yi (g := gb102) (o := .cells #[.int .i64 a1_0, .string a1_1, .slice A1_2 l1_2.length c1_2, .slice (some ad106) l1_3.length c1_3] 37 (0, 0)) QQ hb) (Y6 QB hb)
             clear BK101
             clear BK102
             clear HB
             obtain ⟨BK101, BK102, HB⟩ := n_
             (try clear hb)
             (try clear hb2)
             (try clear hk)
             (try clear hi)
             refine hK.out _ _ ⟨(Y1 BK101.out 0).trans rfl, (Y1 BK101.out 1).trans rfl, (Y1 BK101.out 2).trans rfl, (Y1 BK101.out 3).trans rfl, (Y1 BK102.out 0).trans rfl, (Y1 BK102.out 1).trans rfl, (Y1 BK102.out 2).trans rfl, (Y1 BK102.out 3).trans rfl, ((HB.out.cell (World.block_lt_of_cell? w _ hw105_0)).trans hw105_0), ((HB.out.cell (World.block_lt_of_cell? w _ hw105_1)).trans hw105_1), ((HB.out.cell (World.block_lt_of_cell? w _ hw105_2)).trans hw105_2), ((HB.out.cell (World.block_lt_of_cell? w _ hw105_3)).trans hw105_3), ((HB.out.cell (World.block_lt_of_cell? w _ hw106_0)).trans hw106_0), ((HB.out.cell (World.block_lt_of_cell? w _ hw106_1)).trans hw106_1), ((HB.out.cell (World.block_lt_of_cell? w _ hw106_2)).trans hw106_2), ((HB.out.cell (World.block_lt_of_cell? w _ hw106_3)).trans hw106_3)⟩ (fun hHeld => ?_)
             clear hK K
             refine Y1z (a' := ?_) ?_ ?_
             rotate_left
             ·show Act.put _ (some 72) _ = _
              simp only [Act.put, List.setIfInBounds_toArray, List.set_cons_zero, List.set_cons_succ, Y13, Y15]
              rfl
             refine pY 11 73 Y2q ?_
             refine Y1L (Y1f HT_.out Z7) ?_
             try go_wp2
             go_roundg k3
             case measure => have := HJ2.out; have := HK2.out; have := HK3.out; omega
             case rel => exact ⟨(wrap64 (x6_3 + 1)), Ze, H', ⟨Z1E⟩, ⟨Zd⟩, ⟨Zl⟩, ⟨QB⟩⟩
            ·replace c38 := Bool.eq_false_iff.mpr c38
             subst c38
             have H1 : (some false) = some r := by rw [if_neg (show ¬ (false = true) by decide)] at H; exact H
             clear H
             have H := H1
             clear H1
             obtain rfl := Option.some.inj H
             have hnb43 := NB101_102.out
             have hnc43 := NB102_101.out
             obtain ⟨hcz44_0, hcz44_1, hcz44_2, hcz44_3, hfz44_0, hfz44_1, hfz44_2, hfz44_3⟩ := Yt BK101.out
             try go_wp2
             have n_ := Y1P (Y8 BK101.out) (Y8 BK102.out) (YF HB.out)
             clear BK101
             clear BK102
             clear HB
             obtain ⟨BK101, BK102, HB⟩ := n_
             have p105 : 0 ≤ (x6_3 : Int) := of_decide_eq_true Z8
             have q105 : x6_3 < (l0_3.length : Int) := of_decide_eq_true Z8
             obtain ⟨ad105, A105_2, c105_2, A105_3, c105_3, e105, hx105_0, hx105_1, hx105_2, hx105_3, hl105_2, hi105_2, hl105_3, hi105_3⟩ := Y1I HR0_3.out x6_3 p105 q105
             have hw105_3 := hx105_3
             have hw105_2 := hx105_2
             have hw105_1 := hx105_1
             have hw105_0 := hx105_0
             cases e105
             replace hx105_0 := YM HB.out hx105_0
             replace hx105_1 := YM HB.out hx105_1
             replace hx105_2 := YM HB.out hx105_2
             replace hx105_3 := YM HB.out hx105_3
             have HR105_2 := Y0.mk hi105_2
             have HC105_2 := Y0.mk hl105_2
             clear hi105_2 hl105_2
             have HR105_3 := Y0.mk hi105_3
             have HC105_3 := Y0.mk hl105_3
             clear hi105_3 hl105_3
             replace p105 := eq_true p105
             replace q105 := eq_true q105
             have p106 : 0 ≤ (x6_3 : Int) := of_decide_eq_true Z8
             have q106 : x6_3 < (l1_3.length : Int) := of_decide_eq_true Z8
             obtain ⟨ad106, A106_2, c106_2, A106_3, c106_3, e106, hx106_0, hx106_1, hx106_2, hx106_3, hl106_2, hi106_2, hl106_3, hi106_3⟩ := Y1I HR1_3.out x6_3 p106 q106
             have hw106_3 := hx106_3
             have hw106_2 := hx106_2
             have hw106_1 := hx106_1
             have hw106_0 := hx106_0
             cases e106
             replace hx106_0 := YM HB.out hx106_0
             replace hx106_1 := YM HB.out hx106_1
             replace hx106_2 := YM HB.out hx106_2
             replace hx106_3 := YM HB.out hx106_3
             have HR106_2 := Y0.mk hi106_2
             have HC106_2 := Y0.mk hl106_2
             clear hi106_2 hl106_2
             have HR106_3 := Y0.mk hi106_3
             have HC106_3 := Y0.mk hl106_3
             clear hi106_3 hl106_3
             replace p106 := eq_true p106
             replace q106 := eq_true q106
             refine Y1q (n := 12) (S := fun w' => w'.cell? ⟨gb101, 0, none⟩ = some (.int .i64 a0_0) ∧ w'.cell? ⟨gb101, 1, none⟩ = some (.string a0_1) ∧ w'.cell? ⟨gb101, 2, none⟩ = some (.slice A0_2 l0_2.length c0_2) ∧ w'.cell? ⟨gb101, 3, none⟩ = some (.slice (some ad105) l0_3.length c0_3) ∧ w'.cell? ⟨gb102, 0, none⟩ = some (.int .i64 a1_0) ∧ w'.cell? ⟨gb102, 1, none⟩ = some (.string a1_1) ∧ w'.cell? ⟨gb102, 2, none⟩ = some (.slice A1_2 l1_2.length c1_2) ∧ w'.cell? ⟨gb102, 3, none⟩ = some (.slice (some ad106) l1_3.length c1_3) ∧ w'.cell? (ad105.add ((x6_3).toNat * 4)) = some (.int .i64 ((Ya l0_3 x6_3).f0)) ∧ w'.cell? ⟨(ad105.add ((x6_3).toNat * 4)).block, (ad105.add ((x6_3).toNat * 4)).off + 1, none⟩ = some (.string ((Ya l0_3 x6_3).f1)) ∧ w'.cell? ⟨(ad105.add ((x6_3).toNat * 4)).block, (ad105.add ((x6_3).toNat * 4)).off + 2, none⟩ = some (.slice A105_2 ((Ya l0_3 x6_3).f2).length c105_2) ∧ w'.cell? ⟨(ad105.add ((x6_3).toNat * 4)).block, (ad105.add ((x6_3).toNat * 4)).off + 3, none⟩ = some (.slice A105_3 ((Ya l0_3 x6_3).f3).length c105_3) ∧ w'.cell? (ad106.add ((x6_3).toNat * 4)) = some (.int .i64 ((Ya l1_3 x6_3).f0)) ∧ w'.cell? ⟨(ad106.add ((x6_3).toNat * 4)).block, (ad106.add ((x6_3).toNat * 4)).off + 1, none⟩ = some (.string ((Ya l1_3 x6_3).f1)) ∧ w'.cell? ⟨(ad106.add ((x6_3).toNat * 4)).block, (ad106.add ((x6_3).toNat * 4)).off + 2, none⟩ = some (.slice A106_2 ((Ya l1_3 x6_3).f2).length c106_2) ∧ w'.cell? ⟨(ad106.add ((x6_3).toNat * 4)).block, (ad106.add ((x6_3).toNat * 4)).off + 3, none⟩ = some (.slice A106_3 ((Ya l1_3 x6_3).f3).length c106_3)) (ds := []) Y3w Z7 rfl rfl ⟨(Y1 BK101.out 0).trans rfl, (Y1 BK101.out 1).trans rfl, (Y1 BK101.out 2).trans rfl, (Y1 BK101.out 3).trans rfl, (Y1 BK102.out 0).trans rfl, (Y1 BK102.out 1).trans rfl, (Y1 BK102.out 2).trans rfl, (Y1 BK102.out 3).trans rfl, ((HB.out.cell (World.block_lt_of_cell? w _ hw105_0)).trans hw105_0), ((HB.out.cell (World.block_lt_of_cell? w _ hw105_1)).trans hw105_1), ((HB.out.cell (World.block_lt_of_cell? w _ hw105_2)).trans hw105_2), ((HB.out.cell (World.block_lt_of_cell? w _ hw105_3)).trans hw105_3), ((HB.out.cell (World.block_lt_of_cell? w _ hw106_0)).trans hw106_0), ((HB.out.cell (World.block_lt_of_cell? w _ hw106_1)).trans hw106_1), ((HB.out.cell (World.block_lt_of_cell? w _ hw106_2)).trans hw106_2), ((HB.out.cell (World.block_lt_of_cell? w _ hw106_3)).trans hw106_3)⟩ (fun hHeld => ?_); refine YT Y2.tab11 Y2.bits11 (fun HT_ HW_ => ?_)
             generalize wr.drew = w45 at BK101 BK102 HB HR105_2 HR105_3 HR106_2 HR106_3 hx105_0 hx105_1 hx105_2 hx105_3 hx106_0 hx106_1 hx106_2 hx106_3 hHeld ⊢
             refine pY 0 62 Y3x ?_
             refine pY 2 64 bz12_5 ?_
             refine pY 5 67 bz12_25 ?_
             refine pY 7 69 bz12_a5 ?_
             refine pT 1 63 bz12_a7 ?_
             refine pY 3 65 bz12_af ?_
             refine pT 4 66 bz12_bf ?_
             refine pT 6 68 Y2O ?_
             refine pY 8 70 Y2n ?_
             refine pT 9 71 Y2o ?_
             refine Y28 (i := 10) (N := some 72) Y2p rfl rfl (Y1g HT_.out Z7) (by decide) (fun K hK => ?_)
             refine Y1G Tryd.func28 Z7 rfl #[.agg #[.int .i64 ((Ya l0_3 x6_3).f0), .string ((Ya l0_3 x6_3).f1), .slice A105_2 ((Ya l0_3 x6_3).f2).length c105_2, .slice A105_3 ((Ya l0_3 x6_3).f3).length c105_3], .agg #[.int .i64 ((Ya l1_3 x6_3).f0), .string ((Ya l1_3 x6_3).f1), .slice A106_2 ((Ya l1_3 x6_3).f2).length c106_2, .slice A106_3 ((Ya l1_3 x6_3).f3).length c106_3]] (by rfl) rfl rfl Z0 ?_
             with_reducible refine (ih k3 Z1E ((Ya l0_3 x6_3).f0) ((Ya l0_3 x6_3).f1) _ _ ((Ya l0_3 x6_3).f2) _ _ ((Ya l0_3 x6_3).f3) ((Ya l1_3 x6_3).f0) ((Ya l1_3 x6_3).f1) _ _ ((Ya l1_3 x6_3).f2) _ _ ((Ya l1_3 x6_3).f3) false _ ?side1 ?side2 ?side3 ?side4 ?side5 ?side6 ?side7 ?side8 A37.out).mono ?_
             (case side1 => exact Z1u)
             (case side2 => exact HC105_2.out)
             (case side3 => exact Z1v)
             (case side4 => exact HC105_3.out)
             (case side5 => exact Z1n)
             (case side6 => exact HC106_2.out)
             (case side7 => exact Z1o)
             (case side8 => exact HC106_3.out)
             rintro e w46 ⟨rfl, hb⟩
             refine ⟨_, rfl, ?_⟩
             have n_ := Y1P (Yi (g := gb101) (o := .cells #[.int .i64 a0_0, .string a0_1, .slice A0_2 l0_2.length c0_2, .slice (some ad105) l0_3.length c0_3] 37 (0, 0)) QQ hb) (Yi (g := gb102) (o := .cells #[.int .i64 a1_0, .string a1_1, .slice A1_2 l1_2.length c1_2, .slice (some ad106) l1_3.length c1_3] 37 (0, 0)) QQ hb) (Y6 QB hb)
             clear BK101
             clear BK102
             clear HB
             obtain ⟨BK101, BK102, HB⟩ := n_
             (try clear hb)
             (try clear hb2)
             (try clear hk)
             (try clear hi)
             refine hK.out _ _ ⟨(Y1 BK101.out 0).trans rfl, (Y1 BK101.out 1).trans rfl, (Y1 BK101.out 2).trans rfl, (Y1 BK101.out 3).trans rfl, (Y1 BK102.out 0).trans rfl, (Y1 BK102.out 1).trans rfl, (Y1 BK102.out 2).trans rfl, (Y1 BK102.out 3).trans rfl, ((HB.out.cell (World.block_lt_of_cell? w _ hw105_0)).trans hw105_0), ((HB.out.cell (World.block_lt_of_cell? w _ hw105_1)).trans hw105_1), ((HB.out.cell (World.block_lt_of_cell? w _ hw105_2)).trans hw105_2), ((HB.out.cell (World.block_lt_of_cell? w _ hw105_3)).trans hw105_3), ((HB.out.cell (World.block_lt_of_cell? w _ hw106_0)).trans hw106_0), ((HB.out.cell (World.block_lt_of_cell? w _ hw106_1)).trans hw106_1), ((HB.out.cell (World.block_lt_of_cell? w _ hw106_2)).trans hw106_2), ((HB.out.cell (World.block_lt_of_cell? w _ hw106_3)).trans hw106_3)⟩ (fun hHeld => ?_)
             clear hK K
             refine Y1z (a' := ?_) ?_ ?_
             rotate_left
             ·show Act.put _ (some 72) _ = _
              simp only [Act.put, List.setIfInBounds_toArray, List.set_cons_zero, List.set_cons_succ, Y13, Y15]
              rfl
             refine pY 11 73 Y2q ?_
             refine Y1L (Y1f HT_.out Z7) ?_
             try go_wp2
             go_ret
             exact Z1U
           ·rw [if_neg c36] at H
            exact ZH
          ·rw [if_neg c35] at H
           exact ZH
         ·rw [if_neg c34] at H
          have c34b0 : decide (x6_3 < (l0_3.length : Int)) = false := decide_eq_false c34
          clear c34
          obtain rfl := Option.some.inj H
          have hnb47 := NB101_102.out
          have hnc47 := NB102_101.out
          obtain ⟨hcz48_0, hcz48_1, hcz48_2, hcz48_3, hfz48_0, hfz48_1, hfz48_2, hfz48_3⟩ := Yt BK101.out
          go_wp2
          go_ret
          exact Z1U
def triviumlaw12_QueryBinds.j0 : Nat → Int → Bool → Option (Bool)
 | 0, _, _ => none
 | k + 1, x0, x16 => if x16 = true then (some true) else ((some (([(⟨#[94, 60, 97, 62, 42]⟩ : ByteArray), (⟨#[60, 97, 62, 47, 60, 98, 62, 42]⟩ : ByteArray), (⟨#[60, 97, 62, 124, 60, 98, 62, 47, 60, 99, 62]⟩ : ByteArray), (⟨#[60, 97, 62, 47, 60, 98, 62, 47, 60, 99, 62]⟩ : ByteArray), (⟨#[33, 60, 97, 62, 124, 60, 98, 62]⟩ : ByteArray), (⟨#[33, 40, 60, 97, 62, 124, 60, 98, 62, 41, 47, 60, 99, 62, 63, 43]⟩ : ByteArray)] : List ByteArray) : List ByteArray)).bind fun y101 => (if 0 ≤ x0 then (if x0 < (y101.length : Int) then ((some (([(⟨#[40, 94, 60, 97, 62, 41, 42]⟩ : ByteArray), (⟨#[60, 97, 62, 47, 40, 60, 98, 62, 42, 41]⟩ : ByteArray), (⟨#[60, 97, 62, 124, 40, 60, 98, 62, 47, 60, 99, 62, 41]⟩ : ByteArray), (⟨#[40, 60, 97, 62, 47, 60, 98, 62, 41, 47, 60, 99, 62]⟩ : ByteArray), (⟨#[40, 33, 40, 60, 97, 62, 41, 41, 124, 60, 98, 62]⟩ : ByteArray), (⟨#[40, 33, 40, 60, 97, 62, 124, 60, 98, 62, 41, 41, 47, 40, 40, 60, 99, 62, 63, 41, 43, 41]⟩ : ByteArray)] : List ByteArray) : List ByteArray)).bind fun y105 => (if x0 < (y105.length : Int) then ((Yr.f k (Y1x ByteArray.empty y101 x0)).bind fun bt109 => ((Yr.f k (Y1x ByteArray.empty y105 x0)).bind fun bt120 => (if bt109.2.2.2.2.2 = 0 then (if bt120.2.2.2.2.2 = 0 then ((Y2.f k bt109.1 bt109.2.1 bt109.2.2.1 bt109.2.2.2.1 bt120.1 bt120.2.1 bt120.2.2.1 bt120.2.2.2.1).bind fun t131 => (if t131 = true then ((Ys.f k bt109.1 bt109.2.1 bt109.2.2.1 bt109.2.2.2.1).bind fun t132 => (if t132.toList = (Y1x ByteArray.empty y105 x0).toList then ((YG.f k).bind fun t133 => (some t133)) else (some false))) else (some false))) else (some false)) else (some false)))) else (none))) else (none)) else (none)))
def triviumlaw12_QueryBinds.f (k : Nat) (a0 : Int) : Option (Bool) := if a0 < 0 then (triviumlaw12_QueryBinds.j0 k a0 true) else (triviumlaw12_QueryBinds.j0 k a0 (decide (a0 > 5)))
set_option maxHeartbeats 8000000 in
set_option maxRecDepth 100000 in
theorem triviumlaw12_QueryBinds.calls (k : Nat) (a0 : Int) (r : Bool) (w : World) (hT : Tabs w) (h : triviumlaw12_QueryBinds.f k a0 = some r) :
  Calls Tryd.prog 8 #[.int .i64 a0] w fun e w' => e = .returned (.bool r) ∧ Below w.heap.size w w' := by
 have HT := Y0.mk hT
 clear hT
 have hu37 := Tryd.underlying37
 have HB := Y0.mk (Below.refl w.heap.size w)
 have H : (if a0 < 0 then (triviumlaw12_QueryBinds.j0 k a0 true) else (triviumlaw12_QueryBinds.j0 k a0 (decide (a0 > 5)))) = some r := h
 clear h
 have HC2 := Y0.mk H
 clear H
 go_enter Tryd.func8, Tryd.ntmps8
 go_upto_region 1 with (fail)
 go_cut [16] (fun v16 wc => ∃ (kq : Nat) (x16_1 : Bool), v16 = .bool x16_1 ∧ Y0 (triviumlaw12_QueryBinds.j0 kq a0 x16_1 = some r) ∧ Y0 (kq ≤ k) ∧ Y0 (Below w.heap.size w wc))
 case first =>
  have H := HC2.out
  clear HC2
  by_cases c3 : a0 < 0
  ·rw [if_pos c3] at H
   have c3b0 : decide (a0 < 0) = true := decide_eq_true c3
   clear c3
   (first | rw [c3b0] | (simp only [Y13, Y15]; rw [c3b0]) | skip)
   have H' := Y0.mk H
   clear H
   go_wp2
   go_meet
   case rel => exact ⟨_, (true), Ze, H', ⟨Z1e⟩, ⟨QB⟩⟩
  ·rw [if_neg c3] at H
   have c3b0 : decide (a0 < 0) = false := decide_eq_false c3
   clear c3
   (first | rw [c3b0] | (simp only [Y13, Y15]; rw [c3b0]) | skip)
   have H' := Y0.mk H
   clear H
   go_wp2
   go_meet
   case rel => exact ⟨_, (decide (a0 > 5)), Ze, H', ⟨Z1e⟩, ⟨QB⟩⟩
 case rest =>
  clear HC2
  try clear p2
  try clear c3
  try clear c3b0
  obtain ⟨kq, x16_1, rfl, HA, HJ1, HB⟩ := hcut
  cases kq with
  | zero => exact absurd HA.out (by simp [triviumlaw12_QueryBinds.j0])
  | succ kj1 =>
   have H := HA.out
   clear HA
   simp only [triviumlaw12_QueryBinds.j0] at H
   by_cases c4 : x16_1 = true
   ·subst c4
    have H1 : (some true) = some r := by rw [if_pos rfl] at H; exact H
    clear H
    have H := H1
    clear H1
    obtain rfl := Option.some.inj H
    go_wp2
    go_ret
    exact Z1U
   ·replace c4 := Bool.eq_false_iff.mpr c4
    subst c4
    have H1 : ((some (([(⟨#[94, 60, 97, 62, 42]⟩ : ByteArray), (⟨#[60, 97, 62, 47, 60, 98, 62, 42]⟩ : ByteArray), (⟨#[60, 97, 62, 124, 60, 98, 62, 47, 60, 99, 62]⟩ : ByteArray), (⟨#[60, 97, 62, 47, 60, 98, 62, 47, 60, 99, 62]⟩ : ByteArray), (⟨#[33, 60, 97, 62, 124, 60, 98, 62]⟩ : ByteArray), (⟨#[33, 40, 60, 97, 62, 124, 60, 98, 62, 41, 47, 60, 99, 62, 63, 43]⟩ : ByteArray)] : List ByteArray) : List ByteArray)).bind fun y101 => (if 0 ≤ a0 then (if a0 < (y101.length : Int) then ((some (([(⟨#[40, 94, 60, 97, 62, 41, 42]⟩ : ByteArray), (⟨#[60, 97, 62, 47, 40, 60, 98, 62, 42, 41]⟩ : ByteArray), (⟨#[60, 97, 62, 124, 40, 60, 98, 62, 47, 60, 99, 62, 41]⟩ : ByteArray), (⟨#[40, 60, 97, 62, 47, 60, 98, 62, 41, 47, 60, 99, 62]⟩ : ByteArray), (⟨#[40, 33, 40, 60, 97, 62, 41, 41, 124, 60, 98, 62]⟩ : ByteArray), (⟨#[40, 33, 40, 60, 97, 62, 124, 60, 98, 62, 41, 41, 47, 40, 40, 60, 99, 62, 63, 41, 43, 41]⟩ : ByteArray)] : List ByteArray) : List ByteArray)).bind fun y105 => (if a0 < (y105.length : Int) then ((Yr.f kj1 (Y1x ByteArray.empty y101 a0)).bind fun bt109 => ((Yr.f kj1 (Y1x ByteArray.empty y105 a0)).bind fun bt120 => (if bt109.2.2.2.2.2 = 0 then (if bt120.2.2.2.2.2 = 0 then ((Y2.f kj1 bt109.1 bt109.2.1 bt109.2.2.1 bt109.2.2.2.1 bt120.1 bt120.2.1 bt120.2.2.1 bt120.2.2.2.1).bind fun t131 => (if t131 = true then ((Ys.f kj1 bt109.1 bt109.2.1 bt109.2.2.1 bt109.2.2.2.1).bind fun t132 => (if t132.toList = (Y1x ByteArray.empty y105 a0).toList then ((YG.f kj1).bind fun t133 => (some t133)) else (some false))) else (some false))) else (some false)) else (some false)))) else (none))) else (none)) else (none))) = some r := by rw [if_neg (show ¬ (false = true) by decide)] at H; exact H
    clear H
    have H := H1
    clear H1
    obtain ⟨y101, hy101⟩ : ∃ y_ : List ByteArray, y_ = (([(⟨#[94, 60, 97, 62, 42]⟩ : ByteArray), (⟨#[60, 97, 62, 47, 60, 98, 62, 42]⟩ : ByteArray), (⟨#[60, 97, 62, 124, 60, 98, 62, 47, 60, 99, 62]⟩ : ByteArray), (⟨#[60, 97, 62, 47, 60, 98, 62, 47, 60, 99, 62]⟩ : ByteArray), (⟨#[33, 60, 97, 62, 124, 60, 98, 62]⟩ : ByteArray), (⟨#[33, 40, 60, 97, 62, 124, 60, 98, 62, 41, 47, 60, 99, 62, 63, 43]⟩ : ByteArray)] : List ByteArray)) := ⟨_, rfl⟩
    replace H : (if 0 ≤ a0 then (if a0 < (y101.length : Int) then ((some (([(⟨#[40, 94, 60, 97, 62, 41, 42]⟩ : ByteArray), (⟨#[60, 97, 62, 47, 40, 60, 98, 62, 42, 41]⟩ : ByteArray), (⟨#[60, 97, 62, 124, 40, 60, 98, 62, 47, 60, 99, 62, 41]⟩ : ByteArray), (⟨#[40, 60, 97, 62, 47, 60, 98, 62, 41, 47, 60, 99, 62]⟩ : ByteArray), (⟨#[40, 33, 40, 60, 97, 62, 41, 41, 124, 60, 98, 62]⟩ : ByteArray), (⟨#[40, 33, 40, 60, 97, 62, 124, 60, 98, 62, 41, 41, 47, 40, 40, 60, 99, 62, 63, 41, 43, 41]⟩ : ByteArray)] : List ByteArray) : List ByteArray)).bind fun y105 => (if a0 < (y105.length : Int) then ((Yr.f kj1 (Y1x ByteArray.empty y101 a0)).bind fun bt109 => ((Yr.f kj1 (Y1x ByteArray.empty y105 a0)).bind fun bt120 => (if bt109.2.2.2.2.2 = 0 then (if bt120.2.2.2.2.2 = 0 then ((Y2.f kj1 bt109.1 bt109.2.1 bt109.2.2.1 bt109.2.2.2.1 bt120.1 bt120.2.1 bt120.2.2.1 bt120.2.2.2.1).bind fun t131 => (if t131 = true then ((Ys.f kj1 bt109.1 bt109.2.1 bt109.2.2.1 bt109.2.2.2.1).bind fun t132 => (if t132.toList = (Y1x ByteArray.empty y105 a0).toList then ((YG.f kj1).bind fun t133 => (some t133)) else (some false))) else (some false))) else (some false)) else (some false)))) else (none))) else (none)) else (none)) = some r := by first | (rw [hy101]; with_reducible exact H) | (have H2_ := (Option.bind_some _ _).symm.trans H; rw [hy101]; with_reducible exact H2_) | (have H2_ := (Option.bind_some _ _).symm.trans H; with_reducible exact H2_) | with_reducible exact H | (rw [hy101]; exact H) | exact H
    have Ny101 := Y0.mk hy101
    clear hy101
    by_cases c5 : 0 ≤ a0
    ·rw [if_pos c5] at H
     have c5b0 : decide (0 ≤ a0) = true := decide_eq_true c5
     clear c5
     by_cases c6 : a0 < (y101.length : Int)
     ·rw [if_pos c6] at H
      have c6b0 : decide (a0 < (y101.length : Int)) = true := decide_eq_true c6
      clear c6
      obtain ⟨y105, hy105⟩ : ∃ y_ : List ByteArray, y_ = (([(⟨#[40, 94, 60, 97, 62, 41, 42]⟩ : ByteArray), (⟨#[60, 97, 62, 47, 40, 60, 98, 62, 42, 41]⟩ : ByteArray), (⟨#[60, 97, 62, 124, 40, 60, 98, 62, 47, 60, 99, 62, 41]⟩ : ByteArray), (⟨#[40, 60, 97, 62, 47, 60, 98, 62, 41, 47, 60, 99, 62]⟩ : ByteArray), (⟨#[40, 33, 40, 60, 97, 62, 41, 41, 124, 60, 98, 62]⟩ : ByteArray), (⟨#[40, 33, 40, 60, 97, 62, 124, 60, 98, 62, 41, 41, 47, 40, 40, 60, 99, 62, 63, 41, 43, 41]⟩ : ByteArray)] : List ByteArray)) := ⟨_, rfl⟩
      replace H : (if a0 < (y105.length : Int) then ((Yr.f kj1 (Y1x ByteArray.empty y101 a0)).bind fun bt109 => ((Yr.f kj1 (Y1x ByteArray.empty y105 a0)).bind fun bt120 => (if bt109.2.2.2.2.2 = 0 then (if bt120.2.2.2.2.2 = 0 then ((Y2.f kj1 bt109.1 bt109.2.1 bt109.2.2.1 bt109.2.2.2.1 bt120.1 bt120.2.1 bt120.2.2.1 bt120.2.2.2.1).bind fun t131 => (if t131 = true then ((Ys.f kj1 bt109.1 bt109.2.1 bt109.2.2.1 bt109.2.2.2.1).bind fun t132 => (if t132.toList = (Y1x ByteArray.empty y105 a0).toList then ((YG.f kj1).bind fun t133 => (some t133)) else (some false))) else (some false))) else (some false)) else (some false)))) else (none)) = some r := by first | (rw [hy105]; with_reducible exact H) | (have H2_ := (Option.bind_some _ _).symm.trans H; rw [hy105]; with_reducible exact H2_) | (have H2_ := (Option.bind_some _ _).symm.trans H; with_reducible exact H2_) | with_reducible exact H | (rw [hy105]; exact H) | exact H
      have Ny105 := Y0.mk hy105
      clear hy105
      by_cases c7 : a0 < (y105.length : Int)
      ·rw [if_pos c7] at H
       have c7b0 : decide (a0 < (y105.length : Int)) = true := decide_eq_true c7
       clear c7
       replace H := Option.bind_eq_some_iff.mp H
       obtain ⟨⟨t109, t110, t111, t114, t117, t118⟩, A80, H⟩ := H
       replace H : ((Yr.f kj1 (Y1x ByteArray.empty y105 a0)).bind fun bt120 => (if t118 = 0 then (if bt120.2.2.2.2.2 = 0 then ((Y2.f kj1 t109 t110 t111 t114 bt120.1 bt120.2.1 bt120.2.2.1 bt120.2.2.2.1).bind fun t131 => (if t131 = true then ((Ys.f kj1 t109 t110 t111 t114).bind fun t132 => (if t132.toList = (Y1x ByteArray.empty y105 a0).toList then ((YG.f kj1).bind fun t133 => (some t133)) else (some false))) else (some false))) else (some false)) else (some false))) = some r := H
       have A8 := Y0.mk A80
       clear A80
       replace H := Option.bind_eq_some_iff.mp H
       obtain ⟨⟨t120, t121, t122, t125, t128, t129⟩, A90, H⟩ := H
       replace H : (if t118 = 0 then (if t129 = 0 then ((Y2.f kj1 t109 t110 t111 t114 t120 t121 t122 t125).bind fun t131 => (if t131 = true then ((Ys.f kj1 t109 t110 t111 t114).bind fun t132 => (if t132.toList = (Y1x ByteArray.empty y105 a0).toList then ((YG.f kj1).bind fun t133 => (some t133)) else (some false))) else (some false))) else (some false)) else (some false)) = some r := H
       have A9 := Y0.mk A90
       clear A90
       by_cases c10 : t118 = 0
       ·rw [if_pos c10] at H
        have c10b0 : (t118 == 0) = true := beq_iff_eq.mpr c10
        have c10b1 : (t118 != 0) = false := bne_eq_false_iff_eq.mpr c10
        clear c10
        by_cases c11 : t129 = 0
        ·rw [if_pos c11] at H
         have c11b0 : (t129 == 0) = true := beq_iff_eq.mpr c11
         have c11b1 : (t129 != 0) = false := bne_eq_false_iff_eq.mpr c11
         clear c11
         replace H := Option.bind_eq_some_iff.mp H
         obtain ⟨t131, A120, H⟩ := H
         replace H : (if t131 = true then ((Ys.f kj1 t109 t110 t111 t114).bind fun t132 => (if t132.toList = (Y1x ByteArray.empty y105 a0).toList then ((YG.f kj1).bind fun t133 => (some t133)) else (some false))) else (some false)) = some r := H
         have A12 := Y0.mk A120
         clear A120
         by_cases c13 : t131 = true
         ·subst c13
          have H1 : ((Ys.f kj1 t109 t110 t111 t114).bind fun t132 => (if t132.toList = (Y1x ByteArray.empty y105 a0).toList then ((YG.f kj1).bind fun t133 => (some t133)) else (some false))) = some r := by rw [if_pos rfl] at H; exact H
          clear H
          have H := H1
          clear H1
          replace H := Option.bind_eq_some_iff.mp H
          obtain ⟨t132, A140, H⟩ := H
          replace H : (if t132.toList = (Y1x ByteArray.empty y105 a0).toList then ((YG.f kj1).bind fun t133 => (some t133)) else (some false)) = some r := H
          have A14 := Y0.mk A140
          clear A140
          by_cases c15 : t132.toList = (Y1x ByteArray.empty y105 a0).toList
          ·rw [if_pos c15] at H
           have c15b0 : (t132.toList == (Y1x ByteArray.empty y105 a0).toList) = true := beq_iff_eq.mpr c15
           have c15b1 : (t132.toList != (Y1x ByteArray.empty y105 a0).toList) = false := bne_eq_false_iff_eq.mpr c15
           clear c15
           replace H := Option.bind_eq_some_iff.mp H
           obtain ⟨t133, A160, H⟩ := H
           replace H : (some t133) = some r := H
           have A16 := Y0.mk A160
           clear A160
           obtain rfl := Option.some.inj H
           go_wp2_with (first | ((with_reducible refine Ym (N := 17) rfl ?_); refine Kd.R_lit Kd.string _ 9 ?hg (N := 17) ?hd (xs := ([(⟨#[94, 60, 97, 62, 42]⟩ : ByteArray), (⟨#[60, 97, 62, 47, 60, 98, 62, 42]⟩ : ByteArray), (⟨#[60, 97, 62, 124, 60, 98, 62, 47, 60, 99, 62]⟩ : ByteArray), (⟨#[60, 97, 62, 47, 60, 98, 62, 47, 60, 99, 62]⟩ : ByteArray), (⟨#[33, 60, 97, 62, 124, 60, 98, 62]⟩ : ByteArray), (⟨#[33, 40, 60, 97, 62, 124, 60, 98, 62, 41, 47, 60, 99, 62, 63, 43]⟩ : ByteArray)] : List ByteArray)) (inner := [.string (⟨#[94, 60, 97, 62, 42]⟩ : ByteArray), .string (⟨#[60, 97, 62, 47, 60, 98, 62, 42]⟩ : ByteArray), .string (⟨#[60, 97, 62, 124, 60, 98, 62, 47, 60, 99, 62]⟩ : ByteArray), .string (⟨#[60, 97, 62, 47, 60, 98, 62, 47, 60, 99, 62]⟩ : ByteArray), .string (⟨#[33, 60, 97, 62, 124, 60, 98, 62]⟩ : ByteArray), .string (⟨#[33, 40, 60, 97, 62, 124, 60, 98, 62, 41, 47, 60, 99, 62, 63, 43]⟩ : ByteArray)]) (ok := fun _ => True) (okp := fun _ => True) ?hr ?hp (fun _ hk => hk) trivial (Below.refl _ _) (Nat.le_refl _) (by simp) ?_; (case hd => rfl); (case hg => rfl); (case hr => exact Za); (case hp => exact Z5); intro v102 w17 ho18 hb hg_ hnew_; clear hg_ hnew_; (first | rw [← Ny101.out] at ho18 | (simp only [Int.reduceToNat] at ho18; rw [← Ny101.out] at ho18)); have n_ := Y1V (Kd.R_lower ho18 (Y5 QB)) (Y6 QB hb); clear HB; obtain ⟨HO103, HB⟩ := n_; clear hb ho18; obtain ⟨Ao19, co19, eo19⟩ := Kd.R_slice HO103.out; subst eo19; have p104 : 0 ≤ (a0 : Int) := of_decide_eq_true Z8; have q104 : a0 < (y101.length : Int) := of_decide_eq_true Z8; obtain ⟨ad104, e104, hx104_0⟩ := Kd.at_string (Kd.R_reads' HO103.out).2.2 a0 p104 q104; cases e104; replace p104 := eq_true p104; replace q104 := eq_true q104) | ((with_reducible refine Ym (N := 21) rfl ?_); refine Kd.R_lit Kd.string _ 9 ?hg (N := 21) ?hd (xs := ([(⟨#[40, 94, 60, 97, 62, 41, 42]⟩ : ByteArray), (⟨#[60, 97, 62, 47, 40, 60, 98, 62, 42, 41]⟩ : ByteArray), (⟨#[60, 97, 62, 124, 40, 60, 98, 62, 47, 60, 99, 62, 41]⟩ : ByteArray), (⟨#[40, 60, 97, 62, 47, 60, 98, 62, 41, 47, 60, 99, 62]⟩ : ByteArray), (⟨#[40, 33, 40, 60, 97, 62, 41, 41, 124, 60, 98, 62]⟩ : ByteArray), (⟨#[40, 33, 40, 60, 97, 62, 124, 60, 98, 62, 41, 41, 47, 40, 40, 60, 99, 62, 63, 41, 43, 41]⟩ : ByteArray)] : List ByteArray)) (inner := [.string (⟨#[40, 94, 60, 97, 62, 41, 42]⟩ : ByteArray), .string (⟨#[60, 97, 62, 47, 40, 60, 98, 62, 42, 41]⟩ : ByteArray), .string (⟨#[60, 97, 62, 124, 40, 60, 98, 62, 47, 60, 99, 62, 41]⟩ : ByteArray), .string (⟨#[40, 60, 97, 62, 47, 60, 98, 62, 41, 47, 60, 99, 62]⟩ : ByteArray), .string (⟨#[40, 33, 40, 60, 97, 62, 41, 41, 124, 60, 98, 62]⟩ : ByteArray), .string (⟨#[40, 33, 40, 60, 97, 62, 124, 60, 98, 62, 41, 41, 47, 40, 40, 60, 99, 62, 63, 41, 43, 41]⟩ : ByteArray)]) (ok := fun _ => True) (okp := fun _ => True) ?hr ?hp (fun _ hk => hk) trivial (Below.refl _ _) (Nat.le_refl _) (by simp) ?_; (case hd => rfl); (case hg => rfl); (case hr => exact Za); (case hp => exact Z4); intro v106 w20 ho21 hb hg_ hnew_; clear hg_ hnew_; (first | rw [← Ny105.out] at ho21 | (simp only [Int.reduceToNat] at ho21; rw [← Ny105.out] at ho21)); have n_ := Y1P (Kd.R_elder' Z6 (Kd.R_base ho21) hb) (Kd.R_lower (Kd.R_new' ho21 (Kd.R_lt Z6)) (Y5 QB)) (Y6 QB hb); clear HO103 HB; obtain ⟨HO103, HO107, HB⟩ := n_; clear hb ho21; obtain ⟨Ao22, co22, eo22⟩ := Kd.R_slice HO107.out; subst eo22; have p108 : 0 ≤ (a0 : Int) := of_decide_eq_true Z8; have q108 : a0 < (y105.length : Int) := of_decide_eq_true Z8; obtain ⟨ad108, e108, hx108_0⟩ := Kd.at_string (Kd.R_reads' HO107.out).2.2 a0 p108 q108; cases e108; replace p108 := eq_true p108; replace q108 := eq_true q108) | ((with_reducible refine Yh (f := 25) rfl ?_); refine Yy (some 27) rfl rfl Tryd.func25 Z7 rfl #[.string (Y1x ByteArray.empty y101 a0)] rfl Z0 ?_; (with_reducible refine (Yr.calls kj1 (Y1x ByteArray.empty y101 a0) t109 t110 t111 t114 t117 t118 _ ?side1 A8.out).mono ?_); (case side1 => exact Z3); rintro e w23 ⟨v112, v115, rfl, ho0, ho1, hb⟩; refine ⟨_, rfl, ?_⟩; have n0_ := Y0.mk (Kd.R_elder' Z6 (Kd.R_base ho0) hb); have n1_ := Y0.mk (Kd.R_elder' Z9 (Kd.R_base ho0) hb); have n2_ := Y0.mk (Kd.R_lower (Kd.R_new' (Kd.R_new' (Kd.R_mono (ok' := fun k_ => True) ho0 (fun _ hk_ => trivial)) (Kd.R_lt Z6)) (Kd.R_lt Z9)) (Y5 QB)); have n3_ := Y0.mk (Kd.N_lower (Kd.N_mono (ok' := fun k_ => some k_ ≠ (v112 : Value).ownBlock ∧ some k_ ≠ (.slice (some ad104) y101.length co19 : Value).ownBlock ∧ some k_ ≠ (.slice (some ad108) y105.length co22 : Value).ownBlock) ho1 (fun k_ hk_ => ⟨hk_.2, (Kd.fresh' (Kd.R_lt Z6) k_ hk_.1), (Kd.fresh' (Kd.R_lt Z9) k_ hk_.1)⟩)) (Y5 QB)); have n4_ := Y0.mk (Y6 QB hb); clear HO103 HO107 HB; have HO103 := n0_; have HO107 := n1_; have HO113 := n2_; have HO116 := n3_; have HB := n4_; clear n0_ n1_ n2_ n3_ n4_; (try clear hb); (try clear hb2); (try clear hk); (try clear hi); (try clear ho0); (try clear ho1)) | ((with_reducible refine Ym (N := 5) rfl ?_); refine Yn ?hg (N := 5) ?hd (cs := #[.int .i64 0, .string (⟨#[]⟩ : ByteArray), .slice none 0 0, .slice none 0 0]) (t := 37) ?hr ?_; (case hd => rfl); (case hg => rfl); (case hr => exact Za); intro gb119 hg w24 hbox hb; have n_ := Y2C (Kd.R_below Z6 hb) (Kd.R_below Z9 hb) (Kd.R_below Zi hb) (Kd.N_below (Kd.N_elderB Zh gb119 (Nat.le_of_eq hg.symm)) hb) (Y6 QB hb) (hbox) ((by rw [hg]; exact (Y5 QB) : w.heap.size ≤ gb119)) ((by rw [hg]; exact (Y5 QB) : w.heap.size ≤ gb119)); clear HO103 HO107 HO113 HO116 HB; obtain ⟨HO103, HO107, HO113, HO116, HB, BK119, GW119, GE119⟩ := n_; clear hb hbox hg; obtain ⟨hcz25_0, hcz25_1, hcz25_2, hcz25_3, hfz25_0, hfz25_1, hfz25_2, hfz25_3⟩ := Yt BK119.out; obtain ⟨Ao26, co26, eo26⟩ := Kd.R_slice HO113.out; subst eo26; obtain ⟨Ao27, co27, eo27⟩ := Kd.N_slice HO116.out; subst eo27) | ((with_reducible refine Yh (f := 25) rfl ?_); refine Yy (some 33) rfl rfl Tryd.func25 Z7 rfl #[.string (Y1x ByteArray.empty y105 a0)] rfl Z0 ?_; (with_reducible refine (Yr.calls kj1 (Y1x ByteArray.empty y105 a0) t120 t121 t122 t125 t128 t129 _ ?side1 A9.out).mono ?_); (case side1 => exact Z3); rintro e w28 ⟨v123, v126, rfl, ho0, ho1, hb⟩; refine ⟨_, rfl, ?_⟩; have n0_ := Y0.mk (Kd.R_elder' Zs (Kd.R_base ho0) hb); have n1_ := Y0.mk (Kd.R_elder' Zw (Kd.R_base ho0) hb); have n2_ := Y0.mk (Kd.R_elder' ZA (Kd.R_base ho0) hb); have n3_ := Y0.mk (Kd.N_mono (Kd.N_told (Kd.N_told (Kd.N_old ZS hb) (Kd.R_base ho0)) (Kd.N_base ho1)) (fun _ h_ => h_.1)); have n4_ := Y0.mk (Kd.R_lower (Kd.R_new' (Kd.R_new' (Kd.R_new' (Kd.R_mono (ok' := fun k_ => True) ho0 (fun _ hk_ => trivial)) (Kd.R_lt Zs)) (Kd.R_lt Zw)) (Kd.R_lt ZA)) (Y5 QB)); have n5_ := Y0.mk (Kd.N_lower (Kd.N_mono (ok' := fun k_ => some k_ ≠ (v123 : Value).ownBlock ∧ some k_ ≠ (.slice (some ad104) y101.length co19 : Value).ownBlock ∧ some k_ ≠ (.slice (some ad108) y105.length co22 : Value).ownBlock ∧ some k_ ≠ (.slice Ao26 t111.length co26 : Value).ownBlock ∧ some k_ ≠ (.slice Ao27 t114.length co27 : Value).ownBlock ∧ k_ ≠ gb119) ho1 (fun k_ hk_ => ⟨hk_.2, (Kd.fresh' (Kd.R_lt Zs) k_ hk_.1), (Kd.fresh' (Kd.R_lt Zw) k_ hk_.1), (Kd.fresh' (Kd.R_lt ZA) k_ hk_.1), (Kd.fresh' (Kd.N_lt ZS) k_ hk_.1), (Kd.freshB (g := gb119) (o := .cells #[.int .i64 t109, .string t110, .slice Ao26 t111.length co26, .slice Ao27 t114.length co27] 37 (0, 0)) Z1Y k_ hk_.1)⟩)) (Y5 QB)); have n6_ := Y0.mk (Yi (g := gb119) (o := .cells #[.int .i64 t109, .string t110, .slice Ao26 t111.length co26, .slice Ao27 t114.length co27] 37 (0, 0)) Z1Y hb); have n7_ := Y0.mk (Y6 QB hb); clear HO103 HO107 HO113 HO116 BK119 HB; have HO103 := n0_; have HO107 := n1_; have HO113 := n2_; have HO116 := n3_; have HO124 := n4_; have HO127 := n5_; have BK119 := n6_; have HB := n7_; clear n0_ n1_ n2_ n3_ n4_ n5_ n6_ n7_; (try clear hb); (try clear hb2); (try clear hk); (try clear hi); (try clear ho0); (try clear ho1)) | ((with_reducible refine Ym (N := 8) rfl ?_); refine Yn ?hg (N := 8) ?hd (cs := #[.int .i64 0, .string (⟨#[]⟩ : ByteArray), .slice none 0 0, .slice none 0 0]) (t := 37) ?hr ?_; (case hd => rfl); (case hg => rfl); (case hr => exact Za); intro gb130 hg w29 hbox hb; have n0_ := Y0.mk (Kd.R_below Z6 hb); have n1_ := Y0.mk (Kd.R_below Z9 hb); have n2_ := Y0.mk (Kd.R_below Zi hb); have n3_ := Y0.mk (Kd.N_below (Kd.N_elderB Zh gb130 (Nat.le_of_eq hg.symm)) hb); have n4_ := Y0.mk (Kd.R_below ZG hb); have n5_ := Y0.mk (Kd.N_below (Kd.N_elderB ZF gb130 (Nat.le_of_eq hg.symm)) hb); have n6_ := Y0.mk (Yi (g := gb119) (o := .cells #[.int .i64 t109, .string t110, .slice Ao26 t111.length co26, .slice Ao27 t114.length co27] 37 (0, 0)) QQ hb); have n7_ := Y0.mk (Y6 QB hb); have n8_ := Y0.mk (hbox); have n9_ := Y0.mk ((by rw [hg]; exact (Y5 QB) : w.heap.size ≤ gb130)); have n10_ := Y0.mk ((by rw [hg]; exact (Y5 QB) : w.heap.size ≤ gb130)); have n11_ := Y0.mk ((by rw [hg]; exact Nat.ne_of_lt (YO (g := gb119) (o := .cells #[.int .i64 t109, .string t110, .slice Ao26 t111.length co26, .slice Ao27 t114.length co27] 37 (0, 0)) QQ) : gb119 ≠ gb130)); have n12_ := Y0.mk ((by rw [hg]; exact Nat.ne_of_gt (YO (g := gb119) (o := .cells #[.int .i64 t109, .string t110, .slice Ao26 t111.length co26, .slice Ao27 t114.length co27] 37 (0, 0)) QQ) : gb130 ≠ gb119)); clear HO103 HO107 HO113 HO116 HO124 HO127 BK119 HB; have HO103 := n0_; have HO107 := n1_; have HO113 := n2_; have HO116 := n3_; have HO124 := n4_; have HO127 := n5_; have BK119 := n6_; have HB := n7_; have BK130 := n8_; have GW130 := n9_; have GE130 := n10_; have NB119_130 := n11_; have NB130_119 := n12_; clear n0_ n1_ n2_ n3_ n4_ n5_ n6_ n7_ n8_ n9_ n10_ n11_ n12_ hb hbox hg; have hnb30 := NB130_119.out; have hnc30 := NB119_130.out; obtain ⟨hcz31_0, hcz31_1, hcz31_2, hcz31_3, hfz31_0, hfz31_1, hfz31_2, hfz31_3⟩ := Yt BK130.out; obtain ⟨Ao32, co32, eo32⟩ := Kd.R_slice HO124.out; subst eo32; obtain ⟨Ao33, co33, eo33⟩ := Kd.N_slice HO127.out; subst eo33; obtain ⟨hcz34_0, hcz34_1, hcz34_2, hcz34_3, hfz34_0, hfz34_1, hfz34_2, hfz34_3⟩ := Yt BK119.out) | (go_at_call 28; (with_reducible refine (Y2.calls kj1 t109 t110 _ _ t111 _ _ t114 t120 t121 _ _ t122 _ _ t125 true _ ?side1 ?side2 ?side3 ?side4 ?side5 ?side6 ?side7 ?side8 A12.out).mono ?_); (case side1 => refine (Kd.R_reads' (e := 9) (base := w.heap.size) (ok := fun k_ => (((True ∧ some k_ ≠ (.slice (some ad104) y101.length co19 : Value).ownBlock) ∧ some k_ ≠ (.slice (some ad108) y105.length co22 : Value).ownBlock) ∧ some k_ ≠ (.slice Ao32 t122.length co32 : Value).ownBlock)) (n := t111.length) (c := co26) ?_).2.2; exact Z15); (case side2 => exact Z1J); (case side3 => refine (Kd.N_reads' (e := 37) (base := w.heap.size) (ok := fun k_ => (((((some k_ ≠ (.slice Ao26 t111.length co26 : Value).ownBlock ∧ (some k_ ≠ (.slice (some ad104) y101.length co19 : Value).ownBlock ∧ some k_ ≠ (.slice (some ad108) y105.length co22 : Value).ownBlock)) ∧ k_ ≠ gb119) ∧ some k_ ≠ (.slice Ao32 t122.length co32 : Value).ownBlock) ∧ some k_ ≠ (.slice Ao33 t125.length co33 : Value).ownBlock) ∧ k_ ≠ gb130)) (n := t114.length) (c := co27) ?_).2.2; exact ZW); (case side4 => exact Z1I); (case side5 => refine (Kd.R_reads' (e := 9) (base := w.heap.size) (ok := fun k_ => (((True ∧ some k_ ≠ (.slice (some ad104) y101.length co19 : Value).ownBlock) ∧ some k_ ≠ (.slice (some ad108) y105.length co22 : Value).ownBlock) ∧ some k_ ≠ (.slice Ao26 t111.length co26 : Value).ownBlock)) (n := t122.length) (c := co32) ?_).2.2; exact Z18); (case side6 => exact (Kd.R_reads' HO124.out).2.1); (case side7 => refine (Kd.N_reads' (e := 37) (base := w.heap.size) (ok := fun k_ => ((some k_ ≠ (.slice Ao32 t122.length co32 : Value).ownBlock ∧ (some k_ ≠ (.slice (some ad104) y101.length co19 : Value).ownBlock ∧ (some k_ ≠ (.slice (some ad108) y105.length co22 : Value).ownBlock ∧ (some k_ ≠ (.slice Ao26 t111.length co26 : Value).ownBlock ∧ (some k_ ≠ (.slice Ao27 t114.length co27 : Value).ownBlock ∧ k_ ≠ gb119))))) ∧ k_ ≠ gb130)) (n := t125.length) (c := co33) ?_).2.2; exact ZZ); (case side8 => exact (Kd.N_reads' HO127.out).2.1); rintro e w35 ⟨rfl, hb⟩; have n0_ := Y0.mk (Kd.R_below (by (with_reducible repeat (first | apply Kd.R_alloc | apply Kd.R_drewN | apply Kd.R_drew)); exact (Kd.R_mono (Kd.R_far (p := ⟨gb130, 3, none⟩) (Kd.R_far (p := ⟨gb130, 2, none⟩) (Kd.R_far (p := ⟨gb130, 1, none⟩) (Kd.R_far (p := ⟨gb130, 0, none⟩) (Kd.R_types HO103.out BK130.out (by decide)) (fun _ hk => hk.2) (.int .i64 t120)) (fun _ hk => hk.2) (.string t121)) (fun _ hk => hk.2) (.slice Ao32 t122.length co32)) (fun _ hk => hk.2) (.slice Ao33 t125.length co33)) (fun _ h_ => h_.1))) hb); have n1_ := Y0.mk (Kd.R_below (by (with_reducible repeat (first | apply Kd.R_alloc | apply Kd.R_drewN | apply Kd.R_drew)); exact (Kd.R_mono (Kd.R_far (p := ⟨gb130, 3, none⟩) (Kd.R_far (p := ⟨gb130, 2, none⟩) (Kd.R_far (p := ⟨gb130, 1, none⟩) (Kd.R_far (p := ⟨gb130, 0, none⟩) (Kd.R_types HO107.out BK130.out (by decide)) (fun _ hk => hk.2) (.int .i64 t120)) (fun _ hk => hk.2) (.string t121)) (fun _ hk => hk.2) (.slice Ao32 t122.length co32)) (fun _ hk => hk.2) (.slice Ao33 t125.length co33)) (fun _ h_ => h_.1))) hb); have n2_ := Y0.mk (Kd.R_below Z15 hb); have n3_ := Y0.mk (Kd.N_below ZW hb); have n4_ := Y0.mk (Kd.R_below Z18 hb); have n5_ := Y0.mk (Kd.N_below ZZ hb); have n6_ := Y0.mk (Yi (g := gb119) (o := .cells #[.int .i64 t109, .string t110, .slice Ao26 t111.length co26, .slice Ao27 t114.length co27] 37 (0, 0)) Zk hb); have n7_ := Y0.mk (Yi (g := gb130) (o := .cells #[.int .i64 t120, .string t121, .slice Ao32 t122.length co32, .slice Ao33 t125.length co33] 37 (0, 0)) (by (with_reducible repeat (first | refine Y9 ?_ _ | refine Y8 ?_ | refine Y7 ?_ _)); exact Yo (cs := #[.int .i64 t120, .string t121, .slice Ao32 t122.length co32, .slice none 0 0]) Z1Q 3 _ rfl) hb); have n8_ := Y0.mk (Y6 QB hb); clear HO103 HO107 HO113 HO116 HO124 HO127 BK119 BK130 HB; have HO103 := n0_; have HO107 := n1_; have HO113 := n2_; have HO116 := n3_; have HO124 := n4_; have HO127 := n5_; have BK119 := n6_; have BK130 := n7_; have HB := n8_; clear n0_ n1_ n2_ n3_ n4_ n5_ n6_ n7_ n8_; (try clear hb); (try clear hb2); (try clear hk); (try clear hi); obtain ⟨hcz36_0, hcz36_1, hcz36_2, hcz36_3, hfz36_0, hfz36_1, hfz36_2, hfz36_3⟩ := Yt BK119.out) | (go_at_call 24; (with_reducible refine (Ys.calls kj1 t109 t110 _ _ t111 _ _ t114 t132 _ ?side1 ?side2 ?side3 ?side4 A14.out).mono ?_); (case side1 => exact Z1y); (case side2 => exact Z1J); (case side3 => exact Z1x); (case side4 => exact Z1I); rintro e w37 ⟨rfl, hb⟩; have n_ := put9 (Kd.R_below Z6 hb) (Kd.R_below Z9 hb) (Kd.R_below Zi hb) (Kd.N_below Zh hb) (Kd.R_below ZG hb) (Kd.N_below ZF hb) (Yi (g := gb119) (o := .cells #[.int .i64 t109, .string t110, .slice Ao26 t111.length co26, .slice Ao27 t114.length co27] 37 (0, 0)) QQ hb) (Yi (g := gb130) (o := .cells #[.int .i64 t120, .string t121, .slice Ao32 t122.length co32, .slice Ao33 t125.length co33] 37 (0, 0)) QQ hb) (Y6 QB hb); clear HO103 HO107 HO113 HO116 HO124 HO127 BK119 BK130 HB; obtain ⟨HO103, HO107, HO113, HO116, HO124, HO127, BK119, BK130, HB⟩ := n_; (try clear hb); (try clear hb2); (try clear hk); (try clear hi)) | (go_at_call 27; (with_reducible refine (YG.calls kj1  t133 _ ?side1 A16.out).mono ?_); (case side1 => exact Z3); rintro e w38 ⟨rfl, hb⟩; have n_ := put9 (Kd.R_below Z6 hb) (Kd.R_below Z9 hb) (Kd.R_below Zi hb) (Kd.N_below Zh hb) (Kd.R_below ZG hb) (Kd.N_below ZF hb) (Yi (g := gb119) (o := .cells #[.int .i64 t109, .string t110, .slice Ao26 t111.length co26, .slice Ao27 t114.length co27] 37 (0, 0)) QQ hb) (Yi (g := gb130) (o := .cells #[.int .i64 t120, .string t121, .slice Ao32 t122.length co32, .slice Ao33 t125.length co33] 37 (0, 0)) QQ hb) (Y6 QB hb); clear HO103 HO107 HO113 HO116 HO124 HO127 BK119 BK130 HB; obtain ⟨HO103, HO107, HO113, HO116, HO124, HO127, BK119, BK130, HB⟩ := n_; (try clear hb); (try clear hb2); (try clear hk); (try clear hi)))
           go_ret
           exact Z1U
          ·rw [if_neg c15] at H
           have c15b0 : (t132.toList == (Y1x ByteArray.empty y105 a0).toList) = false := beq_eq_false_iff_ne.mpr c15
           have c15b1 : (t132.toList != (Y1x ByteArray.empty y105 a0).toList) = true := bne_iff_ne.mpr c15
           obtain rfl := Option.some.inj H
           go_wp2_with (first | ((with_reducible refine Ym (N := 17) rfl ?_); refine Kd.R_lit Kd.string _ 9 ?hg (N := 17) ?hd (xs := ([(⟨#[94, 60, 97, 62, 42]⟩ : ByteArray), (⟨#[60, 97, 62, 47, 60, 98, 62, 42]⟩ : ByteArray), (⟨#[60, 97, 62, 124, 60, 98, 62, 47, 60, 99, 62]⟩ : ByteArray), (⟨#[60, 97, 62, 47, 60, 98, 62, 47, 60, 99, 62]⟩ : ByteArray), (⟨#[33, 60, 97, 62, 124, 60, 98, 62]⟩ : ByteArray), (⟨#[33, 40, 60, 97, 62, 124, 60, 98, 62, 41, 47, 60, 99, 62, 63, 43]⟩ : ByteArray)] : List ByteArray)) (inner := [.string (⟨#[94, 60, 97, 62, 42]⟩ : ByteArray), .string (⟨#[60, 97, 62, 47, 60, 98, 62, 42]⟩ : ByteArray), .string (⟨#[60, 97, 62, 124, 60, 98, 62, 47, 60, 99, 62]⟩ : ByteArray), .string (⟨#[60, 97, 62, 47, 60, 98, 62, 47, 60, 99, 62]⟩ : ByteArray), .string (⟨#[33, 60, 97, 62, 124, 60, 98, 62]⟩ : ByteArray), .string (⟨#[33, 40, 60, 97, 62, 124, 60, 98, 62, 41, 47, 60, 99, 62, 63, 43]⟩ : ByteArray)]) (ok := fun _ => True) (okp := fun _ => True) ?hr ?hp (fun _ hk => hk) trivial (Below.refl _ _) (Nat.le_refl _) (by simp) ?_; (case hd => rfl); (case hg => rfl); (case hr => exact Za); (case hp => exact Z5); intro v102 w39 ho40 hb hg_ hnew_; clear hg_ hnew_; (first | rw [← Ny101.out] at ho40 | (simp only [Int.reduceToNat] at ho40; rw [← Ny101.out] at ho40)); have n_ := Y1V (Kd.R_lower ho40 (Y5 QB)) (Y6 QB hb); clear HB; obtain ⟨HO103, HB⟩ := n_; clear hb ho40; obtain ⟨Ao41, co41, eo41⟩ := Kd.R_slice HO103.out; subst eo41; have p104 : 0 ≤ (a0 : Int) := of_decide_eq_true Z8; have q104 : a0 < (y101.length : Int) := of_decide_eq_true Z8; obtain ⟨ad104, e104, hx104_0⟩ := Kd.at_string (Kd.R_reads' HO103.out).2.2 a0 p104 q104; cases e104; replace p104 := eq_true p104; replace q104 := eq_true q104) | ((with_reducible refine Ym (N := 21) rfl ?_); refine Kd.R_lit Kd.string _ 9 ?hg (N := 21) ?hd (xs := ([(⟨#[40, 94, 60, 97, 62, 41, 42]⟩ : ByteArray), (⟨#[60, 97, 62, 47, 40, 60, 98, 62, 42, 41]⟩ : ByteArray), (⟨#[60, 97, 62, 124, 40, 60, 98, 62, 47, 60, 99, 62, 41]⟩ : ByteArray), (⟨#[40, 60, 97, 62, 47, 60, 98, 62, 41, 47, 60, 99, 62]⟩ : ByteArray), (⟨#[40, 33, 40, 60, 97, 62, 41, 41, 124, 60, 98, 62]⟩ : ByteArray), (⟨#[40, 33, 40, 60, 97, 62, 124, 60, 98, 62, 41, 41, 47, 40, 40, 60, 99, 62, 63, 41, 43, 41]⟩ : ByteArray)] : List ByteArray)) (inner := [.string (⟨#[40, 94, 60, 97, 62, 41, 42]⟩ : ByteArray), .string (⟨#[60, 97, 62, 47, 40, 60, 98, 62, 42, 41]⟩ : ByteArray), .string (⟨#[60, 97, 62, 124, 40, 60, 98, 62, 47, 60, 99, 62, 41]⟩ : ByteArray), .string (⟨#[40, 60, 97, 62, 47, 60, 98, 62, 41, 47, 60, 99, 62]⟩ : ByteArray), .string (⟨#[40, 33, 40, 60, 97, 62, 41, 41, 124, 60, 98, 62]⟩ : ByteArray), .string (⟨#[40, 33, 40, 60, 97, 62, 124, 60, 98, 62, 41, 41, 47, 40, 40, 60, 99, 62, 63, 41, 43, 41]⟩ : ByteArray)]) (ok := fun _ => True) (okp := fun _ => True) ?hr ?hp (fun _ hk => hk) trivial (Below.refl _ _) (Nat.le_refl _) (by simp) ?_; (case hd => rfl); (case hg => rfl); (case hr => exact Za); (case hp => exact Z4); intro v106 w42 ho43 hb hg_ hnew_; clear hg_ hnew_; (first | rw [← Ny105.out] at ho43 | (simp only [Int.reduceToNat] at ho43; rw [← Ny105.out] at ho43)); have n_ := Y1P (Kd.R_elder' Z6 (Kd.R_base ho43) hb) (Kd.R_lower (Kd.R_new' ho43 (Kd.R_lt Z6)) (Y5 QB)) (Y6 QB hb); clear HO103 HB; obtain ⟨HO103, HO107, HB⟩ := n_; clear hb ho43; obtain ⟨Ao44, co44, eo44⟩ := Kd.R_slice HO107.out; subst eo44; have p108 : 0 ≤ (a0 : Int) := of_decide_eq_true Z8; have q108 : a0 < (y105.length : Int) := of_decide_eq_true Z8; obtain ⟨ad108, e108, hx108_0⟩ := Kd.at_string (Kd.R_reads' HO107.out).2.2 a0 p108 q108; cases e108; replace p108 := eq_true p108; replace q108 := eq_true q108) | ((with_reducible refine Yh (f := 25) rfl ?_); refine Yy (some 27) rfl rfl Tryd.func25 Z7 rfl #[.string (Y1x ByteArray.empty y101 a0)] rfl Z0 ?_; (with_reducible refine (Yr.calls kj1 (Y1x ByteArray.empty y101 a0) t109 t110 t111 t114 t117 t118 _ ?side1 A8.out).mono ?_); (case side1 => exact Z3); rintro e w45 ⟨v112, v115, rfl, ho0, ho1, hb⟩; refine ⟨_, rfl, ?_⟩; have n0_ := Y0.mk (Kd.R_elder' Z6 (Kd.R_base ho0) hb); have n1_ := Y0.mk (Kd.R_elder' Z9 (Kd.R_base ho0) hb); have n2_ := Y0.mk (Kd.R_lower (Kd.R_new' (Kd.R_new' (Kd.R_mono (ok' := fun k_ => True) ho0 (fun _ hk_ => trivial)) (Kd.R_lt Z6)) (Kd.R_lt Z9)) (Y5 QB)); have n3_ := Y0.mk (Kd.N_lower (Kd.N_mono (ok' := fun k_ => some k_ ≠ (v112 : Value).ownBlock ∧ some k_ ≠ (.slice (some ad104) y101.length co41 : Value).ownBlock ∧ some k_ ≠ (.slice (some ad108) y105.length co44 : Value).ownBlock) ho1 (fun k_ hk_ => ⟨hk_.2, (Kd.fresh' (Kd.R_lt Z6) k_ hk_.1), (Kd.fresh' (Kd.R_lt Z9) k_ hk_.1)⟩)) (Y5 QB)); have n4_ := Y0.mk (Y6 QB hb); clear HO103 HO107 HB; have HO103 := n0_; have HO107 := n1_; have HO113 := n2_; have HO116 := n3_; have HB := n4_; clear n0_ n1_ n2_ n3_ n4_; (try clear hb); (try clear hb2); (try clear hk); (try clear hi); (try clear ho0); (try clear ho1)) | ((with_reducible refine Ym (N := 5) rfl ?_); refine Yn ?hg (N := 5) ?hd (cs := #[.int .i64 0, .string (⟨#[]⟩ : ByteArray), .slice none 0 0, .slice none 0 0]) (t := 37) ?hr ?_; (case hd => rfl); (case hg => rfl); (case hr => exact Za); intro gb119 hg w46 hbox hb; have n_ := Y2C (Kd.R_below Z6 hb) (Kd.R_below Z9 hb) (Kd.R_below Zi hb) (Kd.N_below (Kd.N_elderB Zh gb119 (Nat.le_of_eq hg.symm)) hb) (Y6 QB hb) (hbox) ((by rw [hg]; exact (Y5 QB) : w.heap.size ≤ gb119)) ((by rw [hg]; exact (Y5 QB) : w.heap.size ≤ gb119)); clear HO103 HO107 HO113 HO116 HB; obtain ⟨HO103, HO107, HO113, HO116, HB, BK119, GW119, GE119⟩ := n_; clear hb hbox hg; obtain ⟨hcz47_0, hcz47_1, hcz47_2, hcz47_3, hfz47_0, hfz47_1, hfz47_2, hfz47_3⟩ := Yt BK119.out; obtain ⟨Ao48, co48, eo48⟩ := Kd.R_slice HO113.out; subst eo48; obtain ⟨Ao49, co49, eo49⟩ := Kd.N_slice HO116.out; subst eo49) | ((with_reducible refine Yh (f := 25) rfl ?_); refine Yy (some 33) rfl rfl Tryd.func25 Z7 rfl #[.string (Y1x ByteArray.empty y105 a0)] rfl Z0 ?_; (with_reducible refine (Yr.calls kj1 (Y1x ByteArray.empty y105 a0) t120 t121 t122 t125 t128 t129 _ ?side1 A9.out).mono ?_); (case side1 => exact Z3); rintro e w50 ⟨v123, v126, rfl, ho0, ho1, hb⟩; refine ⟨_, rfl, ?_⟩; have n0_ := Y0.mk (Kd.R_elder' Zt (Kd.R_base ho0) hb); have n1_ := Y0.mk (Kd.R_elder' Zx (Kd.R_base ho0) hb); have n2_ := Y0.mk (Kd.R_elder' ZB (Kd.R_base ho0) hb); have n3_ := Y0.mk (Kd.N_mono (Kd.N_told (Kd.N_told (Kd.N_old ZT hb) (Kd.R_base ho0)) (Kd.N_base ho1)) (fun _ h_ => h_.1)); have n4_ := Y0.mk (Kd.R_lower (Kd.R_new' (Kd.R_new' (Kd.R_new' (Kd.R_mono (ok' := fun k_ => True) ho0 (fun _ hk_ => trivial)) (Kd.R_lt Zt)) (Kd.R_lt Zx)) (Kd.R_lt ZB)) (Y5 QB)); have n5_ := Y0.mk (Kd.N_lower (Kd.N_mono (ok' := fun k_ => some k_ ≠ (v123 : Value).ownBlock ∧ some k_ ≠ (.slice (some ad104) y101.length co41 : Value).ownBlock ∧ some k_ ≠ (.slice (some ad108) y105.length co44 : Value).ownBlock ∧ some k_ ≠ (.slice Ao48 t111.length co48 : Value).ownBlock ∧ some k_ ≠ (.slice Ao49 t114.length co49 : Value).ownBlock ∧ k_ ≠ gb119) ho1 (fun k_ hk_ => ⟨hk_.2, (Kd.fresh' (Kd.R_lt Zt) k_ hk_.1), (Kd.fresh' (Kd.R_lt Zx) k_ hk_.1), (Kd.fresh' (Kd.R_lt ZB) k_ hk_.1), (Kd.fresh' (Kd.N_lt ZT) k_ hk_.1), (Kd.freshB (g := gb119) (o := .cells #[.int .i64 t109, .string t110, .slice Ao48 t111.length co48, .slice Ao49 t114.length co49] 37 (0, 0)) Z1Z k_ hk_.1)⟩)) (Y5 QB)); have n6_ := Y0.mk (Yi (g := gb119) (o := .cells #[.int .i64 t109, .string t110, .slice Ao48 t111.length co48, .slice Ao49 t114.length co49] 37 (0, 0)) Z1Z hb); have n7_ := Y0.mk (Y6 QB hb); clear HO103 HO107 HO113 HO116 BK119 HB; have HO103 := n0_; have HO107 := n1_; have HO113 := n2_; have HO116 := n3_; have HO124 := n4_; have HO127 := n5_; have BK119 := n6_; have HB := n7_; clear n0_ n1_ n2_ n3_ n4_ n5_ n6_ n7_; (try clear hb); (try clear hb2); (try clear hk); (try clear hi); (try clear ho0); (try clear ho1)) | ((with_reducible refine Ym (N := 8) rfl ?_); refine Yn ?hg (N := 8) ?hd (cs := #[.int .i64 0, .string (⟨#[]⟩ : ByteArray), .slice none 0 0, .slice none 0 0]) (t := 37) ?hr ?_; (case hd => rfl); (case hg => rfl); (case hr => exact Za); intro gb130 hg w51 hbox hb; have n0_ := Y0.mk (Kd.R_below Z6 hb); have n1_ := Y0.mk (Kd.R_below Z9 hb); have n2_ := Y0.mk (Kd.R_below Zi hb); have n3_ := Y0.mk (Kd.N_below (Kd.N_elderB Zh gb130 (Nat.le_of_eq hg.symm)) hb); have n4_ := Y0.mk (Kd.R_below ZG hb); have n5_ := Y0.mk (Kd.N_below (Kd.N_elderB ZF gb130 (Nat.le_of_eq hg.symm)) hb); have n6_ := Y0.mk (Yi (g := gb119) (o := .cells #[.int .i64 t109, .string t110, .slice Ao48 t111.length co48, .slice Ao49 t114.length co49] 37 (0, 0)) QQ hb); have n7_ := Y0.mk (Y6 QB hb); have n8_ := Y0.mk (hbox); have n9_ := Y0.mk ((by rw [hg]; exact (Y5 QB) : w.heap.size ≤ gb130)); have n10_ := Y0.mk ((by rw [hg]; exact (Y5 QB) : w.heap.size ≤ gb130)); have n11_ := Y0.mk ((by rw [hg]; exact Nat.ne_of_lt (YO (g := gb119) (o := .cells #[.int .i64 t109, .string t110, .slice Ao48 t111.length co48, .slice Ao49 t114.length co49] 37 (0, 0)) QQ) : gb119 ≠ gb130)); have n12_ := Y0.mk ((by rw [hg]; exact Nat.ne_of_gt (YO (g := gb119) (o := .cells #[.int .i64 t109, .string t110, .slice Ao48 t111.length co48, .slice Ao49 t114.length co49] 37 (0, 0)) QQ) : gb130 ≠ gb119)); clear HO103 HO107 HO113 HO116 HO124 HO127 BK119 HB; have HO103 := n0_; have HO107 := n1_; have HO113 := n2_; have HO116 := n3_; have HO124 := n4_; have HO127 := n5_; have BK119 := n6_; have HB := n7_; have BK130 := n8_; have GW130 := n9_; have GE130 := n10_; have NB119_130 := n11_; have NB130_119 := n12_; clear n0_ n1_ n2_ n3_ n4_ n5_ n6_ n7_ n8_ n9_ n10_ n11_ n12_ hb hbox hg; have hnb52 := NB130_119.out; have hnc52 := NB119_130.out; obtain ⟨hcz53_0, hcz53_1, hcz53_2, hcz53_3, hfz53_0, hfz53_1, hfz53_2, hfz53_3⟩ := Yt BK130.out; obtain ⟨Ao54, co54, eo54⟩ := Kd.R_slice HO124.out; subst eo54; obtain ⟨Ao55, co55, eo55⟩ := Kd.N_slice HO127.out; subst eo55; obtain ⟨hcz56_0, hcz56_1, hcz56_2, hcz56_3, hfz56_0, hfz56_1, hfz56_2, hfz56_3⟩ := Yt BK119.out) | (go_at_call 28; (with_reducible refine (Y2.calls kj1 t109 t110 _ _ t111 _ _ t114 t120 t121 _ _ t122 _ _ t125 true _ ?side1 ?side2 ?side3 ?side4 ?side5 ?side6 ?side7 ?side8 A12.out).mono ?_); (case side1 => refine (Kd.R_reads' (e := 9) (base := w.heap.size) (ok := fun k_ => (((True ∧ some k_ ≠ (.slice (some ad104) y101.length co41 : Value).ownBlock) ∧ some k_ ≠ (.slice (some ad108) y105.length co44 : Value).ownBlock) ∧ some k_ ≠ (.slice Ao54 t122.length co54 : Value).ownBlock)) (n := t111.length) (c := co48) ?_).2.2; exact Z16); (case side2 => exact Z1J); (case side3 => refine (Kd.N_reads' (e := 37) (base := w.heap.size) (ok := fun k_ => (((((some k_ ≠ (.slice Ao48 t111.length co48 : Value).ownBlock ∧ (some k_ ≠ (.slice (some ad104) y101.length co41 : Value).ownBlock ∧ some k_ ≠ (.slice (some ad108) y105.length co44 : Value).ownBlock)) ∧ k_ ≠ gb119) ∧ some k_ ≠ (.slice Ao54 t122.length co54 : Value).ownBlock) ∧ some k_ ≠ (.slice Ao55 t125.length co55 : Value).ownBlock) ∧ k_ ≠ gb130)) (n := t114.length) (c := co49) ?_).2.2; exact ZX); (case side4 => exact Z1I); (case side5 => refine (Kd.R_reads' (e := 9) (base := w.heap.size) (ok := fun k_ => (((True ∧ some k_ ≠ (.slice (some ad104) y101.length co41 : Value).ownBlock) ∧ some k_ ≠ (.slice (some ad108) y105.length co44 : Value).ownBlock) ∧ some k_ ≠ (.slice Ao48 t111.length co48 : Value).ownBlock)) (n := t122.length) (c := co54) ?_).2.2; exact Z19); (case side6 => exact (Kd.R_reads' HO124.out).2.1); (case side7 => refine (Kd.N_reads' (e := 37) (base := w.heap.size) (ok := fun k_ => ((some k_ ≠ (.slice Ao54 t122.length co54 : Value).ownBlock ∧ (some k_ ≠ (.slice (some ad104) y101.length co41 : Value).ownBlock ∧ (some k_ ≠ (.slice (some ad108) y105.length co44 : Value).ownBlock ∧ (some k_ ≠ (.slice Ao48 t111.length co48 : Value).ownBlock ∧ (some k_ ≠ (.slice Ao49 t114.length co49 : Value).ownBlock ∧ k_ ≠ gb119))))) ∧ k_ ≠ gb130)) (n := t125.length) (c := co55) ?_).2.2; exact Z10); (case side8 => exact (Kd.N_reads' HO127.out).2.1); rintro e w57 ⟨rfl, hb⟩; have n0_ := Y0.mk (Kd.R_below (by (with_reducible repeat (first | apply Kd.R_alloc | apply Kd.R_drewN | apply Kd.R_drew)); exact (Kd.R_mono (Kd.R_far (p := ⟨gb130, 3, none⟩) (Kd.R_far (p := ⟨gb130, 2, none⟩) (Kd.R_far (p := ⟨gb130, 1, none⟩) (Kd.R_far (p := ⟨gb130, 0, none⟩) (Kd.R_types HO103.out BK130.out (by decide)) (fun _ hk => hk.2) (.int .i64 t120)) (fun _ hk => hk.2) (.string t121)) (fun _ hk => hk.2) (.slice Ao54 t122.length co54)) (fun _ hk => hk.2) (.slice Ao55 t125.length co55)) (fun _ h_ => h_.1))) hb); have n1_ := Y0.mk (Kd.R_below (by (with_reducible repeat (first | apply Kd.R_alloc | apply Kd.R_drewN | apply Kd.R_drew)); exact (Kd.R_mono (Kd.R_far (p := ⟨gb130, 3, none⟩) (Kd.R_far (p := ⟨gb130, 2, none⟩) (Kd.R_far (p := ⟨gb130, 1, none⟩) (Kd.R_far (p := ⟨gb130, 0, none⟩) (Kd.R_types HO107.out BK130.out (by decide)) (fun _ hk => hk.2) (.int .i64 t120)) (fun _ hk => hk.2) (.string t121)) (fun _ hk => hk.2) (.slice Ao54 t122.length co54)) (fun _ hk => hk.2) (.slice Ao55 t125.length co55)) (fun _ h_ => h_.1))) hb); have n2_ := Y0.mk (Kd.R_below Z16 hb); have n3_ := Y0.mk (Kd.N_below ZX hb); have n4_ := Y0.mk (Kd.R_below Z19 hb); have n5_ := Y0.mk (Kd.N_below Z10 hb); have n6_ := Y0.mk (Yi (g := gb119) (o := .cells #[.int .i64 t109, .string t110, .slice Ao48 t111.length co48, .slice Ao49 t114.length co49] 37 (0, 0)) Zk hb); have n7_ := Y0.mk (Yi (g := gb130) (o := .cells #[.int .i64 t120, .string t121, .slice Ao54 t122.length co54, .slice Ao55 t125.length co55] 37 (0, 0)) (by (with_reducible repeat (first | refine Y9 ?_ _ | refine Y8 ?_ | refine Y7 ?_ _)); exact Yo (cs := #[.int .i64 t120, .string t121, .slice Ao54 t122.length co54, .slice none 0 0]) Z1Q 3 _ rfl) hb); have n8_ := Y0.mk (Y6 QB hb); clear HO103 HO107 HO113 HO116 HO124 HO127 BK119 BK130 HB; have HO103 := n0_; have HO107 := n1_; have HO113 := n2_; have HO116 := n3_; have HO124 := n4_; have HO127 := n5_; have BK119 := n6_; have BK130 := n7_; have HB := n8_; clear n0_ n1_ n2_ n3_ n4_ n5_ n6_ n7_ n8_; (try clear hb); (try clear hb2); (try clear hk); (try clear hi); obtain ⟨hcz58_0, hcz58_1, hcz58_2, hcz58_3, hfz58_0, hfz58_1, hfz58_2, hfz58_3⟩ := Yt BK119.out) | (go_at_call 24; (with_reducible refine (Ys.calls kj1 t109 t110 _ _ t111 _ _ t114 t132 _ ?side1 ?side2 ?side3 ?side4 A14.out).mono ?_); (case side1 => exact Z1y); (case side2 => exact Z1J); (case side3 => exact Z1x); (case side4 => exact Z1I); rintro e w59 ⟨rfl, hb⟩; have n_ := put9 (Kd.R_below Z6 hb) (Kd.R_below Z9 hb) (Kd.R_below Zi hb) (Kd.N_below Zh hb) (Kd.R_below ZG hb) (Kd.N_below ZF hb) (Yi (g := gb119) (o := .cells #[.int .i64 t109, .string t110, .slice Ao48 t111.length co48, .slice Ao49 t114.length co49] 37 (0, 0)) QQ hb) (Yi (g := gb130) (o := .cells #[.int .i64 t120, .string t121, .slice Ao54 t122.length co54, .slice Ao55 t125.length co55] 37 (0, 0)) QQ hb) (Y6 QB hb); clear HO103 HO107 HO113 HO116 HO124 HO127 BK119 BK130 HB; obtain ⟨HO103, HO107, HO113, HO116, HO124, HO127, BK119, BK130, HB⟩ := n_; (try clear hb); (try clear hb2); (try clear hk); (try clear hi)))
           go_ret
           exact Z1U
         ·replace c13 := Bool.eq_false_iff.mpr c13
          subst c13
          have H1 : (some false) = some r := by rw [if_neg (show ¬ (false = true) by decide)] at H; exact H
          clear H
          have H := H1
          clear H1
          obtain rfl := Option.some.inj H
          go_wp2_with (first | ((with_reducible refine Ym (N := 17) rfl ?_); refine Kd.R_lit Kd.string _ 9 ?hg (N := 17) ?hd (xs := ([(⟨#[94, 60, 97, 62, 42]⟩ : ByteArray), (⟨#[60, 97, 62, 47, 60, 98, 62, 42]⟩ : ByteArray), (⟨#[60, 97, 62, 124, 60, 98, 62, 47, 60, 99, 62]⟩ : ByteArray), (⟨#[60, 97, 62, 47, 60, 98, 62, 47, 60, 99, 62]⟩ : ByteArray), (⟨#[33, 60, 97, 62, 124, 60, 98, 62]⟩ : ByteArray), (⟨#[33, 40, 60, 97, 62, 124, 60, 98, 62, 41, 47, 60, 99, 62, 63, 43]⟩ : ByteArray)] : List ByteArray)) (inner := [.string (⟨#[94, 60, 97, 62, 42]⟩ : ByteArray), .string (⟨#[60, 97, 62, 47, 60, 98, 62, 42]⟩ : ByteArray), .string (⟨#[60, 97, 62, 124, 60, 98, 62, 47, 60, 99, 62]⟩ : ByteArray), .string (⟨#[60, 97, 62, 47, 60, 98, 62, 47, 60, 99, 62]⟩ : ByteArray), .string (⟨#[33, 60, 97, 62, 124, 60, 98, 62]⟩ : ByteArray), .string (⟨#[33, 40, 60, 97, 62, 124, 60, 98, 62, 41, 47, 60, 99, 62, 63, 43]⟩ : ByteArray)]) (ok := fun _ => True) (okp := fun _ => True) ?hr ?hp (fun _ hk => hk) trivial (Below.refl _ _) (Nat.le_refl _) (by simp) ?_; (case hd => rfl); (case hg => rfl); (case hr => exact Za); (case hp => exact Z5); intro v102 w60 ho61 hb hg_ hnew_; clear hg_ hnew_; (first | rw [← Ny101.out] at ho61 | (simp only [Int.reduceToNat] at ho61; rw [← Ny101.out] at ho61)); have n_ := Y1V (Kd.R_lower ho61 (Y5 QB)) (Y6 QB hb); clear HB; obtain ⟨HO103, HB⟩ := n_; clear hb ho61; obtain ⟨Ao62, co62, eo62⟩ := Kd.R_slice HO103.out; subst eo62; have p104 : 0 ≤ (a0 : Int) := of_decide_eq_true Z8; have q104 : a0 < (y101.length : Int) := of_decide_eq_true Z8; obtain ⟨ad104, e104, hx104_0⟩ := Kd.at_string (Kd.R_reads' HO103.out).2.2 a0 p104 q104; cases e104; replace p104 := eq_true p104; replace q104 := eq_true q104) | ((with_reducible refine Ym (N := 21) rfl ?_); refine Kd.R_lit Kd.string _ 9 ?hg (N := 21) ?hd (xs := ([(⟨#[40, 94, 60, 97, 62, 41, 42]⟩ : ByteArray), (⟨#[60, 97, 62, 47, 40, 60, 98, 62, 42, 41]⟩ : ByteArray), (⟨#[60, 97, 62, 124, 40, 60, 98, 62, 47, 60, 99, 62, 41]⟩ : ByteArray), (⟨#[40, 60, 97, 62, 47, 60, 98, 62, 41, 47, 60, 99, 62]⟩ : ByteArray), (⟨#[40, 33, 40, 60, 97, 62, 41, 41, 124, 60, 98, 62]⟩ : ByteArray), (⟨#[40, 33, 40, 60, 97, 62, 124, 60, 98, 62, 41, 41, 47, 40, 40, 60, 99, 62, 63, 41, 43, 41]⟩ : ByteArray)] : List ByteArray)) (inner := [.string (⟨#[40, 94, 60, 97, 62, 41, 42]⟩ : ByteArray), .string (⟨#[60, 97, 62, 47, 40, 60, 98, 62, 42, 41]⟩ : ByteArray), .string (⟨#[60, 97, 62, 124, 40, 60, 98, 62, 47, 60, 99, 62, 41]⟩ : ByteArray), .string (⟨#[40, 60, 97, 62, 47, 60, 98, 62, 41, 47, 60, 99, 62]⟩ : ByteArray), .string (⟨#[40, 33, 40, 60, 97, 62, 41, 41, 124, 60, 98, 62]⟩ : ByteArray), .string (⟨#[40, 33, 40, 60, 97, 62, 124, 60, 98, 62, 41, 41, 47, 40, 40, 60, 99, 62, 63, 41, 43, 41]⟩ : ByteArray)]) (ok := fun _ => True) (okp := fun _ => True) ?hr ?hp (fun _ hk => hk) trivial (Below.refl _ _) (Nat.le_refl _) (by simp) ?_; (case hd => rfl); (case hg => rfl); (case hr => exact Za); (case hp => exact Z4); intro v106 w63 ho64 hb hg_ hnew_; clear hg_ hnew_; (first | rw [← Ny105.out] at ho64 | (simp only [Int.reduceToNat] at ho64; rw [← Ny105.out] at ho64)); have n_ := Y1P (Kd.R_elder' Z6 (Kd.R_base ho64) hb) (Kd.R_lower (Kd.R_new' ho64 (Kd.R_lt Z6)) (Y5 QB)) (Y6 QB hb); clear HO103 HB; obtain ⟨HO103, HO107, HB⟩ := n_; clear hb ho64; obtain ⟨Ao65, co65, eo65⟩ := Kd.R_slice HO107.out; subst eo65; have p108 : 0 ≤ (a0 : Int) := of_decide_eq_true Z8; have q108 : a0 < (y105.length : Int) := of_decide_eq_true Z8; obtain ⟨ad108, e108, hx108_0⟩ := Kd.at_string (Kd.R_reads' HO107.out).2.2 a0 p108 q108; cases e108; replace p108 := eq_true p108; replace q108 := eq_true q108) | ((with_reducible refine Yh (f := 25) rfl ?_); refine Yy (some 27) rfl rfl Tryd.func25 Z7 rfl #[.string (Y1x ByteArray.empty y101 a0)] rfl Z0 ?_; (with_reducible refine (Yr.calls kj1 (Y1x ByteArray.empty y101 a0) t109 t110 t111 t114 t117 t118 _ ?side1 A8.out).mono ?_); (case side1 => exact Z3); rintro e w66 ⟨v112, v115, rfl, ho0, ho1, hb⟩; refine ⟨_, rfl, ?_⟩; have n0_ := Y0.mk (Kd.R_elder' Z6 (Kd.R_base ho0) hb); have n1_ := Y0.mk (Kd.R_elder' Z9 (Kd.R_base ho0) hb); have n2_ := Y0.mk (Kd.R_lower (Kd.R_new' (Kd.R_new' (Kd.R_mono (ok' := fun k_ => True) ho0 (fun _ hk_ => trivial)) (Kd.R_lt Z6)) (Kd.R_lt Z9)) (Y5 QB)); have n3_ := Y0.mk (Kd.N_lower (Kd.N_mono (ok' := fun k_ => some k_ ≠ (v112 : Value).ownBlock ∧ some k_ ≠ (.slice (some ad104) y101.length co62 : Value).ownBlock ∧ some k_ ≠ (.slice (some ad108) y105.length co65 : Value).ownBlock) ho1 (fun k_ hk_ => ⟨hk_.2, (Kd.fresh' (Kd.R_lt Z6) k_ hk_.1), (Kd.fresh' (Kd.R_lt Z9) k_ hk_.1)⟩)) (Y5 QB)); have n4_ := Y0.mk (Y6 QB hb); clear HO103 HO107 HB; have HO103 := n0_; have HO107 := n1_; have HO113 := n2_; have HO116 := n3_; have HB := n4_; clear n0_ n1_ n2_ n3_ n4_; (try clear hb); (try clear hb2); (try clear hk); (try clear hi); (try clear ho0); (try clear ho1)) | ((with_reducible refine Ym (N := 5) rfl ?_); refine Yn ?hg (N := 5) ?hd (cs := #[.int .i64 0, .string (⟨#[]⟩ : ByteArray), .slice none 0 0, .slice none 0 0]) (t := 37) ?hr ?_; (case hd => rfl); (case hg => rfl); (case hr => exact Za); intro gb119 hg w67 hbox hb; have n_ := Y2C (Kd.R_below Z6 hb) (Kd.R_below Z9 hb) (Kd.R_below Zi hb) (Kd.N_below (Kd.N_elderB Zh gb119 (Nat.le_of_eq hg.symm)) hb) (Y6 QB hb) (hbox) ((by rw [hg]; exact (Y5 QB) : w.heap.size ≤ gb119)) ((by rw [hg]; exact (Y5 QB) : w.heap.size ≤ gb119)); clear HO103 HO107 HO113 HO116 HB; obtain ⟨HO103, HO107, HO113, HO116, HB, BK119, GW119, GE119⟩ := n_; clear hb hbox hg; obtain ⟨hcz68_0, hcz68_1, hcz68_2, hcz68_3, hfz68_0, hfz68_1, hfz68_2, hfz68_3⟩ := Yt BK119.out; obtain ⟨Ao69, co69, eo69⟩ := Kd.R_slice HO113.out; subst eo69; obtain ⟨Ao70, co70, eo70⟩ := Kd.N_slice HO116.out; subst eo70) | ((with_reducible refine Yh (f := 25) rfl ?_); refine Yy (some 33) rfl rfl Tryd.func25 Z7 rfl #[.string (Y1x ByteArray.empty y105 a0)] rfl Z0 ?_; (with_reducible refine (Yr.calls kj1 (Y1x ByteArray.empty y105 a0) t120 t121 t122 t125 t128 t129 _ ?side1 A9.out).mono ?_); (case side1 => exact Z3); rintro e w71 ⟨v123, v126, rfl, ho0, ho1, hb⟩; refine ⟨_, rfl, ?_⟩; have n0_ := Y0.mk (Kd.R_elder' Zu (Kd.R_base ho0) hb); have n1_ := Y0.mk (Kd.R_elder' Zy (Kd.R_base ho0) hb); have n2_ := Y0.mk (Kd.R_elder' ZC (Kd.R_base ho0) hb); have n3_ := Y0.mk (Kd.N_mono (Kd.N_told (Kd.N_told (Kd.N_old ZU hb) (Kd.R_base ho0)) (Kd.N_base ho1)) (fun _ h_ => h_.1)); have n4_ := Y0.mk (Kd.R_lower (Kd.R_new' (Kd.R_new' (Kd.R_new' (Kd.R_mono (ok' := fun k_ => True) ho0 (fun _ hk_ => trivial)) (Kd.R_lt Zu)) (Kd.R_lt Zy)) (Kd.R_lt ZC)) (Y5 QB)); have n5_ := Y0.mk (Kd.N_lower (Kd.N_mono (ok' := fun k_ => some k_ ≠ (v123 : Value).ownBlock ∧ some k_ ≠ (.slice (some ad104) y101.length co62 : Value).ownBlock ∧ some k_ ≠ (.slice (some ad108) y105.length co65 : Value).ownBlock ∧ some k_ ≠ (.slice Ao69 t111.length co69 : Value).ownBlock ∧ some k_ ≠ (.slice Ao70 t114.length co70 : Value).ownBlock ∧ k_ ≠ gb119) ho1 (fun k_ hk_ => ⟨hk_.2, (Kd.fresh' (Kd.R_lt Zu) k_ hk_.1), (Kd.fresh' (Kd.R_lt Zy) k_ hk_.1), (Kd.fresh' (Kd.R_lt ZC) k_ hk_.1), (Kd.fresh' (Kd.N_lt ZU) k_ hk_.1), (Kd.freshB (g := gb119) (o := .cells #[.int .i64 t109, .string t110, .slice Ao69 t111.length co69, .slice Ao70 t114.length co70] 37 (0, 0)) Z20 k_ hk_.1)⟩)) (Y5 QB)); have n6_ := Y0.mk (Yi (g := gb119) (o := .cells #[.int .i64 t109, .string t110, .slice Ao69 t111.length co69, .slice Ao70 t114.length co70] 37 (0, 0)) Z20 hb); have n7_ := Y0.mk (Y6 QB hb); clear HO103 HO107 HO113 HO116 BK119 HB; have HO103 := n0_; have HO107 := n1_; have HO113 := n2_; have HO116 := n3_; have HO124 := n4_; have HO127 := n5_; have BK119 := n6_; have HB := n7_; clear n0_ n1_ n2_ n3_ n4_ n5_ n6_ n7_; (try clear hb); (try clear hb2); (try clear hk); (try clear hi); (try clear ho0); (try clear ho1)) | ((with_reducible refine Ym (N := 8) rfl ?_); refine Yn ?hg (N := 8) ?hd (cs := #[.int .i64 0, .string (⟨#[]⟩ : ByteArray), .slice none 0 0, .slice none 0 0]) (t := 37) ?hr ?_; (case hd => rfl); (case hg => rfl); (case hr => exact Za); intro gb130 hg w72 hbox hb; have n0_ := Y0.mk (Kd.R_below Z6 hb); have n1_ := Y0.mk (Kd.R_below Z9 hb); have n2_ := Y0.mk (Kd.R_below Zi hb); have n3_ := Y0.mk (Kd.N_below (Kd.N_elderB Zh gb130 (Nat.le_of_eq hg.symm)) hb); have n4_ := Y0.mk (Kd.R_below ZG hb); have n5_ := Y0.mk (Kd.N_below (Kd.N_elderB ZF gb130 (Nat.le_of_eq hg.symm)) hb); have n6_ := Y0.mk (Yi (g := gb119) (o := .cells #[.int .i64 t109, .string t110, .slice Ao69 t111.length co69, .slice Ao70 t114.length co70] 37 (0, 0)) QQ hb); have n7_ := Y0.mk (Y6 QB hb); have n8_ := Y0.mk (hbox); have n9_ := Y0.mk ((by rw [hg]; exact (Y5 QB) : w.heap.size ≤ gb130)); have n10_ := Y0.mk ((by rw [hg]; exact (Y5 QB) : w.heap.size ≤ gb130)); have n11_ := Y0.mk ((by rw [hg]; exact Nat.ne_of_lt (YO (g := gb119) (o := .cells #[.int .i64 t109, .string t110, .slice Ao69 t111.length co69, .slice Ao70 t114.length co70] 37 (0, 0)) QQ) : gb119 ≠ gb130)); have n12_ := Y0.mk ((by rw [hg]; exact Nat.ne_of_gt (YO (g := gb119) (o := .cells #[.int .i64 t109, .string t110, .slice Ao69 t111.length co69, .slice Ao70 t114.length co70] 37 (0, 0)) QQ) : gb130 ≠ gb119)); clear HO103 HO107 HO113 HO116 HO124 HO127 BK119 HB; have HO103 := n0_; have HO107 := n1_; have HO113 := n2_; have HO116 := n3_; have HO124 := n4_; have HO127 := n5_; have BK119 := n6_; have HB := n7_; have BK130 := n8_; have GW130 := n9_; have GE130 := n10_; have NB119_130 := n11_; have NB130_119 := n12_; clear n0_ n1_ n2_ n3_ n4_ n5_ n6_ n7_ n8_ n9_ n10_ n11_ n12_ hb hbox hg; have hnb73 := NB130_119.out; have hnc73 := NB119_130.out; obtain ⟨hcz74_0, hcz74_1, hcz74_2, hcz74_3, hfz74_0, hfz74_1, hfz74_2, hfz74_3⟩ := Yt BK130.out; obtain ⟨Ao75, co75, eo75⟩ := Kd.R_slice HO124.out; subst eo75; obtain ⟨Ao76, co76, eo76⟩ := Kd.N_slice HO127.out; subst eo76; obtain ⟨hcz77_0, hcz77_1, hcz77_2, hcz77_3, hfz77_0, hfz77_1, hfz77_2, hfz77_3⟩ := Yt BK119.out) | (go_at_call 28; (with_reducible refine (Y2.calls kj1 t109 t110 _ _ t111 _ _ t114 t120 t121 _ _ t122 _ _ t125 false _ ?side1 ?side2 ?side3 ?side4 ?side5 ?side6 ?side7 ?side8 A12.out).mono ?_); (case side1 => refine (Kd.R_reads' (e := 9) (base := w.heap.size) (ok := fun k_ => (((True ∧ some k_ ≠ (.slice (some ad104) y101.length co62 : Value).ownBlock) ∧ some k_ ≠ (.slice (some ad108) y105.length co65 : Value).ownBlock) ∧ some k_ ≠ (.slice Ao75 t122.length co75 : Value).ownBlock)) (n := t111.length) (c := co69) ?_).2.2; exact Z17); (case side2 => exact Z1J); (case side3 => refine (Kd.N_reads' (e := 37) (base := w.heap.size) (ok := fun k_ => (((((some k_ ≠ (.slice Ao69 t111.length co69 : Value).ownBlock ∧ (some k_ ≠ (.slice (some ad104) y101.length co62 : Value).ownBlock ∧ some k_ ≠ (.slice (some ad108) y105.length co65 : Value).ownBlock)) ∧ k_ ≠ gb119) ∧ some k_ ≠ (.slice Ao75 t122.length co75 : Value).ownBlock) ∧ some k_ ≠ (.slice Ao76 t125.length co76 : Value).ownBlock) ∧ k_ ≠ gb130)) (n := t114.length) (c := co70) ?_).2.2; exact ZY); (case side4 => exact Z1I); (case side5 => refine (Kd.R_reads' (e := 9) (base := w.heap.size) (ok := fun k_ => (((True ∧ some k_ ≠ (.slice (some ad104) y101.length co62 : Value).ownBlock) ∧ some k_ ≠ (.slice (some ad108) y105.length co65 : Value).ownBlock) ∧ some k_ ≠ (.slice Ao69 t111.length co69 : Value).ownBlock)) (n := t122.length) (c := co75) ?_).2.2; exact Z1a); (case side6 => exact (Kd.R_reads' HO124.out).2.1); (case side7 => refine (Kd.N_reads' (e := 37) (base := w.heap.size) (ok := fun k_ => ((some k_ ≠ (.slice Ao75 t122.length co75 : Value).ownBlock ∧ (some k_ ≠ (.slice (some ad104) y101.length co62 : Value).ownBlock ∧ (some k_ ≠ (.slice (some ad108) y105.length co65 : Value).ownBlock ∧ (some k_ ≠ (.slice Ao69 t111.length co69 : Value).ownBlock ∧ (some k_ ≠ (.slice Ao70 t114.length co70 : Value).ownBlock ∧ k_ ≠ gb119))))) ∧ k_ ≠ gb130)) (n := t125.length) (c := co76) ?_).2.2; exact Z11); (case side8 => exact (Kd.N_reads' HO127.out).2.1); rintro e w78 ⟨rfl, hb⟩; have n0_ := Y0.mk (Kd.R_below (by (with_reducible repeat (first | apply Kd.R_alloc | apply Kd.R_drewN | apply Kd.R_drew)); exact (Kd.R_mono (Kd.R_far (p := ⟨gb130, 3, none⟩) (Kd.R_far (p := ⟨gb130, 2, none⟩) (Kd.R_far (p := ⟨gb130, 1, none⟩) (Kd.R_far (p := ⟨gb130, 0, none⟩) (Kd.R_types HO103.out BK130.out (by decide)) (fun _ hk => hk.2) (.int .i64 t120)) (fun _ hk => hk.2) (.string t121)) (fun _ hk => hk.2) (.slice Ao75 t122.length co75)) (fun _ hk => hk.2) (.slice Ao76 t125.length co76)) (fun _ h_ => h_.1))) hb); have n1_ := Y0.mk (Kd.R_below (by (with_reducible repeat (first | apply Kd.R_alloc | apply Kd.R_drewN | apply Kd.R_drew)); exact (Kd.R_mono (Kd.R_far (p := ⟨gb130, 3, none⟩) (Kd.R_far (p := ⟨gb130, 2, none⟩) (Kd.R_far (p := ⟨gb130, 1, none⟩) (Kd.R_far (p := ⟨gb130, 0, none⟩) (Kd.R_types HO107.out BK130.out (by decide)) (fun _ hk => hk.2) (.int .i64 t120)) (fun _ hk => hk.2) (.string t121)) (fun _ hk => hk.2) (.slice Ao75 t122.length co75)) (fun _ hk => hk.2) (.slice Ao76 t125.length co76)) (fun _ h_ => h_.1))) hb); have n2_ := Y0.mk (Kd.R_below Z17 hb); have n3_ := Y0.mk (Kd.N_below ZY hb); have n4_ := Y0.mk (Kd.R_below Z1a hb); have n5_ := Y0.mk (Kd.N_below Z11 hb); have n6_ := Y0.mk (Yi (g := gb119) (o := .cells #[.int .i64 t109, .string t110, .slice Ao69 t111.length co69, .slice Ao70 t114.length co70] 37 (0, 0)) Zk hb); have n7_ := Y0.mk (Yi (g := gb130) (o := .cells #[.int .i64 t120, .string t121, .slice Ao75 t122.length co75, .slice Ao76 t125.length co76] 37 (0, 0)) (by (with_reducible repeat (first | refine Y9 ?_ _ | refine Y8 ?_ | refine Y7 ?_ _)); exact Yo (cs := #[.int .i64 t120, .string t121, .slice Ao75 t122.length co75, .slice none 0 0]) Z1Q 3 _ rfl) hb); have n8_ := Y0.mk (Y6 QB hb); clear HO103 HO107 HO113 HO116 HO124 HO127 BK119 BK130 HB; have HO103 := n0_; have HO107 := n1_; have HO113 := n2_; have HO116 := n3_; have HO124 := n4_; have HO127 := n5_; have BK119 := n6_; have BK130 := n7_; have HB := n8_; clear n0_ n1_ n2_ n3_ n4_ n5_ n6_ n7_ n8_; (try clear hb); (try clear hb2); (try clear hk); (try clear hi)))
          go_ret
          exact Z1U
        ·rw [if_neg c11] at H
         have c11b0 : (t129 == 0) = false := beq_eq_false_iff_ne.mpr c11
         have c11b1 : (t129 != 0) = true := bne_iff_ne.mpr c11
         obtain rfl := Option.some.inj H
         go_wp2_with (first | ((with_reducible refine Ym (N := 17) rfl ?_); refine Kd.R_lit Kd.string _ 9 ?hg (N := 17) ?hd (xs := ([(⟨#[94, 60, 97, 62, 42]⟩ : ByteArray), (⟨#[60, 97, 62, 47, 60, 98, 62, 42]⟩ : ByteArray), (⟨#[60, 97, 62, 124, 60, 98, 62, 47, 60, 99, 62]⟩ : ByteArray), (⟨#[60, 97, 62, 47, 60, 98, 62, 47, 60, 99, 62]⟩ : ByteArray), (⟨#[33, 60, 97, 62, 124, 60, 98, 62]⟩ : ByteArray), (⟨#[33, 40, 60, 97, 62, 124, 60, 98, 62, 41, 47, 60, 99, 62, 63, 43]⟩ : ByteArray)] : List ByteArray)) (inner := [.string (⟨#[94, 60, 97, 62, 42]⟩ : ByteArray), .string (⟨#[60, 97, 62, 47, 60, 98, 62, 42]⟩ : ByteArray), .string (⟨#[60, 97, 62, 124, 60, 98, 62, 47, 60, 99, 62]⟩ : ByteArray), .string (⟨#[60, 97, 62, 47, 60, 98, 62, 47, 60, 99, 62]⟩ : ByteArray), .string (⟨#[33, 60, 97, 62, 124, 60, 98, 62]⟩ : ByteArray), .string (⟨#[33, 40, 60, 97, 62, 124, 60, 98, 62, 41, 47, 60, 99, 62, 63, 43]⟩ : ByteArray)]) (ok := fun _ => True) (okp := fun _ => True) ?hr ?hp (fun _ hk => hk) trivial (Below.refl _ _) (Nat.le_refl _) (by simp) ?_; (case hd => rfl); (case hg => rfl); (case hr => exact Za); (case hp => exact Z5); intro v102 w79 ho80 hb hg_ hnew_; clear hg_ hnew_; (first | rw [← Ny101.out] at ho80 | (simp only [Int.reduceToNat] at ho80; rw [← Ny101.out] at ho80)); have n_ := Y1V (Kd.R_lower ho80 (Y5 QB)) (Y6 QB hb); clear HB; obtain ⟨HO103, HB⟩ := n_; clear hb ho80; obtain ⟨Ao81, co81, eo81⟩ := Kd.R_slice HO103.out; subst eo81; have p104 : 0 ≤ (a0 : Int) := of_decide_eq_true Z8; have q104 : a0 < (y101.length : Int) := of_decide_eq_true Z8; obtain ⟨ad104, e104, hx104_0⟩ := Kd.at_string (Kd.R_reads' HO103.out).2.2 a0 p104 q104; cases e104; replace p104 := eq_true p104; replace q104 := eq_true q104) | ((with_reducible refine Ym (N := 21) rfl ?_); refine Kd.R_lit Kd.string _ 9 ?hg (N := 21) ?hd (xs := ([(⟨#[40, 94, 60, 97, 62, 41, 42]⟩ : ByteArray), (⟨#[60, 97, 62, 47, 40, 60, 98, 62, 42, 41]⟩ : ByteArray), (⟨#[60, 97, 62, 124, 40, 60, 98, 62, 47, 60, 99, 62, 41]⟩ : ByteArray), (⟨#[40, 60, 97, 62, 47, 60, 98, 62, 41, 47, 60, 99, 62]⟩ : ByteArray), (⟨#[40, 33, 40, 60, 97, 62, 41, 41, 124, 60, 98, 62]⟩ : ByteArray), (⟨#[40, 33, 40, 60, 97, 62, 124, 60, 98, 62, 41, 41, 47, 40, 40, 60, 99, 62, 63, 41, 43, 41]⟩ : ByteArray)] : List ByteArray)) (inner := [.string (⟨#[40, 94, 60, 97, 62, 41, 42]⟩ : ByteArray), .string (⟨#[60, 97, 62, 47, 40, 60, 98, 62, 42, 41]⟩ : ByteArray), .string (⟨#[60, 97, 62, 124, 40, 60, 98, 62, 47, 60, 99, 62, 41]⟩ : ByteArray), .string (⟨#[40, 60, 97, 62, 47, 60, 98, 62, 41, 47, 60, 99, 62]⟩ : ByteArray), .string (⟨#[40, 33, 40, 60, 97, 62, 41, 41, 124, 60, 98, 62]⟩ : ByteArray), .string (⟨#[40, 33, 40, 60, 97, 62, 124, 60, 98, 62, 41, 41, 47, 40, 40, 60, 99, 62, 63, 41, 43, 41]⟩ : ByteArray)]) (ok := fun _ => True) (okp := fun _ => True) ?hr ?hp (fun _ hk => hk) trivial (Below.refl _ _) (Nat.le_refl _) (by simp) ?_; (case hd => rfl); (case hg => rfl); (case hr => exact Za); (case hp => exact Z4); intro v106 w82 ho83 hb hg_ hnew_; clear hg_ hnew_; (first | rw [← Ny105.out] at ho83 | (simp only [Int.reduceToNat] at ho83; rw [← Ny105.out] at ho83)); have n_ := Y1P (Kd.R_elder' Z6 (Kd.R_base ho83) hb) (Kd.R_lower (Kd.R_new' ho83 (Kd.R_lt Z6)) (Y5 QB)) (Y6 QB hb); clear HO103 HB; obtain ⟨HO103, HO107, HB⟩ := n_; clear hb ho83; obtain ⟨Ao84, co84, eo84⟩ := Kd.R_slice HO107.out; subst eo84; have p108 : 0 ≤ (a0 : Int) := of_decide_eq_true Z8; have q108 : a0 < (y105.length : Int) := of_decide_eq_true Z8; obtain ⟨ad108, e108, hx108_0⟩ := Kd.at_string (Kd.R_reads' HO107.out).2.2 a0 p108 q108; cases e108; replace p108 := eq_true p108; replace q108 := eq_true q108) | ((with_reducible refine Yh (f := 25) rfl ?_); refine Yy (some 27) rfl rfl Tryd.func25 Z7 rfl #[.string (Y1x ByteArray.empty y101 a0)] rfl Z0 ?_; (with_reducible refine (Yr.calls kj1 (Y1x ByteArray.empty y101 a0) t109 t110 t111 t114 t117 t118 _ ?side1 A8.out).mono ?_); (case side1 => exact Z3); rintro e w85 ⟨v112, v115, rfl, ho0, ho1, hb⟩; refine ⟨_, rfl, ?_⟩; have n0_ := Y0.mk (Kd.R_elder' Z6 (Kd.R_base ho0) hb); have n1_ := Y0.mk (Kd.R_elder' Z9 (Kd.R_base ho0) hb); have n2_ := Y0.mk (Kd.R_lower (Kd.R_new' (Kd.R_new' (Kd.R_mono (ok' := fun k_ => True) ho0 (fun _ hk_ => trivial)) (Kd.R_lt Z6)) (Kd.R_lt Z9)) (Y5 QB)); have n3_ := Y0.mk (Kd.N_lower (Kd.N_mono (ok' := fun k_ => some k_ ≠ (v112 : Value).ownBlock ∧ some k_ ≠ (.slice (some ad104) y101.length co81 : Value).ownBlock ∧ some k_ ≠ (.slice (some ad108) y105.length co84 : Value).ownBlock) ho1 (fun k_ hk_ => ⟨hk_.2, (Kd.fresh' (Kd.R_lt Z6) k_ hk_.1), (Kd.fresh' (Kd.R_lt Z9) k_ hk_.1)⟩)) (Y5 QB)); have n4_ := Y0.mk (Y6 QB hb); clear HO103 HO107 HB; have HO103 := n0_; have HO107 := n1_; have HO113 := n2_; have HO116 := n3_; have HB := n4_; clear n0_ n1_ n2_ n3_ n4_; (try clear hb); (try clear hb2); (try clear hk); (try clear hi); (try clear ho0); (try clear ho1)) | ((with_reducible refine Ym (N := 5) rfl ?_); refine Yn ?hg (N := 5) ?hd (cs := #[.int .i64 0, .string (⟨#[]⟩ : ByteArray), .slice none 0 0, .slice none 0 0]) (t := 37) ?hr ?_; (case hd => rfl); (case hg => rfl); (case hr => exact Za); intro gb119 hg w86 hbox hb; have n_ := Y2C (Kd.R_below Z6 hb) (Kd.R_below Z9 hb) (Kd.R_below Zi hb) (Kd.N_below (Kd.N_elderB Zh gb119 (Nat.le_of_eq hg.symm)) hb) (Y6 QB hb) (hbox) ((by rw [hg]; exact (Y5 QB) : w.heap.size ≤ gb119)) ((by rw [hg]; exact (Y5 QB) : w.heap.size ≤ gb119)); clear HO103 HO107 HO113 HO116 HB; obtain ⟨HO103, HO107, HO113, HO116, HB, BK119, GW119, GE119⟩ := n_; clear hb hbox hg; obtain ⟨hcz87_0, hcz87_1, hcz87_2, hcz87_3, hfz87_0, hfz87_1, hfz87_2, hfz87_3⟩ := Yt BK119.out; obtain ⟨Ao88, co88, eo88⟩ := Kd.R_slice HO113.out; subst eo88; obtain ⟨Ao89, co89, eo89⟩ := Kd.N_slice HO116.out; subst eo89) | ((with_reducible refine Yh (f := 25) rfl ?_); refine Yy (some 33) rfl rfl Tryd.func25 Z7 rfl #[.string (Y1x ByteArray.empty y105 a0)] rfl Z0 ?_; (with_reducible refine (Yr.calls kj1 (Y1x ByteArray.empty y105 a0) t120 t121 t122 t125 t128 t129 _ ?side1 A9.out).mono ?_); (case side1 => exact Z3); rintro e w90 ⟨v123, v126, rfl, ho0, ho1, hb⟩; refine ⟨_, rfl, ?_⟩; have n0_ := Y0.mk (Kd.R_elder' Zv (Kd.R_base ho0) hb); have n1_ := Y0.mk (Kd.R_elder' Zz (Kd.R_base ho0) hb); have n2_ := Y0.mk (Kd.R_elder' ZD (Kd.R_base ho0) hb); have n3_ := Y0.mk (Kd.N_mono (Kd.N_told (Kd.N_told (Kd.N_old ZV hb) (Kd.R_base ho0)) (Kd.N_base ho1)) (fun _ h_ => h_.1)); have n4_ := Y0.mk (Kd.R_lower (Kd.R_new' (Kd.R_new' (Kd.R_new' (Kd.R_mono (ok' := fun k_ => True) ho0 (fun _ hk_ => trivial)) (Kd.R_lt Zv)) (Kd.R_lt Zz)) (Kd.R_lt ZD)) (Y5 QB)); have n5_ := Y0.mk (Kd.N_lower (Kd.N_mono (ok' := fun k_ => some k_ ≠ (v123 : Value).ownBlock ∧ some k_ ≠ (.slice (some ad104) y101.length co81 : Value).ownBlock ∧ some k_ ≠ (.slice (some ad108) y105.length co84 : Value).ownBlock ∧ some k_ ≠ (.slice Ao88 t111.length co88 : Value).ownBlock ∧ some k_ ≠ (.slice Ao89 t114.length co89 : Value).ownBlock ∧ k_ ≠ gb119) ho1 (fun k_ hk_ => ⟨hk_.2, (Kd.fresh' (Kd.R_lt Zv) k_ hk_.1), (Kd.fresh' (Kd.R_lt Zz) k_ hk_.1), (Kd.fresh' (Kd.R_lt ZD) k_ hk_.1), (Kd.fresh' (Kd.N_lt ZV) k_ hk_.1), (Kd.freshB (g := gb119) (o := .cells #[.int .i64 t109, .string t110, .slice Ao88 t111.length co88, .slice Ao89 t114.length co89] 37 (0, 0)) Z21 k_ hk_.1)⟩)) (Y5 QB)); have n6_ := Y0.mk (Yi (g := gb119) (o := .cells #[.int .i64 t109, .string t110, .slice Ao88 t111.length co88, .slice Ao89 t114.length co89] 37 (0, 0)) Z21 hb); have n7_ := Y0.mk (Y6 QB hb); clear HO103 HO107 HO113 HO116 BK119 HB; have HO103 := n0_; have HO107 := n1_; have HO113 := n2_; have HO116 := n3_; have HO124 := n4_; have HO127 := n5_; have BK119 := n6_; have HB := n7_; clear n0_ n1_ n2_ n3_ n4_ n5_ n6_ n7_; (try clear hb); (try clear hb2); (try clear hk); (try clear hi); (try clear ho0); (try clear ho1)) | ((with_reducible refine Ym (N := 8) rfl ?_); refine Yn ?hg (N := 8) ?hd (cs := #[.int .i64 0, .string (⟨#[]⟩ : ByteArray), .slice none 0 0, .slice none 0 0]) (t := 37) ?hr ?_; (case hd => rfl); (case hg => rfl); (case hr => exact Za); intro gb130 hg w91 hbox hb; have n0_ := Y0.mk (Kd.R_below Z6 hb); have n1_ := Y0.mk (Kd.R_below Z9 hb); have n2_ := Y0.mk (Kd.R_below Zi hb); have n3_ := Y0.mk (Kd.N_below (Kd.N_elderB Zh gb130 (Nat.le_of_eq hg.symm)) hb); have n4_ := Y0.mk (Kd.R_below ZG hb); have n5_ := Y0.mk (Kd.N_below (Kd.N_elderB ZF gb130 (Nat.le_of_eq hg.symm)) hb); have n6_ := Y0.mk (Yi (g := gb119) (o := .cells #[.int .i64 t109, .string t110, .slice Ao88 t111.length co88, .slice Ao89 t114.length co89] 37 (0, 0)) QQ hb); have n7_ := Y0.mk (Y6 QB hb); have n8_ := Y0.mk (hbox); have n9_ := Y0.mk ((by rw [hg]; exact (Y5 QB) : w.heap.size ≤ gb130)); have n10_ := Y0.mk ((by rw [hg]; exact (Y5 QB) : w.heap.size ≤ gb130)); have n11_ := Y0.mk ((by rw [hg]; exact Nat.ne_of_lt (YO (g := gb119) (o := .cells #[.int .i64 t109, .string t110, .slice Ao88 t111.length co88, .slice Ao89 t114.length co89] 37 (0, 0)) QQ) : gb119 ≠ gb130)); have n12_ := Y0.mk ((by rw [hg]; exact Nat.ne_of_gt (YO (g := gb119) (o := .cells #[.int .i64 t109, .string t110, .slice Ao88 t111.length co88, .slice Ao89 t114.length co89] 37 (0, 0)) QQ) : gb130 ≠ gb119)); clear HO103 HO107 HO113 HO116 HO124 HO127 BK119 HB; have HO103 := n0_; have HO107 := n1_; have HO113 := n2_; have HO116 := n3_; have HO124 := n4_; have HO127 := n5_; have BK119 := n6_; have HB := n7_; have BK130 := n8_; have GW130 := n9_; have GE130 := n10_; have NB119_130 := n11_; have NB130_119 := n12_; clear n0_ n1_ n2_ n3_ n4_ n5_ n6_ n7_ n8_ n9_ n10_ n11_ n12_ hb hbox hg; have hnb92 := NB130_119.out; have hnc92 := NB119_130.out; obtain ⟨hcz93_0, hcz93_1, hcz93_2, hcz93_3, hfz93_0, hfz93_1, hfz93_2, hfz93_3⟩ := Yt BK130.out; obtain ⟨Ao94, co94, eo94⟩ := Kd.R_slice HO124.out; subst eo94; obtain ⟨Ao95, co95, eo95⟩ := Kd.N_slice HO127.out; subst eo95))
         go_ret
         exact Z1U
       ·rw [if_neg c10] at H
        have c10b0 : (t118 == 0) = false := beq_eq_false_iff_ne.mpr c10
        have c10b1 : (t118 != 0) = true := bne_iff_ne.mpr c10
        obtain rfl := Option.some.inj H
        go_wp2_with (first | ((with_reducible refine Ym (N := 17) rfl ?_); refine Kd.R_lit Kd.string _ 9 ?hg (N := 17) ?hd (xs := ([(⟨#[94, 60, 97, 62, 42]⟩ : ByteArray), (⟨#[60, 97, 62, 47, 60, 98, 62, 42]⟩ : ByteArray), (⟨#[60, 97, 62, 124, 60, 98, 62, 47, 60, 99, 62]⟩ : ByteArray), (⟨#[60, 97, 62, 47, 60, 98, 62, 47, 60, 99, 62]⟩ : ByteArray), (⟨#[33, 60, 97, 62, 124, 60, 98, 62]⟩ : ByteArray), (⟨#[33, 40, 60, 97, 62, 124, 60, 98, 62, 41, 47, 60, 99, 62, 63, 43]⟩ : ByteArray)] : List ByteArray)) (inner := [.string (⟨#[94, 60, 97, 62, 42]⟩ : ByteArray), .string (⟨#[60, 97, 62, 47, 60, 98, 62, 42]⟩ : ByteArray), .string (⟨#[60, 97, 62, 124, 60, 98, 62, 47, 60, 99, 62]⟩ : ByteArray), .string (⟨#[60, 97, 62, 47, 60, 98, 62, 47, 60, 99, 62]⟩ : ByteArray), .string (⟨#[33, 60, 97, 62, 124, 60, 98, 62]⟩ : ByteArray), .string (⟨#[33, 40, 60, 97, 62, 124, 60, 98, 62, 41, 47, 60, 99, 62, 63, 43]⟩ : ByteArray)]) (ok := fun _ => True) (okp := fun _ => True) ?hr ?hp (fun _ hk => hk) trivial (Below.refl _ _) (Nat.le_refl _) (by simp) ?_; (case hd => rfl); (case hg => rfl); (case hr => exact Za); (case hp => exact Z5); intro v102 w96 ho97 hb hg_ hnew_; clear hg_ hnew_; (first | rw [← Ny101.out] at ho97 | (simp only [Int.reduceToNat] at ho97; rw [← Ny101.out] at ho97)); have n_ := Y1V (Kd.R_lower ho97 (Y5 QB)) (Y6 QB hb); clear HB; obtain ⟨HO103, HB⟩ := n_; clear hb ho97; obtain ⟨Ao98, co98, eo98⟩ := Kd.R_slice HO103.out; subst eo98; have p104 : 0 ≤ (a0 : Int) := of_decide_eq_true Z8; have q104 : a0 < (y101.length : Int) := of_decide_eq_true Z8; obtain ⟨ad104, e104, hx104_0⟩ := Kd.at_string (Kd.R_reads' HO103.out).2.2 a0 p104 q104; cases e104; replace p104 := eq_true p104; replace q104 := eq_true q104) | ((with_reducible refine Ym (N := 21) rfl ?_); refine Kd.R_lit Kd.string _ 9 ?hg (N := 21) ?hd (xs := ([(⟨#[40, 94, 60, 97, 62, 41, 42]⟩ : ByteArray), (⟨#[60, 97, 62, 47, 40, 60, 98, 62, 42, 41]⟩ : ByteArray), (⟨#[60, 97, 62, 124, 40, 60, 98, 62, 47, 60, 99, 62, 41]⟩ : ByteArray), (⟨#[40, 60, 97, 62, 47, 60, 98, 62, 41, 47, 60, 99, 62]⟩ : ByteArray), (⟨#[40, 33, 40, 60, 97, 62, 41, 41, 124, 60, 98, 62]⟩ : ByteArray), (⟨#[40, 33, 40, 60, 97, 62, 124, 60, 98, 62, 41, 41, 47, 40, 40, 60, 99, 62, 63, 41, 43, 41]⟩ : ByteArray)] : List ByteArray)) (inner := [.string (⟨#[40, 94, 60, 97, 62, 41, 42]⟩ : ByteArray), .string (⟨#[60, 97, 62, 47, 40, 60, 98, 62, 42, 41]⟩ : ByteArray), .string (⟨#[60, 97, 62, 124, 40, 60, 98, 62, 47, 60, 99, 62, 41]⟩ : ByteArray), .string (⟨#[40, 60, 97, 62, 47, 60, 98, 62, 41, 47, 60, 99, 62]⟩ : ByteArray), .string (⟨#[40, 33, 40, 60, 97, 62, 41, 41, 124, 60, 98, 62]⟩ : ByteArray), .string (⟨#[40, 33, 40, 60, 97, 62, 124, 60, 98, 62, 41, 41, 47, 40, 40, 60, 99, 62, 63, 41, 43, 41]⟩ : ByteArray)]) (ok := fun _ => True) (okp := fun _ => True) ?hr ?hp (fun _ hk => hk) trivial (Below.refl _ _) (Nat.le_refl _) (by simp) ?_; (case hd => rfl); (case hg => rfl); (case hr => exact Za); (case hp => exact Z4); intro v106 w99 ho100 hb hg_ hnew_; clear hg_ hnew_; (first | rw [← Ny105.out] at ho100 | (simp only [Int.reduceToNat] at ho100; rw [← Ny105.out] at ho100)); have n_ := Y1P (Kd.R_elder' Z6 (Kd.R_base ho100) hb) (Kd.R_lower (Kd.R_new' ho100 (Kd.R_lt Z6)) (Y5 QB)) (Y6 QB hb); clear HO103 HB; obtain ⟨HO103, HO107, HB⟩ := n_; clear hb ho100; obtain ⟨Ao101, co101, eo101⟩ := Kd.R_slice HO107.out; subst eo101; have p108 : 0 ≤ (a0 : Int) := of_decide_eq_true Z8; have q108 : a0 < (y105.length : Int) := of_decide_eq_true Z8; obtain ⟨ad108, e108, hx108_0⟩ := Kd.at_string (Kd.R_reads' HO107.out).2.2 a0 p108 q108; cases e108; replace p108 := eq_true p108; replace q108 := eq_true q108) | ((with_reducible refine Yh (f := 25) rfl ?_); refine Yy (some 27) rfl rfl Tryd.func25 Z7 rfl #[.string (Y1x ByteArray.empty y101 a0)] rfl Z0 ?_; (with_reducible refine (Yr.calls kj1 (Y1x ByteArray.empty y101 a0) t109 t110 t111 t114 t117 t118 _ ?side1 A8.out).mono ?_); (case side1 => exact Z3); rintro e w102 ⟨v112, v115, rfl, ho0, ho1, hb⟩; refine ⟨_, rfl, ?_⟩; have n0_ := Y0.mk (Kd.R_elder' Z6 (Kd.R_base ho0) hb); have n1_ := Y0.mk (Kd.R_elder' Z9 (Kd.R_base ho0) hb); have n2_ := Y0.mk (Kd.R_lower (Kd.R_new' (Kd.R_new' (Kd.R_mono (ok' := fun k_ => True) ho0 (fun _ hk_ => trivial)) (Kd.R_lt Z6)) (Kd.R_lt Z9)) (Y5 QB)); have n3_ := Y0.mk (Kd.N_lower (Kd.N_mono (ok' := fun k_ => some k_ ≠ (v112 : Value).ownBlock ∧ some k_ ≠ (.slice (some ad104) y101.length co98 : Value).ownBlock ∧ some k_ ≠ (.slice (some ad108) y105.length co101 : Value).ownBlock) ho1 (fun k_ hk_ => ⟨hk_.2, (Kd.fresh' (Kd.R_lt Z6) k_ hk_.1), (Kd.fresh' (Kd.R_lt Z9) k_ hk_.1)⟩)) (Y5 QB)); have n4_ := Y0.mk (Y6 QB hb); clear HO103 HO107 HB; have HO103 := n0_; have HO107 := n1_; have HO113 := n2_; have HO116 := n3_; have HB := n4_; clear n0_ n1_ n2_ n3_ n4_; (try clear hb); (try clear hb2); (try clear hk); (try clear hi); (try clear ho0); (try clear ho1)) | ((with_reducible refine Ym (N := 5) rfl ?_); refine Yn ?hg (N := 5) ?hd (cs := #[.int .i64 0, .string (⟨#[]⟩ : ByteArray), .slice none 0 0, .slice none 0 0]) (t := 37) ?hr ?_; (case hd => rfl); (case hg => rfl); (case hr => exact Za); intro gb119 hg w103 hbox hb; have n_ := Y2C (Kd.R_below Z6 hb) (Kd.R_below Z9 hb) (Kd.R_below Zi hb) (Kd.N_below (Kd.N_elderB Zh gb119 (Nat.le_of_eq hg.symm)) hb) (Y6 QB hb) (hbox) ((by rw [hg]; exact (Y5 QB) : w.heap.size ≤ gb119)) ((by rw [hg]; exact (Y5 QB) : w.heap.size ≤ gb119)); clear HO103 HO107 HO113 HO116 HB; obtain ⟨HO103, HO107, HO113, HO116, HB, BK119, GW119, GE119⟩ := n_; clear hb hbox hg; obtain ⟨hcz104_0, hcz104_1, hcz104_2, hcz104_3, hfz104_0, hfz104_1, hfz104_2, hfz104_3⟩ := Yt BK119.out; obtain ⟨Ao105, co105, eo105⟩ := Kd.R_slice HO113.out; subst eo105; obtain ⟨Ao106, co106, eo106⟩ := Kd.N_slice HO116.out; subst eo106) | ((with_reducible refine Yh (f := 25) rfl ?_); refine Yy (some 33) rfl rfl Tryd.func25 Z7 rfl #[.string (Y1x ByteArray.empty y105 a0)] rfl Z0 ?_; (with_reducible refine (Yr.calls kj1 (Y1x ByteArray.empty y105 a0) t120 t121 t122 t125 t128 t129 _ ?side1 A9.out).mono ?_); (case side1 => exact Z3); rintro e w107 ⟨v123, v126, rfl, ho0, ho1, hb⟩; refine ⟨_, rfl, ?_⟩; have n0_ := Y0.mk (Kd.R_elder' Zo (Kd.R_base ho0) hb); have n1_ := Y0.mk (Kd.R_elder' Zp (Kd.R_base ho0) hb); have n2_ := Y0.mk (Kd.R_elder' Zq (Kd.R_base ho0) hb); have n3_ := Y0.mk (Kd.N_mono (Kd.N_told (Kd.N_told (Kd.N_old ZP hb) (Kd.R_base ho0)) (Kd.N_base ho1)) (fun _ h_ => h_.1)); have n4_ := Y0.mk (Kd.R_lower (Kd.R_new' (Kd.R_new' (Kd.R_new' (Kd.R_mono (ok' := fun k_ => True) ho0 (fun _ hk_ => trivial)) (Kd.R_lt Zo)) (Kd.R_lt Zp)) (Kd.R_lt Zq)) (Y5 QB)); have n5_ := Y0.mk (Kd.N_lower (Kd.N_mono (ok' := fun k_ => some k_ ≠ (v123 : Value).ownBlock ∧ some k_ ≠ (.slice (some ad104) y101.length co98 : Value).ownBlock ∧ some k_ ≠ (.slice (some ad108) y105.length co101 : Value).ownBlock ∧ some k_ ≠ (.slice Ao105 t111.length co105 : Value).ownBlock ∧ some k_ ≠ (.slice Ao106 t114.length co106 : Value).ownBlock ∧ k_ ≠ gb119) ho1 (fun k_ hk_ => ⟨hk_.2, (Kd.fresh' (Kd.R_lt Zo) k_ hk_.1), (Kd.fresh' (Kd.R_lt Zp) k_ hk_.1), (Kd.fresh' (Kd.R_lt Zq) k_ hk_.1), (Kd.fresh' (Kd.N_lt ZP) k_ hk_.1), (Kd.freshB (g := gb119) (o := .cells #[.int .i64 t109, .string t110, .slice Ao105 t111.length co105, .slice Ao106 t114.length co106] 37 (0, 0)) Z1X k_ hk_.1)⟩)) (Y5 QB)); have n6_ := Y0.mk (Yi (g := gb119) (o := .cells #[.int .i64 t109, .string t110, .slice Ao105 t111.length co105, .slice Ao106 t114.length co106] 37 (0, 0)) Z1X hb); have n7_ := Y0.mk (Y6 QB hb); clear HO103 HO107 HO113 HO116 BK119 HB; have HO103 := n0_; have HO107 := n1_; have HO113 := n2_; have HO116 := n3_; have HO124 := n4_; have HO127 := n5_; have BK119 := n6_; have HB := n7_; clear n0_ n1_ n2_ n3_ n4_ n5_ n6_ n7_; (try clear hb); (try clear hb2); (try clear hk); (try clear hi); (try clear ho0); (try clear ho1)) | ((with_reducible refine Ym (N := 8) rfl ?_); refine Yn ?hg (N := 8) ?hd (cs := #[.int .i64 0, .string (⟨#[]⟩ : ByteArray), .slice none 0 0, .slice none 0 0]) (t := 37) ?hr ?_; (case hd => rfl); (case hg => rfl); (case hr => exact Za); intro gb130 hg w108 hbox hb; have n0_ := Y0.mk (Kd.R_below Z6 hb); have n1_ := Y0.mk (Kd.R_below Z9 hb); have n2_ := Y0.mk (Kd.R_below Zi hb); have n3_ := Y0.mk (Kd.N_below (Kd.N_elderB Zh gb130 (Nat.le_of_eq hg.symm)) hb); have n4_ := Y0.mk (Kd.R_below ZG hb); have n5_ := Y0.mk (Kd.N_below (Kd.N_elderB ZF gb130 (Nat.le_of_eq hg.symm)) hb); have n6_ := Y0.mk (Yi (g := gb119) (o := .cells #[.int .i64 t109, .string t110, .slice Ao105 t111.length co105, .slice Ao106 t114.length co106] 37 (0, 0)) QQ hb); have n7_ := Y0.mk (Y6 QB hb); have n8_ := Y0.mk (hbox); have n9_ := Y0.mk ((by rw [hg]; exact (Y5 QB) : w.heap.size ≤ gb130)); have n10_ := Y0.mk ((by rw [hg]; exact (Y5 QB) : w.heap.size ≤ gb130)); have n11_ := Y0.mk ((by rw [hg]; exact Nat.ne_of_lt (YO (g := gb119) (o := .cells #[.int .i64 t109, .string t110, .slice Ao105 t111.length co105, .slice Ao106 t114.length co106] 37 (0, 0)) QQ) : gb119 ≠ gb130)); have n12_ := Y0.mk ((by rw [hg]; exact Nat.ne_of_gt (YO (g := gb119) (o := .cells #[.int .i64 t109, .string t110, .slice Ao105 t111.length co105, .slice Ao106 t114.length co106] 37 (0, 0)) QQ) : gb130 ≠ gb119)); clear HO103 HO107 HO113 HO116 HO124 HO127 BK119 HB; have HO103 := n0_; have HO107 := n1_; have HO113 := n2_; have HO116 := n3_; have HO124 := n4_; have HO127 := n5_; have BK119 := n6_; have HB := n7_; have BK130 := n8_; have GW130 := n9_; have GE130 := n10_; have NB119_130 := n11_; have NB130_119 := n12_; clear n0_ n1_ n2_ n3_ n4_ n5_ n6_ n7_ n8_ n9_ n10_ n11_ n12_ hb hbox hg; have hnb109 := NB130_119.out; have hnc109 := NB119_130.out; obtain ⟨hcz110_0, hcz110_1, hcz110_2, hcz110_3, hfz110_0, hfz110_1, hfz110_2, hfz110_3⟩ := Yt BK130.out; obtain ⟨Ao111, co111, eo111⟩ := Kd.R_slice HO124.out; subst eo111; obtain ⟨Ao112, co112, eo112⟩ := Kd.N_slice HO127.out; subst eo112))
        go_ret
        exact Z1U
      ·rw [if_neg c7] at H
       exact ZH
     ·rw [if_neg c6] at H
      exact ZH
    ·rw [if_neg c5] at H
     exact ZH
end Go.Proofs.YtbpbfboaofkpaaaDoor.Print
end
section
set_option linter.unusedVariables false
namespace Go.Proofs.YtbpbfboaofkpaaaDoor
open Go.ChangeShapes Go.WideShapes Go.ChangeAt Go.RowKit
theorem binds_all : ∀ n : Fin 6, Print.triviumlaw12_QueryBinds.f 300 (Int.ofNat n.val) = some true := by decide +kernel
theorem binds_int (n : Int) : Print.triviumlaw12_QueryBinds.f 300 n = some true := by
 by_cases h0 : n < 0
 ·unfold Print.triviumlaw12_QueryBinds.f
  rw [if_pos h0, show (300 : Nat) = 299 + 1 from rfl]
  simp [Print.triviumlaw12_QueryBinds.j0]
 ·by_cases h1 : n > 5
  ·unfold Print.triviumlaw12_QueryBinds.f
   rw [if_neg h0, decide_eq_true h1, show (300 : Nat) = 299 + 1 from rfl]
   simp [Print.triviumlaw12_QueryBinds.j0]
  ·obtain ⟨m, rfl⟩ := Int.eq_ofNat_of_zero_le (by omega : 0 ≤ n)
   exact binds_all ⟨m, by omega⟩
set_option maxRecDepth 100000 in
theorem Y2k (os : Os) (started : os.Started) (H : Type) (enc : TypeId × Value → H) :
  ReturnsInHanded {} Tryd.checked os 8 .any (fun w args => (Rows.queryBindsSpec.pre enc Tryd.prog Tryd.f8 [] false w args ∧ laidMetH Tryd.prog laid2 w) ∧ sizedMet enc Tryd.prog Tryd.f8 (OpenSpec.ofChange Rows.queryBindsSpec) false w args)
   (Rows.queryBindsSpec.post enc Tryd.prog Tryd.f8 false true false false) := by
 refine Y3e (C := Tryd.checked) (X := fun w _ => laidMetH Tryd.prog laid2 w) (fun _ _ _ hh h => h.of_heap hh) own started Z7 Tryd.func8
  (ChangeSpec.witness_at (enc := enc) (C := Tryd.checked) (os := os) (X := fun w _ => laidMetH Tryd.prog laid2 w) false (Y37 os) #[.int .i64 0] 8 rfl Z7 Z7 Z7 Z7 Z7 (Y2R os _)) ?_
 intro W base args ds gs before hval0 hW hL hsh
 have hval : ∀ (j : Nat) t v, Tryd.f8.params[j]? = some t → args[j]? = some v → Value.okWide Tryd.prog W .any base t v := hval0
 have hW' := hW
 obtain ⟨p, q, hA0, hV, rfl, hfz, hnd⟩ := hW
 have hA : DataW.TrodAll enc Tryd.prog W 0 (fun _ => true) true Tryd.f8.params.toList args.toList ds p := hA0
 rw [Tryd.params8] at hA hval
 obtain ⟨v0, d0, rfl, rfl, h0⟩ := trodAll_one hA
 obtain ⟨rfl, rfl⟩ := trodVars_none hV
 obtain ⟨n, rfl, rfl, rfl, wn⟩ := open_int Tryd.underlying3 (hval 0 3 v0 rfl rfl) h0
 clear hA0 hval0
 simp only [List.append_nil] at hW'
 refine (Print.triviumlaw12_QueryBinds.calls 300 n true W (Y3g hL hsh) (binds_int n)).mono fun e W' ⟨he, bel⟩ => ?_
 subst he
 have e1 : Rows.queryBindsSpec.fn H ([.lit (.int .i64 n)] ++ []) = { results := [.lit (.bool true)], args := [.lit (.int .i64 n)] } := by simp [Rows.queryBindsSpec]
 refine ⟨_, rfl, _, _, _, [], [], [], hW', ?_, ?_, ?_, bel.frame _, fun h => by cases h⟩
 ·rw [e1]; exact trodAll_mk1 (shut_bool Tryd.underlying4 true)
 ·rw [e1]; exact trodAll_mk1 (shut_int Tryd.underlying3 wn)
 ·rw [e1]; rfl
theorem queryBinds_holds : Rows.QueryBindsSaid :=
 OpenClaim.holds_of_wide 8 Tryd.f8 rfl rfl rfl rfl rfl rfl rfl ⟨rfl, rfl, rfl, rfl, rfl⟩ rfl rfl rfl rfl rfl Z7 Tryd.func8 Z7
  (of_decide_eq_true Z7) (by unfold Func.isWrapper; rw [if_neg (by decide +kernel)]; exact ⟨rfl, rfl⟩)
  (fun os started H enc _ => Y2k os started H enc)
theorem queryBinds_card : Rows.QueryBindsCardSaid :=
 Claim7.holds_tied_plain_at .later [] [.data, .pinned] true (true, "8dc71fce747bb8b3b218677ae7dbf523581ddbbfb392b53abaf975cea163e82b") false
  queryBinds_holds (fun _ h => by cases h) Z7 (fun _ h => by cases h) queryBinds_row_tie rfl ⟨rfl, rfl⟩ Z7 rfl
  (fun f fn hf hfn => by
   obtain rfl : f = 8 := Option.some.inj ((show Tryd.prog.funcNamed "trivium/triviumlaw12.QueryBinds" = some 8 by kernel_rfl).symm.trans hf) |>.symm
   obtain rfl : fn = Tryd.f8 := (Option.some.inj (Tryd.func8.symm.trans hfn)).symm
   exact ⟨by kernel_rfl, fun j t ht => by
    rw [Tryd.params8] at ht
    have h3 : t = 3 := by
     rcases j with _ | j
     ·simpa using ht.symm
     ·simp at ht
    subst h3
    exact (show Tryd.prog.wantsStandIn 3 = false by kernel_rfl)⟩)
  Z7
#print axioms queryBinds_card
end Go.Proofs.YtbpbfboaofkpaaaDoor
end
