/- Proofs for this claim: printed by our driver and joined by pack.py; the last text holds the statement. -/
import Derived.Test.YtbpbfboaofkpaaaDoorQkQ3
section
namespace Go.Proofs.YtbpbfboaofkpaaaDoor.Print
open Go.RowKit Go.Proofs.YtbpbfboaofkpaaaDoorW.PrintWords Go.Proofs.YtbpbfboaofkpaaaDoorW.PrintLast Go.Proofs.YtbpbfboaofkpaaaDoorW.PrintMore
attribute [local go_sem] max2_int min2_int max_two min_two max_three min_three max_four min_four
set_option linter.unusedVariables false
set_option linter.unusedSimpArgs false
set_option maxHeartbeats 8000000 in
set_option maxRecDepth 100000 in
theorem Yx.calls (k : Nat) : ∀ (a0_0 : Int) (a0_1 : ByteArray) (A0_2 : Option Addr) (c0_2 : Nat) (l0_2 : List ByteArray) (A0_3 : Option Addr) (c0_3 : Nat) (l0_3 : List (S37)) (a1 : Int) (r : Int) (w : World) (hT : Tabs w) (hr0_2 : Kd.C Kd.string w A0_2 l0_2.length l0_2) (hc0_2 : l0_2.length ≤ c0_2) (hr0_3 : Kd.C k37 w A0_3 l0_3.length l0_3) (hc0_3 : l0_3.length ≤ c0_3) (h : Yx.f k a0_0 a0_1 l0_2 l0_3 a1 = some r),
  Calls Tryd.prog 62 #[.agg #[.int .i64 a0_0, .string a0_1, .slice A0_2 l0_2.length c0_2, .slice A0_3 l0_3.length c0_3], .int .i64 a1] w fun e w' => e = .returned (.int .i64 r) ∧ Below w.heap.size w w' := by
 induction k using Nat.strongRecOn with
 | _ k ih =>
 intro a0_0 a0_1 A0_2 c0_2 l0_2 A0_3 c0_3 l0_3 a1 r w hT hr0_2 hc0_2 hr0_3 hc0_3 h
 cases k with
 | zero => exact absurd h (by simp [Yx.f])
 | succ k =>
 simp only [Yx.f] at h
 have HT := Y0.mk hT
 clear hT
 have hu37 := Tryd.underlying37
 have HR0_2 := Y0.mk hr0_2
 have HC0_2 := Y0.mk hc0_2
 clear hr0_2 hc0_2
 have HR0_3 := Y0.mk hr0_3
 have HC0_3 := Y0.mk hc0_3
 clear hr0_3 hc0_3
 have HB := Y0.mk (Below.refl w.heap.size w)
 have H : (if a1 > 5 then (some (-1)) else ((YI.f k a0_0).bind fun t102 => (if (l0_3.length : Int) = t102 then (if ((a0_0 == 1) == (a0_1.toList != ([] : List UInt8))) = true then (if ((a0_0 == 8) == (decide ((l0_2.length : Int) > 0))) = true then (if (l0_2.length : Int) > 4 then (some (-1)) else (if a0_1.toList = ([] : List UInt8) then ((Yy.f k l0_2).bind fun t103 => (if t103 = true then (some (-1)) else (Yx.l0 k a1 1 l0_3 (l0_3.length : Int) 0))) else ((Y1k.f a0_1).bind fun t107 => (if t107 = true then (some (-1)) else ((Yy.f k l0_2).bind fun t108 => (if t108 = true then (some (-1)) else (Yx.l0 k a1 1 l0_3 (l0_3.length : Int) 0))))))) else (some (-1))) else (some (-1))) else (some (-1))))) = some r := h
 clear h
 by_cases c3 : a1 > 5
 ·rw [if_pos c3] at H
  have c3b0 : decide (5 < a1) = true := decide_eq_true c3
  clear c3
  obtain rfl := Option.some.inj H
  go_enter Tryd.func62, Tryd.ntmps62
  try go_wp2_with (first | ((with_reducible refine YF (N := 2) rfl ?_); (try (refine YX (by rfl) ?_; dsimp only)); refine YE ?hg (N := 2) ?hd (cs := #[.int .i64 a0_0, .string a0_1, .slice A0_2 l0_2.length c0_2, .slice A0_3 l0_3.length c0_3]) (t := 37) ?hr ?_; (case hd => rfl); (case hg => rfl); (case hr => exact Za); intro gb101 hg w4 hbox hb; have n_ := Y31 (Yb QB hb) (hbox) ((by rw [hg]; exact (Ym QB) : w.heap.size ≤ gb101)) ((by rw [hg]; exact (Ym QB) : w.heap.size ≤ gb101)); clear HB; obtain ⟨HB, BK101, GW101, GE101⟩ := n_; clear hb hbox hg; obtain ⟨hcz5_0, hcz5_1, hcz5_2, hcz5_3, hfz5_0, hfz5_1, hfz5_2, hfz5_3⟩ := YA BK101.out))
  have n_ := Y2F (Ya BK101.out) (YP HB.out)
  clear BK101
  clear HB
  obtain ⟨BK101, HB⟩ := n_
  refine Y1l (n := 40) (S := fun w' => True) (ds := []) Y3H Z6 rfl rfl trivial (fun hHeld => ?_); refine YW Yx.tab3 Yx.bits3 (fun HT_ HW_ => ?_)
  generalize w4.drew = w6 at BK101 HB hHeld ⊢
  refine pY 0 26 Y3I ?_
  refine pY 1 27 Y3J ?_
  refine pY 2 28 Y3K ?_
  refine pU 3 29 Y3L ?_
  refine pU 4 30 bz40_1f ?_
  refine pU 5 31 bz40_3f ?_
  refine pU 6 32 Y34 ?_
  refine pU 7 33 Y35 ?_
  refine pU 8 34 Y2H ?_
  refine pU 9 35 Y2I ?_
  refine pY 10 36 Y2J ?_
  refine pY 11 37 Y2K ?_
  refine pU 12 38 Y2e ?_
  refine pU 13 39 Y2f ?_
  refine pY 14 40 Y2g ?_
  refine pY 15 41 Y2h ?_
  refine pU 16 42 Y1X ?_
  refine pU 17 43 Y1Y ?_
  refine pY 18 44 Y1Z ?_
  refine pY 19 45 Y20 ?_
  refine pU 20 46 Y1J ?_
  refine pU 21 47 Y1K ?_
  refine pU 22 48 Y1L ?_
  refine pU 23 49 Y1M ?_
  refine pY 24 50 Y1A ?_
  refine pY 25 51 Y1B ?_
  refine pU 26 52 Y1C ?_
  refine pU 27 53 Y1D ?_
  refine pU 28 54 Y1v ?_
  refine pU 29 55 Y1w ?_
  refine pU 30 56 Y1x ?_
  refine pU 31 57 Y1y ?_
  refine pU 32 58 Y1n ?_
  refine pU 33 59 Y1o ?_
  refine pY 34 60 Y1p ?_
  refine pY 35 61 Y1q ?_
  refine pU 36 62 Y1f ?_
  refine pU 37 63 Y1g ?_
  refine pU 38 64 Y1h ?_
  refine pY 39 65 Y1i ?_
  refine Y1Q (Y1a HT_.out Z6) ?_
  try go_wp2
  go_ret
  exact Z2d
 ·rw [if_neg c3] at H
  have c3b0 : decide (5 < a1) = false := decide_eq_false c3
  clear c3
  replace H := Option.bind_eq_some_iff.mp H
  obtain ⟨t102, A70, H⟩ := H
  replace H : (if (l0_3.length : Int) = t102 then (if ((a0_0 == 1) == (a0_1.toList != ([] : List UInt8))) = true then (if ((a0_0 == 8) == (decide ((l0_2.length : Int) > 0))) = true then (if (l0_2.length : Int) > 4 then (some (-1)) else (if a0_1.toList = ([] : List UInt8) then ((Yy.f k l0_2).bind fun t103 => (if t103 = true then (some (-1)) else (Yx.l0 k a1 1 l0_3 (l0_3.length : Int) 0))) else ((Y1k.f a0_1).bind fun t107 => (if t107 = true then (some (-1)) else ((Yy.f k l0_2).bind fun t108 => (if t108 = true then (some (-1)) else (Yx.l0 k a1 1 l0_3 (l0_3.length : Int) 0))))))) else (some (-1))) else (some (-1))) else (some (-1))) = some r := H
  have A7 := Y0.mk A70
  clear A70
  by_cases c8 : (l0_3.length : Int) = t102
  ·rw [if_pos c8] at H
   have c8b0 : ((l0_3.length : Int) == t102) = true := beq_iff_eq.mpr c8
   have c8b1 : ((l0_3.length : Int) != t102) = false := bne_eq_false_iff_eq.mpr c8
   clear c8
   by_cases c9 : ((a0_0 == 1) == (a0_1.toList != ([] : List UInt8))) = true
   ·rw [if_pos c9] at H
    have c9b0 : ((a0_0 == 1) == (a0_1.toList != ([] : List UInt8))) = true := c9
    (try (have c9b1 : ((a0_0 == 1) == !a0_1.toList.isEmpty) = true := by first | simpa using c9 | simpa [show ∀ l_ : List UInt8, (l_ != ([] : List UInt8)) = !l_.isEmpty from fun l_ => by cases l_ <;> rfl, show ∀ l_ : List UInt8, (l_ == ([] : List UInt8)) = l_.isEmpty from fun l_ => by cases l_ <;> rfl] using c9))
    (try (have c9b2 : (((a0_0 = 1) = (a0_1.toList != ([] : List UInt8)))) = True := eq_true (by simpa using c9)))
    (try (have c9b3 : decide ((a0_0 == 1) = (a0_1.toList != ([] : List UInt8))) = true := by simpa using c9))
    (try (have c9b4 : ((a0_0 == 1) == (a0_1.toList != ([] : List UInt8))) = true := by simpa using c9))
    clear c9
    by_cases c10 : ((a0_0 == 8) == (decide ((l0_2.length : Int) > 0))) = true
    ·rw [if_pos c10] at H
     have c10b0 : ((a0_0 == 8) == (decide ((l0_2.length : Int) > 0))) = true := c10
     (try (have c10b1 : ((a0_0 == 8) == decide (0 < l0_2.length)) = true := by first | simpa using c10 | simpa [show ∀ l_ : List UInt8, (l_ != ([] : List UInt8)) = !l_.isEmpty from fun l_ => by cases l_ <;> rfl, show ∀ l_ : List UInt8, (l_ == ([] : List UInt8)) = l_.isEmpty from fun l_ => by cases l_ <;> rfl] using c10))
     (try (have c10b2 : (((a0_0 = 8) = (decide ((l0_2.length : Int) > 0)))) = True := eq_true (by simpa using c10)))
     (try (have c10b3 : decide ((a0_0 == 8) = (decide ((l0_2.length : Int) > 0))) = true := by simpa using c10))
     (try (have c10b4 : ((a0_0 == 8) == (decide ((l0_2.length : Int) > 0))) = true := by simpa using c10))
     clear c10
     by_cases c11 : (l0_2.length : Int) > 4
     ·rw [if_pos c11] at H
      have c11b0 : decide (4 < (l0_2.length : Int)) = true := decide_eq_true c11
      have c11b1 : decide (4 < l0_2.length) = true := decide_eq_true (by omega)
      clear c11
      obtain rfl := Option.some.inj H
      go_enter Tryd.func62, Tryd.ntmps62
      try go_wp2_with (first | ((with_reducible refine YF (N := 2) rfl ?_); (try (refine YX (by rfl) ?_; dsimp only)); refine YE ?hg (N := 2) ?hd (cs := #[.int .i64 a0_0, .string a0_1, .slice A0_2 l0_2.length c0_2, .slice A0_3 l0_3.length c0_3]) (t := 37) ?hr ?_; (case hd => rfl); (case hg => rfl); (case hr => exact Za); intro gb101 hg w12 hbox hb; have n_ := Y31 (Yb QB hb) (hbox) ((by rw [hg]; exact (Ym QB) : w.heap.size ≤ gb101)) ((by rw [hg]; exact (Ym QB) : w.heap.size ≤ gb101)); clear HB; obtain ⟨HB, BK101, GW101, GE101⟩ := n_; clear hb hbox hg; obtain ⟨hcz13_0, hcz13_1, hcz13_2, hcz13_3, hfz13_0, hfz13_1, hfz13_2, hfz13_3⟩ := YA BK101.out))
      have n_ := Y2F (Ya BK101.out) (YP HB.out)
      clear BK101
      clear HB
      obtain ⟨BK101, HB⟩ := n_
      refine Y1l (n := 40) (S := fun w' => w'.cell? ⟨gb101, 0, none⟩ = some (.int .i64 a0_0) ∧ w'.cell? ⟨gb101, 1, none⟩ = some (.string a0_1) ∧ w'.cell? ⟨gb101, 2, none⟩ = some (.slice A0_2 l0_2.length c0_2) ∧ w'.cell? ⟨gb101, 3, none⟩ = some (.slice A0_3 l0_3.length c0_3)) (ds := []) Y3H Z6 rfl rfl ⟨(Y2 BK101.out 0).trans rfl, (Y2 BK101.out 1).trans rfl, (Y2 BK101.out 2).trans rfl, (Y2 BK101.out 3).trans rfl⟩ (fun hHeld => ?_); refine YW Yx.tab3 Yx.bits3 (fun HT_ HW_ => ?_)
      generalize w12.drew = w14 at BK101 HB hHeld ⊢
      refine pY 0 26 Y3I ?_
      refine pY 1 27 Y3J ?_
      refine pY 2 28 Y3K ?_
      refine pY 3 29 Y3L ?_
      refine pY 6 32 Y3l ?_
      refine pT 4 30 Y3m ?_
      refine pY 5 31 Y34 ?_
      refine pT 7 33 Y35 ?_
      refine Y2T (i := 8) (N := some 34) Y2H rfl rfl (Y1j HT_.out Z6) (by decide) (fun K hK => ?_)
      refine Y21 Tryd.func98 Z6 rfl #[.int .i64 a0_0] (by rfl) rfl rfl Z0 ?_
      with_reducible refine (YI.calls k a0_0 t102 _ A7.out).mono ?_
      rintro e w' ⟨rfl, ⟨nd, rfl⟩⟩
      refine ⟨_, rfl, ?_⟩
      refine hK.out _ _ ⟨(Y2 BK101.out 0).trans rfl, (Y2 BK101.out 1).trans rfl, (Y2 BK101.out 2).trans rfl, (Y2 BK101.out 3).trans rfl⟩ (fun hHeld => ?_)
      clear hK K
      refine Y1H (a' := ?_) ?_ ?_
      rotate_left
      ·show Act.put _ (some 34) _ = _
       simp only [Act.put, List.setIfInBounds_toArray, List.set_cons_zero, List.set_cons_succ, Y16, Y17]
       rfl
      refine pY 9 35 Y2I ?_
      refine pY 10 36 Y2J ?_
      refine pY 11 37 Y2K ?_
      refine pY 12 38 Y2e ?_
      refine pY 13 39 Y2f ?_
      refine pY 14 40 Y2g ?_
      refine pY 15 41 Y2h ?_
      refine pY 16 42 Y1X ?_
      refine pY 17 43 Y1Y ?_
      refine pY 18 44 Y1Z ?_
      refine pY 19 45 Y20 ?_
      refine pY 20 46 Y1J ?_
      refine pT 21 47 Y1K ?_
      refine pY 22 48 Y1L ?_
      refine pY 23 49 Y1M ?_
      refine pY 24 50 Y1A ?_
      refine pY 25 51 Y1B ?_
      refine pU 26 52 Y1C ?_
      refine pU 27 53 Y1D ?_
      refine pU 28 54 Y1v ?_
      refine pU 29 55 Y1w ?_
      refine pU 30 56 Y1x ?_
      refine pU 31 57 Y1y ?_
      refine pU 32 58 Y1n ?_
      refine pU 33 59 Y1o ?_
      refine pY 34 60 Y1p ?_
      refine pY 35 61 Y1q ?_
      refine pU 36 62 Y1f ?_
      refine pU 37 63 Y1g ?_
      refine pU 38 64 Y1h ?_
      refine pY 39 65 Y1i ?_
      refine Y1Q (Y1a HT_.out Z6) ?_
      try go_wp2
      go_ret
      exact Z2d
     ·rw [if_neg c11] at H
      have c11b0 : decide (4 < (l0_2.length : Int)) = false := decide_eq_false c11
      have c11b1 : decide (4 < l0_2.length) = false := decide_eq_false (by omega)
      clear c11
      by_cases c15 : a0_1.toList = ([] : List UInt8)
      ·rw [if_pos c15] at H
       have c15b0 : (a0_1.toList == ([] : List UInt8)) = true := beq_iff_eq.mpr c15
       have c15b1 : (a0_1.toList != ([] : List UInt8)) = false := bne_eq_false_iff_eq.mpr c15
       (try (have c15c9b0_true : (a0_0 == 1) = true := by have z_ := c9b0; rw [c15b1] at z_; simpa using z_))
       (try (have c15c9b0_false : (a0_0 == 1) = false := by have z_ := c9b0; rw [c15b1] at z_; simpa using z_))
       clear c15
       replace H := Option.bind_eq_some_iff.mp H
       obtain ⟨t103, A160, H⟩ := H
       replace H : (if t103 = true then (some (-1)) else (Yx.l0 k a1 1 l0_3 (l0_3.length : Int) 0)) = some r := H
       have A16 := Y0.mk A160
       clear A160
       by_cases c17 : t103 = true
       ·subst c17
        have H1 : (some (-1)) = some r := by rw [if_pos rfl] at H; exact H
        clear H
        have H := H1
        clear H1
        obtain rfl := Option.some.inj H
        go_enter Tryd.func62, Tryd.ntmps62
        try go_wp2_with (first | ((with_reducible refine YF (N := 2) rfl ?_); (try (refine YX (by rfl) ?_; dsimp only)); refine YE ?hg (N := 2) ?hd (cs := #[.int .i64 a0_0, .string a0_1, .slice A0_2 l0_2.length c0_2, .slice A0_3 l0_3.length c0_3]) (t := 37) ?hr ?_; (case hd => rfl); (case hg => rfl); (case hr => exact Za); intro gb101 hg w18 hbox hb; have n_ := Y31 (Yb QB hb) (hbox) ((by rw [hg]; exact (Ym QB) : w.heap.size ≤ gb101)) ((by rw [hg]; exact (Ym QB) : w.heap.size ≤ gb101)); clear HB; obtain ⟨HB, BK101, GW101, GE101⟩ := n_; clear hb hbox hg; obtain ⟨hcz19_0, hcz19_1, hcz19_2, hcz19_3, hfz19_0, hfz19_1, hfz19_2, hfz19_3⟩ := YA BK101.out))
        have n_ := Y2F (Ya BK101.out) (YP HB.out)
        clear BK101
        clear HB
        obtain ⟨BK101, HB⟩ := n_
        refine Y1l (n := 40) (S := fun w' => w'.cell? ⟨gb101, 0, none⟩ = some (.int .i64 a0_0) ∧ w'.cell? ⟨gb101, 1, none⟩ = some (.string a0_1) ∧ w'.cell? ⟨gb101, 2, none⟩ = some (.slice A0_2 l0_2.length c0_2) ∧ w'.cell? ⟨gb101, 3, none⟩ = some (.slice A0_3 l0_3.length c0_3)) (ds := []) Y3H Z6 rfl rfl ⟨(Y2 BK101.out 0).trans rfl, (Y2 BK101.out 1).trans rfl, (Y2 BK101.out 2).trans rfl, (Y2 BK101.out 3).trans rfl⟩ (fun hHeld => ?_); refine YW Yx.tab3 Yx.bits3 (fun HT_ HW_ => ?_)
        generalize w18.drew = w20 at BK101 HB hHeld ⊢
        refine pY 0 26 Y3I ?_
        refine pY 1 27 Y3J ?_
        refine pY 2 28 Y3K ?_
        refine pY 3 29 Y3L ?_
        refine pY 6 32 Y3l ?_
        refine pT 4 30 Y3m ?_
        refine pY 5 31 Y34 ?_
        refine pT 7 33 Y35 ?_
        refine Y2T (i := 8) (N := some 34) Y2H rfl rfl (Y1j HT_.out Z6) (by decide) (fun K hK => ?_)
        refine Y21 Tryd.func98 Z6 rfl #[.int .i64 a0_0] (by rfl) rfl rfl Z0 ?_
        with_reducible refine (YI.calls k a0_0 t102 _ A7.out).mono ?_
        rintro e w' ⟨rfl, ⟨nd, rfl⟩⟩
        refine ⟨_, rfl, ?_⟩
        refine hK.out _ _ ⟨(Y2 BK101.out 0).trans rfl, (Y2 BK101.out 1).trans rfl, (Y2 BK101.out 2).trans rfl, (Y2 BK101.out 3).trans rfl⟩ (fun hHeld => ?_)
        clear hK K
        refine Y1H (a' := ?_) ?_ ?_
        rotate_left
        ·show Act.put _ (some 34) _ = _
         simp only [Act.put, List.setIfInBounds_toArray, List.set_cons_zero, List.set_cons_succ, Y16, Y17]
         rfl
        refine pY 9 35 Y2I ?_
        refine pY 10 36 Y2J ?_
        refine pY 11 37 Y2K ?_
        refine pY 12 38 Y2e ?_
        refine pY 13 39 Y2f ?_
        refine pY 14 40 Y2g ?_
        refine pY 15 41 Y2h ?_
        refine pY 16 42 Y1X ?_
        refine pY 17 43 Y1Y ?_
        refine pY 18 44 Y1Z ?_
        refine pY 19 45 Y20 ?_
        refine pY 20 46 Y1J ?_
        refine pT 21 47 Y1K ?_
        refine pY 22 48 Y1L ?_
        refine pY 23 49 Y1M ?_
        refine pY 24 50 Y1A ?_
        refine pY 25 51 Y1B ?_
        refine pY 26 52 Y1C ?_
        refine pT 27 53 Y1D ?_
        refine pY 28 54 Y1v ?_
        refine pY 29 55 Y1w ?_
        refine pU 30 56 Y1x ?_
        refine pU 31 57 Y1y ?_
        refine pU 32 58 Y1n ?_
        refine pY 33 59 Y1o ?_
        refine pY 34 60 Y1p ?_
        refine pY 35 61 Y1q ?_
        refine pY 36 62 Y1f ?_
        refine pT 37 63 Y1g ?_
        refine Y2T (i := 38) (N := some 64) Y1h rfl rfl (Y1j HT_.out Z6) (by decide) (fun K hK => ?_)
        refine Y21 Tryd.func100 Z6 rfl #[.slice A0_2 l0_2.length c0_2, .func (.func 99) #[] #[]] (by rfl) rfl rfl Z0 ?_
        with_reducible refine (Yy.calls k _ _ l0_2  true _ ?side1 ?side2 ?side3 A16.out).mono ?_
        (case side1 => exact Z3)
        (case side2 => exact Z1w)
        (case side3 => exact Z1N)
        rintro e w21 ⟨rfl, hb⟩
        refine ⟨_, rfl, ?_⟩
        have n_ := Y2F (Yu (g := gb101) (o := .cells #[.int .i64 a0_0, .string a0_1, .slice A0_2 l0_2.length c0_2, .slice A0_3 l0_3.length c0_3] 37 (0, 0)) QQ hb) (Yb QB hb)
        clear BK101
        clear HB
        obtain ⟨BK101, HB⟩ := n_
        (try clear hb)
        (try clear hb2)
        (try clear hk)
        (try clear hi)
        refine hK.out _ _ ⟨(Y2 BK101.out 0).trans rfl, (Y2 BK101.out 1).trans rfl, (Y2 BK101.out 2).trans rfl, (Y2 BK101.out 3).trans rfl⟩ (fun hHeld => ?_)
        clear hK K
        refine Y1H (a' := ?_) ?_ ?_
        rotate_left
        ·show Act.put _ (some 64) _ = _
         simp only [Act.put, List.setIfInBounds_toArray, List.set_cons_zero, List.set_cons_succ, Y16, Y17]
         rfl
        refine pY 39 65 Y1i ?_
        refine Y1Q (Y1a HT_.out Z6) ?_
        try go_wp2
        go_ret
        exact Z2d
       ·replace c17 := Bool.eq_false_iff.mpr c17
        subst c17
        have H1 : (Yx.l0 k a1 1 l0_3 (l0_3.length : Int) 0) = some r := by rw [if_neg (show ¬ (false = true) by decide)] at H; exact H
        clear H
        have H := H1
        clear H1
        have H' := Y0.mk H
        clear H
        go_enter Tryd.func62, Tryd.ntmps62
        try go_wp2_with (first | ((with_reducible refine YF (N := 2) rfl ?_); (try (refine YX (by rfl) ?_; dsimp only)); refine YE ?hg (N := 2) ?hd (cs := #[.int .i64 a0_0, .string a0_1, .slice A0_2 l0_2.length c0_2, .slice A0_3 l0_3.length c0_3]) (t := 37) ?hr ?_; (case hd => rfl); (case hg => rfl); (case hr => exact Za); intro gb101 hg w22 hbox hb; have n_ := Y31 (Yb QB hb) (hbox) ((by rw [hg]; exact (Ym QB) : w.heap.size ≤ gb101)) ((by rw [hg]; exact (Ym QB) : w.heap.size ≤ gb101)); clear HB; obtain ⟨HB, BK101, GW101, GE101⟩ := n_; clear hb hbox hg; obtain ⟨hcz23_0, hcz23_1, hcz23_2, hcz23_3, hfz23_0, hfz23_1, hfz23_2, hfz23_3⟩ := YA BK101.out))
        have n_ := Y2F (Ya BK101.out) (YP HB.out)
        clear BK101
        clear HB
        obtain ⟨BK101, HB⟩ := n_
        refine Y1l (n := 40) (S := fun w' => w'.cell? ⟨gb101, 0, none⟩ = some (.int .i64 a0_0) ∧ w'.cell? ⟨gb101, 1, none⟩ = some (.string a0_1) ∧ w'.cell? ⟨gb101, 2, none⟩ = some (.slice A0_2 l0_2.length c0_2) ∧ w'.cell? ⟨gb101, 3, none⟩ = some (.slice A0_3 l0_3.length c0_3)) (ds := []) Y3H Z6 rfl rfl ⟨(Y2 BK101.out 0).trans rfl, (Y2 BK101.out 1).trans rfl, (Y2 BK101.out 2).trans rfl, (Y2 BK101.out 3).trans rfl⟩ (fun hHeld => ?_); refine YW Yx.tab3 Yx.bits3 (fun HT_ HW_ => ?_)
        generalize w22.drew = w24 at BK101 HB hHeld ⊢
        refine pY 0 26 Y3I ?_
        refine pY 1 27 Y3J ?_
        refine pY 2 28 Y3K ?_
        refine pY 3 29 Y3L ?_
        refine pY 6 32 Y3l ?_
        refine pT 4 30 Y3m ?_
        refine pY 5 31 Y34 ?_
        refine pT 7 33 Y35 ?_
        refine Y2T (i := 8) (N := some 34) Y2H rfl rfl (Y1j HT_.out Z6) (by decide) (fun K hK => ?_)
        refine Y21 Tryd.func98 Z6 rfl #[.int .i64 a0_0] (by rfl) rfl rfl Z0 ?_
        with_reducible refine (YI.calls k a0_0 t102 _ A7.out).mono ?_
        rintro e w' ⟨rfl, ⟨nd, rfl⟩⟩
        refine ⟨_, rfl, ?_⟩
        refine hK.out _ _ ⟨(Y2 BK101.out 0).trans rfl, (Y2 BK101.out 1).trans rfl, (Y2 BK101.out 2).trans rfl, (Y2 BK101.out 3).trans rfl⟩ (fun hHeld => ?_)
        clear hK K
        refine Y1H (a' := ?_) ?_ ?_
        rotate_left
        ·show Act.put _ (some 34) _ = _
         simp only [Act.put, List.setIfInBounds_toArray, List.set_cons_zero, List.set_cons_succ, Y16, Y17]
         rfl
        refine pY 9 35 Y2I ?_
        refine pY 10 36 Y2J ?_
        refine pY 11 37 Y2K ?_
        refine pY 12 38 Y2e ?_
        refine pY 13 39 Y2f ?_
        refine pY 14 40 Y2g ?_
        refine pY 15 41 Y2h ?_
        refine pY 16 42 Y1X ?_
        refine pY 17 43 Y1Y ?_
        refine pY 18 44 Y1Z ?_
        refine pY 19 45 Y20 ?_
        refine pY 20 46 Y1J ?_
        refine pT 21 47 Y1K ?_
        refine pY 22 48 Y1L ?_
        refine pY 23 49 Y1M ?_
        refine pY 24 50 Y1A ?_
        refine pY 25 51 Y1B ?_
        refine pY 26 52 Y1C ?_
        refine pT 27 53 Y1D ?_
        refine pY 28 54 Y1v ?_
        refine pY 29 55 Y1w ?_
        refine pU 30 56 Y1x ?_
        refine pU 31 57 Y1y ?_
        refine pU 32 58 Y1n ?_
        refine pY 33 59 Y1o ?_
        refine pY 34 60 Y1p ?_
        refine pY 35 61 Y1q ?_
        refine pY 36 62 Y1f ?_
        refine pT 37 63 Y1g ?_
        refine Y2T (i := 38) (N := some 64) Y1h rfl rfl (Y1j HT_.out Z6) (by decide) (fun K hK => ?_)
        refine Y21 Tryd.func100 Z6 rfl #[.slice A0_2 l0_2.length c0_2, .func (.func 99) #[] #[]] (by rfl) rfl rfl Z0 ?_
        with_reducible refine (Yy.calls k _ _ l0_2  false _ ?side1 ?side2 ?side3 A16.out).mono ?_
        (case side1 => exact Z3)
        (case side2 => exact Z1w)
        (case side3 => exact Z1N)
        rintro e w25 ⟨rfl, hb⟩
        refine ⟨_, rfl, ?_⟩
        have n_ := Y2F (Yu (g := gb101) (o := .cells #[.int .i64 a0_0, .string a0_1, .slice A0_2 l0_2.length c0_2, .slice A0_3 l0_3.length c0_3] 37 (0, 0)) QQ hb) (Yb QB hb)
        clear BK101
        clear HB
        obtain ⟨BK101, HB⟩ := n_
        (try clear hb)
        (try clear hb2)
        (try clear hk)
        (try clear hi)
        refine hK.out _ _ ⟨(Y2 BK101.out 0).trans rfl, (Y2 BK101.out 1).trans rfl, (Y2 BK101.out 2).trans rfl, (Y2 BK101.out 3).trans rfl⟩ (fun hHeld => ?_)
        clear hK K
        refine Y1H (a' := ?_) ?_ ?_
        rotate_left
        ·show Act.put _ (some 64) _ = _
         simp only [Act.put, List.setIfInBounds_toArray, List.set_cons_zero, List.set_cons_succ, Y16, Y17]
         rfl
        refine pY 39 65 Y1i ?_
        refine Y1Q (Y1a HT_.out Z6) ?_
        obtain ⟨hcz26_0, hcz26_1, hcz26_2, hcz26_3, hfz26_0, hfz26_1, hfz26_2, hfz26_3⟩ := YA BK101.out
        try go_wp2
        go_loopg [7, 69] k (fun kq v7 v69 w' => ∃ (x7_1 : Int) (x69_1 : Int), v7 = .int .i64 x7_1 ∧ v69 = .int .i64 x69_1 ∧ Y0 (Yx.l0 kq a1 x7_1 l0_3 (l0_3.length : Int) x69_1 = some r) ∧ Y0 (kq ≤ k) ∧ Y0 (w'.heap[gb101]? = some (.cells #[.int .i64 a0_0, .string a0_1, (.slice A0_2 l0_2.length c0_2), (.slice A0_3 l0_3.length c0_3)] 37 (0, 0))) ∧ Y0 (Below w.heap.size w w'))
        case atStart => exact Z2j
        case round =>
         clear H'
         try clear c1
         try clear p2
         try clear c6
         try clear c9
         try clear c10
         try clear c17
         try clear hcz23_0 hcz23_1 hcz23_2 hcz23_3
         try clear hcz26_0 hcz26_1 hcz26_2 hcz26_3
         try clear hfz23_0
         try clear hfz23_1
         try clear hfz23_2
         try clear hfz23_3
         try clear hfz26_0
         try clear hfz26_1
         try clear hfz26_2
         try clear hfz26_3
         obtain ⟨x7_1, x69_1, rfl, rfl, HA, HK1, BK101, HB⟩ := hrel
         cases gk with
         | zero => exact absurd HA.out (by simp [Yx.l0])
         | succ k1 =>
          have H := HA.out
          clear HA
          simp only [Yx.l0] at H
          by_cases c27 : x69_1 < (l0_3.length : Int)
          ·rw [if_pos c27] at H
           have c27b0 : decide (x69_1 < (l0_3.length : Int)) = true := decide_eq_true c27
           clear c27
           by_cases c28 : 0 ≤ x69_1
           ·rw [if_pos c28] at H
            have c28b0 : decide (0 ≤ x69_1) = true := decide_eq_true c28
            clear c28
            by_cases c29 : x69_1 < (l0_3.length : Int)
            ·rw [if_pos c29] at H
             have c29b0 : decide (x69_1 < (l0_3.length : Int)) = true := decide_eq_true c29
             clear c29
             replace H := Option.bind_eq_some_iff.mp H
             obtain ⟨t106, A300, H⟩ := H
             replace H : (if t106 < 0 then (some (-1)) else (Yx.l0 k1 a1 (wrap64 (x7_1 + t106)) l0_3 (l0_3.length : Int) (wrap64 (x69_1 + 1)))) = some r := H
             have A30 := Y0.mk A300
             clear A300
             by_cases c31 : t106 < 0
             ·rw [if_pos c31] at H
              have c31b0 : decide (t106 < 0) = true := decide_eq_true c31
              clear c31
              obtain rfl := Option.some.inj H
              have p104 : 0 ≤ (x69_1 : Int) := of_decide_eq_true Z8
              have q104 : x69_1 < (l0_3.length : Int) := of_decide_eq_true Z8
              obtain ⟨ad104, A104_2, c104_2, A104_3, c104_3, e104, hx104_0, hx104_1, hx104_2, hx104_3, hl104_2, hi104_2, hl104_3, hi104_3⟩ := Y2r HR0_3.out x69_1 p104 q104
              cases e104
              replace hx104_0 := Y18 HB.out hx104_0
              replace hx104_1 := Y18 HB.out hx104_1
              replace hx104_2 := Y18 HB.out hx104_2
              replace hx104_3 := Y18 HB.out hx104_3
              have HR104_2 := Y0.mk hi104_2
              have HC104_2 := Y0.mk hl104_2
              clear hi104_2 hl104_2
              have HR104_3 := Y0.mk hi104_3
              have HC104_3 := Y0.mk hl104_3
              clear hi104_3 hl104_3
              replace p104 := eq_true p104
              replace q104 := eq_true q104
              go_wp2_with (first | ((with_reducible refine YF (N := 9) rfl ?_); (try (refine YX (by rfl) ?_; dsimp only)); refine YE ?hg (N := 9) ?hd (cs := #[.int .i64 0, .string (⟨#[]⟩ : ByteArray), .slice none 0 0, .slice none 0 0]) (t := 37) ?hr ?_; (case hd => rfl); (case hg => rfl); (case hr => exact Za); intro gb105 hg w32 hbox hb; have n_ := put7 (Yu (g := gb101) (o := .cells #[.int .i64 a0_0, .string a0_1, .slice A0_2 l0_2.length c0_2, .slice (some ad104) l0_3.length c0_3] 37 (0, 0)) QQ hb) (Yb QB hb) (hbox) ((by rw [hg]; exact (Ym QB) : w.heap.size ≤ gb105)) ((by rw [hg]; exact (Ym QB) : w.heap.size ≤ gb105)) ((by rw [hg]; exact Nat.ne_of_lt (Y15 (g := gb101) (o := .cells #[.int .i64 a0_0, .string a0_1, .slice A0_2 l0_2.length c0_2, .slice (some ad104) l0_3.length c0_3] 37 (0, 0)) QQ) : gb101 ≠ gb105)) ((by rw [hg]; exact Nat.ne_of_gt (Y15 (g := gb101) (o := .cells #[.int .i64 a0_0, .string a0_1, .slice A0_2 l0_2.length c0_2, .slice (some ad104) l0_3.length c0_3] 37 (0, 0)) QQ) : gb105 ≠ gb101)); clear BK101 HB; obtain ⟨BK101, HB, BK105, GW105, GE105, NB101_105, NB105_101⟩ := n_; clear hb hbox hg; have hnb33 := NB105_101.out; have hnc33 := NB101_105.out; obtain ⟨hcz34_0, hcz34_1, hcz34_2, hcz34_3, hfz34_0, hfz34_1, hfz34_2, hfz34_3⟩ := YA BK105.out) | ((with_reducible refine Yn (f := 62) rfl ?_); refine YO (some 76) rfl rfl Tryd.func62 Z6 rfl #[.agg #[.int .i64 ((Yk l0_3 x69_1).f0), .string ((Yk l0_3 x69_1).f1), .slice A104_2 ((Yk l0_3 x69_1).f2).length c104_2, .slice A104_3 ((Yk l0_3 x69_1).f3).length c104_3], .int .i64 (wrap64 (a1 + 1))] rfl Z0 ?_; (with_reducible refine (ih k1 Z13 ((Yk l0_3 x69_1).f0) ((Yk l0_3 x69_1).f1) _ _ ((Yk l0_3 x69_1).f2) _ _ ((Yk l0_3 x69_1).f3) (wrap64 (a1 + 1)) t106 _ ?side1 ?side2 ?side3 ?side4 ?side5 A30.out).mono ?_); (case side1 => exact Z3); (case side2 => exact Kd.C_below HR104_2.out QB); (case side3 => exact HC104_2.out); (case side4 => exact Kd.C_below HR104_3.out QB); (case side5 => exact HC104_3.out); rintro e w35 ⟨rfl, hb⟩; refine ⟨_, rfl, ?_⟩; have n_ := Y2Z (Yu (g := gb101) (o := .cells #[.int .i64 a0_0, .string a0_1, .slice A0_2 l0_2.length c0_2, .slice (some ad104) l0_3.length c0_3] 37 (0, 0)) Zh hb) (Yu (g := gb105) (o := .cells #[.int .i64 ((Yk l0_3 x69_1).f0), .string ((Yk l0_3 x69_1).f1), .slice A104_2 ((Yk l0_3 x69_1).f2).length c104_2, .slice A104_3 ((Yk l0_3 x69_1).f3).length c104_3] 37 (0, 0)) Z1Y hb) (Yb QB hb); clear BK101 BK105 HB; obtain ⟨BK101, BK105, HB⟩ := n_; (try clear hb); (try clear hb2); (try clear hk); (try clear hi)))
              go_ret
              exact Z2d
             ·rw [if_neg c31] at H
              have c31b0 : decide (t106 < 0) = false := decide_eq_false c31
              clear c31
              have H' := Y0.mk H
              clear H
              have p104 : 0 ≤ (x69_1 : Int) := of_decide_eq_true Z8
              have q104 : x69_1 < (l0_3.length : Int) := of_decide_eq_true Z8
              obtain ⟨ad104, A104_2, c104_2, A104_3, c104_3, e104, hx104_0, hx104_1, hx104_2, hx104_3, hl104_2, hi104_2, hl104_3, hi104_3⟩ := Y2r HR0_3.out x69_1 p104 q104
              cases e104
              replace hx104_0 := Y18 HB.out hx104_0
              replace hx104_1 := Y18 HB.out hx104_1
              replace hx104_2 := Y18 HB.out hx104_2
              replace hx104_3 := Y18 HB.out hx104_3
              have HR104_2 := Y0.mk hi104_2
              have HC104_2 := Y0.mk hl104_2
              clear hi104_2 hl104_2
              have HR104_3 := Y0.mk hi104_3
              have HC104_3 := Y0.mk hl104_3
              clear hi104_3 hl104_3
              replace p104 := eq_true p104
              replace q104 := eq_true q104
              go_wp2_with (first | ((with_reducible refine YF (N := 9) rfl ?_); (try (refine YX (by rfl) ?_; dsimp only)); refine YE ?hg (N := 9) ?hd (cs := #[.int .i64 0, .string (⟨#[]⟩ : ByteArray), .slice none 0 0, .slice none 0 0]) (t := 37) ?hr ?_; (case hd => rfl); (case hg => rfl); (case hr => exact Za); intro gb105 hg w36 hbox hb; have n_ := put7 (Yu (g := gb101) (o := .cells #[.int .i64 a0_0, .string a0_1, .slice A0_2 l0_2.length c0_2, .slice (some ad104) l0_3.length c0_3] 37 (0, 0)) QQ hb) (Yb QB hb) (hbox) ((by rw [hg]; exact (Ym QB) : w.heap.size ≤ gb105)) ((by rw [hg]; exact (Ym QB) : w.heap.size ≤ gb105)) ((by rw [hg]; exact Nat.ne_of_lt (Y15 (g := gb101) (o := .cells #[.int .i64 a0_0, .string a0_1, .slice A0_2 l0_2.length c0_2, .slice (some ad104) l0_3.length c0_3] 37 (0, 0)) QQ) : gb101 ≠ gb105)) ((by rw [hg]; exact Nat.ne_of_gt (Y15 (g := gb101) (o := .cells #[.int .i64 a0_0, .string a0_1, .slice A0_2 l0_2.length c0_2, .slice (some ad104) l0_3.length c0_3] 37 (0, 0)) QQ) : gb105 ≠ gb101)); clear BK101 HB; obtain ⟨BK101, HB, BK105, GW105, GE105, NB101_105, NB105_101⟩ := n_; clear hb hbox hg; have hnb37 := NB105_101.out; have hnc37 := NB101_105.out; obtain ⟨hcz38_0, hcz38_1, hcz38_2, hcz38_3, hfz38_0, hfz38_1, hfz38_2, hfz38_3⟩ := YA BK105.out) | ((with_reducible refine Yn (f := 62) rfl ?_); refine YO (some 76) rfl rfl Tryd.func62 Z6 rfl #[.agg #[.int .i64 ((Yk l0_3 x69_1).f0), .string ((Yk l0_3 x69_1).f1), .slice A104_2 ((Yk l0_3 x69_1).f2).length c104_2, .slice A104_3 ((Yk l0_3 x69_1).f3).length c104_3], .int .i64 (wrap64 (a1 + 1))] rfl Z0 ?_; (with_reducible refine (ih k1 Z13 ((Yk l0_3 x69_1).f0) ((Yk l0_3 x69_1).f1) _ _ ((Yk l0_3 x69_1).f2) _ _ ((Yk l0_3 x69_1).f3) (wrap64 (a1 + 1)) t106 _ ?side1 ?side2 ?side3 ?side4 ?side5 A30.out).mono ?_); (case side1 => exact Z3); (case side2 => exact Kd.C_below HR104_2.out QB); (case side3 => exact HC104_2.out); (case side4 => exact Kd.C_below HR104_3.out QB); (case side5 => exact HC104_3.out); rintro e w39 ⟨rfl, hb⟩; refine ⟨_, rfl, ?_⟩; have n_ := Y2Z (Yu (g := gb101) (o := .cells #[.int .i64 a0_0, .string a0_1, .slice A0_2 l0_2.length c0_2, .slice (some ad104) l0_3.length c0_3] 37 (0, 0)) Zh hb) (Yu (g := gb105) (o := .cells #[.int .i64 ((Yk l0_3 x69_1).f0), .string ((Yk l0_3 x69_1).f1), .slice A104_2 ((Yk l0_3 x69_1).f2).length c104_2, .slice A104_3 ((Yk l0_3 x69_1).f3).length c104_3] 37 (0, 0)) Z1Y hb) (Yb QB hb); clear BK101 BK105 HB; obtain ⟨BK101, BK105, HB⟩ := n_; (try clear hb); (try clear hb2); (try clear hk); (try clear hi)))
              go_roundg k1
              case measure => have := HK1.out; omega
              case rel => exact ⟨(wrap64 (x7_1 + t106)), (wrap64 (x69_1 + 1)), Z7, Z7, H', ⟨Z13⟩, ⟨Z4⟩, ⟨QB⟩⟩
            ·rw [if_neg c29] at H
             exact ZA
           ·rw [if_neg c28] at H
            exact ZA
          ·rw [if_neg c27] at H
           have c27b0 : decide (x69_1 < (l0_3.length : Int)) = false := decide_eq_false c27
           clear c27
           obtain rfl := Option.some.inj H
           go_wp2
           go_ret
           exact Z2d
      ·rw [if_neg c15] at H
       have c15b0 : (a0_1.toList == ([] : List UInt8)) = false := beq_eq_false_iff_ne.mpr c15
       have c15b1 : (a0_1.toList != ([] : List UInt8)) = true := bne_iff_ne.mpr c15
       (try (have c15c9b0_true : (a0_0 == 1) = true := by have z_ := c9b0; rw [c15b1] at z_; simpa using z_))
       (try (have c15c9b0_false : (a0_0 == 1) = false := by have z_ := c9b0; rw [c15b1] at z_; simpa using z_))
       replace H := Option.bind_eq_some_iff.mp H
       obtain ⟨t107, A400, H⟩ := H
       replace H : (if t107 = true then (some (-1)) else ((Yy.f k l0_2).bind fun t108 => (if t108 = true then (some (-1)) else (Yx.l0 k a1 1 l0_3 (l0_3.length : Int) 0)))) = some r := H
       have A40 := Y0.mk A400
       clear A400
       by_cases c41 : t107 = true
       ·subst c41
        have H1 : (some (-1)) = some r := by rw [if_pos rfl] at H; exact H
        clear H
        have H := H1
        clear H1
        obtain rfl := Option.some.inj H
        go_enter Tryd.func62, Tryd.ntmps62
        try go_wp2_with (first | ((with_reducible refine YF (N := 2) rfl ?_); (try (refine YX (by rfl) ?_; dsimp only)); refine YE ?hg (N := 2) ?hd (cs := #[.int .i64 a0_0, .string a0_1, .slice A0_2 l0_2.length c0_2, .slice A0_3 l0_3.length c0_3]) (t := 37) ?hr ?_; (case hd => rfl); (case hg => rfl); (case hr => exact Za); intro gb101 hg w42 hbox hb; have n_ := Y31 (Yb QB hb) (hbox) ((by rw [hg]; exact (Ym QB) : w.heap.size ≤ gb101)) ((by rw [hg]; exact (Ym QB) : w.heap.size ≤ gb101)); clear HB; obtain ⟨HB, BK101, GW101, GE101⟩ := n_; clear hb hbox hg; obtain ⟨hcz43_0, hcz43_1, hcz43_2, hcz43_3, hfz43_0, hfz43_1, hfz43_2, hfz43_3⟩ := YA BK101.out))
        have n_ := Y2F (Ya BK101.out) (YP HB.out)
        clear BK101
        clear HB
        obtain ⟨BK101, HB⟩ := n_
        refine Y1l (n := 40) (S := fun w' => w'.cell? ⟨gb101, 0, none⟩ = some (.int .i64 a0_0) ∧ w'.cell? ⟨gb101, 1, none⟩ = some (.string a0_1) ∧ w'.cell? ⟨gb101, 2, none⟩ = some (.slice A0_2 l0_2.length c0_2) ∧ w'.cell? ⟨gb101, 3, none⟩ = some (.slice A0_3 l0_3.length c0_3)) (ds := []) Y3H Z6 rfl rfl ⟨(Y2 BK101.out 0).trans rfl, (Y2 BK101.out 1).trans rfl, (Y2 BK101.out 2).trans rfl, (Y2 BK101.out 3).trans rfl⟩ (fun hHeld => ?_); refine YW Yx.tab3 Yx.bits3 (fun HT_ HW_ => ?_)
        generalize w42.drew = w44 at BK101 HB hHeld ⊢
        refine pY 0 26 Y3I ?_
        refine pY 1 27 Y3J ?_
        refine pY 2 28 Y3K ?_
        refine pY 3 29 Y3L ?_
        refine pY 6 32 Y3l ?_
        refine pT 4 30 Y3m ?_
        refine pY 5 31 Y34 ?_
        refine pT 7 33 Y35 ?_
        refine Y2T (i := 8) (N := some 34) Y2H rfl rfl (Y1j HT_.out Z6) (by decide) (fun K hK => ?_)
        refine Y21 Tryd.func98 Z6 rfl #[.int .i64 a0_0] (by rfl) rfl rfl Z0 ?_
        with_reducible refine (YI.calls k a0_0 t102 _ A7.out).mono ?_
        rintro e w' ⟨rfl, ⟨nd, rfl⟩⟩
        refine ⟨_, rfl, ?_⟩
        refine hK.out _ _ ⟨(Y2 BK101.out 0).trans rfl, (Y2 BK101.out 1).trans rfl, (Y2 BK101.out 2).trans rfl, (Y2 BK101.out 3).trans rfl⟩ (fun hHeld => ?_)
        clear hK K
        refine Y1H (a' := ?_) ?_ ?_
        rotate_left
        ·show Act.put _ (some 34) _ = _
         simp only [Act.put, List.setIfInBounds_toArray, List.set_cons_zero, List.set_cons_succ, Y16, Y17]
         rfl
        refine pY 9 35 Y2I ?_
        refine pY 10 36 Y2J ?_
        refine pY 11 37 Y2K ?_
        refine pY 12 38 Y2e ?_
        refine pY 13 39 Y2f ?_
        refine pY 14 40 Y2g ?_
        refine pY 15 41 Y2h ?_
        refine pY 16 42 Y1X ?_
        refine pY 17 43 Y1Y ?_
        refine pY 18 44 Y1Z ?_
        refine pY 19 45 Y20 ?_
        refine pY 20 46 Y1J ?_
        refine pT 21 47 Y1K ?_
        refine pY 22 48 Y1L ?_
        refine pY 23 49 Y1M ?_
        refine pY 24 50 Y1A ?_
        refine pY 25 51 Y1B ?_
        refine pY 26 52 Y1C ?_
        refine pT 27 53 Y1D ?_
        refine pY 28 54 Y1v ?_
        refine pY 29 55 Y1w ?_
        refine pY 30 56 Y1x ?_
        refine pT 31 57 Y1y ?_
        refine Y2T (i := 32) (N := some 58) Y1n rfl rfl (Y1j HT_.out Z6) (by decide) (fun K hK => ?_)
        refine Y21 Tryd.func99 Z6 rfl #[.string a0_1] (by rfl) rfl rfl Z0 ?_
        with_reducible refine (Y1k.calls a0_1 true _ ?side1 A40.out).mono ?_
        (case side1 => exact Z3)
        rintro e w45 ⟨rfl, hb⟩
        refine ⟨_, rfl, ?_⟩
        have n_ := Y2F (Yu (g := gb101) (o := .cells #[.int .i64 a0_0, .string a0_1, .slice A0_2 l0_2.length c0_2, .slice A0_3 l0_3.length c0_3] 37 (0, 0)) QQ hb) (Yb QB hb)
        clear BK101
        clear HB
        obtain ⟨BK101, HB⟩ := n_
        (try clear hb)
        (try clear hb2)
        (try clear hk)
        (try clear hi)
        refine hK.out _ _ ⟨(Y2 BK101.out 0).trans rfl, (Y2 BK101.out 1).trans rfl, (Y2 BK101.out 2).trans rfl, (Y2 BK101.out 3).trans rfl⟩ (fun hHeld => ?_)
        clear hK K
        refine Y1H (a' := ?_) ?_ ?_
        rotate_left
        ·show Act.put _ (some 58) _ = _
         simp only [Act.put, List.setIfInBounds_toArray, List.set_cons_zero, List.set_cons_succ, Y16, Y17]
         rfl
        refine pY 33 59 Y1o ?_
        refine pY 34 60 Y1p ?_
        refine pY 35 61 Y1q ?_
        refine pU 36 62 Y1f ?_
        refine pU 37 63 Y1g ?_
        refine pU 38 64 Y1h ?_
        refine pY 39 65 Y1i ?_
        refine Y1Q (Y1a HT_.out Z6) ?_
        try go_wp2
        go_ret
        exact Z2d
       ·replace c41 := Bool.eq_false_iff.mpr c41
        subst c41
        have H1 : ((Yy.f k l0_2).bind fun t108 => (if t108 = true then (some (-1)) else (Yx.l0 k a1 1 l0_3 (l0_3.length : Int) 0))) = some r := by rw [if_neg (show ¬ (false = true) by decide)] at H; exact H
        clear H
        have H := H1
        clear H1
        replace H := Option.bind_eq_some_iff.mp H
        obtain ⟨t108, A460, H⟩ := H
        replace H : (if t108 = true then (some (-1)) else (Yx.l0 k a1 1 l0_3 (l0_3.length : Int) 0)) = some r := H
        have A46 := Y0.mk A460
        clear A460
        by_cases c47 : t108 = true
        ·subst c47
         have H1 : (some (-1)) = some r := by rw [if_pos rfl] at H; exact H
         clear H
         have H := H1
         clear H1
         obtain rfl := Option.some.inj H
         go_enter Tryd.func62, Tryd.ntmps62
         try go_wp2_with (first | ((with_reducible refine YF (N := 2) rfl ?_); (try (refine YX (by rfl) ?_; dsimp only)); refine YE ?hg (N := 2) ?hd (cs := #[.int .i64 a0_0, .string a0_1, .slice A0_2 l0_2.length c0_2, .slice A0_3 l0_3.length c0_3]) (t := 37) ?hr ?_; (case hd => rfl); (case hg => rfl); (case hr => exact Za); intro gb101 hg w48 hbox hb; have n_ := Y31 (Yb QB hb) (hbox) ((by rw [hg]; exact (Ym QB) : w.heap.size ≤ gb101)) ((by rw [hg]; exact (Ym QB) : w.heap.size ≤ gb101)); clear HB; obtain ⟨HB, BK101, GW101, GE101⟩ := n_; clear hb hbox hg; obtain ⟨hcz49_0, hcz49_1, hcz49_2, hcz49_3, hfz49_0, hfz49_1, hfz49_2, hfz49_3⟩ := YA BK101.out))
         have n_ := Y2F (Ya BK101.out) (YP HB.out)
         clear BK101
         clear HB
         obtain ⟨BK101, HB⟩ := n_
         refine Y1l (n := 40) (S := fun w' => w'.cell? ⟨gb101, 0, none⟩ = some (.int .i64 a0_0) ∧ w'.cell? ⟨gb101, 1, none⟩ = some (.string a0_1) ∧ w'.cell? ⟨gb101, 2, none⟩ = some (.slice A0_2 l0_2.length c0_2) ∧ w'.cell? ⟨gb101, 3, none⟩ = some (.slice A0_3 l0_3.length c0_3)) (ds := []) Y3H Z6 rfl rfl ⟨(Y2 BK101.out 0).trans rfl, (Y2 BK101.out 1).trans rfl, (Y2 BK101.out 2).trans rfl, (Y2 BK101.out 3).trans rfl⟩ (fun hHeld => ?_); refine YW Yx.tab3 Yx.bits3 (fun HT_ HW_ => ?_)
         generalize w48.drew = w50 at BK101 HB hHeld ⊢
         refine pY 0 26 Y3I ?_
         refine pY 1 27 Y3J ?_
         refine pY 2 28 Y3K ?_
         refine pY 3 29 Y3L ?_
         refine pY 6 32 Y3l ?_
         refine pT 4 30 Y3m ?_
         refine pY 5 31 Y34 ?_
         refine pT 7 33 Y35 ?_
         refine Y2T (i := 8) (N := some 34) Y2H rfl rfl (Y1j HT_.out Z6) (by decide) (fun K hK => ?_)
         refine Y21 Tryd.func98 Z6 rfl #[.int .i64 a0_0] (by rfl) rfl rfl Z0 ?_
         with_reducible refine (YI.calls k a0_0 t102 _ A7.out).mono ?_
         rintro e w' ⟨rfl, ⟨nd, rfl⟩⟩
         refine ⟨_, rfl, ?_⟩
         refine hK.out _ _ ⟨(Y2 BK101.out 0).trans rfl, (Y2 BK101.out 1).trans rfl, (Y2 BK101.out 2).trans rfl, (Y2 BK101.out 3).trans rfl⟩ (fun hHeld => ?_)
         clear hK K
         refine Y1H (a' := ?_) ?_ ?_
         rotate_left
         ·show Act.put _ (some 34) _ = _
          simp only [Act.put, List.setIfInBounds_toArray, List.set_cons_zero, List.set_cons_succ, Y16, Y17]
          rfl
         refine pY 9 35 Y2I ?_
         refine pY 10 36 Y2J ?_
         refine pY 11 37 Y2K ?_
         refine pY 12 38 Y2e ?_
         refine pY 13 39 Y2f ?_
         refine pY 14 40 Y2g ?_
         refine pY 15 41 Y2h ?_
         refine pY 16 42 Y1X ?_
         refine pY 17 43 Y1Y ?_
         refine pY 18 44 Y1Z ?_
         refine pY 19 45 Y20 ?_
         refine pY 20 46 Y1J ?_
         refine pT 21 47 Y1K ?_
         refine pY 22 48 Y1L ?_
         refine pY 23 49 Y1M ?_
         refine pY 24 50 Y1A ?_
         refine pY 25 51 Y1B ?_
         refine pY 26 52 Y1C ?_
         refine pT 27 53 Y1D ?_
         refine pY 28 54 Y1v ?_
         refine pY 29 55 Y1w ?_
         refine pY 30 56 Y1x ?_
         refine pT 31 57 Y1y ?_
         refine Y2T (i := 32) (N := some 58) Y1n rfl rfl (Y1j HT_.out Z6) (by decide) (fun K hK => ?_)
         refine Y21 Tryd.func99 Z6 rfl #[.string a0_1] (by rfl) rfl rfl Z0 ?_
         with_reducible refine (Y1k.calls a0_1 false _ ?side1 A40.out).mono ?_
         (case side1 => exact Z3)
         rintro e w51 ⟨rfl, hb⟩
         refine ⟨_, rfl, ?_⟩
         have n_ := Y2F (Yu (g := gb101) (o := .cells #[.int .i64 a0_0, .string a0_1, .slice A0_2 l0_2.length c0_2, .slice A0_3 l0_3.length c0_3] 37 (0, 0)) QQ hb) (Yb QB hb)
         clear BK101
         clear HB
         obtain ⟨BK101, HB⟩ := n_
         (try clear hb)
         (try clear hb2)
         (try clear hk)
         (try clear hi)
         refine hK.out _ _ ⟨(Y2 BK101.out 0).trans rfl, (Y2 BK101.out 1).trans rfl, (Y2 BK101.out 2).trans rfl, (Y2 BK101.out 3).trans rfl⟩ (fun hHeld => ?_)
         clear hK K
         refine Y1H (a' := ?_) ?_ ?_
         rotate_left
         ·show Act.put _ (some 58) _ = _
          simp only [Act.put, List.setIfInBounds_toArray, List.set_cons_zero, List.set_cons_succ, Y16, Y17]
          rfl
         refine pY 33 59 Y1o ?_
         refine pY 34 60 Y1p ?_
         refine pY 35 61 Y1q ?_
         refine pY 36 62 Y1f ?_
         refine pT 37 63 Y1g ?_
         refine Y2T (i := 38) (N := some 64) Y1h rfl rfl (Y1j HT_.out Z6) (by decide) (fun K hK => ?_)
         refine Y21 Tryd.func100 Z6 rfl #[.slice A0_2 l0_2.length c0_2, .func (.func 99) #[] #[]] (by rfl) rfl rfl Z0 ?_
         with_reducible refine (Yy.calls k _ _ l0_2  true _ ?side1 ?side2 ?side3 A46.out).mono ?_
         (case side1 => exact Z3)
         (case side2 => exact Zd)
         (case side3 => exact Z1N)
         rintro e w52 ⟨rfl, hb⟩
         refine ⟨_, rfl, ?_⟩
         have n_ := Y2F (Yu (g := gb101) (o := .cells #[.int .i64 a0_0, .string a0_1, .slice A0_2 l0_2.length c0_2, .slice A0_3 l0_3.length c0_3] 37 (0, 0)) QQ hb) (Yb QB hb)
         clear BK101
         clear HB
         obtain ⟨BK101, HB⟩ := n_
         (try clear hb)
         (try clear hb2)
         (try clear hk)
         (try clear hi)
         refine hK.out _ _ ⟨(Y2 BK101.out 0).trans rfl, (Y2 BK101.out 1).trans rfl, (Y2 BK101.out 2).trans rfl, (Y2 BK101.out 3).trans rfl⟩ (fun hHeld => ?_)
         clear hK K
         refine Y1H (a' := ?_) ?_ ?_
         rotate_left
         ·show Act.put _ (some 64) _ = _
          simp only [Act.put, List.setIfInBounds_toArray, List.set_cons_zero, List.set_cons_succ, Y16, Y17]
          rfl
         refine pY 39 65 Y1i ?_
         refine Y1Q (Y1a HT_.out Z6) ?_
         try go_wp2
         go_ret
         exact Z2d
        ·replace c47 := Bool.eq_false_iff.mpr c47
         subst c47
         have H1 : (Yx.l0 k a1 1 l0_3 (l0_3.length : Int) 0) = some r := by rw [if_neg (show ¬ (false = true) by decide)] at H; exact H
         clear H
         have H := H1
         clear H1
         have H' := Y0.mk H
         clear H
         go_enter Tryd.func62, Tryd.ntmps62
         try go_wp2_with (first | ((with_reducible refine YF (N := 2) rfl ?_); (try (refine YX (by rfl) ?_; dsimp only)); refine YE ?hg (N := 2) ?hd (cs := #[.int .i64 a0_0, .string a0_1, .slice A0_2 l0_2.length c0_2, .slice A0_3 l0_3.length c0_3]) (t := 37) ?hr ?_; (case hd => rfl); (case hg => rfl); (case hr => exact Za); intro gb101 hg w53 hbox hb; have n_ := Y31 (Yb QB hb) (hbox) ((by rw [hg]; exact (Ym QB) : w.heap.size ≤ gb101)) ((by rw [hg]; exact (Ym QB) : w.heap.size ≤ gb101)); clear HB; obtain ⟨HB, BK101, GW101, GE101⟩ := n_; clear hb hbox hg; obtain ⟨hcz54_0, hcz54_1, hcz54_2, hcz54_3, hfz54_0, hfz54_1, hfz54_2, hfz54_3⟩ := YA BK101.out))
         have n_ := Y2F (Ya BK101.out) (YP HB.out)
         clear BK101
         clear HB
         obtain ⟨BK101, HB⟩ := n_
         refine Y1l (n := 40) (S := fun w' => w'.cell? ⟨gb101, 0, none⟩ = some (.int .i64 a0_0) ∧ w'.cell? ⟨gb101, 1, none⟩ = some (.string a0_1) ∧ w'.cell? ⟨gb101, 2, none⟩ = some (.slice A0_2 l0_2.length c0_2) ∧ w'.cell? ⟨gb101, 3, none⟩ = some (.slice A0_3 l0_3.length c0_3)) (ds := []) Y3H Z6 rfl rfl ⟨(Y2 BK101.out 0).trans rfl, (Y2 BK101.out 1).trans rfl, (Y2 BK101.out 2).trans rfl, (Y2 BK101.out 3).trans rfl⟩ (fun hHeld => ?_); refine YW Yx.tab3 Yx.bits3 (fun HT_ HW_ => ?_)
         generalize w53.drew = w55 at BK101 HB hHeld ⊢
         refine pY 0 26 Y3I ?_
         refine pY 1 27 Y3J ?_
         refine pY 2 28 Y3K ?_
         refine pY 3 29 Y3L ?_
         refine pY 6 32 Y3l ?_
         refine pT 4 30 Y3m ?_
         refine pY 5 31 Y34 ?_
         refine pT 7 33 Y35 ?_
         refine Y2T (i := 8) (N := some 34) Y2H rfl rfl (Y1j HT_.out Z6) (by decide) (fun K hK => ?_)
         refine Y21 Tryd.func98 Z6 rfl #[.int .i64 a0_0] (by rfl) rfl rfl Z0 ?_
         with_reducible refine (YI.calls k a0_0 t102 _ A7.out).mono ?_
         rintro e w' ⟨rfl, ⟨nd, rfl⟩⟩
         refine ⟨_, rfl, ?_⟩
         refine hK.out _ _ ⟨(Y2 BK101.out 0).trans rfl, (Y2 BK101.out 1).trans rfl, (Y2 BK101.out 2).trans rfl, (Y2 BK101.out 3).trans rfl⟩ (fun hHeld => ?_)
         clear hK K
         refine Y1H (a' := ?_) ?_ ?_
         rotate_left
         ·show Act.put _ (some 34) _ = _
          simp only [Act.put, List.setIfInBounds_toArray, List.set_cons_zero, List.set_cons_succ, Y16, Y17]
          rfl
         refine pY 9 35 Y2I ?_
         refine pY 10 36 Y2J ?_
         refine pY 11 37 Y2K ?_
         refine pY 12 38 Y2e ?_
         refine pY 13 39 Y2f ?_
         refine pY 14 40 Y2g ?_
         refine pY 15 41 Y2h ?_
         refine pY 16 42 Y1X ?_
         refine pY 17 43 Y1Y ?_
         refine pY 18 44 Y1Z ?_
         refine pY 19 45 Y20 ?_
         refine pY 20 46 Y1J ?_
         refine pT 21 47 Y1K ?_
         refine pY 22 48 Y1L ?_
         refine pY 23 49 Y1M ?_
         refine pY 24 50 Y1A ?_
         refine pY 25 51 Y1B ?_
         refine pY 26 52 Y1C ?_
         refine pT 27 53 Y1D ?_
         refine pY 28 54 Y1v ?_
         refine pY 29 55 Y1w ?_
         refine pY 30 56 Y1x ?_
         refine pT 31 57 Y1y ?_
         refine Y2T (i := 32) (N := some 58) Y1n rfl rfl (Y1j HT_.out Z6) (by decide) (fun K hK => ?_)
         refine Y21 Tryd.func99 Z6 rfl #[.string a0_1] (by rfl) rfl rfl Z0 ?_
         with_reducible refine (Y1k.calls a0_1 false _ ?side1 A40.out).mono ?_
         (case side1 => exact Z3)
         rintro e w56 ⟨rfl, hb⟩
         refine ⟨_, rfl, ?_⟩
         have n_ := Y2F (Yu (g := gb101) (o := .cells #[.int .i64 a0_0, .string a0_1, .slice A0_2 l0_2.length c0_2, .slice A0_3 l0_3.length c0_3] 37 (0, 0)) QQ hb) (Yb QB hb)
         clear BK101
         clear HB
         obtain ⟨BK101, HB⟩ := n_
         (try clear hb)
         (try clear hb2)
         (try clear hk)
         (try clear hi)
         refine hK.out _ _ ⟨(Y2 BK101.out 0).trans rfl, (Y2 BK101.out 1).trans rfl, (Y2 BK101.out 2).trans rfl, (Y2 BK101.out 3).trans rfl⟩ (fun hHeld => ?_)
         clear hK K
         refine Y1H (a' := ?_) ?_ ?_
         rotate_left
         ·show Act.put _ (some 58) _ = _
          simp only [Act.put, List.setIfInBounds_toArray, List.set_cons_zero, List.set_cons_succ, Y16, Y17]
          rfl
         refine pY 33 59 Y1o ?_
         refine pY 34 60 Y1p ?_
         refine pY 35 61 Y1q ?_
         refine pY 36 62 Y1f ?_
         refine pT 37 63 Y1g ?_
         refine Y2T (i := 38) (N := some 64) Y1h rfl rfl (Y1j HT_.out Z6) (by decide) (fun K hK => ?_)
         refine Y21 Tryd.func100 Z6 rfl #[.slice A0_2 l0_2.length c0_2, .func (.func 99) #[] #[]] (by rfl) rfl rfl Z0 ?_
         with_reducible refine (Yy.calls k _ _ l0_2  false _ ?side1 ?side2 ?side3 A46.out).mono ?_
         (case side1 => exact Z3)
         (case side2 => exact Zd)
         (case side3 => exact Z1N)
         rintro e w57 ⟨rfl, hb⟩
         refine ⟨_, rfl, ?_⟩
         have n_ := Y2F (Yu (g := gb101) (o := .cells #[.int .i64 a0_0, .string a0_1, .slice A0_2 l0_2.length c0_2, .slice A0_3 l0_3.length c0_3] 37 (0, 0)) QQ hb) (Yb QB hb)
         clear BK101
         clear HB
         obtain ⟨BK101, HB⟩ := n_
         (try clear hb)
         (try clear hb2)
         (try clear hk)
         (try clear hi)
         refine hK.out _ _ ⟨(Y2 BK101.out 0).trans rfl, (Y2 BK101.out 1).trans rfl, (Y2 BK101.out 2).trans rfl, (Y2 BK101.out 3).trans rfl⟩ (fun hHeld => ?_)
         clear hK K
         refine Y1H (a' := ?_) ?_ ?_
         rotate_left
         ·show Act.put _ (some 64) _ = _
          simp only [Act.put, List.setIfInBounds_toArray, List.set_cons_zero, List.set_cons_succ, Y16, Y17]
          rfl
         refine pY 39 65 Y1i ?_
         refine Y1Q (Y1a HT_.out Z6) ?_
         obtain ⟨hcz58_0, hcz58_1, hcz58_2, hcz58_3, hfz58_0, hfz58_1, hfz58_2, hfz58_3⟩ := YA BK101.out
         try go_wp2
         go_loopg [7, 69] k (fun kq v7 v69 w' => ∃ (x7_1 : Int) (x69_1 : Int), v7 = .int .i64 x7_1 ∧ v69 = .int .i64 x69_1 ∧ Y0 (Yx.l0 kq a1 x7_1 l0_3 (l0_3.length : Int) x69_1 = some r) ∧ Y0 (kq ≤ k) ∧ Y0 (w'.heap[gb101]? = some (.cells #[.int .i64 a0_0, .string a0_1, (.slice A0_2 l0_2.length c0_2), (.slice A0_3 l0_3.length c0_3)] 37 (0, 0))) ∧ Y0 (Below w.heap.size w w'))
         case atStart => exact Z2j
         case round =>
          clear H'
          try clear c1
          try clear p2
          try clear c4
          try clear c6
          try clear c9
          try clear c10
          try clear c47
          try clear hcz54_0 hcz54_1 hcz54_2 hcz54_3
          try clear hcz58_0 hcz58_1 hcz58_2 hcz58_3
          try clear hfz54_0
          try clear hfz54_1
          try clear hfz54_2
          try clear hfz54_3
          try clear hfz58_0
          try clear hfz58_1
          try clear hfz58_2
          try clear hfz58_3
          obtain ⟨x7_1, x69_1, rfl, rfl, HA, HK1, BK101, HB⟩ := hrel
          cases gk with
          | zero => exact absurd HA.out (by simp [Yx.l0])
          | succ k1 =>
           have H := HA.out
           clear HA
           simp only [Yx.l0] at H
           by_cases c59 : x69_1 < (l0_3.length : Int)
           ·rw [if_pos c59] at H
            have c59b0 : decide (x69_1 < (l0_3.length : Int)) = true := decide_eq_true c59
            clear c59
            by_cases c60 : 0 ≤ x69_1
            ·rw [if_pos c60] at H
             have c60b0 : decide (0 ≤ x69_1) = true := decide_eq_true c60
             clear c60
             by_cases c61 : x69_1 < (l0_3.length : Int)
             ·rw [if_pos c61] at H
              have c61b0 : decide (x69_1 < (l0_3.length : Int)) = true := decide_eq_true c61
              clear c61
              replace H := Option.bind_eq_some_iff.mp H
              obtain ⟨t106, A620, H⟩ := H
              replace H : (if t106 < 0 then (some (-1)) else (Yx.l0 k1 a1 (wrap64 (x7_1 + t106)) l0_3 (l0_3.length : Int) (wrap64 (x69_1 + 1)))) = some r := H
              have A62 := Y0.mk A620
              clear A620
              by_cases c63 : t106 < 0
              ·rw [if_pos c63] at H
               have c63b0 : decide (t106 < 0) = true := decide_eq_true c63
               clear c63
               obtain rfl := Option.some.inj H
               have p104 : 0 ≤ (x69_1 : Int) := of_decide_eq_true Z8
               have q104 : x69_1 < (l0_3.length : Int) := of_decide_eq_true Z8
               obtain ⟨ad104, A104_2, c104_2, A104_3, c104_3, e104, hx104_0, hx104_1, hx104_2, hx104_3, hl104_2, hi104_2, hl104_3, hi104_3⟩ := Y2r HR0_3.out x69_1 p104 q104
               cases e104
               replace hx104_0 := Y18 HB.out hx104_0
               replace hx104_1 := Y18 HB.out hx104_1
               replace hx104_2 := Y18 HB.out hx104_2
               replace hx104_3 := Y18 HB.out hx104_3
               have HR104_2 := Y0.mk hi104_2
               have HC104_2 := Y0.mk hl104_2
               clear hi104_2 hl104_2
               have HR104_3 := Y0.mk hi104_3
               have HC104_3 := Y0.mk hl104_3
               clear hi104_3 hl104_3
               replace p104 := eq_true p104
               replace q104 := eq_true q104
               go_wp2_with (first | ((with_reducible refine YF (N := 9) rfl ?_); (try (refine YX (by rfl) ?_; dsimp only)); refine YE ?hg (N := 9) ?hd (cs := #[.int .i64 0, .string (⟨#[]⟩ : ByteArray), .slice none 0 0, .slice none 0 0]) (t := 37) ?hr ?_; (case hd => rfl); (case hg => rfl); (case hr => exact Za); intro gb105 hg w64 hbox hb; have n_ := put7 (Yu (g := gb101) (o := .cells #[.int .i64 a0_0, .string a0_1, .slice A0_2 l0_2.length c0_2, .slice (some ad104) l0_3.length c0_3] 37 (0, 0)) QQ hb) (Yb QB hb) (hbox) ((by rw [hg]; exact (Ym QB) : w.heap.size ≤ gb105)) ((by rw [hg]; exact (Ym QB) : w.heap.size ≤ gb105)) ((by rw [hg]; exact Nat.ne_of_lt (Y15 (g := gb101) (o := .cells #[.int .i64 a0_0, .string a0_1, .slice A0_2 l0_2.length c0_2, .slice (some ad104) l0_3.length c0_3] 37 (0, 0)) QQ) : gb101 ≠ gb105)) ((by rw [hg]; exact Nat.ne_of_gt (Y15 (g := gb101) (o := .cells #[.int .i64 a0_0, .string a0_1, .slice A0_2 l0_2.length c0_2, .slice (some ad104) l0_3.length c0_3] 37 (0, 0)) QQ) : gb105 ≠ gb101)); clear BK101 HB; obtain ⟨BK101, HB, BK105, GW105, GE105, NB101_105, NB105_101⟩ := n_; clear hb hbox hg; have hnb65 := NB105_101.out; have hnc65 := NB101_105.out; obtain ⟨hcz66_0, hcz66_1, hcz66_2, hcz66_3, hfz66_0, hfz66_1, hfz66_2, hfz66_3⟩ := YA BK105.out) | ((with_reducible refine Yn (f := 62) rfl ?_); refine YO (some 76) rfl rfl Tryd.func62 Z6 rfl #[.agg #[.int .i64 ((Yk l0_3 x69_1).f0), .string ((Yk l0_3 x69_1).f1), .slice A104_2 ((Yk l0_3 x69_1).f2).length c104_2, .slice A104_3 ((Yk l0_3 x69_1).f3).length c104_3], .int .i64 (wrap64 (a1 + 1))] rfl Z0 ?_; (with_reducible refine (ih k1 Z13 ((Yk l0_3 x69_1).f0) ((Yk l0_3 x69_1).f1) _ _ ((Yk l0_3 x69_1).f2) _ _ ((Yk l0_3 x69_1).f3) (wrap64 (a1 + 1)) t106 _ ?side1 ?side2 ?side3 ?side4 ?side5 A62.out).mono ?_); (case side1 => exact Z3); (case side2 => exact Kd.C_below HR104_2.out QB); (case side3 => exact HC104_2.out); (case side4 => exact Kd.C_below HR104_3.out QB); (case side5 => exact HC104_3.out); rintro e w67 ⟨rfl, hb⟩; refine ⟨_, rfl, ?_⟩; have n_ := Y2Z (Yu (g := gb101) (o := .cells #[.int .i64 a0_0, .string a0_1, .slice A0_2 l0_2.length c0_2, .slice (some ad104) l0_3.length c0_3] 37 (0, 0)) Zh hb) (Yu (g := gb105) (o := .cells #[.int .i64 ((Yk l0_3 x69_1).f0), .string ((Yk l0_3 x69_1).f1), .slice A104_2 ((Yk l0_3 x69_1).f2).length c104_2, .slice A104_3 ((Yk l0_3 x69_1).f3).length c104_3] 37 (0, 0)) Z1Y hb) (Yb QB hb); clear BK101 BK105 HB; obtain ⟨BK101, BK105, HB⟩ := n_; (try clear hb); (try clear hb2); (try clear hk); (try clear hi)))
               go_ret
               exact Z2d
              ·rw [if_neg c63] at H
               have c63b0 : decide (t106 < 0) = false := decide_eq_false c63
               clear c63
               have H' := Y0.mk H
               clear H
               have p104 : 0 ≤ (x69_1 : Int) := of_decide_eq_true Z8
               have q104 : x69_1 < (l0_3.length : Int) := of_decide_eq_true Z8
               obtain ⟨ad104, A104_2, c104_2, A104_3, c104_3, e104, hx104_0, hx104_1, hx104_2, hx104_3, hl104_2, hi104_2, hl104_3, hi104_3⟩ := Y2r HR0_3.out x69_1 p104 q104
               cases e104
               replace hx104_0 := Y18 HB.out hx104_0
               replace hx104_1 := Y18 HB.out hx104_1
               replace hx104_2 := Y18 HB.out hx104_2
               replace hx104_3 := Y18 HB.out hx104_3
               have HR104_2 := Y0.mk hi104_2
               have HC104_2 := Y0.mk hl104_2
               clear hi104_2 hl104_2
               have HR104_3 := Y0.mk hi104_3
               have HC104_3 := Y0.mk hl104_3
               clear hi104_3 hl104_3
               replace p104 := eq_true p104
               replace q104 := eq_true q104
               go_wp2_with (first | ((with_reducible refine YF (N := 9) rfl ?_); (try (refine YX (by rfl) ?_; dsimp only)); refine YE ?hg (N := 9) ?hd (cs := #[.int .i64 0, .string (⟨#[]⟩ : ByteArray), .slice none 0 0, .slice none 0 0]) (t := 37) ?hr ?_; (case hd => rfl); (case hg => rfl); (case hr => exact Za); intro gb105 hg w68 hbox hb; have n_ := put7 (Yu (g := gb101) (o := .cells #[.int .i64 a0_0, .string a0_1, .slice A0_2 l0_2.length c0_2, .slice (some ad104) l0_3.length c0_3] 37 (0, 0)) QQ hb) (Yb QB hb) (hbox) ((by rw [hg]; exact (Ym QB) : w.heap.size ≤ gb105)) ((by rw [hg]; exact (Ym QB) : w.heap.size ≤ gb105)) ((by rw [hg]; exact Nat.ne_of_lt (Y15 (g := gb101) (o := .cells #[.int .i64 a0_0, .string a0_1, .slice A0_2 l0_2.length c0_2, .slice (some ad104) l0_3.length c0_3] 37 (0, 0)) QQ) : gb101 ≠ gb105)) ((by rw [hg]; exact Nat.ne_of_gt (Y15 (g := gb101) (o := .cells #[.int .i64 a0_0, .string a0_1, .slice A0_2 l0_2.length c0_2, .slice (some ad104) l0_3.length c0_3] 37 (0, 0)) QQ) : gb105 ≠ gb101)); clear BK101 HB; obtain ⟨BK101, HB, BK105, GW105, GE105, NB101_105, NB105_101⟩ := n_; clear hb hbox hg; have hnb69 := NB105_101.out; have hnc69 := NB101_105.out; obtain ⟨hcz70_0, hcz70_1, hcz70_2, hcz70_3, hfz70_0, hfz70_1, hfz70_2, hfz70_3⟩ := YA BK105.out) | ((with_reducible refine Yn (f := 62) rfl ?_); refine YO (some 76) rfl rfl Tryd.func62 Z6 rfl #[.agg #[.int .i64 ((Yk l0_3 x69_1).f0), .string ((Yk l0_3 x69_1).f1), .slice A104_2 ((Yk l0_3 x69_1).f2).length c104_2, .slice A104_3 ((Yk l0_3 x69_1).f3).length c104_3], .int .i64 (wrap64 (a1 + 1))] rfl Z0 ?_; (with_reducible refine (ih k1 Z13 ((Yk l0_3 x69_1).f0) ((Yk l0_3 x69_1).f1) _ _ ((Yk l0_3 x69_1).f2) _ _ ((Yk l0_3 x69_1).f3) (wrap64 (a1 + 1)) t106 _ ?side1 ?side2 ?side3 ?side4 ?side5 A62.out).mono ?_); (case side1 => exact Z3); (case side2 => exact Kd.C_below HR104_2.out QB); (case side3 => exact HC104_2.out); (case side4 => exact Kd.C_below HR104_3.out QB); (case side5 => exact HC104_3.out); rintro e w71 ⟨rfl, hb⟩; refine ⟨_, rfl, ?_⟩; have n_ := Y2Z (Yu (g := gb101) (o := .cells #[.int .i64 a0_0, .string a0_1, .slice A0_2 l0_2.length c0_2, .slice (some ad104) l0_3.length c0_3] 37 (0, 0)) Zh hb) (Yu (g := gb105) (o := .cells #[.int .i64 ((Yk l0_3 x69_1).f0), .string ((Yk l0_3 x69_1).f1), .slice A104_2 ((Yk l0_3 x69_1).f2).length c104_2, .slice A104_3 ((Yk l0_3 x69_1).f3).length c104_3] 37 (0, 0)) Z1Y hb) (Yb QB hb); clear BK101 BK105 HB; obtain ⟨BK101, BK105, HB⟩ := n_; (try clear hb); (try clear hb2); (try clear hk); (try clear hi)))
               go_roundg k1
               case measure => have := HK1.out; omega
               case rel => exact ⟨(wrap64 (x7_1 + t106)), (wrap64 (x69_1 + 1)), Z7, Z7, H', ⟨Z13⟩, ⟨Z4⟩, ⟨QB⟩⟩
             ·rw [if_neg c61] at H
              exact ZA
            ·rw [if_neg c60] at H
             exact ZA
           ·rw [if_neg c59] at H
            have c59b0 : decide (x69_1 < (l0_3.length : Int)) = false := decide_eq_false c59
            clear c59
            obtain rfl := Option.some.inj H
            go_wp2
            go_ret
            exact Z2d
    ·rw [if_neg c10] at H
     have c10b0 : ((a0_0 == 8) == (decide ((l0_2.length : Int) > 0))) = false := by simpa using c10
     (try (have c10b1 : ((a0_0 == 8) == decide (0 < l0_2.length)) = false := by first | simpa using c10 | simpa [show ∀ l_ : List UInt8, (l_ != ([] : List UInt8)) = !l_.isEmpty from fun l_ => by cases l_ <;> rfl, show ∀ l_ : List UInt8, (l_ == ([] : List UInt8)) = l_.isEmpty from fun l_ => by cases l_ <;> rfl] using c10))
     (try (have c10b2 : (((a0_0 = 8) = (decide ((l0_2.length : Int) > 0)))) = False := eq_false (by simpa using c10)))
     (try (have c10b3 : decide ((a0_0 == 8) = (decide ((l0_2.length : Int) > 0))) = false := by simpa using c10))
     (try (have c10b4 : ((a0_0 == 8) == (decide ((l0_2.length : Int) > 0))) = false := by simpa using c10))
     (try (have c10b5 : ¬ ((a0_0 == 8) = (decide ((l0_2.length : Int) > 0))) := by simpa using c10))
     clear c10
     obtain rfl := Option.some.inj H
     go_enter Tryd.func62, Tryd.ntmps62
     try go_wp2_with (first | ((with_reducible refine YF (N := 2) rfl ?_); (try (refine YX (by rfl) ?_; dsimp only)); refine YE ?hg (N := 2) ?hd (cs := #[.int .i64 a0_0, .string a0_1, .slice A0_2 l0_2.length c0_2, .slice A0_3 l0_3.length c0_3]) (t := 37) ?hr ?_; (case hd => rfl); (case hg => rfl); (case hr => exact Za); intro gb101 hg w72 hbox hb; have n_ := Y31 (Yb QB hb) (hbox) ((by rw [hg]; exact (Ym QB) : w.heap.size ≤ gb101)) ((by rw [hg]; exact (Ym QB) : w.heap.size ≤ gb101)); clear HB; obtain ⟨HB, BK101, GW101, GE101⟩ := n_; clear hb hbox hg; obtain ⟨hcz73_0, hcz73_1, hcz73_2, hcz73_3, hfz73_0, hfz73_1, hfz73_2, hfz73_3⟩ := YA BK101.out))
     have n_ := Y2F (Ya BK101.out) (YP HB.out)
     clear BK101
     clear HB
     obtain ⟨BK101, HB⟩ := n_
     refine Y1l (n := 40) (S := fun w' => w'.cell? ⟨gb101, 0, none⟩ = some (.int .i64 a0_0) ∧ w'.cell? ⟨gb101, 1, none⟩ = some (.string a0_1) ∧ w'.cell? ⟨gb101, 2, none⟩ = some (.slice A0_2 l0_2.length c0_2) ∧ w'.cell? ⟨gb101, 3, none⟩ = some (.slice A0_3 l0_3.length c0_3)) (ds := []) Y3H Z6 rfl rfl ⟨(Y2 BK101.out 0).trans rfl, (Y2 BK101.out 1).trans rfl, (Y2 BK101.out 2).trans rfl, (Y2 BK101.out 3).trans rfl⟩ (fun hHeld => ?_); refine YW Yx.tab3 Yx.bits3 (fun HT_ HW_ => ?_)
     generalize w72.drew = w74 at BK101 HB hHeld ⊢
     refine pY 0 26 Y3I ?_
     refine pY 1 27 Y3J ?_
     refine pY 2 28 Y3K ?_
     refine pY 3 29 Y3L ?_
     refine pY 6 32 Y3l ?_
     refine pT 4 30 Y3m ?_
     refine pY 5 31 Y34 ?_
     refine pT 7 33 Y35 ?_
     refine Y2T (i := 8) (N := some 34) Y2H rfl rfl (Y1j HT_.out Z6) (by decide) (fun K hK => ?_)
     refine Y21 Tryd.func98 Z6 rfl #[.int .i64 a0_0] (by rfl) rfl rfl Z0 ?_
     with_reducible refine (YI.calls k a0_0 t102 _ A7.out).mono ?_
     rintro e w' ⟨rfl, ⟨nd, rfl⟩⟩
     refine ⟨_, rfl, ?_⟩
     refine hK.out _ _ ⟨(Y2 BK101.out 0).trans rfl, (Y2 BK101.out 1).trans rfl, (Y2 BK101.out 2).trans rfl, (Y2 BK101.out 3).trans rfl⟩ (fun hHeld => ?_)
     clear hK K
     refine Y1H (a' := ?_) ?_ ?_
     rotate_left
     ·show Act.put _ (some 34) _ = _
      simp only [Act.put, List.setIfInBounds_toArray, List.set_cons_zero, List.set_cons_succ, Y16, Y17]
      rfl
     refine pY 9 35 Y2I ?_
     refine pY 10 36 Y2J ?_
     refine pY 11 37 Y2K ?_
     refine pY 12 38 Y2e ?_
     refine pY 13 39 Y2f ?_
     refine pY 14 40 Y2g ?_
     refine pY 15 41 Y2h ?_
     refine pY 16 42 Y1X ?_
     refine pY 17 43 Y1Y ?_
     refine pY 18 44 Y1Z ?_
     refine pY 19 45 Y20 ?_
     refine pU 20 46 Y1J ?_
     refine pU 21 47 Y1K ?_
     refine pU 22 48 Y1L ?_
     refine pU 23 49 Y1M ?_
     refine pY 24 50 Y1A ?_
     refine pY 25 51 Y1B ?_
     refine pU 26 52 Y1C ?_
     refine pU 27 53 Y1D ?_
     refine pU 28 54 Y1v ?_
     refine pU 29 55 Y1w ?_
     refine pU 30 56 Y1x ?_
     refine pU 31 57 Y1y ?_
     refine pU 32 58 Y1n ?_
     refine pU 33 59 Y1o ?_
     refine pY 34 60 Y1p ?_
     refine pY 35 61 Y1q ?_
     refine pU 36 62 Y1f ?_
     refine pU 37 63 Y1g ?_
     refine pU 38 64 Y1h ?_
     refine pY 39 65 Y1i ?_
     refine Y1Q (Y1a HT_.out Z6) ?_
     try go_wp2
     go_ret
     exact Z2d
   ·rw [if_neg c9] at H
    have c9b0 : ((a0_0 == 1) == (a0_1.toList != ([] : List UInt8))) = false := by simpa using c9
    (try (have c9b1 : ((a0_0 == 1) == !a0_1.toList.isEmpty) = false := by first | simpa using c9 | simpa [show ∀ l_ : List UInt8, (l_ != ([] : List UInt8)) = !l_.isEmpty from fun l_ => by cases l_ <;> rfl, show ∀ l_ : List UInt8, (l_ == ([] : List UInt8)) = l_.isEmpty from fun l_ => by cases l_ <;> rfl] using c9))
    (try (have c9b2 : (((a0_0 = 1) = (a0_1.toList != ([] : List UInt8)))) = False := eq_false (by simpa using c9)))
    (try (have c9b3 : decide ((a0_0 == 1) = (a0_1.toList != ([] : List UInt8))) = false := by simpa using c9))
    (try (have c9b4 : ((a0_0 == 1) == (a0_1.toList != ([] : List UInt8))) = false := by simpa using c9))
    (try (have c9b5 : ¬ ((a0_0 == 1) = (a0_1.toList != ([] : List UInt8))) := by simpa using c9))
    clear c9
    obtain rfl := Option.some.inj H
    go_enter Tryd.func62, Tryd.ntmps62
    try go_wp2_with (first | ((with_reducible refine YF (N := 2) rfl ?_); (try (refine YX (by rfl) ?_; dsimp only)); refine YE ?hg (N := 2) ?hd (cs := #[.int .i64 a0_0, .string a0_1, .slice A0_2 l0_2.length c0_2, .slice A0_3 l0_3.length c0_3]) (t := 37) ?hr ?_; (case hd => rfl); (case hg => rfl); (case hr => exact Za); intro gb101 hg w75 hbox hb; have n_ := Y31 (Yb QB hb) (hbox) ((by rw [hg]; exact (Ym QB) : w.heap.size ≤ gb101)) ((by rw [hg]; exact (Ym QB) : w.heap.size ≤ gb101)); clear HB; obtain ⟨HB, BK101, GW101, GE101⟩ := n_; clear hb hbox hg; obtain ⟨hcz76_0, hcz76_1, hcz76_2, hcz76_3, hfz76_0, hfz76_1, hfz76_2, hfz76_3⟩ := YA BK101.out))
    have n_ := Y2F (Ya BK101.out) (YP HB.out)
    clear BK101
    clear HB
    obtain ⟨BK101, HB⟩ := n_
    refine Y1l (n := 40) (S := fun w' => w'.cell? ⟨gb101, 0, none⟩ = some (.int .i64 a0_0) ∧ w'.cell? ⟨gb101, 1, none⟩ = some (.string a0_1) ∧ w'.cell? ⟨gb101, 2, none⟩ = some (.slice A0_2 l0_2.length c0_2) ∧ w'.cell? ⟨gb101, 3, none⟩ = some (.slice A0_3 l0_3.length c0_3)) (ds := []) Y3H Z6 rfl rfl ⟨(Y2 BK101.out 0).trans rfl, (Y2 BK101.out 1).trans rfl, (Y2 BK101.out 2).trans rfl, (Y2 BK101.out 3).trans rfl⟩ (fun hHeld => ?_); refine YW Yx.tab3 Yx.bits3 (fun HT_ HW_ => ?_)
    generalize w75.drew = w77 at BK101 HB hHeld ⊢
    refine pY 0 26 Y3I ?_
    refine pY 1 27 Y3J ?_
    refine pY 2 28 Y3K ?_
    refine pY 3 29 Y3L ?_
    refine pY 6 32 Y3l ?_
    refine pT 4 30 Y3m ?_
    refine pY 5 31 Y34 ?_
    refine pT 7 33 Y35 ?_
    refine Y2T (i := 8) (N := some 34) Y2H rfl rfl (Y1j HT_.out Z6) (by decide) (fun K hK => ?_)
    refine Y21 Tryd.func98 Z6 rfl #[.int .i64 a0_0] (by rfl) rfl rfl Z0 ?_
    with_reducible refine (YI.calls k a0_0 t102 _ A7.out).mono ?_
    rintro e w' ⟨rfl, ⟨nd, rfl⟩⟩
    refine ⟨_, rfl, ?_⟩
    refine hK.out _ _ ⟨(Y2 BK101.out 0).trans rfl, (Y2 BK101.out 1).trans rfl, (Y2 BK101.out 2).trans rfl, (Y2 BK101.out 3).trans rfl⟩ (fun hHeld => ?_)
    clear hK K
    refine Y1H (a' := ?_) ?_ ?_
    rotate_left
    ·show Act.put _ (some 34) _ = _
     simp only [Act.put, List.setIfInBounds_toArray, List.set_cons_zero, List.set_cons_succ, Y16, Y17]
     rfl
    refine pY 9 35 Y2I ?_
    refine pY 10 36 Y2J ?_
    refine pY 11 37 Y2K ?_
    refine pY 12 38 Y2e ?_
    refine pY 13 39 Y2f ?_
    refine pY 14 40 Y2g ?_
    refine pY 15 41 Y2h ?_
    refine pU 16 42 Y1X ?_
    refine pU 17 43 Y1Y ?_
    refine pY 18 44 Y1Z ?_
    refine pY 19 45 Y20 ?_
    refine pU 20 46 Y1J ?_
    refine pU 21 47 Y1K ?_
    refine pU 22 48 Y1L ?_
    refine pU 23 49 Y1M ?_
    refine pY 24 50 Y1A ?_
    refine pY 25 51 Y1B ?_
    refine pU 26 52 Y1C ?_
    refine pU 27 53 Y1D ?_
    refine pU 28 54 Y1v ?_
    refine pU 29 55 Y1w ?_
    refine pU 30 56 Y1x ?_
    refine pU 31 57 Y1y ?_
    refine pU 32 58 Y1n ?_
    refine pU 33 59 Y1o ?_
    refine pY 34 60 Y1p ?_
    refine pY 35 61 Y1q ?_
    refine pU 36 62 Y1f ?_
    refine pU 37 63 Y1g ?_
    refine pU 38 64 Y1h ?_
    refine pY 39 65 Y1i ?_
    refine Y1Q (Y1a HT_.out Z6) ?_
    try go_wp2
    go_ret
    exact Z2d
  ·rw [if_neg c8] at H
   have c8b0 : ((l0_3.length : Int) == t102) = false := beq_eq_false_iff_ne.mpr c8
   have c8b1 : ((l0_3.length : Int) != t102) = true := bne_iff_ne.mpr c8
   obtain rfl := Option.some.inj H
   go_enter Tryd.func62, Tryd.ntmps62
   try go_wp2_with (first | ((with_reducible refine YF (N := 2) rfl ?_); (try (refine YX (by rfl) ?_; dsimp only)); refine YE ?hg (N := 2) ?hd (cs := #[.int .i64 a0_0, .string a0_1, .slice A0_2 l0_2.length c0_2, .slice A0_3 l0_3.length c0_3]) (t := 37) ?hr ?_; (case hd => rfl); (case hg => rfl); (case hr => exact Za); intro gb101 hg w78 hbox hb; have n_ := Y31 (Yb QB hb) (hbox) ((by rw [hg]; exact (Ym QB) : w.heap.size ≤ gb101)) ((by rw [hg]; exact (Ym QB) : w.heap.size ≤ gb101)); clear HB; obtain ⟨HB, BK101, GW101, GE101⟩ := n_; clear hb hbox hg; obtain ⟨hcz79_0, hcz79_1, hcz79_2, hcz79_3, hfz79_0, hfz79_1, hfz79_2, hfz79_3⟩ := YA BK101.out))
   have n_ := Y2F (Ya BK101.out) (YP HB.out)
   clear BK101
   clear HB
   obtain ⟨BK101, HB⟩ := n_
   refine Y1l (n := 40) (S := fun w' => w'.cell? ⟨gb101, 0, none⟩ = some (.int .i64 a0_0) ∧ w'.cell? ⟨gb101, 1, none⟩ = some (.string a0_1) ∧ w'.cell? ⟨gb101, 2, none⟩ = some (.slice A0_2 l0_2.length c0_2) ∧ w'.cell? ⟨gb101, 3, none⟩ = some (.slice A0_3 l0_3.length c0_3)) (ds := []) Y3H Z6 rfl rfl ⟨(Y2 BK101.out 0).trans rfl, (Y2 BK101.out 1).trans rfl, (Y2 BK101.out 2).trans rfl, (Y2 BK101.out 3).trans rfl⟩ (fun hHeld => ?_); refine YW Yx.tab3 Yx.bits3 (fun HT_ HW_ => ?_)
   generalize w78.drew = w80 at BK101 HB hHeld ⊢
   refine pY 0 26 Y3I ?_
   refine pY 1 27 Y3J ?_
   refine pY 2 28 Y3K ?_
   refine pY 3 29 Y3L ?_
   refine pY 6 32 Y3l ?_
   refine pT 4 30 Y3m ?_
   refine pY 5 31 Y34 ?_
   refine pT 7 33 Y35 ?_
   refine Y2T (i := 8) (N := some 34) Y2H rfl rfl (Y1j HT_.out Z6) (by decide) (fun K hK => ?_)
   refine Y21 Tryd.func98 Z6 rfl #[.int .i64 a0_0] (by rfl) rfl rfl Z0 ?_
   with_reducible refine (YI.calls k a0_0 t102 _ A7.out).mono ?_
   rintro e w' ⟨rfl, ⟨nd, rfl⟩⟩
   refine ⟨_, rfl, ?_⟩
   refine hK.out _ _ ⟨(Y2 BK101.out 0).trans rfl, (Y2 BK101.out 1).trans rfl, (Y2 BK101.out 2).trans rfl, (Y2 BK101.out 3).trans rfl⟩ (fun hHeld => ?_)
   clear hK K
   refine Y1H (a' := ?_) ?_ ?_
   rotate_left
   ·show Act.put _ (some 34) _ = _
    simp only [Act.put, List.setIfInBounds_toArray, List.set_cons_zero, List.set_cons_succ, Y16, Y17]
    rfl
   refine pY 9 35 Y2I ?_
   refine pY 10 36 Y2J ?_
   refine pY 11 37 Y2K ?_
   refine pU 12 38 Y2e ?_
   refine pU 13 39 Y2f ?_
   refine pY 14 40 Y2g ?_
   refine pY 15 41 Y2h ?_
   refine pU 16 42 Y1X ?_
   refine pU 17 43 Y1Y ?_
   refine pY 18 44 Y1Z ?_
   refine pY 19 45 Y20 ?_
   refine pU 20 46 Y1J ?_
   refine pU 21 47 Y1K ?_
   refine pU 22 48 Y1L ?_
   refine pU 23 49 Y1M ?_
   refine pY 24 50 Y1A ?_
   refine pY 25 51 Y1B ?_
   refine pU 26 52 Y1C ?_
   refine pU 27 53 Y1D ?_
   refine pU 28 54 Y1v ?_
   refine pU 29 55 Y1w ?_
   refine pU 30 56 Y1x ?_
   refine pU 31 57 Y1y ?_
   refine pU 32 58 Y1n ?_
   refine pU 33 59 Y1o ?_
   refine pY 34 60 Y1p ?_
   refine pY 35 61 Y1q ?_
   refine pU 36 62 Y1f ?_
   refine pU 37 63 Y1g ?_
   refine pU 38 64 Y1h ?_
   refine pY 39 65 Y1i ?_
   refine Y1Q (Y1a HT_.out Z6) ?_
   try go_wp2
   go_ret
   exact Z2d
def Y1e.f (k : Nat) (a0_0 : Int) (a0_1 : ByteArray) (l0_2 : List ByteArray) (l0_3 : List (S37)) : Option (Bool) := (Yx.f k a0_0 a0_1 l0_2 l0_3 0).bind fun t102 => (if t102 > 0 then (some (decide (t102 ≤ 30))) else (some false))
theorem Y1e.mono : ∀ a0 a1 a2 a3 k, LeO (Y1e.f k a0 a1 a2 a3) (Y1e.f (k + 1) a0 a1 a2 a3) := by
 intro a0 a1 a2 a3 k
 unfold Y1e.f
 exact QM
set_option maxHeartbeats 8000000 in
set_option maxRecDepth 100000 in
theorem Y1e.calls (k : Nat) (a0_0 : Int) (a0_1 : ByteArray) (A0_2 : Option Addr) (c0_2 : Nat) (l0_2 : List ByteArray) (A0_3 : Option Addr) (c0_3 : Nat) (l0_3 : List (S37)) (r : Bool) (w : World) (hT : Tabs w) (hr0_2 : Kd.C Kd.string w A0_2 l0_2.length l0_2) (hc0_2 : l0_2.length ≤ c0_2) (hr0_3 : Kd.C k37 w A0_3 l0_3.length l0_3) (hc0_3 : l0_3.length ≤ c0_3) (h : Y1e.f k a0_0 a0_1 l0_2 l0_3 = some r) :
  Calls Tryd.prog 31 #[.agg #[.int .i64 a0_0, .string a0_1, .slice A0_2 l0_2.length c0_2, .slice A0_3 l0_3.length c0_3]] w fun e w' => e = .returned (.bool r) ∧ Below w.heap.size w w' := by
 have HT := Y0.mk hT
 clear hT
 have hu37 := Tryd.underlying37
 have HR0_2 := Y0.mk hr0_2
 have HC0_2 := Y0.mk hc0_2
 clear hr0_2 hc0_2
 have HR0_3 := Y0.mk hr0_3
 have HC0_3 := Y0.mk hc0_3
 clear hr0_3 hc0_3
 have HB := Y0.mk (Below.refl w.heap.size w)
 have H : ((Yx.f k a0_0 a0_1 l0_2 l0_3 0).bind fun t102 => (if t102 > 0 then (some (decide (t102 ≤ 30))) else (some false))) = some r := h
 clear h
 replace H := Option.bind_eq_some_iff.mp H
 obtain ⟨t102, A20, H⟩ := H
 replace H : (if t102 > 0 then (some (decide (t102 ≤ 30))) else (some false)) = some r := H
 have A2 := Y0.mk A20
 clear A20
 by_cases c3 : t102 > 0
 ·rw [if_pos c3] at H
  have c3b0 : decide (0 < t102) = true := decide_eq_true c3
  clear c3
  obtain rfl := Option.some.inj H
  go_enter Tryd.func31, Tryd.ntmps31
  go_wp2_with (first | ((with_reducible refine YF (N := 1) rfl ?_); refine YE ?hg (N := 1) ?hd (cs := #[.int .i64 a0_0, .string a0_1, .slice A0_2 l0_2.length c0_2, .slice A0_3 l0_3.length c0_3]) (t := 37) ?hr ?_; (case hd => rfl); (case hg => rfl); (case hr => exact Za); intro gb101 hg w4 hbox hb; have n_ := Y31 (Yb QB hb) (hbox) ((by rw [hg]; exact (Ym QB) : w.heap.size ≤ gb101)) ((by rw [hg]; exact (Ym QB) : w.heap.size ≤ gb101)); clear HB; obtain ⟨HB, BK101, GW101, GE101⟩ := n_; clear hb hbox hg; obtain ⟨hcz5_0, hcz5_1, hcz5_2, hcz5_3, hfz5_0, hfz5_1, hfz5_2, hfz5_3⟩ := YA BK101.out) | ((with_reducible refine Yn (f := 62) rfl ?_); refine YO (some 5) rfl rfl Tryd.func62 Z6 rfl #[.agg #[.int .i64 a0_0, .string a0_1, .slice A0_2 l0_2.length c0_2, .slice A0_3 l0_3.length c0_3], .int .i64 0] rfl Z0 ?_; (with_reducible refine (Yx.calls k a0_0 a0_1 _ _ l0_2 _ _ l0_3 0 t102 _ ?side1 ?side2 ?side3 ?side4 ?side5 A2.out).mono ?_); (case side1 => exact Z3); (case side2 => exact Zd); (case side3 => exact Z1N); (case side4 => exact Zg); (case side5 => exact Z1V); rintro e w6 ⟨rfl, hb⟩; refine ⟨_, rfl, ?_⟩; have n_ := Y2F (Yu (g := gb101) (o := .cells #[.int .i64 a0_0, .string a0_1, .slice A0_2 l0_2.length c0_2, .slice A0_3 l0_3.length c0_3] 37 (0, 0)) QQ hb) (Yb QB hb); clear BK101 HB; obtain ⟨BK101, HB⟩ := n_; (try clear hb); (try clear hb2); (try clear hk); (try clear hi)))
  go_ret
  exact Z2d
 ·rw [if_neg c3] at H
  have c3b0 : decide (0 < t102) = false := decide_eq_false c3
  clear c3
  obtain rfl := Option.some.inj H
  go_enter Tryd.func31, Tryd.ntmps31
  go_wp2_with (first | ((with_reducible refine YF (N := 1) rfl ?_); refine YE ?hg (N := 1) ?hd (cs := #[.int .i64 a0_0, .string a0_1, .slice A0_2 l0_2.length c0_2, .slice A0_3 l0_3.length c0_3]) (t := 37) ?hr ?_; (case hd => rfl); (case hg => rfl); (case hr => exact Za); intro gb101 hg w7 hbox hb; have n_ := Y31 (Yb QB hb) (hbox) ((by rw [hg]; exact (Ym QB) : w.heap.size ≤ gb101)) ((by rw [hg]; exact (Ym QB) : w.heap.size ≤ gb101)); clear HB; obtain ⟨HB, BK101, GW101, GE101⟩ := n_; clear hb hbox hg; obtain ⟨hcz8_0, hcz8_1, hcz8_2, hcz8_3, hfz8_0, hfz8_1, hfz8_2, hfz8_3⟩ := YA BK101.out) | ((with_reducible refine Yn (f := 62) rfl ?_); refine YO (some 5) rfl rfl Tryd.func62 Z6 rfl #[.agg #[.int .i64 a0_0, .string a0_1, .slice A0_2 l0_2.length c0_2, .slice A0_3 l0_3.length c0_3], .int .i64 0] rfl Z0 ?_; (with_reducible refine (Yx.calls k a0_0 a0_1 _ _ l0_2 _ _ l0_3 0 t102 _ ?side1 ?side2 ?side3 ?side4 ?side5 A2.out).mono ?_); (case side1 => exact Z3); (case side2 => exact Zd); (case side3 => exact Z1N); (case side4 => exact Zg); (case side5 => exact Z1V); rintro e w9 ⟨rfl, hb⟩; refine ⟨_, rfl, ?_⟩; have n_ := Y2F (Yu (g := gb101) (o := .cells #[.int .i64 a0_0, .string a0_1, .slice A0_2 l0_2.length c0_2, .slice A0_3 l0_3.length c0_3] 37 (0, 0)) QQ hb) (Yb QB hb); clear BK101 HB; obtain ⟨BK101, HB⟩ := n_; (try clear hb); (try clear hb2); (try clear hk); (try clear hi)))
  go_ret
  exact Z2d
def YT.f (k : Nat)  : Option (Bool) := (YJ.f k (⟨#[60, 97, 62, 47, 60, 98, 62, 124, 60, 99, 62, 42]⟩ : ByteArray)).bind fun bt101 => (if bt101.2.2.2.2.2 = 0 then (if bt101.2.2.2.2.1 = 12 then (if bt101.1 = 4 then ((YH.f k bt101.1 bt101.2.1 bt101.2.2.1 bt101.2.2.2.1).bind fun t112 => (if t112.toList = ([40, 60, 97, 62, 47, 60, 98, 62, 41, 124, 40, 60, 99, 62, 42, 41] : List UInt8) then ((Y1e.f k bt101.1 bt101.2.1 bt101.2.2.1 bt101.2.2.2.1).bind fun t113 => (some t113)) else (some false))) else (some false)) else (some false)) else (some false))
theorem YT.mono : ∀ k, LeO (YT.f k ) (YT.f (k + 1) ) := by
 intro  k
 unfold YT.f
 exact QM
set_option maxHeartbeats 8000000 in
set_option maxRecDepth 100000 in
theorem YT.calls (k : Nat)  (r : Bool) (w : World) (hT : Tabs w) (h : YT.f k  = some r) :
  Calls Tryd.prog 27 #[] w fun e w' => e = .returned (.bool r) ∧ Below w.heap.size w w' := by
 have HT := Y0.mk hT
 clear hT
 have hu37 := Tryd.underlying37
 have HB := Y0.mk (Below.refl w.heap.size w)
 have H : ((YJ.f k (⟨#[60, 97, 62, 47, 60, 98, 62, 124, 60, 99, 62, 42]⟩ : ByteArray)).bind fun bt101 => (if bt101.2.2.2.2.2 = 0 then (if bt101.2.2.2.2.1 = 12 then (if bt101.1 = 4 then ((YH.f k bt101.1 bt101.2.1 bt101.2.2.1 bt101.2.2.2.1).bind fun t112 => (if t112.toList = ([40, 60, 97, 62, 47, 60, 98, 62, 41, 124, 40, 60, 99, 62, 42, 41] : List UInt8) then ((Y1e.f k bt101.1 bt101.2.1 bt101.2.2.1 bt101.2.2.2.1).bind fun t113 => (some t113)) else (some false))) else (some false)) else (some false)) else (some false))) = some r := h
 clear h
 replace H := Option.bind_eq_some_iff.mp H
 obtain ⟨⟨t101, t102, t103, t106, t109, t110⟩, A10, H⟩ := H
 replace H : (if t110 = 0 then (if t109 = 12 then (if t101 = 4 then ((YH.f k t101 t102 t103 t106).bind fun t112 => (if t112.toList = ([40, 60, 97, 62, 47, 60, 98, 62, 41, 124, 40, 60, 99, 62, 42, 41] : List UInt8) then ((Y1e.f k t101 t102 t103 t106).bind fun t113 => (some t113)) else (some false))) else (some false)) else (some false)) else (some false)) = some r := H
 have A1 := Y0.mk A10
 clear A10
 by_cases c2 : t110 = 0
 ·rw [if_pos c2] at H
  have c2b0 : (t110 == 0) = true := beq_iff_eq.mpr c2
  have c2b1 : (t110 != 0) = false := bne_eq_false_iff_eq.mpr c2
  clear c2
  by_cases c3 : t109 = 12
  ·rw [if_pos c3] at H
   have c3b0 : (t109 == 12) = true := beq_iff_eq.mpr c3
   have c3b1 : (t109 != 12) = false := bne_eq_false_iff_eq.mpr c3
   clear c3
   by_cases c4 : t101 = 4
   ·rw [if_pos c4] at H
    have c4b0 : (t101 == 4) = true := beq_iff_eq.mpr c4
    have c4b1 : (t101 != 4) = false := bne_eq_false_iff_eq.mpr c4
    clear c4
    replace H := Option.bind_eq_some_iff.mp H
    obtain ⟨t112, A50, H⟩ := H
    replace H : (if t112.toList = ([40, 60, 97, 62, 47, 60, 98, 62, 41, 124, 40, 60, 99, 62, 42, 41] : List UInt8) then ((Y1e.f k t101 t102 t103 t106).bind fun t113 => (some t113)) else (some false)) = some r := H
    have A5 := Y0.mk A50
    clear A50
    by_cases c6 : t112.toList = ([40, 60, 97, 62, 47, 60, 98, 62, 41, 124, 40, 60, 99, 62, 42, 41] : List UInt8)
    ·rw [if_pos c6] at H
     have c6b0 : (t112.toList == ([40, 60, 97, 62, 47, 60, 98, 62, 41, 124, 40, 60, 99, 62, 42, 41] : List UInt8)) = true := beq_iff_eq.mpr c6
     have c6b1 : (t112.toList != ([40, 60, 97, 62, 47, 60, 98, 62, 41, 124, 40, 60, 99, 62, 42, 41] : List UInt8)) = false := bne_eq_false_iff_eq.mpr c6
     clear c6
     replace H := Option.bind_eq_some_iff.mp H
     obtain ⟨t113, A70, H⟩ := H
     replace H : (some t113) = some r := H
     have A7 := Y0.mk A70
     clear A70
     obtain rfl := Option.some.inj H
     go_enter Tryd.func27, Tryd.ntmps27
     go_wp2_with (first | ((with_reducible refine Yn (f := 25) rfl ?_); refine YO (some 5) rfl rfl Tryd.func25 Z6 rfl #[.string (⟨#[60, 97, 62, 47, 60, 98, 62, 124, 60, 99, 62, 42]⟩ : ByteArray)] rfl Z0 ?_; (with_reducible refine (YJ.calls k (⟨#[60, 97, 62, 47, 60, 98, 62, 124, 60, 99, 62, 42]⟩ : ByteArray) t101 t102 t103 t106 t109 t110 _ ?side1 A1.out).mono ?_); (case side1 => exact Zz); rintro e w8 ⟨v104, v107, rfl, ho0, ho1, hb⟩; refine ⟨_, rfl, ?_⟩; have n_ := Y2Z (Kd.R_lower (Kd.R_mono (ok' := fun k_ => True) ho0 (fun _ hk_ => trivial)) (Ym QB)) (Kd.N_lower (Kd.N_mono (ok' := fun k_ => some k_ ≠ (v104 : Value).ownBlock) ho1 (fun k_ hk_ => hk_.2)) (Ym QB)) (Yb QB hb); clear HB; obtain ⟨HO105, HO108, HB⟩ := n_; (try clear hb); (try clear hb2); (try clear hk); (try clear hi); (try clear ho0); (try clear ho1)) | ((with_reducible refine YF (N := 1) rfl ?_); refine YE ?hg (N := 1) ?hd (cs := #[.int .i64 0, .string (⟨#[]⟩ : ByteArray), .slice none 0 0, .slice none 0 0]) (t := 37) ?hr ?_; (case hd => rfl); (case hg => rfl); (case hr => exact Za); intro gb111 hg w9 hbox hb; have n_ := Y3w (Kd.R_below ZQ hb) (Kd.N_below (Kd.N_elderB ZP gb111 (Nat.le_of_eq hg.symm)) hb) (Yb QB hb) (hbox) ((by rw [hg]; exact (Ym QB) : w.heap.size ≤ gb111)) ((by rw [hg]; exact (Ym QB) : w.heap.size ≤ gb111)); clear HO105 HO108 HB; obtain ⟨HO105, HO108, HB, BK111, GW111, GE111⟩ := n_; clear hb hbox hg; obtain ⟨hcz10_0, hcz10_1, hcz10_2, hcz10_3, hfz10_0, hfz10_1, hfz10_2, hfz10_3⟩ := YA BK111.out; obtain ⟨Ao11, co11, eo11⟩ := Kd.R_slice HO105.out; subst eo11; obtain ⟨Ao12, co12, eo12⟩ := Kd.N_slice HO108.out; subst eo12) | (go_at_call 24; (with_reducible refine (YH.calls k t101 t102 _ _ t103 _ _ t106 t112 _ ?side1 ?side2 ?side3 ?side4 A5.out).mono ?_); (case side1 => refine (Kd.R_reads' (e := 9) (base := w.heap.size) (ok := fun k_ => True) (n := t103.length) (c := co11) ?_).2.2; exact ZX); (case side2 => exact (Kd.R_reads' HO105.out).2.1); (case side3 => refine (Kd.N_reads' (e := 37) (base := w.heap.size) (ok := fun k_ => (some k_ ≠ (.slice Ao11 t103.length co11 : Value).ownBlock ∧ k_ ≠ gb111)) (n := t106.length) (c := co12) ?_).2.2; exact ZT); (case side4 => exact (Kd.N_reads' HO108.out).2.1); rintro e w13 ⟨rfl, hb⟩; have n0_ := Y0.mk (Kd.R_below ZX hb); have n1_ := Y0.mk (Kd.N_below ZT hb); have n2_ := Y0.mk (Yu (g := gb111) (o := .cells #[.int .i64 t101, .string t102, .slice Ao11 t103.length co11, .slice Ao12 t106.length co12] 37 (0, 0)) (by (with_reducible repeat (first | refine Yg ?_ _ | refine Ya ?_ | refine Ye ?_ _)); exact YD (cs := #[.int .i64 t101, .string t102, .slice Ao11 t103.length co11, .slice none 0 0]) Z2a 3 _ rfl) hb); have n3_ := Y0.mk (Yb QB hb); clear HO105 HO108 BK111 HB; have HO105 := n0_; have HO108 := n1_; have BK111 := n2_; have HB := n3_; clear n0_ n1_ n2_ n3_; (try clear hb); (try clear hb2); (try clear hk); (try clear hi); obtain ⟨hcz14_0, hcz14_1, hcz14_2, hcz14_3, hfz14_0, hfz14_1, hfz14_2, hfz14_3⟩ := YA BK111.out) | (go_at_call 31; (with_reducible refine (Y1e.calls k t101 t102 _ _ t103 _ _ t106 t113 _ ?side1 ?side2 ?side3 ?side4 ?side5 A7.out).mono ?_); (case side1 => exact Z3); (case side2 => repeat (first | exact (Kd.R_reads' HO105.out).2.2 | (with_reducible refine Kd.C_alloc ?_ _) | (with_reducible refine Kd.C_drewN ?_ _) | (with_reducible refine Kd.C_drew ?_))); (case side3 => exact (Kd.R_reads' HO105.out).2.1); (case side4 => repeat (first | exact (Kd.N_reads' HO108.out).2.2 | (with_reducible refine Kd.C_alloc ?_ _) | (with_reducible refine Kd.C_drewN ?_ _) | (with_reducible refine Kd.C_drew ?_))); (case side5 => exact (Kd.N_reads' HO108.out).2.1); rintro e w15 ⟨rfl, hb⟩; have n_ := Y31 (Kd.R_below ZQ hb) (Kd.N_below ZP hb) (Yu (g := gb111) (o := .cells #[.int .i64 t101, .string t102, .slice Ao11 t103.length co11, .slice Ao12 t106.length co12] 37 (0, 0)) QQ hb) (Yb QB hb); clear HO105 HO108 BK111 HB; obtain ⟨HO105, HO108, BK111, HB⟩ := n_; (try clear hb); (try clear hb2); (try clear hk); (try clear hi)))
     go_ret
     exact Z2d
    ·rw [if_neg c6] at H
     have c6b0 : (t112.toList == ([40, 60, 97, 62, 47, 60, 98, 62, 41, 124, 40, 60, 99, 62, 42, 41] : List UInt8)) = false := beq_eq_false_iff_ne.mpr c6
     have c6b1 : (t112.toList != ([40, 60, 97, 62, 47, 60, 98, 62, 41, 124, 40, 60, 99, 62, 42, 41] : List UInt8)) = true := bne_iff_ne.mpr c6
     obtain rfl := Option.some.inj H
     go_enter Tryd.func27, Tryd.ntmps27
     go_wp2_with (first | ((with_reducible refine Yn (f := 25) rfl ?_); refine YO (some 5) rfl rfl Tryd.func25 Z6 rfl #[.string (⟨#[60, 97, 62, 47, 60, 98, 62, 124, 60, 99, 62, 42]⟩ : ByteArray)] rfl Z0 ?_; (with_reducible refine (YJ.calls k (⟨#[60, 97, 62, 47, 60, 98, 62, 124, 60, 99, 62, 42]⟩ : ByteArray) t101 t102 t103 t106 t109 t110 _ ?side1 A1.out).mono ?_); (case side1 => exact Zz); rintro e w16 ⟨v104, v107, rfl, ho0, ho1, hb⟩; refine ⟨_, rfl, ?_⟩; have n_ := Y2Z (Kd.R_lower (Kd.R_mono (ok' := fun k_ => True) ho0 (fun _ hk_ => trivial)) (Ym QB)) (Kd.N_lower (Kd.N_mono (ok' := fun k_ => some k_ ≠ (v104 : Value).ownBlock) ho1 (fun k_ hk_ => hk_.2)) (Ym QB)) (Yb QB hb); clear HB; obtain ⟨HO105, HO108, HB⟩ := n_; (try clear hb); (try clear hb2); (try clear hk); (try clear hi); (try clear ho0); (try clear ho1)) | ((with_reducible refine YF (N := 1) rfl ?_); refine YE ?hg (N := 1) ?hd (cs := #[.int .i64 0, .string (⟨#[]⟩ : ByteArray), .slice none 0 0, .slice none 0 0]) (t := 37) ?hr ?_; (case hd => rfl); (case hg => rfl); (case hr => exact Za); intro gb111 hg w17 hbox hb; have n_ := Y3w (Kd.R_below ZQ hb) (Kd.N_below (Kd.N_elderB ZP gb111 (Nat.le_of_eq hg.symm)) hb) (Yb QB hb) (hbox) ((by rw [hg]; exact (Ym QB) : w.heap.size ≤ gb111)) ((by rw [hg]; exact (Ym QB) : w.heap.size ≤ gb111)); clear HO105 HO108 HB; obtain ⟨HO105, HO108, HB, BK111, GW111, GE111⟩ := n_; clear hb hbox hg; obtain ⟨hcz18_0, hcz18_1, hcz18_2, hcz18_3, hfz18_0, hfz18_1, hfz18_2, hfz18_3⟩ := YA BK111.out; obtain ⟨Ao19, co19, eo19⟩ := Kd.R_slice HO105.out; subst eo19; obtain ⟨Ao20, co20, eo20⟩ := Kd.N_slice HO108.out; subst eo20) | (go_at_call 24; (with_reducible refine (YH.calls k t101 t102 _ _ t103 _ _ t106 t112 _ ?side1 ?side2 ?side3 ?side4 A5.out).mono ?_); (case side1 => refine (Kd.R_reads' (e := 9) (base := w.heap.size) (ok := fun k_ => True) (n := t103.length) (c := co19) ?_).2.2; exact ZY); (case side2 => exact (Kd.R_reads' HO105.out).2.1); (case side3 => refine (Kd.N_reads' (e := 37) (base := w.heap.size) (ok := fun k_ => (some k_ ≠ (.slice Ao19 t103.length co19 : Value).ownBlock ∧ k_ ≠ gb111)) (n := t106.length) (c := co20) ?_).2.2; exact ZU); (case side4 => exact (Kd.N_reads' HO108.out).2.1); rintro e w21 ⟨rfl, hb⟩; have n0_ := Y0.mk (Kd.R_below ZY hb); have n1_ := Y0.mk (Kd.N_below ZU hb); have n2_ := Y0.mk (Yu (g := gb111) (o := .cells #[.int .i64 t101, .string t102, .slice Ao19 t103.length co19, .slice Ao20 t106.length co20] 37 (0, 0)) (by (with_reducible repeat (first | refine Yg ?_ _ | refine Ya ?_ | refine Ye ?_ _)); exact YD (cs := #[.int .i64 t101, .string t102, .slice Ao19 t103.length co19, .slice none 0 0]) Z2a 3 _ rfl) hb); have n3_ := Y0.mk (Yb QB hb); clear HO105 HO108 BK111 HB; have HO105 := n0_; have HO108 := n1_; have BK111 := n2_; have HB := n3_; clear n0_ n1_ n2_ n3_; (try clear hb); (try clear hb2); (try clear hk); (try clear hi)))
     go_ret
     exact Z2d
   ·rw [if_neg c4] at H
    have c4b0 : (t101 == 4) = false := beq_eq_false_iff_ne.mpr c4
    have c4b1 : (t101 != 4) = true := bne_iff_ne.mpr c4
    obtain rfl := Option.some.inj H
    go_enter Tryd.func27, Tryd.ntmps27
    go_wp2_with (first | ((with_reducible refine Yn (f := 25) rfl ?_); refine YO (some 5) rfl rfl Tryd.func25 Z6 rfl #[.string (⟨#[60, 97, 62, 47, 60, 98, 62, 124, 60, 99, 62, 42]⟩ : ByteArray)] rfl Z0 ?_; (with_reducible refine (YJ.calls k (⟨#[60, 97, 62, 47, 60, 98, 62, 124, 60, 99, 62, 42]⟩ : ByteArray) t101 t102 t103 t106 t109 t110 _ ?side1 A1.out).mono ?_); (case side1 => exact Zz); rintro e w22 ⟨v104, v107, rfl, ho0, ho1, hb⟩; refine ⟨_, rfl, ?_⟩; have n_ := Y2Z (Kd.R_lower (Kd.R_mono (ok' := fun k_ => True) ho0 (fun _ hk_ => trivial)) (Ym QB)) (Kd.N_lower (Kd.N_mono (ok' := fun k_ => some k_ ≠ (v104 : Value).ownBlock) ho1 (fun k_ hk_ => hk_.2)) (Ym QB)) (Yb QB hb); clear HB; obtain ⟨HO105, HO108, HB⟩ := n_; (try clear hb); (try clear hb2); (try clear hk); (try clear hi); (try clear ho0); (try clear ho1)) | ((with_reducible refine YF (N := 1) rfl ?_); refine YE ?hg (N := 1) ?hd (cs := #[.int .i64 0, .string (⟨#[]⟩ : ByteArray), .slice none 0 0, .slice none 0 0]) (t := 37) ?hr ?_; (case hd => rfl); (case hg => rfl); (case hr => exact Za); intro gb111 hg w23 hbox hb; have n_ := Y3w (Kd.R_below ZQ hb) (Kd.N_below (Kd.N_elderB ZP gb111 (Nat.le_of_eq hg.symm)) hb) (Yb QB hb) (hbox) ((by rw [hg]; exact (Ym QB) : w.heap.size ≤ gb111)) ((by rw [hg]; exact (Ym QB) : w.heap.size ≤ gb111)); clear HO105 HO108 HB; obtain ⟨HO105, HO108, HB, BK111, GW111, GE111⟩ := n_; clear hb hbox hg; obtain ⟨hcz24_0, hcz24_1, hcz24_2, hcz24_3, hfz24_0, hfz24_1, hfz24_2, hfz24_3⟩ := YA BK111.out; obtain ⟨Ao25, co25, eo25⟩ := Kd.R_slice HO105.out; subst eo25; obtain ⟨Ao26, co26, eo26⟩ := Kd.N_slice HO108.out; subst eo26))
    go_ret
    exact Z2d
  ·rw [if_neg c3] at H
   have c3b0 : (t109 == 12) = false := beq_eq_false_iff_ne.mpr c3
   have c3b1 : (t109 != 12) = true := bne_iff_ne.mpr c3
   obtain rfl := Option.some.inj H
   go_enter Tryd.func27, Tryd.ntmps27
   go_wp2_with (first | ((with_reducible refine Yn (f := 25) rfl ?_); refine YO (some 5) rfl rfl Tryd.func25 Z6 rfl #[.string (⟨#[60, 97, 62, 47, 60, 98, 62, 124, 60, 99, 62, 42]⟩ : ByteArray)] rfl Z0 ?_; (with_reducible refine (YJ.calls k (⟨#[60, 97, 62, 47, 60, 98, 62, 124, 60, 99, 62, 42]⟩ : ByteArray) t101 t102 t103 t106 t109 t110 _ ?side1 A1.out).mono ?_); (case side1 => exact Zz); rintro e w27 ⟨v104, v107, rfl, ho0, ho1, hb⟩; refine ⟨_, rfl, ?_⟩; have n_ := Y2Z (Kd.R_lower (Kd.R_mono (ok' := fun k_ => True) ho0 (fun _ hk_ => trivial)) (Ym QB)) (Kd.N_lower (Kd.N_mono (ok' := fun k_ => some k_ ≠ (v104 : Value).ownBlock) ho1 (fun k_ hk_ => hk_.2)) (Ym QB)) (Yb QB hb); clear HB; obtain ⟨HO105, HO108, HB⟩ := n_; (try clear hb); (try clear hb2); (try clear hk); (try clear hi); (try clear ho0); (try clear ho1)) | ((with_reducible refine YF (N := 1) rfl ?_); refine YE ?hg (N := 1) ?hd (cs := #[.int .i64 0, .string (⟨#[]⟩ : ByteArray), .slice none 0 0, .slice none 0 0]) (t := 37) ?hr ?_; (case hd => rfl); (case hg => rfl); (case hr => exact Za); intro gb111 hg w28 hbox hb; have n_ := Y3w (Kd.R_below ZQ hb) (Kd.N_below (Kd.N_elderB ZP gb111 (Nat.le_of_eq hg.symm)) hb) (Yb QB hb) (hbox) ((by rw [hg]; exact (Ym QB) : w.heap.size ≤ gb111)) ((by rw [hg]; exact (Ym QB) : w.heap.size ≤ gb111)); clear HO105 HO108 HB; obtain ⟨HO105, HO108, HB, BK111, GW111, GE111⟩ := n_; clear hb hbox hg; obtain ⟨hcz29_0, hcz29_1, hcz29_2, hcz29_3, hfz29_0, hfz29_1, hfz29_2, hfz29_3⟩ := YA BK111.out; obtain ⟨Ao30, co30, eo30⟩ := Kd.R_slice HO105.out; subst eo30; obtain ⟨Ao31, co31, eo31⟩ := Kd.N_slice HO108.out; subst eo31))
   go_ret
   exact Z2d
 ·rw [if_neg c2] at H
  have c2b0 : (t110 == 0) = false := beq_eq_false_iff_ne.mpr c2
  have c2b1 : (t110 != 0) = true := bne_iff_ne.mpr c2
  obtain rfl := Option.some.inj H
  go_enter Tryd.func27, Tryd.ntmps27
  go_wp2_with (first | ((with_reducible refine Yn (f := 25) rfl ?_); refine YO (some 5) rfl rfl Tryd.func25 Z6 rfl #[.string (⟨#[60, 97, 62, 47, 60, 98, 62, 124, 60, 99, 62, 42]⟩ : ByteArray)] rfl Z0 ?_; (with_reducible refine (YJ.calls k (⟨#[60, 97, 62, 47, 60, 98, 62, 124, 60, 99, 62, 42]⟩ : ByteArray) t101 t102 t103 t106 t109 t110 _ ?side1 A1.out).mono ?_); (case side1 => exact Zz); rintro e w32 ⟨v104, v107, rfl, ho0, ho1, hb⟩; refine ⟨_, rfl, ?_⟩; have n_ := Y2Z (Kd.R_lower (Kd.R_mono (ok' := fun k_ => True) ho0 (fun _ hk_ => trivial)) (Ym QB)) (Kd.N_lower (Kd.N_mono (ok' := fun k_ => some k_ ≠ (v104 : Value).ownBlock) ho1 (fun k_ hk_ => hk_.2)) (Ym QB)) (Yb QB hb); clear HB; obtain ⟨HO105, HO108, HB⟩ := n_; (try clear hb); (try clear hb2); (try clear hk); (try clear hi); (try clear ho0); (try clear ho1)) | ((with_reducible refine YF (N := 1) rfl ?_); refine YE ?hg (N := 1) ?hd (cs := #[.int .i64 0, .string (⟨#[]⟩ : ByteArray), .slice none 0 0, .slice none 0 0]) (t := 37) ?hr ?_; (case hd => rfl); (case hg => rfl); (case hr => exact Za); intro gb111 hg w33 hbox hb; have n_ := Y3w (Kd.R_below ZQ hb) (Kd.N_below (Kd.N_elderB ZP gb111 (Nat.le_of_eq hg.symm)) hb) (Yb QB hb) (hbox) ((by rw [hg]; exact (Ym QB) : w.heap.size ≤ gb111)) ((by rw [hg]; exact (Ym QB) : w.heap.size ≤ gb111)); clear HO105 HO108 HB; obtain ⟨HO105, HO108, HB, BK111, GW111, GE111⟩ := n_; clear hb hbox hg; obtain ⟨hcz34_0, hcz34_1, hcz34_2, hcz34_3, hfz34_0, hfz34_1, hfz34_2, hfz34_3⟩ := YA BK111.out; obtain ⟨Ao35, co35, eo35⟩ := Kd.R_slice HO105.out; subst eo35; obtain ⟨Ao36, co36, eo36⟩ := Kd.N_slice HO108.out; subst eo36))
  go_ret
  exact Z2d
mutual
def Yr.j0 : Nat → Int → Bool → Option (Int)
 | 0, _, _ => none
 | k + 1, x3, x4 => if x4 = true then (some 0) else (if x3 = 3 then (Yr.j1 k x3 (x3 == 3)) else (Yr.j1 k x3 (x3 == 4)))
def Yr.j1 : Nat → Int → Bool → Option (Int)
 | 0, _, _ => none
 | k + 1, x3, x7 => if x7 = true then (some 2) else (if x3 = 2 then (some 1) else (if x3 = 5 then (some 1) else (if x3 = 6 then (some 1) else (if x3 = 7 then (some 1) else (some (-1))))))
end
def Yr.f (k : Nat) (a0 : Int) : Option (Int) := if a0 = 1 then (Yr.j0 k a0 (a0 == 1)) else (Yr.j0 k a0 (a0 == 8))
theorem Yr.mono_l : ∀ k, (∀ y0 y1, LeO (Yr.j0 k y0 y1) (Yr.j0 (k + 1) y0 y1)) ∧ (∀ y0 y1, LeO (Yr.j1 k y0 y1) (Yr.j1 (k + 1) y0 y1))
 | 0 => ⟨fun _ _ r h => by simp [Yr.j0] at h, fun _ _ r h => by simp [Yr.j1] at h⟩
 | k + 1 => by
  obtain ⟨ih0, ih1⟩ := Yr.mono_l k
  refine ⟨?_, ?_⟩
  ·intro y0 y1
   unfold Yr.j0
   exact QM
  ·intro y0 y1
   unfold Yr.j1
   exact QM
theorem Yr.mono : ∀ a0 k, LeO (Yr.f k a0) (Yr.f (k + 1) a0) := by
 intro a0 k
 obtain ⟨ih0, ih1⟩ := Yr.mono_l k
 unfold Yr.f
 exact QM
set_option maxHeartbeats 8000000 in
set_option maxRecDepth 100000 in
theorem Yr.calls (k : Nat) (a0 : Int) (r : Int) (w : World) (h : Yr.f k a0 = some r) :
  Calls Tryd.prog 92 #[.int .i64 a0] w fun e w' => e = .returned (.int .i64 r) ∧ Y2w w w' := by
 have H : (if a0 = 1 then (Yr.j0 k a0 (a0 == 1)) else (Yr.j0 k a0 (a0 == 8))) = some r := h
 clear h
 have HC2 := Y0.mk H
 clear H
 go_enter Tryd.func92, Tryd.ntmps92
 go_upto_if 4 with (fail)
 go_cut [4] (fun v4 wc => ∃ (kq : Nat) (x4_1 : Bool), v4 = .bool x4_1 ∧ Y0 (Yr.j0 kq a0 x4_1 = some r) ∧ Y0 (kq ≤ k) ∧ Y2w w wc)
 case first =>
  have H := HC2.out
  clear HC2
  by_cases c3 : a0 = 1
  ·rw [if_pos c3] at H
   have c3b0 : (a0 == 1) = true := beq_iff_eq.mpr c3
   have c3b1 : (a0 != 1) = false := bne_eq_false_iff_eq.mpr c3
   clear c3
   (first | rw [c3b0] | (simp only [Y16, Y17]; rw [c3b0]) | skip)
   have H' := Y0.mk H
   clear H
   go_wp2
   go_meet
   case rel => exact ⟨_, ((a0 == 1)), Z7, H', ⟨Zr⟩, Zp⟩
  ·rw [if_neg c3] at H
   have c3b0 : (a0 == 1) = false := beq_eq_false_iff_ne.mpr c3
   have c3b1 : (a0 != 1) = true := bne_iff_ne.mpr c3
   (first | rw [c3b0] | (simp only [Y16, Y17]; rw [c3b0]) | skip)
   have H' := Y0.mk H
   clear H
   go_wp2
   go_meet
   case rel => exact ⟨_, ((a0 == 8)), Z7, H', ⟨Zr⟩, Zp⟩
 case rest =>
  clear HC2
  try clear p2
  try clear c3
  try clear c3b0
  try clear c3b1
  obtain ⟨kq, x4_1, rfl, HA, HJ1, ⟨mc1, rfl⟩⟩ := hcut
  cases kq with
  | zero => exact absurd HA.out (by simp [Yr.j0])
  | succ kj1 =>
   have H := HA.out
   clear HA
   simp only [Yr.j0] at H
   by_cases c4 : x4_1 = true
   ·subst c4
    have H1 : (some 0) = some r := by rw [if_pos rfl] at H; exact H
    clear H
    have H := H1
    clear H1
    obtain rfl := Option.some.inj H
    go_wp2
    go_ret
    exact ⟨Z7, Zp⟩
   ·replace c4 := Bool.eq_false_iff.mpr c4
    subst c4
    have H1 : (if a0 = 3 then (Yr.j1 kj1 a0 (a0 == 3)) else (Yr.j1 kj1 a0 (a0 == 4))) = some r := by rw [if_neg (show ¬ (false = true) by decide)] at H; exact H
    clear H
    have H := H1
    clear H1
    have HC5 := Y0.mk H
    clear H
    go_upto_if 7 with (fail)
    go_cut [7] (fun v7 wc => ∃ (kq : Nat) (x7_4 : Bool), v7 = .bool x7_4 ∧ Y0 (Yr.j1 kq a0 x7_4 = some r) ∧ Y0 (kq ≤ kj1) ∧ Y2w w wc)
    case first =>
     have H := HC5.out
     clear HC5
     by_cases c6 : a0 = 3
     ·rw [if_pos c6] at H
      have c6b0 : (a0 == 3) = true := beq_iff_eq.mpr c6
      have c6b1 : (a0 != 3) = false := bne_eq_false_iff_eq.mpr c6
      clear c6
      (first | rw [c6b0] | (simp only [Y16, Y17]; rw [c6b0]) | skip)
      have H' := Y0.mk H
      clear H
      go_wp2
      go_meet
      case rel => exact ⟨_, ((a0 == 3)), Z7, H', ⟨Z17⟩, Zp⟩
     ·rw [if_neg c6] at H
      have c6b0 : (a0 == 3) = false := beq_eq_false_iff_ne.mpr c6
      have c6b1 : (a0 != 3) = true := bne_iff_ne.mpr c6
      (first | rw [c6b0] | (simp only [Y16, Y17]; rw [c6b0]) | skip)
      have H' := Y0.mk H
      clear H
      go_wp2
      go_meet
      case rel => exact ⟨_, ((a0 == 4)), Z7, H', ⟨Z17⟩, Zp⟩
    case rest =>
     clear HC5
     try clear c1
     try clear p2
     try clear c3
     try clear c3b0
     try clear c3b1
     try clear c4
     try clear c6
     try clear c6b0
     try clear c6b1
     try clear p2
     obtain ⟨kq, x7_4, rfl, HA, HJ4, ⟨mc4, rfl⟩⟩ := hcut
     cases kq with
     | zero => exact absurd HA.out (by simp [Yr.j1])
     | succ kj4 =>
      have H := HA.out
      clear HA
      simp only [Yr.j1] at H
      by_cases c7 : x7_4 = true
      ·subst c7
       have H1 : (some 2) = some r := by rw [if_pos rfl] at H; exact H
       clear H
       have H := H1
       clear H1
       obtain rfl := Option.some.inj H
       go_wp2
       go_ret
       exact ⟨Z7, Zp⟩
      ·replace c7 := Bool.eq_false_iff.mpr c7
       subst c7
       have H1 : (if a0 = 2 then (some 1) else (if a0 = 5 then (some 1) else (if a0 = 6 then (some 1) else (if a0 = 7 then (some 1) else (some (-1)))))) = some r := by rw [if_neg (show ¬ (false = true) by decide)] at H; exact H
       clear H
       have H := H1
       clear H1
       by_cases c8 : a0 = 2
       ·rw [if_pos c8] at H
        have c8b0 : (a0 == 2) = true := beq_iff_eq.mpr c8
        have c8b1 : (a0 != 2) = false := bne_eq_false_iff_eq.mpr c8
        clear c8
        obtain rfl := Option.some.inj H
        go_wp2
        go_ret
        exact ⟨Z7, Zp⟩
       ·rw [if_neg c8] at H
        have c8b0 : (a0 == 2) = false := beq_eq_false_iff_ne.mpr c8
        have c8b1 : (a0 != 2) = true := bne_iff_ne.mpr c8
        by_cases c9 : a0 = 5
        ·rw [if_pos c9] at H
         have c9b0 : (a0 == 5) = true := beq_iff_eq.mpr c9
         have c9b1 : (a0 != 5) = false := bne_eq_false_iff_eq.mpr c9
         clear c9
         obtain rfl := Option.some.inj H
         go_wp2
         go_ret
         exact ⟨Z7, Zp⟩
        ·rw [if_neg c9] at H
         have c9b0 : (a0 == 5) = false := beq_eq_false_iff_ne.mpr c9
         have c9b1 : (a0 != 5) = true := bne_iff_ne.mpr c9
         by_cases c10 : a0 = 6
         ·rw [if_pos c10] at H
          have c10b0 : (a0 == 6) = true := beq_iff_eq.mpr c10
          have c10b1 : (a0 != 6) = false := bne_eq_false_iff_eq.mpr c10
          clear c10
          obtain rfl := Option.some.inj H
          go_wp2
          go_ret
          exact ⟨Z7, Zp⟩
         ·rw [if_neg c10] at H
          have c10b0 : (a0 == 6) = false := beq_eq_false_iff_ne.mpr c10
          have c10b1 : (a0 != 6) = true := bne_iff_ne.mpr c10
          by_cases c11 : a0 = 7
          ·rw [if_pos c11] at H
           have c11b0 : (a0 == 7) = true := beq_iff_eq.mpr c11
           have c11b1 : (a0 != 7) = false := bne_eq_false_iff_eq.mpr c11
           clear c11
           obtain rfl := Option.some.inj H
           go_wp2
           go_ret
           exact ⟨Z7, Zp⟩
          ·rw [if_neg c11] at H
           have c11b0 : (a0 == 7) = false := beq_eq_false_iff_ne.mpr c11
           have c11b1 : (a0 != 7) = true := bne_iff_ne.mpr c11
           obtain rfl := Option.some.inj H
           go_wp2
           go_ret
           exact ⟨Z7, Zp⟩
mutual
def Y5.j0 : Nat → Int → Bool → Int → ByteArray → List ByteArray → List (S37) → Option (Int)
 | 0, _, _, _, _, _, _ => none
 | k + 1, x1, x40, x102000, x102001, x102002, x102003 => if x40 = true then (some (-1)) else (if x102000 = 1 then ((YV.f x102001).bind fun t103 => (if t103 = true then (if x102000 = 8 then (if (x102002.length : Int) < 1 then (Y5.j1 k x1 true x102000 x102001 x102002 x102003) else (Y5.j1 k x1 (decide ((x102002.length : Int) > 4)) x102000 x102001 x102002 x102003)) else (Y5.j1 k x1 false x102000 x102001 x102002 x102003)) else (Y5.j1 k x1 true x102000 x102001 x102002 x102003))) else (if x102000 = 8 then (if (x102002.length : Int) < 1 then (Y5.j1 k x1 true x102000 x102001 x102002 x102003) else (Y5.j1 k x1 (decide ((x102002.length : Int) > 4)) x102000 x102001 x102002 x102003)) else (Y5.j1 k x1 false x102000 x102001 x102002 x102003)))
def Y5.j1 : Nat → Int → Bool → Int → ByteArray → List ByteArray → List (S37) → Option (Int)
 | 0, _, _, _, _, _, _ => none
 | k + 1, x1, x66, x102000, x102001, x102002, x102003 => if x66 = true then (some (-1)) else (Y5.l0 k x1 0 x102000 x102001 x102002 x102003)
def Y5.l0 : Nat → Int → Int → Int → ByteArray → List ByteArray → List (S37) → Option (Int)
 | 0, _, _, _, _, _, _ => none
 | k + 1, x1, x5, x102000, x102001, x102002, x102003 => if x5 < (x102002.length : Int) then (if 0 ≤ x5 then ((YV.f (Y37 ByteArray.empty x102002 x5)).bind fun t105 => (if t105 = true then (Y5.l0 k x1 (wrap64 (x5 + 1)) x102000 x102001 x102002 x102003) else (some (-1)))) else (none)) else (Y5.l1 k x1 1 0 x102000 x102001 x102002 x102003)
def Y5.l1 : Nat → Int → Int → Int → Int → ByteArray → List ByteArray → List (S37) → Option (Int)
 | 0, _, _, _, _, _, _, _ => none
 | k + 1, x1, x6, x7, x102000, x102001, x102002, x102003 => if x7 < (x102003.length : Int) then (if 0 ≤ x7 then ((Y5.f k ((Yk x102003 x7).f0) ((Yk x102003 x7).f1) ((Yk x102003 x7).f2) ((Yk x102003 x7).f3) (wrap64 (x1 + 1))).bind fun t107 => (if t107 < 0 then (some (-1)) else (Y5.l1 k x1 (wrap64 (x6 + t107)) (wrap64 (x7 + 1)) x102000 x102001 x102002 x102003))) else (none)) else (some x6)
def Y5.f : Nat → Int → ByteArray → List ByteArray → List (S37) → Int → Option (Int)
 | 0, _, _, _, _, _ => none
 | k + 1, a0_0, a0_1, l0_2, l0_3, a1 => (Yr.f k a0_0).bind fun t102 => (if t102 = (l0_3.length : Int) then (if a1 > 5 then (Y5.j0 k a1 true a0_0 a0_1 l0_2 l0_3) else (if a0_0 = 1 then (if a0_0 = 8 then (Y5.j0 k a1 false a0_0 a0_1 l0_2 l0_3) else (Y5.j0 k a1 (decide ((l0_2.length : Int) > 0)) a0_0 a0_1 l0_2 l0_3)) else (if a0_1.toList = ([] : List UInt8) then (if a0_0 = 8 then (Y5.j0 k a1 false a0_0 a0_1 l0_2 l0_3) else (Y5.j0 k a1 (decide ((l0_2.length : Int) > 0)) a0_0 a0_1 l0_2 l0_3)) else (Y5.j0 k a1 true a0_0 a0_1 l0_2 l0_3)))) else (Y5.j0 k a1 true a0_0 a0_1 l0_2 l0_3))
end
def Y5.T1 : Bool × List (List Nat × List Nat) := (true, [([], []), ([0], [0]), ([1], [1]), ([], []), ([3], [3]), ([4], [4]), ([2, 5], [2, 5]), ([6, 2], [6]), ([7], [7]), ([8, 7], [7, 8]), ([7, 9], [7, 9]), ([10, 7], [10]), ([11], [11]), ([12, 11], [11, 12]), ([13, 11], [11, 13]), ([14, 11, 11], [11, 14]), ([15], [15]), ([16, 15], [15, 16]), ([17, 15], [15, 17]), ([15, 18, 11], [11, 15, 18]), ([11, 19], [11, 19]), ([20, 15], [20]), ([21], [21]), ([22, 21], [21, 22]), ([23, 21], [21, 23]), ([24, 21, 21], [21, 24]), ([25], [25]), ([26, 25], [25, 26]), ([27, 25], [25, 27]), ([28, 25], [25, 28]), ([25, 29, 21], [21, 25, 29]), ([21, 30], [21, 30])])
def Y5.B1 : List Nat := [0, 1, 3, 0, 8, 24, 63, 127, 255, 511, 1023, 2047, 4095, 8191, 16383, 32767, 65535, 131071, 262143, 524287, 1048575, 2097151, 4194303, 8388607, 16777215, 33554431, 67108863, 134217727, 268435455, 536870911, 1073741823, 2147483647]
theorem Y5.tab1 : Y3G .any (Y3Z Tryd.f49 1) = Y5.T1 := by kernel_rfl
theorem Y5.bits1 : Y22 Y5.T1.2 Y5.B1 = true := by kernel_rfl
set_option maxHeartbeats 8000000 in
set_option maxRecDepth 100000 in
theorem Y5.calls (k : Nat) : ∀ (a0_0 : Int) (a0_1 : ByteArray) (A0_2 : Option Addr) (c0_2 : Nat) (l0_2 : List ByteArray) (A0_3 : Option Addr) (c0_3 : Nat) (l0_3 : List (S37)) (a1 : Int) (r : Int) (w : World) (hT : Tabs w) (hr0_2 : Kd.C Kd.string w A0_2 l0_2.length l0_2) (hc0_2 : l0_2.length ≤ c0_2) (hr0_3 : Kd.C k37 w A0_3 l0_3.length l0_3) (hc0_3 : l0_3.length ≤ c0_3) (h : Y5.f k a0_0 a0_1 l0_2 l0_3 a1 = some r),
  Calls Tryd.prog 49 #[.agg #[.int .i64 a0_0, .string a0_1, .slice A0_2 l0_2.length c0_2, .slice A0_3 l0_3.length c0_3], .int .i64 a1] w fun e w' => e = .returned (.int .i64 r) ∧ Below w.heap.size w w' := by
 induction k using Nat.strongRecOn with
 | _ k ih =>
 intro a0_0 a0_1 A0_2 c0_2 l0_2 A0_3 c0_3 l0_3 a1 r w hT hr0_2 hc0_2 hr0_3 hc0_3 h
 cases k with
 | zero => exact absurd h (by simp [Y5.f])
 | succ k =>
 simp only [Y5.f] at h
 have HT := Y0.mk hT
 clear hT
 have hu37 := Tryd.underlying37
 have HR0_2 := Y0.mk hr0_2
 have HC0_2 := Y0.mk hc0_2
 clear hr0_2 hc0_2
 have HR0_3 := Y0.mk hr0_3
 have HC0_3 := Y0.mk hc0_3
 clear hr0_3 hc0_3
 have HB := Y0.mk (Below.refl w.heap.size w)
 have H : ((Yr.f k a0_0).bind fun t102 => (if t102 = (l0_3.length : Int) then (if a1 > 5 then (Y5.j0 k a1 true a0_0 a0_1 l0_2 l0_3) else (if a0_0 = 1 then (if a0_0 = 8 then (Y5.j0 k a1 false a0_0 a0_1 l0_2 l0_3) else (Y5.j0 k a1 (decide ((l0_2.length : Int) > 0)) a0_0 a0_1 l0_2 l0_3)) else (if a0_1.toList = ([] : List UInt8) then (if a0_0 = 8 then (Y5.j0 k a1 false a0_0 a0_1 l0_2 l0_3) else (Y5.j0 k a1 (decide ((l0_2.length : Int) > 0)) a0_0 a0_1 l0_2 l0_3)) else (Y5.j0 k a1 true a0_0 a0_1 l0_2 l0_3)))) else (Y5.j0 k a1 true a0_0 a0_1 l0_2 l0_3))) = some r := h
 clear h
 have HC3 := Y0.mk H
 clear H
 go_enter Tryd.func49, Tryd.ntmps49
 go_upto_region 1 with (first | ((with_reducible refine YF (N := 2) rfl ?_); (try (refine YX (by rfl) ?_; dsimp only)); refine YE ?hg (N := 2) ?hd (cs := #[.int .i64 a0_0, .string a0_1, .slice A0_2 l0_2.length c0_2, .slice A0_3 l0_3.length c0_3]) (t := 37) ?hr ?_; (case hd => rfl); (case hg => rfl); (case hr => exact Za); intro gb101 hg w4 hbox hb; have n_ := Y31 (Yb QB hb) (hbox) ((by rw [hg]; exact (Ym QB) : w.heap.size ≤ gb101)) ((by rw [hg]; exact (Ym QB) : w.heap.size ≤ gb101)); clear HB; obtain ⟨HB, BK101, GW101, GE101⟩ := n_; clear hb hbox hg))
 (try simp only [Act.put, List.setIfInBounds_toArray, List.set_cons_zero, List.set_cons_succ])
 go_cut [40] (fun v40 wc => ∃ (kq : Nat) (x40_2 : Bool), v40 = .bool x40_2 ∧ Y0 (Y5.j0 kq a1 x40_2 a0_0 a0_1 l0_2 l0_3 = some r) ∧ Y0 (kq ≤ k) ∧ Y0 (wc.heap[gb101]? = some (.cells #[.int .i64 a0_0, .string a0_1, (.slice A0_2 l0_2.length c0_2), (.slice A0_3 l0_3.length c0_3)] 37 (0, 0))) ∧ Y0 (Below w.heap.size w wc))
 case first =>
  have H := HC3.out
  clear HC3
  replace H := Option.bind_eq_some_iff.mp H
  obtain ⟨t102, A50, H⟩ := H
  replace H : (if t102 = (l0_3.length : Int) then (if a1 > 5 then (Y5.j0 k a1 true a0_0 a0_1 l0_2 l0_3) else (if a0_0 = 1 then (if a0_0 = 8 then (Y5.j0 k a1 false a0_0 a0_1 l0_2 l0_3) else (Y5.j0 k a1 (decide ((l0_2.length : Int) > 0)) a0_0 a0_1 l0_2 l0_3)) else (if a0_1.toList = ([] : List UInt8) then (if a0_0 = 8 then (Y5.j0 k a1 false a0_0 a0_1 l0_2 l0_3) else (Y5.j0 k a1 (decide ((l0_2.length : Int) > 0)) a0_0 a0_1 l0_2 l0_3)) else (Y5.j0 k a1 true a0_0 a0_1 l0_2 l0_3)))) else (Y5.j0 k a1 true a0_0 a0_1 l0_2 l0_3)) = some r := H
  have A5 := Y0.mk A50
  clear A50
  by_cases c6 : t102 = (l0_3.length : Int)
  ·rw [if_pos c6] at H
   have c6b0 : (t102 == (l0_3.length : Int)) = true := beq_iff_eq.mpr c6
   have c6b1 : (t102 != (l0_3.length : Int)) = false := bne_eq_false_iff_eq.mpr c6
   clear c6
   (first | rw [c6b0] | (simp only [Y16, Y17]; rw [c6b0]) | skip)
   by_cases c7 : a1 > 5
   ·rw [if_pos c7] at H
    have c7b0 : decide (5 < a1) = true := decide_eq_true c7
    clear c7
    have H' := Y0.mk H
    clear H
    try go_wp2
    have n_ := Y2F (Ya BK101.out) (YP HB.out)
    clear BK101
    clear HB
    obtain ⟨BK101, HB⟩ := n_
    refine Y1l (n := 32) (S := fun w' => w'.cell? ⟨gb101, 0, none⟩ = some (.int .i64 a0_0) ∧ w'.cell? ⟨gb101, 1, none⟩ = some (.string a0_1) ∧ w'.cell? ⟨gb101, 2, none⟩ = some (.slice A0_2 l0_2.length c0_2) ∧ w'.cell? ⟨gb101, 3, none⟩ = some (.slice A0_3 l0_3.length c0_3)) (ds := []) Y4F Z6 rfl rfl ⟨(Y2 BK101.out 0).trans rfl, (Y2 BK101.out 1).trans rfl, (Y2 BK101.out 2).trans rfl, (Y2 BK101.out 3).trans rfl⟩ (fun hHeld => ?_); refine YW Y5.tab1 Y5.bits1 (fun HT_ HW_ => ?_)
    generalize w4.drew = w8 at BK101 HB hHeld ⊢
    refine pY 0 9 Y4G ?_
    refine pY 3 12 Y4H ?_
    refine pT 1 10 Y4I ?_
    refine pT 4 13 Y3Q ?_
    refine pY 5 14 Y3R ?_
    refine Y2T (i := 2) (N := some 11) Y3S rfl rfl (Y1j HT_.out Z6) (by decide) (fun K hK => ?_)
    refine Y21 Tryd.func92 Z6 rfl #[.int .i64 a0_0] (by rfl) rfl rfl Z0 ?_
    with_reducible refine (Yr.calls k a0_0 t102 _ A5.out).mono ?_
    rintro e w' ⟨rfl, ⟨nd, rfl⟩⟩
    refine ⟨_, rfl, ?_⟩
    refine hK.out _ _ ⟨(Y2 BK101.out 0).trans rfl, (Y2 BK101.out 1).trans rfl, (Y2 BK101.out 2).trans rfl, (Y2 BK101.out 3).trans rfl⟩ (fun hHeld => ?_)
    clear hK K
    refine Y1H (a' := ?_) ?_ ?_
    rotate_left
    ·show Act.put _ (some 11) _ = _
     simp only [Act.put, List.setIfInBounds_toArray, List.set_cons_zero, List.set_cons_succ, Y16, Y17]
     rfl
    refine pY 6 15 Y3T ?_
    refine pY 7 16 Y3U ?_
    refine pY 8 17 Y3h ?_
    refine pY 9 18 Y3i ?_
    refine pY 10 19 Y3j ?_
    refine pY 11 20 Y3k ?_
    refine pU 12 21 Y2V ?_
    refine pU 13 22 Y2W ?_
    refine pU 14 23 Y2X ?_
    refine pU 15 24 Y2Y ?_
    refine pU 16 25 Y2B ?_
    refine pU 17 26 Y2C ?_
    refine pU 18 27 Y2D ?_
    refine pU 19 28 Y2E ?_
    refine pY 20 29 Y2n ?_
    refine pY 21 30 Y2o ?_
    refine pU 22 31 Y2p ?_
    refine pU 23 32 Y2q ?_
    refine pU 24 33 Y25 ?_
    refine pU 25 34 Y26 ?_
    refine pU 26 35 Y27 ?_
    refine pU 27 36 Y28 ?_
    refine pU 28 37 Y1S ?_
    refine pU 29 38 Y1T ?_
    refine pU 30 39 Y1U ?_
    refine pY 31 40 Y1V ?_
    refine Y1Q (Y1a HT_.out Z6) ?_
    try go_wp2
    go_meet
    case rel => exact Z2f
   ·rw [if_neg c7] at H
    have c7b0 : decide (5 < a1) = false := decide_eq_false c7
    clear c7
    by_cases c9 : a0_0 = 1
    ·rw [if_pos c9] at H
     have c9b0 : (a0_0 == 1) = true := beq_iff_eq.mpr c9
     have c9b1 : (a0_0 != 1) = false := bne_eq_false_iff_eq.mpr c9
     clear c9
     by_cases c10 : a0_0 = 8
     ·rw [if_pos c10] at H
      have c10b0 : (a0_0 == 8) = true := beq_iff_eq.mpr c10
      have c10b1 : (a0_0 != 8) = false := bne_eq_false_iff_eq.mpr c10
      clear c10
      have H' := Y0.mk H
      clear H
      try go_wp2
      have n_ := Y2F (Ya BK101.out) (YP HB.out)
      clear BK101
      clear HB
      obtain ⟨BK101, HB⟩ := n_
      refine Y1l (n := 32) (S := fun w' => w'.cell? ⟨gb101, 0, none⟩ = some (.int .i64 a0_0) ∧ w'.cell? ⟨gb101, 1, none⟩ = some (.string a0_1) ∧ w'.cell? ⟨gb101, 2, none⟩ = some (.slice A0_2 l0_2.length c0_2) ∧ w'.cell? ⟨gb101, 3, none⟩ = some (.slice A0_3 l0_3.length c0_3)) (ds := []) Y4F Z6 rfl rfl ⟨(Y2 BK101.out 0).trans rfl, (Y2 BK101.out 1).trans rfl, (Y2 BK101.out 2).trans rfl, (Y2 BK101.out 3).trans rfl⟩ (fun hHeld => ?_); refine YW Y5.tab1 Y5.bits1 (fun HT_ HW_ => ?_)
      generalize w4.drew = w11 at BK101 HB hHeld ⊢
      refine pY 0 9 Y4G ?_
      refine pY 3 12 Y4H ?_
      refine pT 1 10 Y4I ?_
      refine pT 4 13 Y3Q ?_
      refine pY 5 14 Y3R ?_
      refine Y2T (i := 2) (N := some 11) Y3S rfl rfl (Y1j HT_.out Z6) (by decide) (fun K hK => ?_)
      refine Y21 Tryd.func92 Z6 rfl #[.int .i64 a0_0] (by rfl) rfl rfl Z0 ?_
      with_reducible refine (Yr.calls k a0_0 t102 _ A5.out).mono ?_
      rintro e w' ⟨rfl, ⟨nd, rfl⟩⟩
      refine ⟨_, rfl, ?_⟩
      refine hK.out _ _ ⟨(Y2 BK101.out 0).trans rfl, (Y2 BK101.out 1).trans rfl, (Y2 BK101.out 2).trans rfl, (Y2 BK101.out 3).trans rfl⟩ (fun hHeld => ?_)
      clear hK K
      refine Y1H (a' := ?_) ?_ ?_
      rotate_left
      ·show Act.put _ (some 11) _ = _
       simp only [Act.put, List.setIfInBounds_toArray, List.set_cons_zero, List.set_cons_succ, Y16, Y17]
       rfl
      refine pY 6 15 Y3T ?_
      refine pY 7 16 Y3U ?_
      refine pY 8 17 Y3h ?_
      refine pY 9 18 Y3i ?_
      refine pY 10 19 Y3j ?_
      refine pY 11 20 Y3k ?_
      refine pY 12 21 Y2V ?_
      refine pT 13 22 Y2W ?_
      refine pY 14 23 Y2X ?_
      refine pY 15 24 Y2Y ?_
      refine pU 16 25 Y2B ?_
      refine pU 17 26 Y2C ?_
      refine pU 18 27 Y2D ?_
      refine pY 19 28 Y2E ?_
      refine pY 20 29 Y2n ?_
      refine pY 21 30 Y2o ?_
      refine pY 22 31 Y2p ?_
      refine pT 23 32 Y2q ?_
      refine pY 24 33 Y25 ?_
      refine pY 25 34 Y26 ?_
      refine pU 26 35 Y27 ?_
      refine pU 27 36 Y28 ?_
      refine pU 28 37 Y1S ?_
      refine pU 29 38 Y1T ?_
      refine pY 30 39 Y1U ?_
      refine pY 31 40 Y1V ?_
      refine Y1Q (Y1a HT_.out Z6) ?_
      try go_wp2
      go_meet
      case rel => exact ⟨_, (false), Z7, H', ⟨Zr⟩, ⟨Z4⟩, ⟨QB⟩⟩
     ·rw [if_neg c10] at H
      have c10b0 : (a0_0 == 8) = false := beq_eq_false_iff_ne.mpr c10
      have c10b1 : (a0_0 != 8) = true := bne_iff_ne.mpr c10
      have H' := Y0.mk H
      clear H
      try go_wp2
      have n_ := Y2F (Ya BK101.out) (YP HB.out)
      clear BK101
      clear HB
      obtain ⟨BK101, HB⟩ := n_
      refine Y1l (n := 32) (S := fun w' => w'.cell? ⟨gb101, 0, none⟩ = some (.int .i64 a0_0) ∧ w'.cell? ⟨gb101, 1, none⟩ = some (.string a0_1) ∧ w'.cell? ⟨gb101, 2, none⟩ = some (.slice A0_2 l0_2.length c0_2) ∧ w'.cell? ⟨gb101, 3, none⟩ = some (.slice A0_3 l0_3.length c0_3)) (ds := []) Y4F Z6 rfl rfl ⟨(Y2 BK101.out 0).trans rfl, (Y2 BK101.out 1).trans rfl, (Y2 BK101.out 2).trans rfl, (Y2 BK101.out 3).trans rfl⟩ (fun hHeld => ?_); refine YW Y5.tab1 Y5.bits1 (fun HT_ HW_ => ?_)
      generalize w4.drew = w12 at BK101 HB hHeld ⊢
      refine pY 0 9 Y4G ?_
      refine pY 3 12 Y4H ?_
      refine pT 1 10 Y4I ?_
      refine pT 4 13 Y3Q ?_
      refine pY 5 14 Y3R ?_
      refine Y2T (i := 2) (N := some 11) Y3S rfl rfl (Y1j HT_.out Z6) (by decide) (fun K hK => ?_)
      refine Y21 Tryd.func92 Z6 rfl #[.int .i64 a0_0] (by rfl) rfl rfl Z0 ?_
      with_reducible refine (Yr.calls k a0_0 t102 _ A5.out).mono ?_
      rintro e w' ⟨rfl, ⟨nd, rfl⟩⟩
      refine ⟨_, rfl, ?_⟩
      refine hK.out _ _ ⟨(Y2 BK101.out 0).trans rfl, (Y2 BK101.out 1).trans rfl, (Y2 BK101.out 2).trans rfl, (Y2 BK101.out 3).trans rfl⟩ (fun hHeld => ?_)
      clear hK K
      refine Y1H (a' := ?_) ?_ ?_
      rotate_left
      ·show Act.put _ (some 11) _ = _
       simp only [Act.put, List.setIfInBounds_toArray, List.set_cons_zero, List.set_cons_succ, Y16, Y17]
       rfl
      refine pY 6 15 Y3T ?_
      refine pY 7 16 Y3U ?_
      refine pY 8 17 Y3h ?_
      refine pY 9 18 Y3i ?_
      refine pY 10 19 Y3j ?_
      refine pY 11 20 Y3k ?_
      refine pY 12 21 Y2V ?_
      refine pT 13 22 Y2W ?_
      refine pY 14 23 Y2X ?_
      refine pY 15 24 Y2Y ?_
      refine pU 16 25 Y2B ?_
      refine pU 17 26 Y2C ?_
      refine pU 18 27 Y2D ?_
      refine pY 19 28 Y2E ?_
      refine pY 20 29 Y2n ?_
      refine pY 21 30 Y2o ?_
      refine pY 22 31 Y2p ?_
      refine pT 23 32 Y2q ?_
      refine pY 24 33 Y25 ?_
      refine pY 25 34 Y26 ?_
      refine pY 26 35 Y27 ?_
      refine pT 27 36 Y28 ?_
      refine pY 28 37 Y1S ?_
      refine pY 29 38 Y1T ?_
      refine pY 30 39 Y1U ?_
      refine pY 31 40 Y1V ?_
      refine Y1Q (Y1a HT_.out Z6) ?_
      try go_wp2
      go_meet
      case rel => exact ⟨_, (decide ((l0_2.length : Int) > 0)), Z7, H', ⟨Zr⟩, ⟨Z4⟩, ⟨QB⟩⟩
    ·rw [if_neg c9] at H
     have c9b0 : (a0_0 == 1) = false := beq_eq_false_iff_ne.mpr c9
     have c9b1 : (a0_0 != 1) = true := bne_iff_ne.mpr c9
     by_cases c13 : a0_1.toList = ([] : List UInt8)
     ·rw [if_pos c13] at H
      have c13b0 : (a0_1.toList == ([] : List UInt8)) = true := beq_iff_eq.mpr c13
      have c13b1 : (a0_1.toList != ([] : List UInt8)) = false := bne_eq_false_iff_eq.mpr c13
      clear c13
      by_cases c14 : a0_0 = 8
      ·rw [if_pos c14] at H
       have c14b0 : (a0_0 == 8) = true := beq_iff_eq.mpr c14
       have c14b1 : (a0_0 != 8) = false := bne_eq_false_iff_eq.mpr c14
       clear c14
       have H' := Y0.mk H
       clear H
       try go_wp2
       have n_ := Y2F (Ya BK101.out) (YP HB.out)
       clear BK101
       clear HB
       obtain ⟨BK101, HB⟩ := n_
       refine Y1l (n := 32) (S := fun w' => w'.cell? ⟨gb101, 0, none⟩ = some (.int .i64 a0_0) ∧ w'.cell? ⟨gb101, 1, none⟩ = some (.string a0_1) ∧ w'.cell? ⟨gb101, 2, none⟩ = some (.slice A0_2 l0_2.length c0_2) ∧ w'.cell? ⟨gb101, 3, none⟩ = some (.slice A0_3 l0_3.length c0_3)) (ds := []) Y4F Z6 rfl rfl ⟨(Y2 BK101.out 0).trans rfl, (Y2 BK101.out 1).trans rfl, (Y2 BK101.out 2).trans rfl, (Y2 BK101.out 3).trans rfl⟩ (fun hHeld => ?_); refine YW Y5.tab1 Y5.bits1 (fun HT_ HW_ => ?_)
       generalize w4.drew = w15 at BK101 HB hHeld ⊢
       refine pY 0 9 Y4G ?_
       refine pY 3 12 Y4H ?_
       refine pT 1 10 Y4I ?_
       refine pT 4 13 Y3Q ?_
       refine pY 5 14 Y3R ?_
       refine Y2T (i := 2) (N := some 11) Y3S rfl rfl (Y1j HT_.out Z6) (by decide) (fun K hK => ?_)
       refine Y21 Tryd.func92 Z6 rfl #[.int .i64 a0_0] (by rfl) rfl rfl Z0 ?_
       with_reducible refine (Yr.calls k a0_0 t102 _ A5.out).mono ?_
       rintro e w' ⟨rfl, ⟨nd, rfl⟩⟩
       refine ⟨_, rfl, ?_⟩
       refine hK.out _ _ ⟨(Y2 BK101.out 0).trans rfl, (Y2 BK101.out 1).trans rfl, (Y2 BK101.out 2).trans rfl, (Y2 BK101.out 3).trans rfl⟩ (fun hHeld => ?_)
       clear hK K
       refine Y1H (a' := ?_) ?_ ?_
       rotate_left
       ·show Act.put _ (some 11) _ = _
        simp only [Act.put, List.setIfInBounds_toArray, List.set_cons_zero, List.set_cons_succ, Y16, Y17]
        rfl
       refine pY 6 15 Y3T ?_
       refine pY 7 16 Y3U ?_
       refine pY 8 17 Y3h ?_
       refine pY 9 18 Y3i ?_
       refine pY 10 19 Y3j ?_
       refine pY 11 20 Y3k ?_
       refine pY 12 21 Y2V ?_
       refine pT 13 22 Y2W ?_
       refine pY 14 23 Y2X ?_
       refine pY 15 24 Y2Y ?_
       refine pY 16 25 Y2B ?_
       refine pT 17 26 Y2C ?_
       refine pY 18 27 Y2D ?_
       refine pY 19 28 Y2E ?_
       refine pY 20 29 Y2n ?_
       refine pY 21 30 Y2o ?_
       refine pY 22 31 Y2p ?_
       refine pT 23 32 Y2q ?_
       refine pY 24 33 Y25 ?_
       refine pY 25 34 Y26 ?_
       refine pU 26 35 Y27 ?_
       refine pU 27 36 Y28 ?_
       refine pU 28 37 Y1S ?_
       refine pU 29 38 Y1T ?_
       refine pY 30 39 Y1U ?_
       refine pY 31 40 Y1V ?_
       refine Y1Q (Y1a HT_.out Z6) ?_
       try go_wp2
       go_meet
       case rel => exact ⟨_, (false), Z7, H', ⟨Zr⟩, ⟨Z4⟩, ⟨QB⟩⟩
      ·rw [if_neg c14] at H
       have c14b0 : (a0_0 == 8) = false := beq_eq_false_iff_ne.mpr c14
       have c14b1 : (a0_0 != 8) = true := bne_iff_ne.mpr c14
       have H' := Y0.mk H
       clear H
       try go_wp2
       have n_ := Y2F (Ya BK101.out) (YP HB.out)
       clear BK101
       clear HB
       obtain ⟨BK101, HB⟩ := n_
       refine Y1l (n := 32) (S := fun w' => w'.cell? ⟨gb101, 0, none⟩ = some (.int .i64 a0_0) ∧ w'.cell? ⟨gb101, 1, none⟩ = some (.string a0_1) ∧ w'.cell? ⟨gb101, 2, none⟩ = some (.slice A0_2 l0_2.length c0_2) ∧ w'.cell? ⟨gb101, 3, none⟩ = some (.slice A0_3 l0_3.length c0_3)) (ds := []) Y4F Z6 rfl rfl ⟨(Y2 BK101.out 0).trans rfl, (Y2 BK101.out 1).trans rfl, (Y2 BK101.out 2).trans rfl, (Y2 BK101.out 3).trans rfl⟩ (fun hHeld => ?_); refine YW Y5.tab1 Y5.bits1 (fun HT_ HW_ => ?_)
       generalize w4.drew = w16 at BK101 HB hHeld ⊢
       refine pY 0 9 Y4G ?_
       refine pY 3 12 Y4H ?_
       refine pT 1 10 Y4I ?_
       refine pT 4 13 Y3Q ?_
       refine pY 5 14 Y3R ?_
       refine Y2T (i := 2) (N := some 11) Y3S rfl rfl (Y1j HT_.out Z6) (by decide) (fun K hK => ?_)
       refine Y21 Tryd.func92 Z6 rfl #[.int .i64 a0_0] (by rfl) rfl rfl Z0 ?_
       with_reducible refine (Yr.calls k a0_0 t102 _ A5.out).mono ?_
       rintro e w' ⟨rfl, ⟨nd, rfl⟩⟩
       refine ⟨_, rfl, ?_⟩
       refine hK.out _ _ ⟨(Y2 BK101.out 0).trans rfl, (Y2 BK101.out 1).trans rfl, (Y2 BK101.out 2).trans rfl, (Y2 BK101.out 3).trans rfl⟩ (fun hHeld => ?_)
       clear hK K
       refine Y1H (a' := ?_) ?_ ?_
       rotate_left
       ·show Act.put _ (some 11) _ = _
        simp only [Act.put, List.setIfInBounds_toArray, List.set_cons_zero, List.set_cons_succ, Y16, Y17]
        rfl
       refine pY 6 15 Y3T ?_
       refine pY 7 16 Y3U ?_
       refine pY 8 17 Y3h ?_
       refine pY 9 18 Y3i ?_
       refine pY 10 19 Y3j ?_
       refine pY 11 20 Y3k ?_
       refine pY 12 21 Y2V ?_
       refine pT 13 22 Y2W ?_
       refine pY 14 23 Y2X ?_
       refine pY 15 24 Y2Y ?_
       refine pY 16 25 Y2B ?_
       refine pT 17 26 Y2C ?_
       refine pY 18 27 Y2D ?_
       refine pY 19 28 Y2E ?_
       refine pY 20 29 Y2n ?_
       refine pY 21 30 Y2o ?_
       refine pY 22 31 Y2p ?_
       refine pT 23 32 Y2q ?_
       refine pY 24 33 Y25 ?_
       refine pY 25 34 Y26 ?_
       refine pY 26 35 Y27 ?_
       refine pT 27 36 Y28 ?_
       refine pY 28 37 Y1S ?_
       refine pY 29 38 Y1T ?_
       refine pY 30 39 Y1U ?_
       refine pY 31 40 Y1V ?_
       refine Y1Q (Y1a HT_.out Z6) ?_
       try go_wp2
       go_meet
       case rel => exact ⟨_, (decide ((l0_2.length : Int) > 0)), Z7, H', ⟨Zr⟩, ⟨Z4⟩, ⟨QB⟩⟩
     ·rw [if_neg c13] at H
      have c13b0 : (a0_1.toList == ([] : List UInt8)) = false := beq_eq_false_iff_ne.mpr c13
      have c13b1 : (a0_1.toList != ([] : List UInt8)) = true := bne_iff_ne.mpr c13
      have H' := Y0.mk H
      clear H
      try go_wp2
      have n_ := Y2F (Ya BK101.out) (YP HB.out)
      clear BK101
      clear HB
      obtain ⟨BK101, HB⟩ := n_
      refine Y1l (n := 32) (S := fun w' => w'.cell? ⟨gb101, 0, none⟩ = some (.int .i64 a0_0) ∧ w'.cell? ⟨gb101, 1, none⟩ = some (.string a0_1) ∧ w'.cell? ⟨gb101, 2, none⟩ = some (.slice A0_2 l0_2.length c0_2) ∧ w'.cell? ⟨gb101, 3, none⟩ = some (.slice A0_3 l0_3.length c0_3)) (ds := []) Y4F Z6 rfl rfl ⟨(Y2 BK101.out 0).trans rfl, (Y2 BK101.out 1).trans rfl, (Y2 BK101.out 2).trans rfl, (Y2 BK101.out 3).trans rfl⟩ (fun hHeld => ?_); refine YW Y5.tab1 Y5.bits1 (fun HT_ HW_ => ?_)
      generalize w4.drew = w17 at BK101 HB hHeld ⊢
      refine pY 0 9 Y4G ?_
      refine pY 3 12 Y4H ?_
      refine pT 1 10 Y4I ?_
      refine pT 4 13 Y3Q ?_
      refine pY 5 14 Y3R ?_
      refine Y2T (i := 2) (N := some 11) Y3S rfl rfl (Y1j HT_.out Z6) (by decide) (fun K hK => ?_)
      refine Y21 Tryd.func92 Z6 rfl #[.int .i64 a0_0] (by rfl) rfl rfl Z0 ?_
      with_reducible refine (Yr.calls k a0_0 t102 _ A5.out).mono ?_
      rintro e w' ⟨rfl, ⟨nd, rfl⟩⟩
      refine ⟨_, rfl, ?_⟩
      refine hK.out _ _ ⟨(Y2 BK101.out 0).trans rfl, (Y2 BK101.out 1).trans rfl, (Y2 BK101.out 2).trans rfl, (Y2 BK101.out 3).trans rfl⟩ (fun hHeld => ?_)
      clear hK K
      refine Y1H (a' := ?_) ?_ ?_
      rotate_left
      ·show Act.put _ (some 11) _ = _
       simp only [Act.put, List.setIfInBounds_toArray, List.set_cons_zero, List.set_cons_succ, Y16, Y17]
       rfl
      refine pY 6 15 Y3T ?_
      refine pY 7 16 Y3U ?_
      refine pY 8 17 Y3h ?_
      refine pY 9 18 Y3i ?_
      refine pY 10 19 Y3j ?_
      refine pY 11 20 Y3k ?_
      refine pY 12 21 Y2V ?_
      refine pT 13 22 Y2W ?_
      refine pY 14 23 Y2X ?_
      refine pY 15 24 Y2Y ?_
      refine pY 16 25 Y2B ?_
      refine pT 17 26 Y2C ?_
      refine pY 18 27 Y2D ?_
      refine pY 19 28 Y2E ?_
      refine pY 20 29 Y2n ?_
      refine pY 21 30 Y2o ?_
      refine pU 22 31 Y2p ?_
      refine pU 23 32 Y2q ?_
      refine pU 24 33 Y25 ?_
      refine pU 25 34 Y26 ?_
      refine pU 26 35 Y27 ?_
      refine pU 27 36 Y28 ?_
      refine pU 28 37 Y1S ?_
      refine pU 29 38 Y1T ?_
      refine pU 30 39 Y1U ?_
      refine pY 31 40 Y1V ?_
      refine Y1Q (Y1a HT_.out Z6) ?_
      try go_wp2
      go_meet
      case rel => exact Z2f
  ·rw [if_neg c6] at H
   have c6b0 : (t102 == (l0_3.length : Int)) = false := beq_eq_false_iff_ne.mpr c6
   have c6b1 : (t102 != (l0_3.length : Int)) = true := bne_iff_ne.mpr c6
   (first | rw [c6b0] | (simp only [Y16, Y17]; rw [c6b0]) | skip)
   have H' := Y0.mk H
   clear H
   try go_wp2
   have n_ := Y2F (Ya BK101.out) (YP HB.out)
   clear BK101
   clear HB
   obtain ⟨BK101, HB⟩ := n_
   refine Y1l (n := 32) (S := fun w' => w'.cell? ⟨gb101, 0, none⟩ = some (.int .i64 a0_0) ∧ w'.cell? ⟨gb101, 1, none⟩ = some (.string a0_1) ∧ w'.cell? ⟨gb101, 2, none⟩ = some (.slice A0_2 l0_2.length c0_2) ∧ w'.cell? ⟨gb101, 3, none⟩ = some (.slice A0_3 l0_3.length c0_3)) (ds := []) Y4F Z6 rfl rfl ⟨(Y2 BK101.out 0).trans rfl, (Y2 BK101.out 1).trans rfl, (Y2 BK101.out 2).trans rfl, (Y2 BK101.out 3).trans rfl⟩ (fun hHeld => ?_); refine YW Y5.tab1 Y5.bits1 (fun HT_ HW_ => ?_)
   generalize w4.drew = w18 at BK101 HB hHeld ⊢
   refine pY 0 9 Y4G ?_
   refine pY 3 12 Y4H ?_
   refine pT 1 10 Y4I ?_
   refine pT 4 13 Y3Q ?_
   refine pY 5 14 Y3R ?_
   refine Y2T (i := 2) (N := some 11) Y3S rfl rfl (Y1j HT_.out Z6) (by decide) (fun K hK => ?_)
   refine Y21 Tryd.func92 Z6 rfl #[.int .i64 a0_0] (by rfl) rfl rfl Z0 ?_
   with_reducible refine (Yr.calls k a0_0 t102 _ A5.out).mono ?_
   rintro e w' ⟨rfl, ⟨nd, rfl⟩⟩
   refine ⟨_, rfl, ?_⟩
   refine hK.out _ _ ⟨(Y2 BK101.out 0).trans rfl, (Y2 BK101.out 1).trans rfl, (Y2 BK101.out 2).trans rfl, (Y2 BK101.out 3).trans rfl⟩ (fun hHeld => ?_)
   clear hK K
   refine Y1H (a' := ?_) ?_ ?_
   rotate_left
   ·show Act.put _ (some 11) _ = _
    simp only [Act.put, List.setIfInBounds_toArray, List.set_cons_zero, List.set_cons_succ, Y16, Y17]
    rfl
   refine pY 6 15 Y3T ?_
   refine pY 7 16 Y3U ?_
   refine pU 8 17 Y3h ?_
   refine pU 9 18 Y3i ?_
   refine pY 10 19 Y3j ?_
   refine pY 11 20 Y3k ?_
   refine pU 12 21 Y2V ?_
   refine pU 13 22 Y2W ?_
   refine pU 14 23 Y2X ?_
   refine pU 15 24 Y2Y ?_
   refine pU 16 25 Y2B ?_
   refine pU 17 26 Y2C ?_
   refine pU 18 27 Y2D ?_
   refine pU 19 28 Y2E ?_
   refine pY 20 29 Y2n ?_
   refine pY 21 30 Y2o ?_
   refine pU 22 31 Y2p ?_
   refine pU 23 32 Y2q ?_
   refine pU 24 33 Y25 ?_
   refine pU 25 34 Y26 ?_
   refine pU 26 35 Y27 ?_
   refine pU 27 36 Y28 ?_
   refine pU 28 37 Y1S ?_
   refine pU 29 38 Y1T ?_
   refine pU 30 39 Y1U ?_
   refine pY 31 40 Y1V ?_
   refine Y1Q (Y1a HT_.out Z6) ?_
   try go_wp2
   go_meet
   case rel => exact Z2f
 case rest =>
  clear HC3
  try clear c1
  try clear p2
  try clear c6
  try clear c6b0
  try clear c6b1
  try clear c9
  try clear c13
  try clear c13b0
  try clear c13b1
  obtain ⟨kq, x40_2, rfl, HA, HJ2, BK101, HB⟩ := hcut
  cases kq with
  | zero => exact absurd HA.out (by simp [Y5.j0])
  | succ kj2 =>
   have H := HA.out
   clear HA
   simp only [Y5.j0] at H
   by_cases c19 : x40_2 = true
   ·subst c19
    have H1 : (some (-1)) = some r := by rw [if_pos rfl] at H; exact H
    clear H
    have H := H1
    clear H1
    obtain rfl := Option.some.inj H
    go_wp2
    go_ret
    exact Z2d
   ·replace c19 := Bool.eq_false_iff.mpr c19
    subst c19
    have H1 : (if a0_0 = 1 then ((YV.f a0_1).bind fun t103 => (if t103 = true then (if a0_0 = 8 then (if (l0_2.length : Int) < 1 then (Y5.j1 kj2 a1 true a0_0 a0_1 l0_2 l0_3) else (Y5.j1 kj2 a1 (decide ((l0_2.length : Int) > 4)) a0_0 a0_1 l0_2 l0_3)) else (Y5.j1 kj2 a1 false a0_0 a0_1 l0_2 l0_3)) else (Y5.j1 kj2 a1 true a0_0 a0_1 l0_2 l0_3))) else (if a0_0 = 8 then (if (l0_2.length : Int) < 1 then (Y5.j1 kj2 a1 true a0_0 a0_1 l0_2 l0_3) else (Y5.j1 kj2 a1 (decide ((l0_2.length : Int) > 4)) a0_0 a0_1 l0_2 l0_3)) else (Y5.j1 kj2 a1 false a0_0 a0_1 l0_2 l0_3))) = some r := by rw [if_neg (show ¬ (false = true) by decide)] at H; exact H
    clear H
    have H := H1
    clear H1
    have HC20 := Y0.mk H
    clear H
    go_upto_region 3 with (fail)
    go_cut [66] (fun v66 wc => ∃ (kq : Nat) (x66_19 : Bool), v66 = .bool x66_19 ∧ Y0 (Y5.j1 kq a1 x66_19 a0_0 a0_1 l0_2 l0_3 = some r) ∧ Y0 (kq ≤ kj2) ∧ Y0 (wc.heap[gb101]? = some (.cells #[.int .i64 a0_0, .string a0_1, (.slice A0_2 l0_2.length c0_2), (.slice A0_3 l0_3.length c0_3)] 37 (0, 0))) ∧ Y0 (Below w.heap.size w wc))
    case first =>
     have H := HC20.out
     clear HC20
     by_cases c21 : a0_0 = 1
     ·rw [if_pos c21] at H
      have c21b0 : (a0_0 == 1) = true := beq_iff_eq.mpr c21
      have c21b1 : (a0_0 != 1) = false := bne_eq_false_iff_eq.mpr c21
      clear c21
      (first | rw [c21b0] | (simp only [Y16, Y17]; rw [c21b0]) | skip)
      replace H := Option.bind_eq_some_iff.mp H
      obtain ⟨t103, A220, H⟩ := H
      replace H : (if t103 = true then (if a0_0 = 8 then (if (l0_2.length : Int) < 1 then (Y5.j1 kj2 a1 true a0_0 a0_1 l0_2 l0_3) else (Y5.j1 kj2 a1 (decide ((l0_2.length : Int) > 4)) a0_0 a0_1 l0_2 l0_3)) else (Y5.j1 kj2 a1 false a0_0 a0_1 l0_2 l0_3)) else (Y5.j1 kj2 a1 true a0_0 a0_1 l0_2 l0_3)) = some r := H
      have A22 := Y0.mk A220
      clear A220
      by_cases c23 : t103 = true
      ·subst c23
       have H1 : (if a0_0 = 8 then (if (l0_2.length : Int) < 1 then (Y5.j1 kj2 a1 true a0_0 a0_1 l0_2 l0_3) else (Y5.j1 kj2 a1 (decide ((l0_2.length : Int) > 4)) a0_0 a0_1 l0_2 l0_3)) else (Y5.j1 kj2 a1 false a0_0 a0_1 l0_2 l0_3)) = some r := by rw [if_pos rfl] at H; exact H
       clear H
       have H := H1
       clear H1
       by_cases c24 : a0_0 = 8
       ·rw [if_pos c24] at H
        have c24b0 : (a0_0 == 8) = true := beq_iff_eq.mpr c24
        have c24b1 : (a0_0 != 8) = false := bne_eq_false_iff_eq.mpr c24
        clear c24
        by_cases c25 : (l0_2.length : Int) < 1
        ·rw [if_pos c25] at H
         have c25b0 : decide ((l0_2.length : Int) < 1) = true := decide_eq_true c25
         have c25b1 : decide (l0_2.length < 1) = true := decide_eq_true (by omega)
         clear c25
         have H' := Y0.mk H
         clear H
         obtain ⟨hcz26_0, hcz26_1, hcz26_2, hcz26_3, hfz26_0, hfz26_1, hfz26_2, hfz26_3⟩ := YA BK101.out
         go_wp2_with (first | (go_at_call 45; (with_reducible refine (YV.calls a0_1 true _ ?side1 A22.out).mono ?_); (case side1 => exact Z3); rintro e w27 ⟨rfl, hb⟩; have n_ := Y2F (Yu (g := gb101) (o := .cells #[.int .i64 a0_0, .string a0_1, .slice A0_2 l0_2.length c0_2, .slice A0_3 l0_3.length c0_3] 37 (0, 0)) QQ hb) (Yb QB hb); clear BK101 HB; obtain ⟨BK101, HB⟩ := n_; (try clear hb); (try clear hb2); (try clear hk); (try clear hi); obtain ⟨hcz28_0, hcz28_1, hcz28_2, hcz28_3, hfz28_0, hfz28_1, hfz28_2, hfz28_3⟩ := YA BK101.out))
         go_meet
         case rel => exact ⟨_, (true), Z7, H', ⟨Z1a⟩, ⟨Z4⟩, ⟨QB⟩⟩
        ·rw [if_neg c25] at H
         have c25b0 : decide ((l0_2.length : Int) < 1) = false := decide_eq_false c25
         have c25b1 : decide (l0_2.length < 1) = false := decide_eq_false (by omega)
         clear c25
         have H' := Y0.mk H
         clear H
         obtain ⟨hcz29_0, hcz29_1, hcz29_2, hcz29_3, hfz29_0, hfz29_1, hfz29_2, hfz29_3⟩ := YA BK101.out
         go_wp2_with (first | (go_at_call 45; (with_reducible refine (YV.calls a0_1 true _ ?side1 A22.out).mono ?_); (case side1 => exact Z3); rintro e w30 ⟨rfl, hb⟩; have n_ := Y2F (Yu (g := gb101) (o := .cells #[.int .i64 a0_0, .string a0_1, .slice A0_2 l0_2.length c0_2, .slice A0_3 l0_3.length c0_3] 37 (0, 0)) QQ hb) (Yb QB hb); clear BK101 HB; obtain ⟨BK101, HB⟩ := n_; (try clear hb); (try clear hb2); (try clear hk); (try clear hi); obtain ⟨hcz31_0, hcz31_1, hcz31_2, hcz31_3, hfz31_0, hfz31_1, hfz31_2, hfz31_3⟩ := YA BK101.out))
         go_meet
         case rel => exact ⟨_, (decide ((l0_2.length : Int) > 4)), Z7, H', ⟨Z1a⟩, ⟨Z4⟩, ⟨QB⟩⟩
       ·rw [if_neg c24] at H
        have c24b0 : (a0_0 == 8) = false := beq_eq_false_iff_ne.mpr c24
        have c24b1 : (a0_0 != 8) = true := bne_iff_ne.mpr c24
        have H' := Y0.mk H
        clear H
        obtain ⟨hcz32_0, hcz32_1, hcz32_2, hcz32_3, hfz32_0, hfz32_1, hfz32_2, hfz32_3⟩ := YA BK101.out
        go_wp2_with (first | (go_at_call 45; (with_reducible refine (YV.calls a0_1 true _ ?side1 A22.out).mono ?_); (case side1 => exact Z3); rintro e w33 ⟨rfl, hb⟩; have n_ := Y2F (Yu (g := gb101) (o := .cells #[.int .i64 a0_0, .string a0_1, .slice A0_2 l0_2.length c0_2, .slice A0_3 l0_3.length c0_3] 37 (0, 0)) QQ hb) (Yb QB hb); clear BK101 HB; obtain ⟨BK101, HB⟩ := n_; (try clear hb); (try clear hb2); (try clear hk); (try clear hi); obtain ⟨hcz34_0, hcz34_1, hcz34_2, hcz34_3, hfz34_0, hfz34_1, hfz34_2, hfz34_3⟩ := YA BK101.out))
        go_meet
        case rel => exact ⟨_, (false), Z7, H', ⟨Z1a⟩, ⟨Z4⟩, ⟨QB⟩⟩
      ·replace c23 := Bool.eq_false_iff.mpr c23
       subst c23
       have H1 : (Y5.j1 kj2 a1 true a0_0 a0_1 l0_2 l0_3) = some r := by rw [if_neg (show ¬ (false = true) by decide)] at H; exact H
       clear H
       have H := H1
       clear H1
       have H' := Y0.mk H
       clear H
       obtain ⟨hcz35_0, hcz35_1, hcz35_2, hcz35_3, hfz35_0, hfz35_1, hfz35_2, hfz35_3⟩ := YA BK101.out
       go_wp2_with (first | (go_at_call 45; (with_reducible refine (YV.calls a0_1 false _ ?side1 A22.out).mono ?_); (case side1 => exact Z3); rintro e w36 ⟨rfl, hb⟩; have n_ := Y2F (Yu (g := gb101) (o := .cells #[.int .i64 a0_0, .string a0_1, .slice A0_2 l0_2.length c0_2, .slice A0_3 l0_3.length c0_3] 37 (0, 0)) QQ hb) (Yb QB hb); clear BK101 HB; obtain ⟨BK101, HB⟩ := n_; (try clear hb); (try clear hb2); (try clear hk); (try clear hi)))
       go_meet
       case rel => exact ⟨_, (true), Z7, H', ⟨Z1a⟩, ⟨Z4⟩, ⟨QB⟩⟩
     ·rw [if_neg c21] at H
      have c21b0 : (a0_0 == 1) = false := beq_eq_false_iff_ne.mpr c21
      have c21b1 : (a0_0 != 1) = true := bne_iff_ne.mpr c21
      (first | rw [c21b0] | (simp only [Y16, Y17]; rw [c21b0]) | skip)
      by_cases c37 : a0_0 = 8
      ·rw [if_pos c37] at H
       have c37b0 : (a0_0 == 8) = true := beq_iff_eq.mpr c37
       have c37b1 : (a0_0 != 8) = false := bne_eq_false_iff_eq.mpr c37
       clear c37
       by_cases c38 : (l0_2.length : Int) < 1
       ·rw [if_pos c38] at H
        have c38b0 : decide ((l0_2.length : Int) < 1) = true := decide_eq_true c38
        have c38b1 : decide (l0_2.length < 1) = true := decide_eq_true (by omega)
        clear c38
        have H' := Y0.mk H
        clear H
        obtain ⟨hcz39_0, hcz39_1, hcz39_2, hcz39_3, hfz39_0, hfz39_1, hfz39_2, hfz39_3⟩ := YA BK101.out
        go_wp2
        go_meet
        case rel => exact ⟨_, (true), Z7, H', ⟨Z1a⟩, ⟨Z4⟩, ⟨QB⟩⟩
       ·rw [if_neg c38] at H
        have c38b0 : decide ((l0_2.length : Int) < 1) = false := decide_eq_false c38
        have c38b1 : decide (l0_2.length < 1) = false := decide_eq_false (by omega)
        clear c38
        have H' := Y0.mk H
        clear H
        obtain ⟨hcz40_0, hcz40_1, hcz40_2, hcz40_3, hfz40_0, hfz40_1, hfz40_2, hfz40_3⟩ := YA BK101.out
        go_wp2
        go_meet
        case rel => exact ⟨_, (decide ((l0_2.length : Int) > 4)), Z7, H', ⟨Z1a⟩, ⟨Z4⟩, ⟨QB⟩⟩
      ·rw [if_neg c37] at H
       have c37b0 : (a0_0 == 8) = false := beq_eq_false_iff_ne.mpr c37
       have c37b1 : (a0_0 != 8) = true := bne_iff_ne.mpr c37
       have H' := Y0.mk H
       clear H
       obtain ⟨hcz41_0, hcz41_1, hcz41_2, hcz41_3, hfz41_0, hfz41_1, hfz41_2, hfz41_3⟩ := YA BK101.out
       go_wp2
       go_meet
       case rel => exact ⟨_, (false), Z7, H', ⟨Z1a⟩, ⟨Z4⟩, ⟨QB⟩⟩
    case rest =>
     clear HC20
     try clear c1
     try clear c2
     try clear p2
     try clear c3
     try clear c6
     try clear c6b0
     try clear c6b1
     try clear c9
     try clear c13
     try clear c13b0
     try clear c13b1
     try clear c19
     try clear c21
     try clear c21b0
     try clear c21b1
     try clear c23
     try clear c24
     try clear c24b0
     try clear c24b1
     try clear c25
     try clear c25b0
     try clear c25b1
     try clear c37
     try clear c37b0
     try clear c37b1
     try clear c38
     try clear c38b0
     try clear c38b1
     try clear hcz26_0 hcz26_1 hcz26_2 hcz26_3
     try clear hcz28_0 hcz28_1 hcz28_2 hcz28_3
     try clear hcz29_0 hcz29_1 hcz29_2 hcz29_3
     try clear hcz31_0 hcz31_1 hcz31_2 hcz31_3
     try clear hcz32_0 hcz32_1 hcz32_2 hcz32_3
     try clear hcz34_0 hcz34_1 hcz34_2 hcz34_3
     try clear hcz35_0 hcz35_1 hcz35_2 hcz35_3
     try clear hcz39_0 hcz39_1 hcz39_2 hcz39_3
     try clear hcz40_0 hcz40_1 hcz40_2 hcz40_3
     try clear hcz41_0 hcz41_1 hcz41_2 hcz41_3
     try clear hfz26_0
     try clear hfz26_1
     try clear hfz26_2
     try clear hfz26_3
     try clear hfz28_0
     try clear hfz28_1
     try clear hfz28_2
     try clear hfz28_3
     try clear hfz29_0
     try clear hfz29_1
     try clear hfz29_2
     try clear hfz29_3
     try clear hfz31_0
     try clear hfz31_1
     try clear hfz31_2
     try clear hfz31_3
     try clear hfz32_0
     try clear hfz32_1
     try clear hfz32_2
     try clear hfz32_3
     try clear hfz34_0
     try clear hfz34_1
     try clear hfz34_2
     try clear hfz34_3
     try clear hfz35_0
     try clear hfz35_1
     try clear hfz35_2
     try clear hfz35_3
     try clear hfz39_0
     try clear hfz39_1
     try clear hfz39_2
     try clear hfz39_3
     try clear hfz40_0
     try clear hfz40_1
     try clear hfz40_2
     try clear hfz40_3
     try clear hfz41_0
     try clear hfz41_1
     try clear hfz41_2
     try clear hfz41_3
     try clear p2
     obtain ⟨kq, x66_19, rfl, HA, HJ19, BK101, HB⟩ := hcut
     cases kq with
     | zero => exact absurd HA.out (by simp [Y5.j1])
     | succ kj19 =>
      have H := HA.out
      clear HA
      simp only [Y5.j1] at H
      by_cases c42 : x66_19 = true
      ·subst c42
       have H1 : (some (-1)) = some r := by rw [if_pos rfl] at H; exact H
       clear H
       have H := H1
       clear H1
       obtain rfl := Option.some.inj H
       go_wp2
       go_ret
       exact Z2d
      ·replace c42 := Bool.eq_false_iff.mpr c42
       subst c42
       have H1 : (Y5.l0 kj19 a1 0 a0_0 a0_1 l0_2 l0_3) = some r := by rw [if_neg (show ¬ (false = true) by decide)] at H; exact H
       clear H
       have H := H1
       clear H1
       have H' := Y0.mk H
       clear H
       go_wp2
       go_loopg [5] kj19 (fun kq v5 w' => ∃ (x5_3 : Int), v5 = .int .i64 x5_3 ∧ Y0 (Y5.l0 kq a1 x5_3 a0_0 a0_1 l0_2 l0_3 = some r) ∧ Y0 (kq ≤ kj19) ∧ Y0 (w'.heap[gb101]? = some (.cells #[.int .i64 a0_0, .string a0_1, (.slice A0_2 l0_2.length c0_2), (.slice A0_3 l0_3.length c0_3)] 37 (0, 0))) ∧ Y0 (Below w.heap.size w w'))
       case atStart => exact Z2m
       case round =>
        clear H'
        try clear c1
        try clear c2
        try clear p2
        try clear c3
        try clear c4
        try clear c6
        try clear c6b0
        try clear c6b1
        try clear c9
        try clear c13
        try clear c13b0
        try clear c13b1
        try clear c19
        try clear c21
        try clear c21b0
        try clear c21b1
        try clear c23
        try clear c24
        try clear c24b0
        try clear c24b1
        try clear c25
        try clear c25b0
        try clear c25b1
        try clear c37
        try clear c37b0
        try clear c37b1
        try clear c38
        try clear c38b0
        try clear c38b1
        try clear c42
        try clear hcz26_0 hcz26_1 hcz26_2 hcz26_3
        try clear hcz28_0 hcz28_1 hcz28_2 hcz28_3
        try clear hcz29_0 hcz29_1 hcz29_2 hcz29_3
        try clear hcz31_0 hcz31_1 hcz31_2 hcz31_3
        try clear hcz32_0 hcz32_1 hcz32_2 hcz32_3
        try clear hcz34_0 hcz34_1 hcz34_2 hcz34_3
        try clear hcz35_0 hcz35_1 hcz35_2 hcz35_3
        try clear hcz39_0 hcz39_1 hcz39_2 hcz39_3
        try clear hcz40_0 hcz40_1 hcz40_2 hcz40_3
        try clear hcz41_0 hcz41_1 hcz41_2 hcz41_3
        try clear hfz26_0
        try clear hfz26_1
        try clear hfz26_2
        try clear hfz26_3
        try clear hfz28_0
        try clear hfz28_1
        try clear hfz28_2
        try clear hfz28_3
        try clear hfz29_0
        try clear hfz29_1
        try clear hfz29_2
        try clear hfz29_3
        try clear hfz31_0
        try clear hfz31_1
        try clear hfz31_2
        try clear hfz31_3
        try clear hfz32_0
        try clear hfz32_1
        try clear hfz32_2
        try clear hfz32_3
        try clear hfz34_0
        try clear hfz34_1
        try clear hfz34_2
        try clear hfz34_3
        try clear hfz35_0
        try clear hfz35_1
        try clear hfz35_2
        try clear hfz35_3
        try clear hfz39_0
        try clear hfz39_1
        try clear hfz39_2
        try clear hfz39_3
        try clear hfz40_0
        try clear hfz40_1
        try clear hfz40_2
        try clear hfz40_3
        try clear hfz41_0
        try clear hfz41_1
        try clear hfz41_2
        try clear hfz41_3
        try clear p2
        obtain ⟨x5_3, rfl, HA, HK3, BK101, HB⟩ := hrel
        cases gk with
        | zero => exact absurd HA.out (by simp [Y5.l0])
        | succ k3 =>
         have H := HA.out
         clear HA
         simp only [Y5.l0] at H
         by_cases c43 : x5_3 < (l0_2.length : Int)
         ·rw [if_pos c43] at H
          have c43b0 : decide (x5_3 < (l0_2.length : Int)) = true := decide_eq_true c43
          clear c43
          by_cases c44 : 0 ≤ x5_3
          ·rw [if_pos c44] at H
           have c44b0 : decide (0 ≤ x5_3) = true := decide_eq_true c44
           clear c44
           replace H := Option.bind_eq_some_iff.mp H
           obtain ⟨t105, A450, H⟩ := H
           replace H : (if t105 = true then (Y5.l0 k3 a1 (wrap64 (x5_3 + 1)) a0_0 a0_1 l0_2 l0_3) else (some (-1))) = some r := H
           have A45 := Y0.mk A450
           clear A450
           by_cases c46 : t105 = true
           ·subst c46
            have H1 : (Y5.l0 k3 a1 (wrap64 (x5_3 + 1)) a0_0 a0_1 l0_2 l0_3) = some r := by rw [if_pos rfl] at H; exact H
            clear H
            have H := H1
            clear H1
            have H' := Y0.mk H
            clear H
            obtain ⟨hcz47_0, hcz47_1, hcz47_2, hcz47_3, hfz47_0, hfz47_1, hfz47_2, hfz47_3⟩ := YA BK101.out
            have p104 : 0 ≤ (x5_3 : Int) := of_decide_eq_true Z8
            have q104 : x5_3 < (l0_2.length : Int) := of_decide_eq_true Z8
            obtain ⟨ad104, e104, hx104_0⟩ := Kd.at_string HR0_2.out x5_3 p104 q104
            cases e104
            replace hx104_0 := Y18 HB.out hx104_0
            replace p104 := eq_true p104
            replace q104 := eq_true q104
            go_wp2_with (first | ((with_reducible refine Yn (f := 45) rfl ?_); refine YO (some 79) rfl rfl Tryd.func45 Z6 rfl #[.string (Y37 ByteArray.empty l0_2 x5_3)] rfl Z0 ?_; (with_reducible refine (YV.calls (Y37 ByteArray.empty l0_2 x5_3) true _ ?side1 A45.out).mono ?_); (case side1 => exact Z3); rintro e w48 ⟨rfl, hb⟩; refine ⟨_, rfl, ?_⟩; have n_ := Y2F (Yu (g := gb101) (o := .cells #[.int .i64 a0_0, .string a0_1, .slice (some ad104) l0_2.length c0_2, .slice A0_3 l0_3.length c0_3] 37 (0, 0)) QQ hb) (Yb QB hb); clear BK101 HB; obtain ⟨BK101, HB⟩ := n_; (try clear hb); (try clear hb2); (try clear hk); (try clear hi)))
            go_roundg k3
            case measure => have := HJ2.out; have := HJ19.out; have := HK3.out; omega
            case rel => exact ⟨(wrap64 (x5_3 + 1)), Z7, H', ⟨by have := HJ2.out; have := HJ19.out; have := HK3.out; omega⟩, ⟨Z4⟩, ⟨QB⟩⟩
           ·replace c46 := Bool.eq_false_iff.mpr c46
            subst c46
            have H1 : (some (-1)) = some r := by rw [if_neg (show ¬ (false = true) by decide)] at H; exact H
            clear H
            have H := H1
            clear H1
            obtain rfl := Option.some.inj H
            obtain ⟨hcz49_0, hcz49_1, hcz49_2, hcz49_3, hfz49_0, hfz49_1, hfz49_2, hfz49_3⟩ := YA BK101.out
            have p104 : 0 ≤ (x5_3 : Int) := of_decide_eq_true Z8
            have q104 : x5_3 < (l0_2.length : Int) := of_decide_eq_true Z8
            obtain ⟨ad104, e104, hx104_0⟩ := Kd.at_string HR0_2.out x5_3 p104 q104
            cases e104
            replace hx104_0 := Y18 HB.out hx104_0
            replace p104 := eq_true p104
            replace q104 := eq_true q104
            go_wp2_with (first | ((with_reducible refine Yn (f := 45) rfl ?_); refine YO (some 79) rfl rfl Tryd.func45 Z6 rfl #[.string (Y37 ByteArray.empty l0_2 x5_3)] rfl Z0 ?_; (with_reducible refine (YV.calls (Y37 ByteArray.empty l0_2 x5_3) false _ ?side1 A45.out).mono ?_); (case side1 => exact Z3); rintro e w50 ⟨rfl, hb⟩; refine ⟨_, rfl, ?_⟩; have n_ := Y2F (Yu (g := gb101) (o := .cells #[.int .i64 a0_0, .string a0_1, .slice (some ad104) l0_2.length c0_2, .slice A0_3 l0_3.length c0_3] 37 (0, 0)) QQ hb) (Yb QB hb); clear BK101 HB; obtain ⟨BK101, HB⟩ := n_; (try clear hb); (try clear hb2); (try clear hk); (try clear hi)))
            go_ret
            exact Z2d
          ·rw [if_neg c44] at H
           exact ZA
         ·rw [if_neg c43] at H
          have c43b0 : decide (x5_3 < (l0_2.length : Int)) = false := decide_eq_false c43
          clear c43
          have H' := Y0.mk H
          clear H
          obtain ⟨hcz51_0, hcz51_1, hcz51_2, hcz51_3, hfz51_0, hfz51_1, hfz51_2, hfz51_3⟩ := YA BK101.out
          go_wp2
          go_loopg [6, 7] k3 (fun kq v6 v7 w' => ∃ (x6_4 : Int) (x7_4 : Int), v6 = .int .i64 x6_4 ∧ v7 = .int .i64 x7_4 ∧ Y0 (Y5.l1 kq a1 x6_4 x7_4 a0_0 a0_1 l0_2 l0_3 = some r) ∧ Y0 (kq ≤ k3) ∧ Y0 (w'.heap[gb101]? = some (.cells #[.int .i64 a0_0, .string a0_1, (.slice A0_2 l0_2.length c0_2), (.slice A0_3 l0_3.length c0_3)] 37 (0, 0))) ∧ Y0 (Below w.heap.size w w'))
          case atStart => exact Z2j
          case round =>
           clear H'
           try clear c1
           try clear p1
           try clear q1
           try clear hx1
           try clear c2
           try clear p2
           try clear c3
           try clear c4
           try clear c6
           try clear c6b0
           try clear c6b1
           try clear p6
           try clear c9
           try clear p10
           try clear q10
           try clear hx10
           try clear c13
           try clear c13b0
           try clear c13b1
           try clear c19
           try clear c21
           try clear c21b0
           try clear c21b1
           try clear c23
           try clear c24
           try clear c24b0
           try clear c24b1
           try clear c25
           try clear c25b0
           try clear c25b1
           try clear c37
           try clear c37b0
           try clear c37b1
           try clear c38
           try clear c38b0
           try clear c38b1
           try clear c42
           try clear c43
           try clear c43b0
           try clear c44
           try clear c44b0
           try clear c45
           try clear c46
           try clear hcz26_0 hcz26_1 hcz26_2 hcz26_3
           try clear hcz28_0 hcz28_1 hcz28_2 hcz28_3
           try clear hcz29_0 hcz29_1 hcz29_2 hcz29_3
           try clear hcz31_0 hcz31_1 hcz31_2 hcz31_3
           try clear hcz32_0 hcz32_1 hcz32_2 hcz32_3
           try clear hcz34_0 hcz34_1 hcz34_2 hcz34_3
           try clear hcz35_0 hcz35_1 hcz35_2 hcz35_3
           try clear hcz39_0 hcz39_1 hcz39_2 hcz39_3
           try clear hcz40_0 hcz40_1 hcz40_2 hcz40_3
           try clear hcz41_0 hcz41_1 hcz41_2 hcz41_3
           try clear hcz47_0 hcz47_1 hcz47_2 hcz47_3
           try clear hcz49_0 hcz49_1 hcz49_2 hcz49_3
           try clear hcz51_0 hcz51_1 hcz51_2 hcz51_3
           try clear hfz26_0
           try clear hfz26_1
           try clear hfz26_2
           try clear hfz26_3
           try clear hfz28_0
           try clear hfz28_1
           try clear hfz28_2
           try clear hfz28_3
           try clear hfz29_0
           try clear hfz29_1
           try clear hfz29_2
           try clear hfz29_3
           try clear hfz31_0
           try clear hfz31_1
           try clear hfz31_2
           try clear hfz31_3
           try clear hfz32_0
           try clear hfz32_1
           try clear hfz32_2
           try clear hfz32_3
           try clear hfz34_0
           try clear hfz34_1
           try clear hfz34_2
           try clear hfz34_3
           try clear hfz35_0
           try clear hfz35_1
           try clear hfz35_2
           try clear hfz35_3
           try clear hfz39_0
           try clear hfz39_1
           try clear hfz39_2
           try clear hfz39_3
           try clear hfz40_0
           try clear hfz40_1
           try clear hfz40_2
           try clear hfz40_3
           try clear hfz41_0
           try clear hfz41_1
           try clear hfz41_2
           try clear hfz41_3
           try clear hfz47_0
           try clear hfz47_1
           try clear hfz47_2
           try clear hfz47_3
           try clear hfz49_0
           try clear hfz49_1
           try clear hfz49_2
           try clear hfz49_3
           try clear hfz51_0
           try clear hfz51_1
           try clear hfz51_2
           try clear hfz51_3
           try clear hx104_0
           try clear p104
           try clear p2
           try clear q104
           obtain ⟨x6_4, x7_4, rfl, rfl, HA, HK4, BK101, HB⟩ := hrel
           cases gk with
           | zero => exact absurd HA.out (by simp [Y5.l1])
           | succ k4 =>
            have H := HA.out
            clear HA
            simp only [Y5.l1] at H
            by_cases c52 : x7_4 < (l0_3.length : Int)
            ·rw [if_pos c52] at H
             have c52b0 : decide (x7_4 < (l0_3.length : Int)) = true := decide_eq_true c52
             clear c52
             by_cases c53 : 0 ≤ x7_4
             ·rw [if_pos c53] at H
              have c53b0 : decide (0 ≤ x7_4) = true := decide_eq_true c53
              clear c53
              replace H := Option.bind_eq_some_iff.mp H
              obtain ⟨t107, A540, H⟩ := H
              replace H : (if t107 < 0 then (some (-1)) else (Y5.l1 k4 a1 (wrap64 (x6_4 + t107)) (wrap64 (x7_4 + 1)) a0_0 a0_1 l0_2 l0_3)) = some r := H
              have A54 := Y0.mk A540
              clear A540
              by_cases c55 : t107 < 0
              ·rw [if_pos c55] at H
               have c55b0 : decide (t107 < 0) = true := decide_eq_true c55
               clear c55
               obtain rfl := Option.some.inj H
               obtain ⟨hcz56_0, hcz56_1, hcz56_2, hcz56_3, hfz56_0, hfz56_1, hfz56_2, hfz56_3⟩ := YA BK101.out
               have p106 : 0 ≤ (x7_4 : Int) := of_decide_eq_true Z8
               have q106 : x7_4 < (l0_3.length : Int) := of_decide_eq_true Z8
               obtain ⟨ad106, A106_2, c106_2, A106_3, c106_3, e106, hx106_0, hx106_1, hx106_2, hx106_3, hl106_2, hi106_2, hl106_3, hi106_3⟩ := Y2r HR0_3.out x7_4 p106 q106
               cases e106
               replace hx106_0 := Y18 HB.out hx106_0
               replace hx106_1 := Y18 HB.out hx106_1
               replace hx106_2 := Y18 HB.out hx106_2
               replace hx106_3 := Y18 HB.out hx106_3
               have HR106_2 := Y0.mk hi106_2
               have HC106_2 := Y0.mk hl106_2
               clear hi106_2 hl106_2
               have HR106_3 := Y0.mk hi106_3
               have HC106_3 := Y0.mk hl106_3
               clear hi106_3 hl106_3
               replace p106 := eq_true p106
               replace q106 := eq_true q106
               go_wp2_with (first | ((with_reducible refine Yn (f := 49) rfl ?_); refine YO (some 95) rfl rfl Tryd.func49 Z6 rfl #[.agg #[.int .i64 ((Yk l0_3 x7_4).f0), .string ((Yk l0_3 x7_4).f1), .slice A106_2 ((Yk l0_3 x7_4).f2).length c106_2, .slice A106_3 ((Yk l0_3 x7_4).f3).length c106_3], .int .i64 (wrap64 (a1 + 1))] rfl Z0 ?_; (with_reducible refine (ih k4 Z1v ((Yk l0_3 x7_4).f0) ((Yk l0_3 x7_4).f1) _ _ ((Yk l0_3 x7_4).f2) _ _ ((Yk l0_3 x7_4).f3) (wrap64 (a1 + 1)) t107 _ ?side1 ?side2 ?side3 ?side4 ?side5 A54.out).mono ?_); (case side1 => exact Z3); (case side2 => exact ZF); (case side3 => exact HC106_2.out); (case side4 => exact ZG); (case side5 => exact HC106_3.out); rintro e w57 ⟨rfl, hb⟩; refine ⟨_, rfl, ?_⟩; have n_ := Y2F (Yu (g := gb101) (o := .cells #[.int .i64 a0_0, .string a0_1, .slice A0_2 l0_2.length c0_2, .slice (some ad106) l0_3.length c0_3] 37 (0, 0)) QQ hb) (Yb QB hb); clear BK101 HB; obtain ⟨BK101, HB⟩ := n_; (try clear hb); (try clear hb2); (try clear hk); (try clear hi)))
               go_ret
               exact Z2d
              ·rw [if_neg c55] at H
               have c55b0 : decide (t107 < 0) = false := decide_eq_false c55
               clear c55
               have H' := Y0.mk H
               clear H
               obtain ⟨hcz58_0, hcz58_1, hcz58_2, hcz58_3, hfz58_0, hfz58_1, hfz58_2, hfz58_3⟩ := YA BK101.out
               have p106 : 0 ≤ (x7_4 : Int) := of_decide_eq_true Z8
               have q106 : x7_4 < (l0_3.length : Int) := of_decide_eq_true Z8
               obtain ⟨ad106, A106_2, c106_2, A106_3, c106_3, e106, hx106_0, hx106_1, hx106_2, hx106_3, hl106_2, hi106_2, hl106_3, hi106_3⟩ := Y2r HR0_3.out x7_4 p106 q106
               cases e106
               replace hx106_0 := Y18 HB.out hx106_0
               replace hx106_1 := Y18 HB.out hx106_1
               replace hx106_2 := Y18 HB.out hx106_2
               replace hx106_3 := Y18 HB.out hx106_3
               have HR106_2 := Y0.mk hi106_2
               have HC106_2 := Y0.mk hl106_2
               clear hi106_2 hl106_2
               have HR106_3 := Y0.mk hi106_3
               have HC106_3 := Y0.mk hl106_3
               clear hi106_3 hl106_3
               replace p106 := eq_true p106
               replace q106 := eq_true q106
               go_wp2_with (first | ((with_reducible refine Yn (f := 49) rfl ?_); refine YO (some 95) rfl rfl Tryd.func49 Z6 rfl #[.agg #[.int .i64 ((Yk l0_3 x7_4).f0), .string ((Yk l0_3 x7_4).f1), .slice A106_2 ((Yk l0_3 x7_4).f2).length c106_2, .slice A106_3 ((Yk l0_3 x7_4).f3).length c106_3], .int .i64 (wrap64 (a1 + 1))] rfl Z0 ?_; (with_reducible refine (ih k4 Z1v ((Yk l0_3 x7_4).f0) ((Yk l0_3 x7_4).f1) _ _ ((Yk l0_3 x7_4).f2) _ _ ((Yk l0_3 x7_4).f3) (wrap64 (a1 + 1)) t107 _ ?side1 ?side2 ?side3 ?side4 ?side5 A54.out).mono ?_); (case side1 => exact Z3); (case side2 => exact ZF); (case side3 => exact HC106_2.out); (case side4 => exact ZG); (case side5 => exact HC106_3.out); rintro e w59 ⟨rfl, hb⟩; refine ⟨_, rfl, ?_⟩; have n_ := Y2F (Yu (g := gb101) (o := .cells #[.int .i64 a0_0, .string a0_1, .slice A0_2 l0_2.length c0_2, .slice (some ad106) l0_3.length c0_3] 37 (0, 0)) QQ hb) (Yb QB hb); clear BK101 HB; obtain ⟨BK101, HB⟩ := n_; (try clear hb); (try clear hb2); (try clear hk); (try clear hi)))
               go_roundg k4
               case measure => have := HJ2.out; have := HJ19.out; have := HK3.out; have := HK4.out; omega
               case rel => exact ⟨(wrap64 (x6_4 + t107)), (wrap64 (x7_4 + 1)), Z7, Z7, H', ⟨Z1v⟩, ⟨Z4⟩, ⟨QB⟩⟩
             ·rw [if_neg c53] at H
              exact ZA
            ·rw [if_neg c52] at H
             have c52b0 : decide (x7_4 < (l0_3.length : Int)) = false := decide_eq_false c52
             clear c52
             obtain rfl := Option.some.inj H
             obtain ⟨hcz60_0, hcz60_1, hcz60_2, hcz60_3, hfz60_0, hfz60_1, hfz60_2, hfz60_3⟩ := YA BK101.out
             go_wp2
             go_ret
             exact Z2d
def Y1b.f (k : Nat) (a0_0 : Int) (a0_1 : ByteArray) (l0_2 : List ByteArray) (l0_3 : List (S37)) : Option (Bool) := (Y5.f k a0_0 a0_1 l0_2 l0_3 0).bind fun t102 => (if t102 ≥ 1 then (some (decide (t102 ≤ 30))) else (some false))
set_option maxHeartbeats 8000000 in
set_option maxRecDepth 100000 in
theorem Y1b.calls (k : Nat) (a0_0 : Int) (a0_1 : ByteArray) (A0_2 : Option Addr) (c0_2 : Nat) (l0_2 : List ByteArray) (A0_3 : Option Addr) (c0_3 : Nat) (l0_3 : List (S37)) (r : Bool) (w : World) (hT : Tabs w) (hr0_2 : Kd.C Kd.string w A0_2 l0_2.length l0_2) (hc0_2 : l0_2.length ≤ c0_2) (hr0_3 : Kd.C k37 w A0_3 l0_3.length l0_3) (hc0_3 : l0_3.length ≤ c0_3) (h : Y1b.f k a0_0 a0_1 l0_2 l0_3 = some r) :
  Calls Tryd.prog 23 #[.agg #[.int .i64 a0_0, .string a0_1, .slice A0_2 l0_2.length c0_2, .slice A0_3 l0_3.length c0_3]] w fun e w' => e = .returned (.bool r) ∧ Below w.heap.size w w' := by
 have HT := Y0.mk hT
 clear hT
 have hu37 := Tryd.underlying37
 have HR0_2 := Y0.mk hr0_2
 have HC0_2 := Y0.mk hc0_2
 clear hr0_2 hc0_2
 have HR0_3 := Y0.mk hr0_3
 have HC0_3 := Y0.mk hc0_3
 clear hr0_3 hc0_3
 have HB := Y0.mk (Below.refl w.heap.size w)
 have H : ((Y5.f k a0_0 a0_1 l0_2 l0_3 0).bind fun t102 => (if t102 ≥ 1 then (some (decide (t102 ≤ 30))) else (some false))) = some r := h
 clear h
 replace H := Option.bind_eq_some_iff.mp H
 obtain ⟨t102, A20, H⟩ := H
 replace H : (if t102 ≥ 1 then (some (decide (t102 ≤ 30))) else (some false)) = some r := H
 have A2 := Y0.mk A20
 clear A20
 by_cases c3 : t102 ≥ 1
 ·rw [if_pos c3] at H
  have c3b0 : decide (1 ≤ t102) = true := decide_eq_true c3
  clear c3
  obtain rfl := Option.some.inj H
  go_enter Tryd.func23, Tryd.ntmps23
  go_wp2_with (first | ((with_reducible refine YF (N := 1) rfl ?_); refine YE ?hg (N := 1) ?hd (cs := #[.int .i64 a0_0, .string a0_1, .slice A0_2 l0_2.length c0_2, .slice A0_3 l0_3.length c0_3]) (t := 37) ?hr ?_; (case hd => rfl); (case hg => rfl); (case hr => exact Za); intro gb101 hg w4 hbox hb; have n_ := Y31 (Yb QB hb) (hbox) ((by rw [hg]; exact (Ym QB) : w.heap.size ≤ gb101)) ((by rw [hg]; exact (Ym QB) : w.heap.size ≤ gb101)); clear HB; obtain ⟨HB, BK101, GW101, GE101⟩ := n_; clear hb hbox hg; obtain ⟨hcz5_0, hcz5_1, hcz5_2, hcz5_3, hfz5_0, hfz5_1, hfz5_2, hfz5_3⟩ := YA BK101.out) | ((with_reducible refine Yn (f := 49) rfl ?_); refine YO (some 5) rfl rfl Tryd.func49 Z6 rfl #[.agg #[.int .i64 a0_0, .string a0_1, .slice A0_2 l0_2.length c0_2, .slice A0_3 l0_3.length c0_3], .int .i64 0] rfl Z0 ?_; (with_reducible refine (Y5.calls k a0_0 a0_1 _ _ l0_2 _ _ l0_3 0 t102 _ ?side1 ?side2 ?side3 ?side4 ?side5 A2.out).mono ?_); (case side1 => exact Z3); (case side2 => exact Zd); (case side3 => exact Z1N); (case side4 => exact Zg); (case side5 => exact Z1V); rintro e w6 ⟨rfl, hb⟩; refine ⟨_, rfl, ?_⟩; have n_ := Y2F (Yu (g := gb101) (o := .cells #[.int .i64 a0_0, .string a0_1, .slice A0_2 l0_2.length c0_2, .slice A0_3 l0_3.length c0_3] 37 (0, 0)) QQ hb) (Yb QB hb); clear BK101 HB; obtain ⟨BK101, HB⟩ := n_; (try clear hb); (try clear hb2); (try clear hk); (try clear hi)))
  go_ret
  exact Z2d
 ·rw [if_neg c3] at H
  have c3b0 : decide (1 ≤ t102) = false := decide_eq_false c3
  clear c3
  obtain rfl := Option.some.inj H
  go_enter Tryd.func23, Tryd.ntmps23
  go_wp2_with (first | ((with_reducible refine YF (N := 1) rfl ?_); refine YE ?hg (N := 1) ?hd (cs := #[.int .i64 a0_0, .string a0_1, .slice A0_2 l0_2.length c0_2, .slice A0_3 l0_3.length c0_3]) (t := 37) ?hr ?_; (case hd => rfl); (case hg => rfl); (case hr => exact Za); intro gb101 hg w7 hbox hb; have n_ := Y31 (Yb QB hb) (hbox) ((by rw [hg]; exact (Ym QB) : w.heap.size ≤ gb101)) ((by rw [hg]; exact (Ym QB) : w.heap.size ≤ gb101)); clear HB; obtain ⟨HB, BK101, GW101, GE101⟩ := n_; clear hb hbox hg; obtain ⟨hcz8_0, hcz8_1, hcz8_2, hcz8_3, hfz8_0, hfz8_1, hfz8_2, hfz8_3⟩ := YA BK101.out) | ((with_reducible refine Yn (f := 49) rfl ?_); refine YO (some 5) rfl rfl Tryd.func49 Z6 rfl #[.agg #[.int .i64 a0_0, .string a0_1, .slice A0_2 l0_2.length c0_2, .slice A0_3 l0_3.length c0_3], .int .i64 0] rfl Z0 ?_; (with_reducible refine (Y5.calls k a0_0 a0_1 _ _ l0_2 _ _ l0_3 0 t102 _ ?side1 ?side2 ?side3 ?side4 ?side5 A2.out).mono ?_); (case side1 => exact Z3); (case side2 => exact Zd); (case side3 => exact Z1N); (case side4 => exact Zg); (case side5 => exact Z1V); rintro e w9 ⟨rfl, hb⟩; refine ⟨_, rfl, ?_⟩; have n_ := Y2F (Yu (g := gb101) (o := .cells #[.int .i64 a0_0, .string a0_1, .slice A0_2 l0_2.length c0_2, .slice A0_3 l0_3.length c0_3] 37 (0, 0)) QQ hb) (Yb QB hb); clear BK101 HB; obtain ⟨BK101, HB⟩ := n_; (try clear hb); (try clear hb2); (try clear hk); (try clear hi)))
  go_ret
  exact Z2d
def YB (w0 W : World) (g : Nat) (f0 : ByteArray) (f1 : Int) (f2 : Int) (f3 : Int) : Prop := W.heap[g]? = some (.cells #[.string f0, .int .i64 f1, .int .i64 f2, .int .i64 f3] 81 (0, 0)) ∧ w0.heap.size ≤ g
theorem YB.grown {w0 W : World} {g : Nat} {f0 : ByteArray} {f1 : Int} {f2 : Int} {f3 : Int} {W1 : World} {row : Option Nat} (h : YB w0 W g f0 f1 f2 f3) (hw : W.grownBy W1 row) (hne : some g ≠ row) : YB w0 W1 g f0 f1 f2 f3 := by
 obtain ⟨hb, hg⟩ := h
 exact ⟨Y39 hb hw hne, hg⟩
theorem YB.fresh {w0 W : World} {g : Nat} {f0 : ByteArray} {f1 : Int} {f2 : Int} {f3 : Int} (h : YB w0 W g f0 f1 f2 f3) : ∀ k, W.heap.size ≤ k → k ≠ g := by
 obtain ⟨hb, hg⟩ := h
 exact Kd.freshB hb
theorem YB.kept {w0 W : World} {g : Nat} {f0 : ByteArray} {f1 : Int} {f2 : Int} {f3 : Int} {W1 : World} {S : Nat → Prop} (h : YB w0 W g f0 f1 f2 f3) (hk : Y3V W W1 S) (hne : ¬ S g) : YB w0 W1 g f0 f1 f2 f3 := by
 obtain ⟨hb, hg⟩ := h
 exact ⟨Y69 hb hk hne, hg⟩
theorem YB.below {w0 W : World} {g : Nat} {f0 : ByteArray} {f1 : Int} {f2 : Int} {f3 : Int} {W1 : World} (h : YB w0 W g f0 f1 f2 f3) (hw : Below W.heap.size W W1) : YB w0 W1 g f0 f1 f2 f3 := h.grown (Y36 hw none) (by simp)
theorem YB.alloc {w0 W : World} {g : Nat} {f0 : ByteArray} {f1 : Int} {f2 : Int} {f3 : Int} (h : YB w0 W g f0 f1 f2 f3) (o : Obj) : YB w0 (W.alloc o) g f0 f1 f2 f3 := h.below (Y1I (Below.refl _ _) o)
theorem YB.drewN {w0 W : World} {g : Nat} {f0 : ByteArray} {f1 : Int} {f2 : Int} {f3 : Int} (h : YB w0 W g f0 f1 f2 f3) (m : Nat) : YB w0 (W.drewN m) g f0 f1 f2 f3 := h
theorem YB.drew {w0 W : World} {g : Nat} {f0 : ByteArray} {f1 : Int} {f2 : Int} {f3 : Int} (h : YB w0 W g f0 f1 f2 f3) : YB w0 W.drew g f0 f1 f2 f3 := h
theorem YB.at_ {w0 W : World} {g : Nat} {f0 : ByteArray} {f1 : Int} {f2 : Int} {f3 : Int} {w' : World} {m : Nat} (hq : W.drewN m = w') (h : YB w0 W g f0 f1 f2 f3) : YB w0 w' g f0 f1 f2 f3 := by subst hq; exact YB.drewN h m
theorem YB.apart {w0 W : World} {g : Nat} {f0 : ByteArray} {f1 : Int} {f2 : Int} {f3 : Int} {α : Type} {d : Kd α} {e : Nat} {base : Nat} {ok : Nat → Prop} {v : Value} {xs : List α} (h : YB w0 W g f0 f1 f2 f3) (ho : d.R e W base ok v xs) (ht : ∀ q, q ∈ e :: d.E → q ≠ 81) : d.R e W base (fun k => ok k ∧ k ≠ g) v xs := by
 obtain ⟨hb, hg⟩ := h
 exact Kd.R_types ho hb ht
theorem YB.Y59 {w0 W : World} {g : Nat} {f0 : ByteArray} {f1 : Int} {f2 : Int} {f3 : Int} {α : Type} {d : Kd α} {e : Nat} {base : Nat} {ok : Nat → Prop} {v : Value} {xs : List α} (h : YB w0 W g f0 f1 f2 f3) (ho : d.R e W base ok v xs) (ht : e ≠ 81) : some g ≠ v.ownBlock := by
 obtain ⟨hb, hg⟩ := h
 exact Kd.R_ne ho hb ht
theorem YB.lt {w0 W : World} {g : Nat} {f0 : ByteArray} {f1 : Int} {f2 : Int} {f3 : Int} (h : YB w0 W g f0 f1 f2 f3) : g < W.heap.size := by
 obtain ⟨hb, hg⟩ := h
 exact Y15 hb
theorem YB.ge {w0 W : World} {g : Nat} {f0 : ByteArray} {f1 : Int} {f2 : Int} {f3 : Int} (h : YB w0 W g f0 f1 f2 f3) : w0.heap.size ≤ g := by
 obtain ⟨hb, hg⟩ := h
 exact hg
theorem YB.far {w0 W : World} {g : Nat} {f0 : ByteArray} {f1 : Int} {f2 : Int} {f3 : Int} {p : Addr} (h : YB w0 W g f0 f1 f2 f3) (hne : g ≠ p.block) (u : Value) : YB w0 (W.setCell p u) g f0 f1 f2 f3 := by
 obtain ⟨hb, hg⟩ := h
 exact ⟨Y14 hb hne u, hg⟩
theorem Y1r {W : World} {g : Nat} {f0 : ByteArray} {f1 : Int} {f2 : Int} {f3 : Int} (h : W.heap[g]? = some (.cells #[.string f0, .int .i64 f1, .int .i64 f2, .int .i64 f3] 81 (0, 0))) : W.cell? ⟨g, 0, none⟩ = some (.string f0) := (Y2 h 0).trans rfl
theorem YB.set_0 {w0 W : World} {g : Nat} {f0 : ByteArray} {f1 : Int} {f2 : Int} {f3 : Int} (h : YB w0 W g f0 f1 f2 f3) (x : ByteArray) : YB w0 (W.setCell ⟨g, 0, none⟩ (.string x)) g x f1 f2 f3 := by
 obtain ⟨hb, hg⟩ := h
 exact ⟨by simpa using Y3a hb 0 (.string x), hg⟩
theorem Y1s {W : World} {g : Nat} {f0 : ByteArray} {f1 : Int} {f2 : Int} {f3 : Int} (h : W.heap[g]? = some (.cells #[.string f0, .int .i64 f1, .int .i64 f2, .int .i64 f3] 81 (0, 0))) : W.cell? ⟨g, 1, none⟩ = some (.int .i64 f1) := (Y2 h 1).trans rfl
theorem YB.set_1 {w0 W : World} {g : Nat} {f0 : ByteArray} {f1 : Int} {f2 : Int} {f3 : Int} (h : YB w0 W g f0 f1 f2 f3) (x : Int) : YB w0 (W.setCell ⟨g, 1, none⟩ (.int .i64 x)) g f0 x f2 f3 := by
 obtain ⟨hb, hg⟩ := h
 exact ⟨by simpa using Y3a hb 1 (.int .i64 x), hg⟩
theorem Y1t {W : World} {g : Nat} {f0 : ByteArray} {f1 : Int} {f2 : Int} {f3 : Int} (h : W.heap[g]? = some (.cells #[.string f0, .int .i64 f1, .int .i64 f2, .int .i64 f3] 81 (0, 0))) : W.cell? ⟨g, 2, none⟩ = some (.int .i64 f2) := (Y2 h 2).trans rfl
theorem YB.set_2 {w0 W : World} {g : Nat} {f0 : ByteArray} {f1 : Int} {f2 : Int} {f3 : Int} (h : YB w0 W g f0 f1 f2 f3) (x : Int) : YB w0 (W.setCell ⟨g, 2, none⟩ (.int .i64 x)) g f0 f1 x f3 := by
 obtain ⟨hb, hg⟩ := h
 exact ⟨by simpa using Y3a hb 2 (.int .i64 x), hg⟩
theorem Y1u {W : World} {g : Nat} {f0 : ByteArray} {f1 : Int} {f2 : Int} {f3 : Int} (h : W.heap[g]? = some (.cells #[.string f0, .int .i64 f1, .int .i64 f2, .int .i64 f3] 81 (0, 0))) : W.cell? ⟨g, 3, none⟩ = some (.int .i64 f3) := (Y2 h 3).trans rfl
theorem YB.set_3 {w0 W : World} {g : Nat} {f0 : ByteArray} {f1 : Int} {f2 : Int} {f3 : Int} (h : YB w0 W g f0 f1 f2 f3) (x : Int) : YB w0 (W.setCell ⟨g, 3, none⟩ (.int .i64 x)) g f0 f1 f2 x := by
 obtain ⟨hb, hg⟩ := h
 exact ⟨by simpa using Y3a hb 3 (.int .i64 x), hg⟩
def Yd.l0 : Nat → ByteArray → Int → Int → Int → Option (Int × ByteArray × Int × Int × Int)
 | 0, _, _, _, _ => none
 | k + 1, x1000, x1001, x1002, x1003 => if x1001 < (x1000.size : Int) then (if 0 ≤ x1001 then (if (bt x1000 x1001) = 32 then (Yd.l0 k x1000 (wrap64 (x1001 + 1)) x1002 x1003) else (if x1002 = 0 then (if x1001 ≥ (x1000.size : Int) then (some (0, x1000, x1001, x1002, x1003)) else (some (bt x1000 x1001, x1000, x1001, x1002, x1003))) else (some (0, x1000, x1001, x1002, x1003)))) else (none)) else (if x1002 = 0 then (if x1001 ≥ (x1000.size : Int) then (some (0, x1000, x1001, x1002, x1003)) else (if 0 ≤ x1001 then (none) else (none))) else (some (0, x1000, x1001, x1002, x1003)))
def Yd.f (k : Nat) (s0_0 : ByteArray) (s0_1 : Int) (s0_2 : Int) (s0_3 : Int) : Option (Int × ByteArray × Int × Int × Int) := Yd.l0 k s0_0 s0_1 s0_2 s0_3
theorem Yd.mono_l : ∀ k, (∀ y0 y1 y2 y3, LeO (Yd.l0 k y0 y1 y2 y3) (Yd.l0 (k + 1) y0 y1 y2 y3))
 | 0 => fun _ _ _ _ r h => by simp [Yd.l0] at h
 | k + 1 => by
  have ih0 := Yd.mono_l k
  ·intro y0 y1 y2 y3
   unfold Yd.l0
   exact QM
theorem Yd.mono : ∀ a0 a1 a2 a3 k, LeO (Yd.f k a0 a1 a2 a3) (Yd.f (k + 1) a0 a1 a2 a3) := by
 intro a0 a1 a2 a3 k
 have ih0 := Yd.mono_l k
 unfold Yd.f
 exact QM
set_option maxHeartbeats 8000000 in
set_option maxRecDepth 100000 in
theorem Yd.calls (k : Nat) (g : Nat) (s0_0 : ByteArray) (s0_1 : Int) (s0_2 : Int) (s0_3 : Int) (r1 : Int) (r2 : ByteArray) (r3 : Int) (r4 : Int) (r5 : Int) (w0 w : World) (hI : YB w0 w g s0_0 s0_1 s0_2 s0_3) (hB : Below w0.heap.size w0 w) (h : Yd.f k s0_0 s0_1 s0_2 s0_3 = some (r1, r2, r3, r4, r5)) :
  Calls Tryd.prog 56 #[.pointer (some ⟨g, 0, none⟩)] w fun e w' => e = .returned (.int .u8 r1) ∧ YB w0 w' g r2 r3 r4 r5 ∧ Below w0.heap.size w0 w' ∧ Y1 w w' g none := by
 have HI0 := Y0.mk hI
 have HK := Y0.mk (Y1.refl w g none)
 have HL := Y0.mk hB.size
 clear hI
 have HW0 := Y0.mk hB.size
 have HB := Y0.mk hB
 clear hB
 have H : (Yd.l0 k s0_0 s0_1 s0_2 s0_3) = some (r1, r2, r3, r4, r5) := h
 clear h
 have H' := Y0.mk H
 clear H
 go_enter Tryd.func56, Tryd.ntmps56
 go_wp2
 repeat (go_quiet (fail); try go_wp2)
 go_loopg [] k (fun kq w' => ∃ (x1001_1 : Int), Y0 (Yd.l0 kq s0_0 x1001_1 s0_2 s0_3 = some (r1, r2, r3, r4, r5)) ∧ Y0 (kq ≤ k) ∧ Y0 (YB w0 w' g s0_0 x1001_1 s0_2 s0_3) ∧ Y0 (Y1 w w' g none) ∧ Y0 (Below w0.heap.size w0 w'))
 case atStart => exact ⟨(s0_1), H', ⟨Nat.le_refl _⟩, ⟨QI81_0⟩, ⟨QK⟩, ⟨QB⟩⟩
 case round =>
  clear H'
  obtain ⟨x1001_1, HA, HK1, HI0, HK, HB⟩ := hrel
  cases gk with
  | zero => exact absurd HA.out (by simp [Yd.l0])
  | succ k1 =>
   have H := HA.out
   clear HA
   simp only [Yd.l0] at H
   by_cases c2 : x1001_1 < (s0_0.size : Int)
   ·rw [if_pos c2] at H
    have c2b0 : decide (x1001_1 < (s0_0.size : Int)) = true := decide_eq_true c2
    clear c2
    by_cases c3 : 0 ≤ x1001_1
    ·rw [if_pos c3] at H
     have c3b0 : decide (0 ≤ x1001_1) = true := decide_eq_true c3
     clear c3
     by_cases c5 : (bt s0_0 x1001_1) = 32
     ·rw [if_pos c5] at H
      have c5b0 : ((bt s0_0 x1001_1) == 32) = true := beq_iff_eq.mpr c5
      have c5b1 : ((bt s0_0 x1001_1) != 32) = false := bne_eq_false_iff_eq.mpr c5
      clear c5
      have H' := Y0.mk H
      clear H
      obtain ⟨hcz6_0, hcz6_1, hcz6_2, hcz6_3, hfz6_0, hfz6_1, hfz6_2, hfz6_3⟩ := YA HI0.out.1
      have p4 : 0 ≤ (x1001_1 : Int) := of_decide_eq_true Z8
      have q4 : x1001_1 < (s0_0.size : Int) := of_decide_eq_true Z8
      have hx4 := Y49 s0_0 x1001_1
      replace p4 := eq_true p4
      replace q4 := eq_true q4
      go_wp2
      repeat (go_quiet (fail); try go_wp2)
      go_roundg k1
      case measure => have := HK1.out; omega
      case rel => exact ⟨(wrap64 (x1001_1 + 1)), H', ⟨Z13⟩, ⟨QI81_0⟩, ⟨QK⟩, ⟨QB⟩⟩
     ·rw [if_neg c5] at H
      have c5b0 : ((bt s0_0 x1001_1) == 32) = false := beq_eq_false_iff_ne.mpr c5
      have c5b1 : ((bt s0_0 x1001_1) != 32) = true := bne_iff_ne.mpr c5
      by_cases c7 : s0_2 = 0
      ·rw [if_pos c7] at H
       have c7b0 : (s0_2 == 0) = true := beq_iff_eq.mpr c7
       have c7b1 : (s0_2 != 0) = false := bne_eq_false_iff_eq.mpr c7
       clear c7
       by_cases c8 : x1001_1 ≥ (s0_0.size : Int)
       ·rw [if_pos c8] at H
        have c8b0 : decide ((s0_0.size : Int) ≤ x1001_1) = true := decide_eq_true c8
        clear c8
        simp only [Option.some.injEq, Prod.mk.injEq] at H
        obtain ⟨rfl, rfl, rfl, rfl, rfl⟩ := H
        obtain ⟨hcz9_0, hcz9_1, hcz9_2, hcz9_3, hfz9_0, hfz9_1, hfz9_2, hfz9_3⟩ := YA HI0.out.1
        have p4 : 0 ≤ (x1001_1 : Int) := of_decide_eq_true Z8
        have q4 : x1001_1 < (s0_0.size : Int) := of_decide_eq_true Z8
        have hx4 := Y49 s0_0 x1001_1
        replace p4 := eq_true p4
        replace q4 := eq_true q4
        go_wp2
        repeat (go_quiet (fail); try go_wp2)
        go_ret
        exact Z2h
       ·rw [if_neg c8] at H
        have c8b0 : decide ((s0_0.size : Int) ≤ x1001_1) = false := decide_eq_false c8
        clear c8
        simp only [Option.some.injEq, Prod.mk.injEq] at H
        obtain ⟨rfl, rfl, rfl, rfl, rfl⟩ := H
        obtain ⟨hcz11_0, hcz11_1, hcz11_2, hcz11_3, hfz11_0, hfz11_1, hfz11_2, hfz11_3⟩ := YA HI0.out.1
        have p4 : 0 ≤ (x1001_1 : Int) := of_decide_eq_true Z8
        have q4 : x1001_1 < (s0_0.size : Int) := of_decide_eq_true Z8
        have hx4 := Y49 s0_0 x1001_1
        replace p4 := eq_true p4
        replace q4 := eq_true q4
        have p10 : 0 ≤ (x1001_1 : Int) := of_decide_eq_true Z8
        have q10 : x1001_1 < (s0_0.size : Int) := of_decide_eq_true Z8
        have hx10 := Y49 s0_0 x1001_1
        replace p10 := eq_true p10
        replace q10 := eq_true q10
        go_wp2
        repeat (go_quiet (fail); try go_wp2)
        go_ret
        exact Z2h
      ·rw [if_neg c7] at H
       have c7b0 : (s0_2 == 0) = false := beq_eq_false_iff_ne.mpr c7
       have c7b1 : (s0_2 != 0) = true := bne_iff_ne.mpr c7
       simp only [Option.some.injEq, Prod.mk.injEq] at H
       obtain ⟨rfl, rfl, rfl, rfl, rfl⟩ := H
       obtain ⟨hcz12_0, hcz12_1, hcz12_2, hcz12_3, hfz12_0, hfz12_1, hfz12_2, hfz12_3⟩ := YA HI0.out.1
       have p4 : 0 ≤ (x1001_1 : Int) := of_decide_eq_true Z8
       have q4 : x1001_1 < (s0_0.size : Int) := of_decide_eq_true Z8
       have hx4 := Y49 s0_0 x1001_1
       replace p4 := eq_true p4
       replace q4 := eq_true q4
       go_wp2
       repeat (go_quiet (fail); try go_wp2)
       go_ret
       exact Z2h
    ·rw [if_neg c3] at H
     exact ZA
   ·rw [if_neg c2] at H
    have c2b0 : decide (x1001_1 < (s0_0.size : Int)) = false := decide_eq_false c2
    clear c2
    by_cases c13 : s0_2 = 0
    ·rw [if_pos c13] at H
     have c13b0 : (s0_2 == 0) = true := beq_iff_eq.mpr c13
     have c13b1 : (s0_2 != 0) = false := bne_eq_false_iff_eq.mpr c13
     clear c13
     by_cases c14 : x1001_1 ≥ (s0_0.size : Int)
     ·rw [if_pos c14] at H
      have c14b0 : decide ((s0_0.size : Int) ≤ x1001_1) = true := decide_eq_true c14
      clear c14
      simp only [Option.some.injEq, Prod.mk.injEq] at H
      obtain ⟨rfl, rfl, rfl, rfl, rfl⟩ := H
      obtain ⟨hcz15_0, hcz15_1, hcz15_2, hcz15_3, hfz15_0, hfz15_1, hfz15_2, hfz15_3⟩ := YA HI0.out.1
      go_wp2
      repeat (go_quiet (fail); try go_wp2)
      go_ret
      exact Z2h
     ·rw [if_neg c14] at H
      have c14b0 : decide ((s0_0.size : Int) ≤ x1001_1) = false := decide_eq_false c14
      clear c14
      by_cases c16 : 0 ≤ x1001_1
      ·rw [if_pos c16] at H
       exact ZA
      ·rw [if_neg c16] at H
       exact ZA
    ·rw [if_neg c13] at H
     have c13b0 : (s0_2 == 0) = false := beq_eq_false_iff_ne.mpr c13
     have c13b1 : (s0_2 != 0) = true := bne_iff_ne.mpr c13
     simp only [Option.some.injEq, Prod.mk.injEq] at H
     obtain ⟨rfl, rfl, rfl, rfl, rfl⟩ := H
     obtain ⟨hcz17_0, hcz17_1, hcz17_2, hcz17_3, hfz17_0, hfz17_1, hfz17_2, hfz17_3⟩ := YA HI0.out.1
     go_wp2
     repeat (go_quiet (fail); try go_wp2)
     go_ret
     exact Z2h
def Yt.f (s0_0 : ByteArray) (s0_1 : Int) (s0_2 : Int) (s0_3 : Int) (a1 : Int) (a2 : Int) : Option (Int × ByteArray × List ByteArray × (List (S37)) × ByteArray × Int × Int × Int) := if s0_2 = 0 then (some (0, (⟨#[]⟩ : ByteArray), ([] : List ByteArray), ([] : List (S37)), s0_0, s0_1, a2, a1)) else (some (0, (⟨#[]⟩ : ByteArray), ([] : List ByteArray), ([] : List (S37)), s0_0, s0_1, s0_2, s0_3))
set_option maxHeartbeats 8000000 in
set_option maxRecDepth 100000 in
theorem Yt.calls (g : Nat) (s0_0 : ByteArray) (s0_1 : Int) (s0_2 : Int) (s0_3 : Int) (a1 : Int) (a2 : Int) (r1 : Int) (r2 : ByteArray) (r3 : List ByteArray) (r4 : List (S37)) (r5 : ByteArray) (r6 : Int) (r7 : Int) (r8 : Int) (w0 w : World) (hI : YB w0 w g s0_0 s0_1 s0_2 s0_3) (hB : Below w0.heap.size w0 w) (h : Yt.f s0_0 s0_1 s0_2 s0_3 a1 a2 = some (r1, r2, r3, r4, r5, r6, r7, r8)) :
  Calls Tryd.prog 57 #[.pointer (some ⟨g, 0, none⟩), .int .i64 a1, .int .i64 a2] w fun e w' => ∃ v2_ v3_ : Value, e = .returned (.agg #[.int .i64 r1, .string r2, v2_, v3_]) ∧ Kd.R Kd.string 9 w' w.heap.size (fun k_ => (w.heap.size ≤ k_)) v2_ r3 ∧ Kd.N k37 37 w' w.heap.size (fun k_ => (w.heap.size ≤ k_) ∧ some k_ ≠ (v2_ : Value).ownBlock) v3_ r4 ∧ YB w0 w' g r5 r6 r7 r8 ∧ Below w0.heap.size w0 w' ∧ Y1 w w' g none := by
 have hu37 := Tryd.underlying37
 have HI0 := Y0.mk hI
 have HK := Y0.mk (Y1.refl w g none)
 have HL := Y0.mk hB.size
 clear hI
 have HW0 := Y0.mk hB.size
 have HB := Y0.mk hB
 clear hB
 have H : (if s0_2 = 0 then (some (0, (⟨#[]⟩ : ByteArray), ([] : List ByteArray), ([] : List (S37)), s0_0, s0_1, a2, a1)) else (some (0, (⟨#[]⟩ : ByteArray), ([] : List ByteArray), ([] : List (S37)), s0_0, s0_1, s0_2, s0_3))) = some (r1, r2, r3, r4, r5, r6, r7, r8) := h
 clear h
 by_cases c4 : s0_2 = 0
 ·rw [if_pos c4] at H
  have c4b0 : (s0_2 == 0) = true := beq_iff_eq.mpr c4
  have c4b1 : (s0_2 != 0) = false := bne_eq_false_iff_eq.mpr c4
  clear c4
  simp only [Option.some.injEq, Prod.mk.injEq] at H
  obtain ⟨rfl, rfl, rfl, rfl, rfl, rfl, rfl, rfl⟩ := H
  go_enter Tryd.func57, Tryd.ntmps57
  go_wp2_with (first | ((with_reducible refine YF (N := 6) rfl ?_); refine YE ?hg (N := 6) ?hd (cs := #[.int .i64 0, .string (⟨#[]⟩ : ByteArray), .slice none 0 0, .slice none 0 0]) (t := 37) ?hr ?_; (case hd => rfl); (case hg => rfl); (case hr => exact Za); intro gb101 hg w5 hbox hb; have n_ := Y4q (YB.below QI81_0 hb) (Y1.trans QK (Y1.of_below hb g none) (.inl rfl)) (Yb QB hb) (hbox) ((by rw [hg]; exact (Y8 (w := w) (g := g) (row := none) QK) : w.heap.size ≤ gb101)) ((Nat.le_trans HW0.out (by rw [hg]; exact (Y8 (w := w) (g := g) (row := none) QK) : w.heap.size ≤ gb101) : w0.heap.size ≤ gb101)) ((by rw [hg]; exact Nat.ne_of_lt (YB.lt (show YB w0 _ g s0_0 s0_1 s0_2 s0_3 from QI81_0)) : g ≠ gb101)) ((by rw [hg]; exact Nat.ne_of_gt (YB.lt (show YB w0 _ g s0_0 s0_1 s0_2 s0_3 from QI81_0)) : gb101 ≠ g)); clear HI0 HK HB; obtain ⟨HI0, HK, HB, BK101, GW101, GE101, NB0_101, NB101_0⟩ := n_; clear hb hbox hg; obtain ⟨HGz6, hgz6⟩ := HI0.out; have hcz6_0 := Y1r HGz6; have hcz6_1 := Y1s HGz6; have hcz6_2 := Y1t HGz6; have hcz6_3 := Y1u HGz6; have hfz6_0 := Y7 HGz6 0; have hfz6_1 := Y7 HGz6 1; have hfz6_2 := Y7 HGz6 2; have hfz6_3 := Y7 HGz6 3; clear HGz6 hgz6; have hnb7 := NB101_0.out; have hnc7 := NB0_101.out; obtain ⟨hcz8_0, hcz8_1, hcz8_2, hcz8_3, hfz8_0, hfz8_1, hfz8_2, hfz8_3⟩ := YA BK101.out))
  refine bodyPost_ret (results_cell_row rfl _ _ gb101 37 #[.int .i64 0, .string (⟨#[]⟩ : ByteArray), .slice none 0 0, .slice none 0 0] (0, 0) _ rfl Zq Tryd.underlying37 rfl Z6) rfl ?_
  exact ⟨_, _, Z2, Z5, Z5, QI81_0, QB, QK⟩
 ·rw [if_neg c4] at H
  have c4b0 : (s0_2 == 0) = false := beq_eq_false_iff_ne.mpr c4
  have c4b1 : (s0_2 != 0) = true := bne_iff_ne.mpr c4
  simp only [Option.some.injEq, Prod.mk.injEq] at H
  obtain ⟨rfl, rfl, rfl, rfl, rfl, rfl, rfl, rfl⟩ := H
  go_enter Tryd.func57, Tryd.ntmps57
  go_wp2_with (first | ((with_reducible refine YF (N := 6) rfl ?_); refine YE ?hg (N := 6) ?hd (cs := #[.int .i64 0, .string (⟨#[]⟩ : ByteArray), .slice none 0 0, .slice none 0 0]) (t := 37) ?hr ?_; (case hd => rfl); (case hg => rfl); (case hr => exact Za); intro gb101 hg w9 hbox hb; have n_ := Y4q (YB.below QI81_0 hb) (Y1.trans QK (Y1.of_below hb g none) (.inl rfl)) (Yb QB hb) (hbox) ((by rw [hg]; exact (Y8 (w := w) (g := g) (row := none) QK) : w.heap.size ≤ gb101)) ((Nat.le_trans HW0.out (by rw [hg]; exact (Y8 (w := w) (g := g) (row := none) QK) : w.heap.size ≤ gb101) : w0.heap.size ≤ gb101)) ((by rw [hg]; exact Nat.ne_of_lt (YB.lt (show YB w0 _ g s0_0 s0_1 s0_2 s0_3 from QI81_0)) : g ≠ gb101)) ((by rw [hg]; exact Nat.ne_of_gt (YB.lt (show YB w0 _ g s0_0 s0_1 s0_2 s0_3 from QI81_0)) : gb101 ≠ g)); clear HI0 HK HB; obtain ⟨HI0, HK, HB, BK101, GW101, GE101, NB0_101, NB101_0⟩ := n_; clear hb hbox hg; obtain ⟨HGz10, hgz10⟩ := HI0.out; have hcz10_0 := Y1r HGz10; have hcz10_1 := Y1s HGz10; have hcz10_2 := Y1t HGz10; have hcz10_3 := Y1u HGz10; have hfz10_0 := Y7 HGz10 0; have hfz10_1 := Y7 HGz10 1; have hfz10_2 := Y7 HGz10 2; have hfz10_3 := Y7 HGz10 3; clear HGz10 hgz10; have hnb11 := NB101_0.out; have hnc11 := NB0_101.out; obtain ⟨hcz12_0, hcz12_1, hcz12_2, hcz12_3, hfz12_0, hfz12_1, hfz12_2, hfz12_3⟩ := YA BK101.out))
  refine bodyPost_ret (results_cell_row rfl _ _ gb101 37 #[.int .i64 0, .string (⟨#[]⟩ : ByteArray), .slice none 0 0, .slice none 0 0] (0, 0) _ rfl Z1W Tryd.underlying37 rfl Z6) rfl ?_
  exact ⟨_, _, Z2, Z5, Z5, QI81_0, QB, QK⟩
mutual
def Y3.j1 : Nat → Int → ByteArray → Int → Int → Int → Option (ByteArray × ByteArray × Int × Int × Int)
 | 0, _, _, _, _, _ => none
 | k + 1, x3, x1000, x1001, x1002, x1003 => if x3 ≥ (x1000.size : Int) then ((Yt.f x1000 x1001 x1002 x1003 x1001 2).bind fun bt118 => (some ((⟨#[]⟩ : ByteArray), bt118.2.2.2.2.1, bt118.2.2.2.2.2.1, bt118.2.2.2.2.2.2.1, bt118.2.2.2.2.2.2.2))) else (if 0 ≤ (wrap64 (x1001 + 1)) then (if (wrap64 (x1001 + 1)) ≤ x3 then (if x3 ≤ (x1000.size : Int) then ((YV.f (x1000.extract ((wrap64 (x1001 + 1)) : Int).toNat (x3 : Int).toNat)).bind fun t130 => (if t130 = true then (some (x1000.extract ((wrap64 (x1001 + 1)) : Int).toNat (x3 : Int).toNat, x1000, wrap64 (x3 + 1), x1002, x1003)) else ((Yt.f x1000 x1001 x1002 x1003 x1001 2).bind fun bt131 => (some ((⟨#[]⟩ : ByteArray), bt131.2.2.2.2.1, bt131.2.2.2.2.2.1, bt131.2.2.2.2.2.2.1, bt131.2.2.2.2.2.2.2))))) else (none)) else (none)) else (none))
def Y3.l0 : Nat → Int → ByteArray → Int → Int → Int → Option (ByteArray × ByteArray × Int × Int × Int)
 | 0, _, _, _, _, _ => none
 | k + 1, x3, x1000, x1001, x1002, x1003 => if x3 < (x1000.size : Int) then (if 0 ≤ x3 then (if (bt x1000 x3) = 62 then (Y3.j1 k x3 x1000 x1001 x1002 x1003) else (Y3.l0 k (wrap64 (x3 + 1)) x1000 x1001 x1002 x1003)) else (none)) else (Y3.j1 k x3 x1000 x1001 x1002 x1003)
end
def Y3.f (k : Nat) (s0_0 : ByteArray) (s0_1 : Int) (s0_2 : Int) (s0_3 : Int) : Option (ByteArray × ByteArray × Int × Int × Int) := (Yd.f k s0_0 s0_1 s0_2 s0_3).bind fun bt101 => (if bt101.1 = 60 then (Y3.l0 k (wrap64 (bt101.2.2.1 + 1)) bt101.2.1 bt101.2.2.1 bt101.2.2.2.1 bt101.2.2.2.2) else ((Yt.f bt101.2.1 bt101.2.2.1 bt101.2.2.2.1 bt101.2.2.2.2 bt101.2.2.1 2).bind fun bt106 => (some ((⟨#[]⟩ : ByteArray), bt106.2.2.2.2.1, bt106.2.2.2.2.2.1, bt106.2.2.2.2.2.2.1, bt106.2.2.2.2.2.2.2))))
theorem Y3.mono_l : ∀ k, (∀ y0 y1 y2 y3 y4, LeO (Y3.j1 k y0 y1 y2 y3 y4) (Y3.j1 (k + 1) y0 y1 y2 y3 y4)) ∧ (∀ y0 y1 y2 y3 y4, LeO (Y3.l0 k y0 y1 y2 y3 y4) (Y3.l0 (k + 1) y0 y1 y2 y3 y4))
 | 0 => ⟨fun _ _ _ _ _ r h => by simp [Y3.j1] at h, fun _ _ _ _ _ r h => by simp [Y3.l0] at h⟩
 | k + 1 => by
  obtain ⟨ih0, ih1⟩ := Y3.mono_l k
  refine ⟨?_, ?_⟩
  ·intro y0 y1 y2 y3 y4
   unfold Y3.j1
   exact QM
  ·intro y0 y1 y2 y3 y4
   unfold Y3.l0
   exact QM
theorem Y3.mono : ∀ a0 a1 a2 a3 k, LeO (Y3.f k a0 a1 a2 a3) (Y3.f (k + 1) a0 a1 a2 a3) := by
 intro a0 a1 a2 a3 k
 obtain ⟨ih0, ih1⟩ := Y3.mono_l k
 unfold Y3.f
 exact QM
def Y3.T7 : Bool × List (List Nat × List Nat) := (true, [([], []), ([], []), ([1], [1]), ([2], [2]), ([3], [3]), ([4], [4]), ([0, 5], [0, 5]), ([6], [6]), ([7], [7]), ([8, 7], [7, 8]), ([9, 7], [7, 9]), ([10, 7], [7, 10]), ([7], [7]), ([12, 7], [7, 12]), ([13, 7], [7, 13]), ([14, 7], [7, 14]), ([15, 7], [7, 15]), ([7], [7]), ([11, 16, 17, 7], [7, 11, 16, 17]), ([18, 7, 7], [7, 18]), ([19, 7], [7, 19]), ([7, 20], [7, 20])])
def Y3.B7 : List Nat := [0, 0, 2, 6, 14, 30, 63, 127, 255, 511, 1023, 2047, 255, 4351, 12543, 28927, 61695, 255, 262143, 524287, 1048575, 2097151]
theorem Y3.tab7 : Y3G .any (Y3Z Tryd.f136 7) = Y3.T7 := by kernel_rfl
theorem Y3.bits7 : Y22 Y3.T7.2 Y3.B7 = true := by kernel_rfl
def Y3.T10 : Bool × List (List Nat × List Nat) := (true, [([], []), ([0], [0]), ([1], [1]), ([2], [2]), ([], []), ([4], [4]), ([5], [5]), ([6], [6]), ([7], [7]), ([], []), ([3, 8, 9], [3, 8, 9]), ([10, 0, 1, 2, 3, 4, 5, 6, 7, 8, 9, 10], [10])])
def Y3.B10 : List Nat := [0, 1, 3, 7, 0, 16, 48, 112, 240, 0, 1023, 2047]
theorem Y3.tab10 : Y3G .any (Y3Z Tryd.f136 10) = Y3.T10 := by kernel_rfl
theorem Y3.bits10 : Y22 Y3.T10.2 Y3.B10 = true := by kernel_rfl
set_option maxHeartbeats 8000000 in
set_option maxRecDepth 100000 in
theorem Y3.calls (k : Nat) (g : Nat) (s0_0 : ByteArray) (s0_1 : Int) (s0_2 : Int) (s0_3 : Int) (r1 : ByteArray) (r2 : ByteArray) (r3 : Int) (r4 : Int) (r5 : Int) (w0 w : World) (hI : YB w0 w g s0_0 s0_1 s0_2 s0_3) (hB : Below w0.heap.size w0 w) (hT : Tabs w0) (h : Y3.f k s0_0 s0_1 s0_2 s0_3 = some (r1, r2, r3, r4, r5)) :
  Calls Tryd.prog 136 #[.pointer (some ⟨g, 0, none⟩)] w fun e w' => e = .returned (.string r1) ∧ YB w0 w' g r2 r3 r4 r5 ∧ Below w0.heap.size w0 w' ∧ Y1 w w' g none := by
 have HT := Y0.mk hT
 clear hT
 have HI0 := Y0.mk hI
 have HK := Y0.mk (Y1.refl w g none)
 have HL := Y0.mk hB.size
 clear hI
 have HW0 := Y0.mk hB.size
 have HB := Y0.mk hB
 clear hB
 have H : ((Yd.f k s0_0 s0_1 s0_2 s0_3).bind fun bt101 => (if bt101.1 = 60 then (Y3.l0 k (wrap64 (bt101.2.2.1 + 1)) bt101.2.1 bt101.2.2.1 bt101.2.2.2.1 bt101.2.2.2.2) else ((Yt.f bt101.2.1 bt101.2.2.1 bt101.2.2.2.1 bt101.2.2.2.2 bt101.2.2.1 2).bind fun bt106 => (some ((⟨#[]⟩ : ByteArray), bt106.2.2.2.2.1, bt106.2.2.2.2.2.1, bt106.2.2.2.2.2.2.1, bt106.2.2.2.2.2.2.2))))) = some (r1, r2, r3, r4, r5) := h
 clear h
 replace H := Option.bind_eq_some_iff.mp H
 obtain ⟨⟨t101, t102, t103, t104, t105⟩, A20, H⟩ := H
 replace H : (if t101 = 60 then (Y3.l0 k (wrap64 (t103 + 1)) t102 t103 t104 t105) else ((Yt.f t102 t103 t104 t105 t103 2).bind fun bt106 => (some ((⟨#[]⟩ : ByteArray), bt106.2.2.2.2.1, bt106.2.2.2.2.2.1, bt106.2.2.2.2.2.2.1, bt106.2.2.2.2.2.2.2)))) = some (r1, r2, r3, r4, r5) := H
 have A2 := Y0.mk A20
 clear A20
 by_cases c3 : t101 = 60
 ·rw [if_pos c3] at H
  have c3b0 : (t101 == 60) = true := beq_iff_eq.mpr c3
  have c3b1 : (t101 != 60) = false := bne_eq_false_iff_eq.mpr c3
  clear c3
  have HC4 := Y0.mk H
  clear H
  go_enter Tryd.func136, Tryd.ntmps136
  go_upto_block 0 with (first | ((with_reducible refine Yn (f := 56) rfl ?_); refine YO (some 6) rfl rfl Tryd.func56 Z6 rfl #[.pointer (some ⟨g, 0, none⟩)] rfl Z0 ?_; (with_reducible refine (Yd.calls k g s0_0 s0_1 s0_2 s0_3 t101 t102 t103 t104 t105 w0 _ ?side1 ?side2 A2.out).mono ?_); (case side1 => exact Z1n); (case side2 => exact QB); rintro e w5 ⟨rfl, hi, hb, hk⟩; refine ⟨_, rfl, ?_⟩; have n_ := Y2Z (Y1.trans QK hk (.inl rfl)) (hb) (hi); clear HK HB HI0; obtain ⟨HK, HB, HI0⟩ := n_; (try clear hb); (try clear hb2); (try clear hk); (try clear hi); obtain ⟨HGz6, hgz6⟩ := HI0.out; have hcz6_0 := Y1r HGz6; have hcz6_1 := Y1s HGz6; have hcz6_2 := Y1t HGz6; have hcz6_3 := Y1u HGz6; have hfz6_0 := Y7 HGz6 0; have hfz6_1 := Y7 HGz6 1; have hfz6_2 := Y7 HGz6 2; have hfz6_3 := Y7 HGz6 3; clear HGz6 hgz6))
  (try simp only [Act.put, List.setIfInBounds_toArray, List.set_cons_zero, List.set_cons_succ])
  go_cut [3] (fun v3 wc => ∃ (kq : Nat) (x3_3 : Int), v3 = .int .i64 x3_3 ∧ Y0 (Y3.j1 kq x3_3 t102 t103 t104 t105 = some (r1, r2, r3, r4, r5)) ∧ Y0 (kq ≤ k) ∧ Y0 (YB w0 wc g t102 t103 t104 t105) ∧ Y0 (Y1 w wc g none) ∧ Y0 (Below w0.heap.size w0 wc))
  case first =>
   have H := HC4.out
   clear HC4
   have H' := Y0.mk H
   clear H
   go_wp2
   go_loopg [3] k (fun kq v3 w' => ∃ (x3_1 : Int), v3 = .int .i64 x3_1 ∧ Y0 (Y3.l0 kq x3_1 t102 t103 t104 t105 = some (r1, r2, r3, r4, r5)) ∧ Y0 (kq ≤ k) ∧ Y0 (YB w0 w' g t102 t103 t104 t105) ∧ Y0 (Y1 w w' g none) ∧ Y0 (Below w0.heap.size w0 w'))
   case atStart => exact ⟨(wrap64 (t103 + 1)), Z7, H', ⟨Nat.le_refl _⟩, ⟨QI81_0⟩, ⟨QK⟩, ⟨QB⟩⟩
   case round =>
    clear H'
    try clear c1
    try clear p2
    try clear c3
    try clear c3b0
    try clear c3b1
    try clear c5
    try clear p6
    try clear hcz6_0 hcz6_1 hcz6_2 hcz6_3 hfz6_0 hfz6_1 hfz6_2 hfz6_3
    obtain ⟨x3_1, rfl, HA, HK1, HI0, HK, HB⟩ := hrel
    cases gk with
    | zero => exact absurd HA.out (by simp [Y3.l0])
    | succ k1 =>
     have H := HA.out
     clear HA
     simp only [Y3.l0] at H
     by_cases c7 : x3_1 < (t102.size : Int)
     ·rw [if_pos c7] at H
      have c7b0 : decide (x3_1 < (t102.size : Int)) = true := decide_eq_true c7
      clear c7
      (first | rw [c7b0] | (simp only [Y16, Y17]; rw [c7b0]) | skip)
      by_cases c8 : 0 ≤ x3_1
      ·rw [if_pos c8] at H
       have c8b0 : decide (0 ≤ x3_1) = true := decide_eq_true c8
       clear c8
       by_cases c10 : (bt t102 x3_1) = 62
       ·rw [if_pos c10] at H
        have c10b0 : ((bt t102 x3_1) == 62) = true := beq_iff_eq.mpr c10
        have c10b1 : ((bt t102 x3_1) != 62) = false := bne_eq_false_iff_eq.mpr c10
        clear c10
        have H' := Y0.mk H
        clear H
        obtain ⟨hcz11_0, hcz11_1, hcz11_2, hcz11_3, hfz11_0, hfz11_1, hfz11_2, hfz11_3⟩ := YA HI0.out.1
        have p9 : 0 ≤ (x3_1 : Int) := of_decide_eq_true Z8
        have q9 : x3_1 < (t102.size : Int) := of_decide_eq_true Z8
        have hx9 := Y49 t102 x3_1
        replace p9 := eq_true p9
        replace q9 := eq_true q9
        go_wp2
        go_meet
        case rel => exact ⟨_, (x3_1), Z7, H', ⟨Z2i⟩, ⟨QI81_0⟩, ⟨QK⟩, ⟨QB⟩⟩
       ·rw [if_neg c10] at H
        have c10b0 : ((bt t102 x3_1) == 62) = false := beq_eq_false_iff_ne.mpr c10
        have c10b1 : ((bt t102 x3_1) != 62) = true := bne_iff_ne.mpr c10
        have H' := Y0.mk H
        clear H
        obtain ⟨hcz12_0, hcz12_1, hcz12_2, hcz12_3, hfz12_0, hfz12_1, hfz12_2, hfz12_3⟩ := YA HI0.out.1
        have p9 : 0 ≤ (x3_1 : Int) := of_decide_eq_true Z8
        have q9 : x3_1 < (t102.size : Int) := of_decide_eq_true Z8
        have hx9 := Y49 t102 x3_1
        replace p9 := eq_true p9
        replace q9 := eq_true q9
        go_wp2
        go_roundg k1
        case measure => have := HK1.out; omega
        case rel => exact ⟨(wrap64 (x3_1 + 1)), Z7, H', ⟨Z13⟩, ⟨QI81_0⟩, ⟨QK⟩, ⟨QB⟩⟩
      ·rw [if_neg c8] at H
       exact ZA
     ·rw [if_neg c7] at H
      have c7b0 : decide (x3_1 < (t102.size : Int)) = false := decide_eq_false c7
      clear c7
      (first | rw [c7b0] | (simp only [Y16, Y17]; rw [c7b0]) | skip)
      have H' := Y0.mk H
      clear H
      obtain ⟨hcz13_0, hcz13_1, hcz13_2, hcz13_3, hfz13_0, hfz13_1, hfz13_2, hfz13_3⟩ := YA HI0.out.1
      go_wp2
      go_meet
      case rel => exact ⟨_, (x3_1), Z7, H', ⟨Z2i⟩, ⟨QI81_0⟩, ⟨QK⟩, ⟨QB⟩⟩
  case rest =>
   clear HC4
   try clear c1
   try clear p2
   try clear c3
   try clear c3b0
   try clear c3b1
   try clear c5
   try clear p6
   try clear c7
   try clear c7b0
   try clear c8
   try clear c8b0
   try clear p9
   try clear q9
   try clear hx9
   try clear c10
   try clear c10b0
   try clear c10b1
   try clear c13
   try clear hcz11_0 hcz11_1 hcz11_2 hcz11_3
   try clear hcz12_0 hcz12_1 hcz12_2 hcz12_3
   try clear hcz13_0 hcz13_1 hcz13_2 hcz13_3
   try clear hcz6_0 hcz6_1 hcz6_2 hcz6_3
   try clear hfz11_0
   try clear hfz11_1
   try clear hfz11_2
   try clear hfz11_3
   try clear hfz12_0
   try clear hfz12_1
   try clear hfz12_2
   try clear hfz12_3
   try clear hfz13_0
   try clear hfz13_1
   try clear hfz13_2
   try clear hfz13_3
   try clear hfz6_0
   try clear hfz6_1
   try clear hfz6_2
   try clear hfz6_3
   try clear p2
   try clear p6
   try clear p9
   try clear q9
   obtain ⟨kq, x3_3, rfl, HA, HJ3, HI0, HK, HB⟩ := hcut
   cases kq with
   | zero => exact absurd HA.out (by simp [Y3.j1])
   | succ kj3 =>
    have H := HA.out
    clear HA
    simp only [Y3.j1] at H
    by_cases c14 : x3_3 ≥ (t102.size : Int)
    ·rw [if_pos c14] at H
     have c14b0 : decide ((t102.size : Int) ≤ x3_3) = true := decide_eq_true c14
     clear c14
     replace H := Option.bind_eq_some_iff.mp H
     obtain ⟨⟨t118, t119, t120, t123, t126, t127, t128, t129⟩, A150, H⟩ := H
     replace H : (some ((⟨#[]⟩ : ByteArray), t126, t127, t128, t129)) = some (r1, r2, r3, r4, r5) := H
     have A15 := Y0.mk A150
     clear A150
     simp only [Option.some.injEq, Prod.mk.injEq] at H
     obtain ⟨rfl, rfl, rfl, rfl, rfl⟩ := H
     try go_wp2
     have n_ := Y2Z (YB.drew HI0.out) (Y1F HK.out) (YP HB.out)
     clear HI0
     clear HK
     clear HB
     obtain ⟨HI0, HK, HB⟩ := n_
     refine Y1l (n := 22) (S := fun w' => w'.cell? ⟨g, 0, none⟩ = some (.string t102) ∧ w'.cell? ⟨g, 1, none⟩ = some (.int .i64 t103) ∧ w'.cell? ⟨g, 2, none⟩ = some (.int .i64 t104) ∧ w'.cell? ⟨g, 3, none⟩ = some (.int .i64 t105)) (ds := []) Y4z Z6 rfl rfl ⟨Y1r HI0.out.1, Y1s HI0.out.1, Y1t HI0.out.1, Y1u HI0.out.1⟩ (fun hHeld => ?_); refine YW Y3.tab7 Y3.bits7 (fun HT_ HW_ => ?_)
     generalize wc.drew = w16 at HI0 HK HB hHeld ⊢
     refine pY 0 37 Y4A ?_
     refine pY 1 38 Y4B ?_
     refine pY 2 39 Y4C ?_
     refine pY 3 40 bz22_f ?_
     refine pT 4 41 Y5Y ?_
     refine pY 5 42 Y5Z ?_
     refine pY 6 43 Y3O ?_
     refine pY 7 44 Y3P ?_
     refine pU 8 45 Y3e ?_
     refine pU 9 46 Y3f ?_
     refine pU 10 47 Y3g ?_
     refine pU 11 48 Y3W ?_
     refine pU 12 49 Y3t ?_
     refine pU 13 50 Y3u ?_
     refine pU 14 51 Y4D ?_
     refine pU 15 52 Y4E ?_
     refine pU 16 53 Y4b ?_
     refine pU 17 54 Y2y ?_
     refine pU 18 55 Y2z ?_
     refine pU 19 56 Y2A ?_
     refine pU 20 57 Y2l ?_
     refine pY 21 58 Y2m ?_
     refine Y1Q (Y1a HT_.out Z6) ?_
     obtain ⟨hcz17_0, hcz17_1, hcz17_2, hcz17_3, hfz17_0, hfz17_1, hfz17_2, hfz17_3⟩ := YA HI0.out.1
     try go_wp2_with (first | ((with_reducible refine Yn (f := 57) rfl ?_); refine YO (some 64) rfl rfl Tryd.func57 Z6 rfl #[.pointer (some ⟨g, 0, none⟩), .int .i64 t103, .int .i64 2] rfl Z0 ?_; (with_reducible refine (Yt.calls g t102 t103 t104 t105 t103 2 t118 t119 t120 t123 t126 t127 t128 t129 w0 _ ?side1 ?side2 A15.out).mono ?_); (case side1 => exact Z1n); (case side2 => exact QB); rintro e w18 ⟨v121, v124, rfl, ho0, ho1, hi, hb, hk⟩; refine ⟨_, rfl, ?_⟩; have n_ := Y4k (Kd.R_lower (Kd.R_mono (ok' := fun k_ => True) ho0 (fun _ hk_ => trivial)) (Y8 (w := w) (g := g) (row := none) QK)) (Kd.N_lower (Kd.N_mono (ok' := fun k_ => some k_ ≠ (v121 : Value).ownBlock ∧ k_ ≠ g) ho1 (fun k_ hk_ => ⟨hk_.2, (YB.fresh QI81_0 k_ hk_.1)⟩)) (Y8 (w := w) (g := g) (row := none) QK)) (Y1.trans QK hk (.inl rfl)) (hb) (hi); clear HK HB HI0; obtain ⟨HO122, HO125, HK, HB, HI0⟩ := n_; (try clear hb); (try clear hb2); (try clear hk); (try clear hi); (try clear ho0); (try clear ho1)))
     go_ret
     exact Z2h
    ·rw [if_neg c14] at H
     have c14b0 : decide ((t102.size : Int) ≤ x3_3) = false := decide_eq_false c14
     clear c14
     obtain ⟨ji19, hji19⟩ : ∃ j_ : Int, (wrap64 (t103 + 1)) = j_ := ⟨_, rfl⟩
     replace H : (if 0 ≤ (ji19) then (if (ji19) ≤ x3_3 then (if x3_3 ≤ (t102.size : Int) then ((YV.f (t102.extract ((ji19) : Int).toNat (x3_3 : Int).toNat)).bind fun t130 => (if t130 = true then (some (t102.extract ((ji19) : Int).toNat (x3_3 : Int).toNat, t102, wrap64 (x3_3 + 1), t104, t105)) else ((Yt.f t102 t103 t104 t105 t103 2).bind fun bt131 => (some ((⟨#[]⟩ : ByteArray), bt131.2.2.2.2.1, bt131.2.2.2.2.2.1, bt131.2.2.2.2.2.2.1, bt131.2.2.2.2.2.2.2))))) else (none)) else (none)) else (none)) = some (r1, r2, r3, r4, r5) := by first | (rw [hji19] at H; exact H) | (simp only [hji19] at H ⊢; exact H)
     have hji19w : (IntKind.i64.wrap (t103 + 1)) = ji19 := (Y16 _).trans hji19
     by_cases c20 : 0 ≤ (ji19)
     ·rw [if_pos c20] at H
      have c20b0 := eq_true c20
      have c20b1 : decide (0 ≤ (ji19)) = true := decide_eq_true c20
      clear c20
      by_cases c21 : (ji19) ≤ x3_3
      ·rw [if_pos c21] at H
       have c21b0 := eq_true c21
       have c21b1 : decide ((ji19) ≤ x3_3) = true := decide_eq_true c21
       clear c21
       by_cases c22 : x3_3 ≤ (t102.size : Int)
       ·rw [if_pos c22] at H
        have c22b0 := eq_true c22
        have c22b1 : decide (x3_3 ≤ (t102.size : Int)) = true := decide_eq_true c22
        clear c22
        replace H := Option.bind_eq_some_iff.mp H
        obtain ⟨t130, A230, H⟩ := H
        replace H : (if t130 = true then (some (t102.extract ((ji19) : Int).toNat (x3_3 : Int).toNat, t102, wrap64 (x3_3 + 1), t104, t105)) else ((Yt.f t102 t103 t104 t105 t103 2).bind fun bt131 => (some ((⟨#[]⟩ : ByteArray), bt131.2.2.2.2.1, bt131.2.2.2.2.2.1, bt131.2.2.2.2.2.2.1, bt131.2.2.2.2.2.2.2)))) = some (r1, r2, r3, r4, r5) := H
        have A23 := Y0.mk A230
        clear A230
        by_cases c24 : t130 = true
        ·subst c24
         have H1 : (some (t102.extract ((ji19) : Int).toNat (x3_3 : Int).toNat, t102, wrap64 (x3_3 + 1), t104, t105)) = some (r1, r2, r3, r4, r5) := by rw [if_pos rfl] at H; exact H
         clear H
         have H := H1
         clear H1
         have c25b0 := eq_true (of_decide_eq_true Z8 : 0 ≤ (ji19))
         have c26b0 := eq_true (of_decide_eq_true Z8 : (ji19) ≤ x3_3)
         have c27b0 := eq_true (of_decide_eq_true Z8 : x3_3 ≤ (t102.size : Int))
         simp only [Option.some.injEq, Prod.mk.injEq] at H
         obtain ⟨rfl, rfl, rfl, rfl, rfl⟩ := H
         try go_wp2
         have n_ := Y2Z (YB.drew HI0.out) (Y1F HK.out) (YP HB.out)
         clear HI0
         clear HK
         clear HB
         obtain ⟨HI0, HK, HB⟩ := n_
         refine Y1l (n := 22) (S := fun w' => w'.cell? ⟨g, 0, none⟩ = some (.string t102) ∧ w'.cell? ⟨g, 1, none⟩ = some (.int .i64 t103) ∧ w'.cell? ⟨g, 2, none⟩ = some (.int .i64 t104) ∧ w'.cell? ⟨g, 3, none⟩ = some (.int .i64 t105)) (ds := []) Y4z Z6 rfl rfl ⟨Y1r HI0.out.1, Y1s HI0.out.1, Y1t HI0.out.1, Y1u HI0.out.1⟩ (fun hHeld => ?_); refine YW Y3.tab7 Y3.bits7 (fun HT_ HW_ => ?_)
         generalize wc.drew = w28 at HI0 HK HB hHeld ⊢
         refine pY 0 37 Y4A ?_
         refine pY 1 38 Y4B ?_
         refine pY 2 39 Y4C ?_
         refine pY 3 40 bz22_f ?_
         refine pT 4 41 Y5Y ?_
         refine pY 5 42 Y5Z ?_
         refine pY 6 43 Y3O ?_
         refine pY 7 44 Y3P ?_
         refine pY 8 45 Y3e ?_
         refine pY 9 46 Y3f ?_
         refine pY 10 47 Y3g ?_
         refine pY 12 49 Y5B ?_
         refine pY 13 50 Y5C ?_
         refine pY 14 51 Y5D ?_
         refine pY 17 54 Y53 ?_
         refine pT 11 48 Y54 ?_
         refine pT 15 52 Y55 ?_
         refine pY 16 53 Y2y ?_
         refine pY 18 55 Y2z ?_
         refine Y2T (i := 19) (N := some 56) Y2A rfl rfl (Y1j HT_.out Z6) (by decide) (fun K hK => ?_)
         refine Y21 Tryd.func45 Z6 rfl #[.string (t102.extract ((ji19) : Int).toNat (x3_3 : Int).toNat)] (by rfl) rfl rfl Z1m ?_
         with_reducible refine (YV.calls (t102.extract ((ji19) : Int).toNat (x3_3 : Int).toNat) true _ ?side1 A23.out).mono ?_
         (case side1 => exact Z3)
         rintro e w29 ⟨rfl, hb⟩
         refine ⟨_, rfl, ?_⟩
         have n_ := Y2Z (YB.below QI81_0 hb) (Y1.trans QK (Y1.of_below hb g none) (.inl rfl)) (Yb QB hb)
         clear HI0
         clear HK
         clear HB
         obtain ⟨HI0, HK, HB⟩ := n_
         (try clear hb)
         (try clear hb2)
         (try clear hk)
         (try clear hi)
         refine hK.out _ _ ⟨Y1r HI0.out.1, Y1s HI0.out.1, Y1t HI0.out.1, Y1u HI0.out.1⟩ (fun hHeld => ?_)
         clear hK K
         refine Y1H (a' := ?_) ?_ ?_
         rotate_left
         ·show Act.put _ (some 56) _ = _
          simp only [Act.put, List.setIfInBounds_toArray, List.set_cons_zero, List.set_cons_succ, Y16, Y17]
          rfl
         refine pY 20 57 Y2l ?_
         refine pY 21 58 Y2m ?_
         refine Y1Q (Y1a HT_.out Z6) ?_
         try go_wp2
         have n_ := Y2Z (YB.drew HI0.out) (Y1F HK.out) (YP HB.out)
         clear HI0
         clear HK
         clear HB
         obtain ⟨HI0, HK, HB⟩ := n_
         refine Y1l (n := 12) (S := fun w' => w'.cell? ⟨g, 0, none⟩ = some (.string t102) ∧ w'.cell? ⟨g, 1, none⟩ = some (.int .i64 t103) ∧ w'.cell? ⟨g, 2, none⟩ = some (.int .i64 t104) ∧ w'.cell? ⟨g, 3, none⟩ = some (.int .i64 t105)) (ds := []) Y4x Z6 rfl rfl ⟨Y1r HI0.out.1, Y1s HI0.out.1, Y1t HI0.out.1, Y1u HI0.out.1⟩ (fun hHeld => ?_); refine YW Y3.tab10 Y3.bits10 (fun HT_ HW_ => ?_)
         generalize w29.drew = w30 at HI0 HK HB hHeld ⊢
         refine pY 0 65 Y4y ?_
         refine pY 1 66 Y5y ?_
         refine pY 2 67 Y5z ?_
         refine pY 4 69 bz12_17 ?_
         refine pY 5 70 bz12_37 ?_
         refine pY 6 71 bz12_77 ?_
         refine pY 9 74 bz12_277 ?_
         refine pT 3 68 bz12_27f ?_
         refine pT 7 72 bz12_2ff ?_
         refine pY 8 73 Y3b ?_
         refine pY 10 75 Y3c ?_
         refine pY 11 4 Y3d ?_
         refine Y1Q (Y1a HT_.out Z6) ?_
         obtain ⟨hcz31_0, hcz31_1, hcz31_2, hcz31_3, hfz31_0, hfz31_1, hfz31_2, hfz31_3⟩ := YA HI0.out.1
         try go_wp2
         go_ret
         exact Z1l
        ·replace c24 := Bool.eq_false_iff.mpr c24
         subst c24
         have H1 : ((Yt.f t102 t103 t104 t105 t103 2).bind fun bt131 => (some ((⟨#[]⟩ : ByteArray), bt131.2.2.2.2.1, bt131.2.2.2.2.2.1, bt131.2.2.2.2.2.2.1, bt131.2.2.2.2.2.2.2))) = some (r1, r2, r3, r4, r5) := by rw [if_neg (show ¬ (false = true) by decide)] at H; exact H
         clear H
         have H := H1
         clear H1
         replace H := Option.bind_eq_some_iff.mp H
         obtain ⟨⟨t131, t132, t133, t136, t139, t140, t141, t142⟩, A320, H⟩ := H
         replace H : (some ((⟨#[]⟩ : ByteArray), t139, t140, t141, t142)) = some (r1, r2, r3, r4, r5) := H
         have A32 := Y0.mk A320
         clear A320
         simp only [Option.some.injEq, Prod.mk.injEq] at H
         obtain ⟨rfl, rfl, rfl, rfl, rfl⟩ := H
         try go_wp2
         have n_ := Y2Z (YB.drew HI0.out) (Y1F HK.out) (YP HB.out)
         clear HI0
         clear HK
         clear HB
         obtain ⟨HI0, HK, HB⟩ := n_
         refine Y1l (n := 22) (S := fun w' => w'.cell? ⟨g, 0, none⟩ = some (.string t102) ∧ w'.cell? ⟨g, 1, none⟩ = some (.int .i64 t103) ∧ w'.cell? ⟨g, 2, none⟩ = some (.int .i64 t104) ∧ w'.cell? ⟨g, 3, none⟩ = some (.int .i64 t105)) (ds := []) Y4z Z6 rfl rfl ⟨Y1r HI0.out.1, Y1s HI0.out.1, Y1t HI0.out.1, Y1u HI0.out.1⟩ (fun hHeld => ?_); refine YW Y3.tab7 Y3.bits7 (fun HT_ HW_ => ?_)
         generalize wc.drew = w33 at HI0 HK HB hHeld ⊢
         refine pY 0 37 Y4A ?_
         refine pY 1 38 Y4B ?_
         refine pY 2 39 Y4C ?_
         refine pY 3 40 bz22_f ?_
         refine pT 4 41 Y5Y ?_
         refine pY 5 42 Y5Z ?_
         refine pY 6 43 Y3O ?_
         refine pY 7 44 Y3P ?_
         refine pY 8 45 Y3e ?_
         refine pY 9 46 Y3f ?_
         refine pY 10 47 Y3g ?_
         refine pY 12 49 Y5B ?_
         refine pY 13 50 Y5C ?_
         refine pY 14 51 Y5D ?_
         refine pY 17 54 Y53 ?_
         refine pT 11 48 Y54 ?_
         refine pT 15 52 Y55 ?_
         refine pY 16 53 Y2y ?_
         refine pY 18 55 Y2z ?_
         refine Y2T (i := 19) (N := some 56) Y2A rfl rfl (Y1j HT_.out Z6) (by decide) (fun K hK => ?_)
         refine Y21 Tryd.func45 Z6 rfl #[.string (t102.extract ((ji19) : Int).toNat (x3_3 : Int).toNat)] (by rfl) rfl rfl Z1m ?_
         with_reducible refine (YV.calls (t102.extract ((ji19) : Int).toNat (x3_3 : Int).toNat) false _ ?side1 A23.out).mono ?_
         (case side1 => exact Z3)
         rintro e w34 ⟨rfl, hb⟩
         refine ⟨_, rfl, ?_⟩
         have n_ := Y2Z (YB.below QI81_0 hb) (Y1.trans QK (Y1.of_below hb g none) (.inl rfl)) (Yb QB hb)
         clear HI0
         clear HK
         clear HB
         obtain ⟨HI0, HK, HB⟩ := n_
         (try clear hb)
         (try clear hb2)
         (try clear hk)
         (try clear hi)
         refine hK.out _ _ ⟨Y1r HI0.out.1, Y1s HI0.out.1, Y1t HI0.out.1, Y1u HI0.out.1⟩ (fun hHeld => ?_)
         clear hK K
         refine Y1H (a' := ?_) ?_ ?_
         rotate_left
         ·show Act.put _ (some 56) _ = _
          simp only [Act.put, List.setIfInBounds_toArray, List.set_cons_zero, List.set_cons_succ, Y16, Y17]
          rfl
         refine pY 20 57 Y2l ?_
         refine pY 21 58 Y2m ?_
         refine Y1Q (Y1a HT_.out Z6) ?_
         obtain ⟨hcz35_0, hcz35_1, hcz35_2, hcz35_3, hfz35_0, hfz35_1, hfz35_2, hfz35_3⟩ := YA HI0.out.1
         try go_wp2_with (first | ((with_reducible refine Yn (f := 57) rfl ?_); refine YO (some 64) rfl rfl Tryd.func57 Z6 rfl #[.pointer (some ⟨g, 0, none⟩), .int .i64 t103, .int .i64 2] rfl Z0 ?_; (with_reducible refine (Yt.calls g t102 t103 t104 t105 t103 2 t131 t132 t133 t136 t139 t140 t141 t142 w0 _ ?side1 ?side2 A32.out).mono ?_); (case side1 => exact Z1n); (case side2 => exact QB); rintro e w36 ⟨v134, v137, rfl, ho0, ho1, hi, hb, hk⟩; refine ⟨_, rfl, ?_⟩; have n_ := Y4k (Kd.R_lower (Kd.R_mono (ok' := fun k_ => True) ho0 (fun _ hk_ => trivial)) (Y8 (w := w) (g := g) (row := none) QK)) (Kd.N_lower (Kd.N_mono (ok' := fun k_ => some k_ ≠ (v134 : Value).ownBlock ∧ k_ ≠ g) ho1 (fun k_ hk_ => ⟨hk_.2, (YB.fresh QI81_0 k_ hk_.1)⟩)) (Y8 (w := w) (g := g) (row := none) QK)) (Y1.trans QK hk (.inl rfl)) (hb) (hi); clear HK HB HI0; obtain ⟨HO135, HO138, HK, HB, HI0⟩ := n_; (try clear hb); (try clear hb2); (try clear hk); (try clear hi); (try clear ho0); (try clear ho1)))
         go_ret
         exact Z1l
       ·rw [if_neg c22] at H
        exact ZA
      ·rw [if_neg c21] at H
       exact ZA
     ·rw [if_neg c20] at H
      exact ZA
 ·rw [if_neg c3] at H
  have c3b0 : (t101 == 60) = false := beq_eq_false_iff_ne.mpr c3
  have c3b1 : (t101 != 60) = true := bne_iff_ne.mpr c3
  replace H := Option.bind_eq_some_iff.mp H
  obtain ⟨⟨t106, t107, t108, t111, t114, t115, t116, t117⟩, A370, H⟩ := H
  replace H : (some ((⟨#[]⟩ : ByteArray), t114, t115, t116, t117)) = some (r1, r2, r3, r4, r5) := H
  have A37 := Y0.mk A370
  clear A370
  simp only [Option.some.injEq, Prod.mk.injEq] at H
  obtain ⟨rfl, rfl, rfl, rfl, rfl⟩ := H
  go_enter Tryd.func136, Tryd.ntmps136
  go_wp2_with (first | ((with_reducible refine Yn (f := 56) rfl ?_); refine YO (some 6) rfl rfl Tryd.func56 Z6 rfl #[.pointer (some ⟨g, 0, none⟩)] rfl Z0 ?_; (with_reducible refine (Yd.calls k g s0_0 s0_1 s0_2 s0_3 t101 t102 t103 t104 t105 w0 _ ?side1 ?side2 A2.out).mono ?_); (case side1 => exact Z1n); (case side2 => exact QB); rintro e w38 ⟨rfl, hi, hb, hk⟩; refine ⟨_, rfl, ?_⟩; have n_ := Y2Z (Y1.trans QK hk (.inl rfl)) (hb) (hi); clear HK HB HI0; obtain ⟨HK, HB, HI0⟩ := n_; (try clear hb); (try clear hb2); (try clear hk); (try clear hi); obtain ⟨HGz39, hgz39⟩ := HI0.out; have hcz39_0 := Y1r HGz39; have hcz39_1 := Y1s HGz39; have hcz39_2 := Y1t HGz39; have hcz39_3 := Y1u HGz39; have hfz39_0 := Y7 HGz39 0; have hfz39_1 := Y7 HGz39 1; have hfz39_2 := Y7 HGz39 2; have hfz39_3 := Y7 HGz39 3; clear HGz39 hgz39) | ((with_reducible refine Yn (f := 57) rfl ?_); refine YO (some 13) rfl rfl Tryd.func57 Z6 rfl #[.pointer (some ⟨g, 0, none⟩), .int .i64 t103, .int .i64 2] rfl Z0 ?_; (with_reducible refine (Yt.calls g t102 t103 t104 t105 t103 2 t106 t107 t108 t111 t114 t115 t116 t117 w0 _ ?side1 ?side2 A37.out).mono ?_); (case side1 => exact Z1n); (case side2 => exact QB); rintro e w40 ⟨v109, v112, rfl, ho0, ho1, hi, hb, hk⟩; refine ⟨_, rfl, ?_⟩; have n_ := Y4k (Kd.R_lower (Kd.R_mono (ok' := fun k_ => True) ho0 (fun _ hk_ => trivial)) (Y8 (w := w) (g := g) (row := none) QK)) (Kd.N_lower (Kd.N_mono (ok' := fun k_ => some k_ ≠ (v109 : Value).ownBlock ∧ k_ ≠ g) ho1 (fun k_ hk_ => ⟨hk_.2, (YB.fresh QI81_0 k_ hk_.1)⟩)) (Y8 (w := w) (g := g) (row := none) QK)) (Y1.trans QK hk (.inl rfl)) (hb) (hi); clear HK HB HI0; obtain ⟨HO110, HO113, HK, HB, HI0⟩ := n_; (try clear hb); (try clear hb2); (try clear hk); (try clear hi); (try clear ho0); (try clear ho1)))
  go_ret
  exact Z2h
def Yl.f (k : Nat) (s0_0 : ByteArray) (s0_1 : Int) (s0_2 : Int) (s0_3 : Int) (a1 : Int) : Option (Bool × ByteArray × Int × Int × Int) := (Yd.f k s0_0 s0_1 s0_2 s0_3).bind fun bt101 => (if bt101.1 = a1 then (some (true, bt101.2.1, wrap64 (bt101.2.2.1 + 1), bt101.2.2.2.1, bt101.2.2.2.2)) else (some (false, bt101.2.1, bt101.2.2.1, bt101.2.2.2.1, bt101.2.2.2.2)))
theorem Yl.mono : ∀ a0 a1 a2 a3 a4 k, LeO (Yl.f k a0 a1 a2 a3 a4) (Yl.f (k + 1) a0 a1 a2 a3 a4) := by
 intro a0 a1 a2 a3 a4 k
 unfold Yl.f
 exact QM
set_option maxHeartbeats 8000000 in
set_option maxRecDepth 100000 in
theorem Yl.calls (k : Nat) (g : Nat) (s0_0 : ByteArray) (s0_1 : Int) (s0_2 : Int) (s0_3 : Int) (a1 : Int) (r1 : Bool) (r2 : ByteArray) (r3 : Int) (r4 : Int) (r5 : Int) (w0 w : World) (hI : YB w0 w g s0_0 s0_1 s0_2 s0_3) (hB : Below w0.heap.size w0 w) (h : Yl.f k s0_0 s0_1 s0_2 s0_3 a1 = some (r1, r2, r3, r4, r5)) :
  Calls Tryd.prog 97 #[.pointer (some ⟨g, 0, none⟩), .int .u8 a1] w fun e w' => e = .returned (.bool r1) ∧ YB w0 w' g r2 r3 r4 r5 ∧ Below w0.heap.size w0 w' ∧ Y1 w w' g none := by
 have HI0 := Y0.mk hI
 have HK := Y0.mk (Y1.refl w g none)
 have HL := Y0.mk hB.size
 clear hI
 have HW0 := Y0.mk hB.size
 have HB := Y0.mk hB
 clear hB
 have H : ((Yd.f k s0_0 s0_1 s0_2 s0_3).bind fun bt101 => (if bt101.1 = a1 then (some (true, bt101.2.1, wrap64 (bt101.2.2.1 + 1), bt101.2.2.2.1, bt101.2.2.2.2)) else (some (false, bt101.2.1, bt101.2.2.1, bt101.2.2.2.1, bt101.2.2.2.2)))) = some (r1, r2, r3, r4, r5) := h
 clear h
 replace H := Option.bind_eq_some_iff.mp H
 obtain ⟨⟨t101, t102, t103, t104, t105⟩, A30, H⟩ := H
 replace H : (if t101 = a1 then (some (true, t102, wrap64 (t103 + 1), t104, t105)) else (some (false, t102, t103, t104, t105))) = some (r1, r2, r3, r4, r5) := H
 have A3 := Y0.mk A30
 clear A30
 by_cases c4 : t101 = a1
 ·rw [if_pos c4] at H
  have c4b0 : (t101 == a1) = true := beq_iff_eq.mpr c4
  have c4b1 : (t101 != a1) = false := bne_eq_false_iff_eq.mpr c4
  clear c4
  simp only [Option.some.injEq, Prod.mk.injEq] at H
  obtain ⟨rfl, rfl, rfl, rfl, rfl⟩ := H
  go_enter Tryd.func97, Tryd.ntmps97
  go_wp2_with (first | ((with_reducible refine Yn (f := 56) rfl ?_); refine YO (some 6) rfl rfl Tryd.func56 Z6 rfl #[.pointer (some ⟨g, 0, none⟩)] rfl Z0 ?_; (with_reducible refine (Yd.calls k g s0_0 s0_1 s0_2 s0_3 t101 t102 t103 t104 t105 w0 _ ?side1 ?side2 A3.out).mono ?_); (case side1 => exact Z1n); (case side2 => exact QB); rintro e w5 ⟨rfl, hi, hb, hk⟩; refine ⟨_, rfl, ?_⟩; have n_ := Y2Z (Y1.trans QK hk (.inl rfl)) (hb) (hi); clear HK HB HI0; obtain ⟨HK, HB, HI0⟩ := n_; (try clear hb); (try clear hb2); (try clear hk); (try clear hi); obtain ⟨HGz6, hgz6⟩ := HI0.out; have hcz6_0 := Y1r HGz6; have hcz6_1 := Y1s HGz6; have hcz6_2 := Y1t HGz6; have hcz6_3 := Y1u HGz6; have hfz6_0 := Y7 HGz6 0; have hfz6_1 := Y7 HGz6 1; have hfz6_2 := Y7 HGz6 2; have hfz6_3 := Y7 HGz6 3; clear HGz6 hgz6))
  go_ret
  exact Z2h
 ·rw [if_neg c4] at H
  have c4b0 : (t101 == a1) = false := beq_eq_false_iff_ne.mpr c4
  have c4b1 : (t101 != a1) = true := bne_iff_ne.mpr c4
  simp only [Option.some.injEq, Prod.mk.injEq] at H
  obtain ⟨rfl, rfl, rfl, rfl, rfl⟩ := H
  go_enter Tryd.func97, Tryd.ntmps97
  go_wp2_with (first | ((with_reducible refine Yn (f := 56) rfl ?_); refine YO (some 6) rfl rfl Tryd.func56 Z6 rfl #[.pointer (some ⟨g, 0, none⟩)] rfl Z0 ?_; (with_reducible refine (Yd.calls k g s0_0 s0_1 s0_2 s0_3 t101 t102 t103 t104 t105 w0 _ ?side1 ?side2 A3.out).mono ?_); (case side1 => exact Z1n); (case side2 => exact QB); rintro e w7 ⟨rfl, hi, hb, hk⟩; refine ⟨_, rfl, ?_⟩; have n_ := Y2Z (Y1.trans QK hk (.inl rfl)) (hb) (hi); clear HK HB HI0; obtain ⟨HK, HB, HI0⟩ := n_; (try clear hb); (try clear hb2); (try clear hk); (try clear hi)))
  go_ret
  exact Z2h
mutual
def Y4.j0 : Nat → Bool → ByteArray → Int → Int → Int → Int → Option (Int × ByteArray × List ByteArray × (List (S37)) × ByteArray × Int × Int × Int)
 | 0, _, _, _, _, _, _ => none
 | k + 1, x26, x1000, x1001, x1002, x1003, x103000 => if x26 = true then ((Y3.f k x1000 (wrap64 (x1001 + 1)) x1002 x1003).bind fun bt103 => (Y4.l0 k bt103.2.1 bt103.2.2.1 bt103.2.2.2.1 bt103.2.2.2.2 x103000 (([bt103.1] : List ByteArray)))) else ((Y3.f k x1000 x1001 x1002 x1003).bind fun bt141 => (some (x103000, (⟨#[]⟩ : ByteArray), (([bt141.1] : List ByteArray)), ([] : List (S37)), bt141.2.1, bt141.2.2.1, bt141.2.2.2.1, bt141.2.2.2.2)))
def Y4.l0 : Nat → ByteArray → Int → Int → Int → Int → List ByteArray → Option (Int × ByteArray × List ByteArray × (List (S37)) × ByteArray × Int × Int × Int)
 | 0, _, _, _, _, _, _ => none
 | k + 1, x1000, x1001, x1002, x1003, x103000, x103002 => (Yl.f k x1000 x1001 x1002 x1003 124).bind fun bt111 => (if bt111.1 = true then ((Y3.f k bt111.2.1 bt111.2.2.1 bt111.2.2.2.1 bt111.2.2.2.2).bind fun bt116 => (if x103002.length < 8796093022208 then (Y4.l0 k bt116.2.1 bt116.2.2.1 bt116.2.2.2.1 bt116.2.2.2.2 x103000 (x103002 ++ [bt116.1])) else (none))) else ((Yl.f k bt111.2.1 bt111.2.2.1 bt111.2.2.2.1 bt111.2.2.2.2 41).bind fun bt124 => (if bt124.1 = true then (some (x103000, (⟨#[]⟩ : ByteArray), x103002, ([] : List (S37)), bt124.2.1, bt124.2.2.1, bt124.2.2.2.1, bt124.2.2.2.2)) else ((Yt.f bt124.2.1 bt124.2.2.1 bt124.2.2.2.1 bt124.2.2.2.2 bt124.2.2.1 2).bind fun bt129 => (some (bt129.1, bt129.2.1, bt129.2.2.1, bt129.2.2.2.1, bt129.2.2.2.2.1, bt129.2.2.2.2.2.1, bt129.2.2.2.2.2.2.1, bt129.2.2.2.2.2.2.2))))))
end
def Y4.f (k : Nat) (s0_0 : ByteArray) (s0_1 : Int) (s0_2 : Int) (s0_3 : Int) : Option (Int × ByteArray × List ByteArray × (List (S37)) × ByteArray × Int × Int × Int) := if s0_1 < (s0_0.size : Int) then (if 0 ≤ s0_1 then (Y4.j0 k ((bt s0_0 s0_1) == 40) s0_0 s0_1 s0_2 s0_3 8) else (none)) else (Y4.j0 k false s0_0 s0_1 s0_2 s0_3 8)
theorem Y4.mono_l : ∀ k, (∀ y0 y1 y2 y3 y4 y5, LeO (Y4.j0 k y0 y1 y2 y3 y4 y5) (Y4.j0 (k + 1) y0 y1 y2 y3 y4 y5)) ∧ (∀ y0 y1 y2 y3 y4 y5, LeO (Y4.l0 k y0 y1 y2 y3 y4 y5) (Y4.l0 (k + 1) y0 y1 y2 y3 y4 y5))
 | 0 => ⟨fun _ _ _ _ _ _ r h => by simp [Y4.j0] at h, fun _ _ _ _ _ _ r h => by simp [Y4.l0] at h⟩
 | k + 1 => by
  obtain ⟨ih0, ih1⟩ := Y4.mono_l k
  refine ⟨?_, ?_⟩
  ·intro y0 y1 y2 y3 y4 y5
   unfold Y4.j0
   exact QM
  ·intro y0 y1 y2 y3 y4 y5
   unfold Y4.l0
   exact QM
theorem Y4.mono : ∀ a0 a1 a2 a3 k, LeO (Y4.f k a0 a1 a2 a3) (Y4.f (k + 1) a0 a1 a2 a3) := by
 intro a0 a1 a2 a3 k
 obtain ⟨ih0, ih1⟩ := Y4.mono_l k
 unfold Y4.f
 exact QM
def Y4.T2 : Bool × List (List Nat × List Nat) := (true, [([], []), ([0], [0]), ([1], [1]), ([2], [2]), ([], []), ([4], [4]), ([5], [5]), ([6], [6]), ([7], [7]), ([3, 8], [3, 8]), ([9], [9]), ([10], [10]), ([11, 10], [10, 11]), ([12, 10], [10, 12]), ([13, 10], [10, 13]), ([10], [10]), ([15, 10], [10, 15]), ([16, 10], [10, 16]), ([17, 10], [10, 17]), ([14, 18, 10], [10, 14, 18]), ([19, 10], [10, 19]), ([10, 20], [10, 20])])
def Y4.B2 : List Nat := [0, 1, 3, 7, 0, 16, 48, 112, 240, 511, 1023, 2047, 4095, 8191, 16383, 2047, 34815, 100351, 231423, 524287, 1048575, 2097151]
theorem Y4.tab2 : Y3G .any (Y3Z Tryd.f135 2) = Y4.T2 := by kernel_rfl
theorem Y4.bits2 : Y22 Y4.T2.2 Y4.B2 = true := by kernel_rfl
def Y4.T6 : Bool × List (List Nat × List Nat) := (true, [([], []), ([0], [0]), ([], []), ([2], [2]), ([3], [3]), ([1, 4, 3], [1, 4]), ([0, 1, 2, 3, 4, 5], []), ([6, 5, 5, 0, 1, 2, 3, 4, 5], [5, 6])])
def Y4.B6 : List Nat := [0, 1, 0, 4, 12, 31, 63, 127]
theorem Y4.tab6 : Y3G .any (Y3Z Tryd.f135 6) = Y4.T6 := by kernel_rfl
theorem Y4.bits6 : Y22 Y4.T6.2 Y4.B6 = true := by kernel_rfl
end Go.Proofs.YtbpbfboaofkpaaaDoor.Print
end
