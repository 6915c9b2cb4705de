/- Proofs for this claim: printed by our driver and joined by pack.py; the last text holds the statement. -/
import Derived.Test.YtbpbfboaofkpaaaDoorQcQ3
section
namespace Go.Proofs.YtbpbfboaofkpaaaDoor.Print
open Go.RowKit Go.Proofs.YtbpbfboaofkpaaaDoorW.PrintWords Go.Proofs.YtbpbfboaofkpaaaDoorW.PrintLast Go.Proofs.YtbpbfboaofkpaaaDoorW.PrintMore
attribute [local go_sem] max2_int min2_int max_two min_two max_three min_three max_four min_four
set_option linter.unusedVariables false
set_option linter.unusedSimpArgs false
set_option maxHeartbeats 8000000 in
set_option maxRecDepth 100000 in
theorem Yx.calls (k : Nat) : ∀ (a0_0 : Int) (a0_1 : ByteArray) (A0_2 : Option Addr) (c0_2 : Nat) (l0_2 : List ByteArray) (A0_3 : Option Addr) (c0_3 : Nat) (l0_3 : List (S37)) (a1 : Int) (r : Int) (w : World) (hT : Tabs w) (hr0_2 : Kd.C Kd.string w A0_2 l0_2.length l0_2) (hc0_2 : l0_2.length ≤ c0_2) (hr0_3 : Kd.C k37 w A0_3 l0_3.length l0_3) (hc0_3 : l0_3.length ≤ c0_3) (h : Yx.f k a0_0 a0_1 l0_2 l0_3 a1 = some r),
  Calls Tryd.prog 62 #[.agg #[.int .i64 a0_0, .string a0_1, .slice A0_2 l0_2.length c0_2, .slice A0_3 l0_3.length c0_3], .int .i64 a1] w fun e w' => e = .returned (.int .i64 r) ∧ Below w.heap.size w w' := by
 induction k using Nat.strongRecOn with
 | _ k ih =>
 intro a0_0 a0_1 A0_2 c0_2 l0_2 A0_3 c0_3 l0_3 a1 r w hT hr0_2 hc0_2 hr0_3 hc0_3 h
 cases k with
 | zero => exact absurd h (by simp [Yx.f])
 | succ k =>
 simp only [Yx.f] at h
 have HT := Y0.mk hT
 clear hT
 have hu37 := Tryd.underlying37
 have HR0_2 := Y0.mk hr0_2
 have HC0_2 := Y0.mk hc0_2
 clear hr0_2 hc0_2
 have HR0_3 := Y0.mk hr0_3
 have HC0_3 := Y0.mk hc0_3
 clear hr0_3 hc0_3
 have HB := Y0.mk (Below.refl w.heap.size w)
 have H : (if a1 > 5 then (some (-1)) else ((YJ.f k a0_0).bind fun t102 => (if (l0_3.length : Int) = t102 then (if ((a0_0 == 1) == (a0_1.toList != ([] : List UInt8))) = true then (if ((a0_0 == 8) == (decide ((l0_2.length : Int) > 0))) = true then (if (l0_2.length : Int) > 4 then (some (-1)) else (if a0_1.toList = ([] : List UInt8) then ((Yy.f k l0_2).bind fun t103 => (if t103 = true then (some (-1)) else (Yx.l0 k a1 1 l0_3 (l0_3.length : Int) 0))) else ((Y1k.f a0_1).bind fun t107 => (if t107 = true then (some (-1)) else ((Yy.f k l0_2).bind fun t108 => (if t108 = true then (some (-1)) else (Yx.l0 k a1 1 l0_3 (l0_3.length : Int) 0))))))) else (some (-1))) else (some (-1))) else (some (-1))))) = some r := h
 clear h
 by_cases c3 : a1 > 5
 ·rw [if_pos c3] at H
  have c3b0 : decide (5 < a1) = true := decide_eq_true c3
  clear c3
  obtain rfl := Option.some.inj H
  go_enter Tryd.func62, Tryd.ntmps62
  try go_wp2_with (first | ((with_reducible refine YF (N := 2) rfl ?_); (try (refine YW (by rfl) ?_; dsimp only)); refine YD ?hg (N := 2) ?hd (cs := #[.int .i64 a0_0, .string a0_1, .slice A0_2 l0_2.length c0_2, .slice A0_3 l0_3.length c0_3]) (t := 37) ?hr ?_; (case hd => rfl); (case hg => rfl); (case hr => exact Zb); intro gb101 hg w4 hbox hb; have n_ := Y2N (Y8 QB hb) (hbox) ((by rw [hg]; exact (Yf QB) : w.heap.size ≤ gb101)) ((by rw [hg]; exact (Yf QB) : w.heap.size ≤ gb101)); clear HB; obtain ⟨HB, BK101, GW101, GE101⟩ := n_; clear hb hbox hg; obtain ⟨hcz5_0, hcz5_1, hcz5_2, hcz5_3, hfz5_0, hfz5_1, hfz5_2, hfz5_3⟩ := YA BK101.out))
  have n_ := Y2d (Yb BK101.out) (YP HB.out)
  clear BK101
  clear HB
  obtain ⟨BK101, HB⟩ := n_
  refine Y1m (n := 40) (S := fun w' => True) (ds := []) Y3C Z4 rfl rfl trivial (fun hHeld => ?_); refine Y11 Yx.tab3 Yx.bits3 (fun HT_ HW_ => ?_)
  generalize w4.drew = w6 at BK101 HB hHeld ⊢
  refine pY 0 26 Y3D ?_
  refine pY 1 27 Y3E ?_
  refine pY 2 28 Y3F ?_
  refine pU 3 29 Y3G ?_
  refine pU 4 30 bz40_1f ?_
  refine pU 5 31 bz40_3f ?_
  refine pU 6 32 Y33 ?_
  refine pU 7 33 Y34 ?_
  refine pU 8 34 Y2J ?_
  refine pU 9 35 Y2K ?_
  refine pY 10 36 Y2L ?_
  refine pY 11 37 Y2M ?_
  refine pU 12 38 Y2h ?_
  refine pU 13 39 Y2i ?_
  refine pY 14 40 Y2j ?_
  refine pY 15 41 Y2k ?_
  refine pU 16 42 Y20 ?_
  refine pU 17 43 Y21 ?_
  refine pY 18 44 Y22 ?_
  refine pY 19 45 Y23 ?_
  refine pU 20 46 Y1J ?_
  refine pU 21 47 Y1K ?_
  refine pU 22 48 Y1L ?_
  refine pU 23 49 Y1M ?_
  refine pY 24 50 Y1B ?_
  refine pY 25 51 Y1C ?_
  refine pU 26 52 Y1D ?_
  refine pU 27 53 Y1E ?_
  refine pU 28 54 Y1v ?_
  refine pU 29 55 Y1w ?_
  refine pU 30 56 Y1x ?_
  refine pU 31 57 Y1y ?_
  refine pU 32 58 Y1n ?_
  refine pU 33 59 Y1o ?_
  refine pY 34 60 Y1p ?_
  refine pY 35 61 Y1q ?_
  refine pU 36 62 Y1g ?_
  refine pU 37 63 Y1h ?_
  refine pU 38 64 Y1i ?_
  refine pY 39 65 Y1j ?_
  refine Y1S (Y1a HT_.out Z4) ?_
  try go_wp2
  go_ret
  exact Z2r
 ·rw [if_neg c3] at H
  have c3b0 : decide (5 < a1) = false := decide_eq_false c3
  clear c3
  replace H := Option.bind_eq_some_iff.mp H
  obtain ⟨t102, A70, H⟩ := H
  replace H : (if (l0_3.length : Int) = t102 then (if ((a0_0 == 1) == (a0_1.toList != ([] : List UInt8))) = true then (if ((a0_0 == 8) == (decide ((l0_2.length : Int) > 0))) = true then (if (l0_2.length : Int) > 4 then (some (-1)) else (if a0_1.toList = ([] : List UInt8) then ((Yy.f k l0_2).bind fun t103 => (if t103 = true then (some (-1)) else (Yx.l0 k a1 1 l0_3 (l0_3.length : Int) 0))) else ((Y1k.f a0_1).bind fun t107 => (if t107 = true then (some (-1)) else ((Yy.f k l0_2).bind fun t108 => (if t108 = true then (some (-1)) else (Yx.l0 k a1 1 l0_3 (l0_3.length : Int) 0))))))) else (some (-1))) else (some (-1))) else (some (-1))) = some r := H
  have A7 := Y0.mk A70
  clear A70
  by_cases c8 : (l0_3.length : Int) = t102
  ·rw [if_pos c8] at H
   have c8b0 : ((l0_3.length : Int) == t102) = true := beq_iff_eq.mpr c8
   have c8b1 : ((l0_3.length : Int) != t102) = false := bne_eq_false_iff_eq.mpr c8
   clear c8
   by_cases c9 : ((a0_0 == 1) == (a0_1.toList != ([] : List UInt8))) = true
   ·rw [if_pos c9] at H
    have c9b0 : ((a0_0 == 1) == (a0_1.toList != ([] : List UInt8))) = true := c9
    (try (have c9b1 : ((a0_0 == 1) == !a0_1.toList.isEmpty) = true := by first | simpa using c9 | simpa [show ∀ l_ : List UInt8, (l_ != ([] : List UInt8)) = !l_.isEmpty from fun l_ => by cases l_ <;> rfl, show ∀ l_ : List UInt8, (l_ == ([] : List UInt8)) = l_.isEmpty from fun l_ => by cases l_ <;> rfl] using c9))
    (try (have c9b2 : (((a0_0 = 1) = (a0_1.toList != ([] : List UInt8)))) = True := eq_true (by simpa using c9)))
    (try (have c9b3 : decide ((a0_0 == 1) = (a0_1.toList != ([] : List UInt8))) = true := by simpa using c9))
    (try (have c9b4 : ((a0_0 == 1) == (a0_1.toList != ([] : List UInt8))) = true := by simpa using c9))
    clear c9
    by_cases c10 : ((a0_0 == 8) == (decide ((l0_2.length : Int) > 0))) = true
    ·rw [if_pos c10] at H
     have c10b0 : ((a0_0 == 8) == (decide ((l0_2.length : Int) > 0))) = true := c10
     (try (have c10b1 : ((a0_0 == 8) == decide (0 < l0_2.length)) = true := by first | simpa using c10 | simpa [show ∀ l_ : List UInt8, (l_ != ([] : List UInt8)) = !l_.isEmpty from fun l_ => by cases l_ <;> rfl, show ∀ l_ : List UInt8, (l_ == ([] : List UInt8)) = l_.isEmpty from fun l_ => by cases l_ <;> rfl] using c10))
     (try (have c10b2 : (((a0_0 = 8) = (decide ((l0_2.length : Int) > 0)))) = True := eq_true (by simpa using c10)))
     (try (have c10b3 : decide ((a0_0 == 8) = (decide ((l0_2.length : Int) > 0))) = true := by simpa using c10))
     (try (have c10b4 : ((a0_0 == 8) == (decide ((l0_2.length : Int) > 0))) = true := by simpa using c10))
     clear c10
     by_cases c11 : (l0_2.length : Int) > 4
     ·rw [if_pos c11] at H
      have c11b0 : decide (4 < (l0_2.length : Int)) = true := decide_eq_true c11
      have c11b1 : decide (4 < l0_2.length) = true := decide_eq_true (by omega)
      clear c11
      obtain rfl := Option.some.inj H
      go_enter Tryd.func62, Tryd.ntmps62
      try go_wp2_with (first | ((with_reducible refine YF (N := 2) rfl ?_); (try (refine YW (by rfl) ?_; dsimp only)); refine YD ?hg (N := 2) ?hd (cs := #[.int .i64 a0_0, .string a0_1, .slice A0_2 l0_2.length c0_2, .slice A0_3 l0_3.length c0_3]) (t := 37) ?hr ?_; (case hd => rfl); (case hg => rfl); (case hr => exact Zb); intro gb101 hg w12 hbox hb; have n_ := Y2N (Y8 QB hb) (hbox) ((by rw [hg]; exact (Yf QB) : w.heap.size ≤ gb101)) ((by rw [hg]; exact (Yf QB) : w.heap.size ≤ gb101)); clear HB; obtain ⟨HB, BK101, GW101, GE101⟩ := n_; clear hb hbox hg; obtain ⟨hcz13_0, hcz13_1, hcz13_2, hcz13_3, hfz13_0, hfz13_1, hfz13_2, hfz13_3⟩ := YA BK101.out))
      have n_ := Y2d (Yb BK101.out) (YP HB.out)
      clear BK101
      clear HB
      obtain ⟨BK101, HB⟩ := n_
      refine Y1m (n := 40) (S := fun w' => w'.cell? ⟨gb101, 0, none⟩ = some (.int .i64 a0_0) ∧ w'.cell? ⟨gb101, 1, none⟩ = some (.string a0_1) ∧ w'.cell? ⟨gb101, 2, none⟩ = some (.slice A0_2 l0_2.length c0_2) ∧ w'.cell? ⟨gb101, 3, none⟩ = some (.slice A0_3 l0_3.length c0_3)) (ds := []) Y3C Z4 rfl rfl ⟨(Y2 BK101.out 0).trans rfl, (Y2 BK101.out 1).trans rfl, (Y2 BK101.out 2).trans rfl, (Y2 BK101.out 3).trans rfl⟩ (fun hHeld => ?_); refine Y11 Yx.tab3 Yx.bits3 (fun HT_ HW_ => ?_)
      generalize w12.drew = w14 at BK101 HB hHeld ⊢
      refine pY 0 26 Y3D ?_
      refine pY 1 27 Y3E ?_
      refine pY 2 28 Y3F ?_
      refine pY 3 29 Y3G ?_
      refine pY 6 32 Y3i ?_
      refine pT 4 30 Y3j ?_
      refine pY 5 31 Y33 ?_
      refine pT 7 33 Y34 ?_
      refine Y2Q (i := 8) (N := some 34) Y2J rfl rfl (Y1b HT_.out Z4) (by decide) (fun K hK => ?_)
      refine Y1Q Tryd.func98 Z4 rfl #[.int .i64 a0_0] (by rfl) rfl rfl Z0 ?_
      with_reducible refine (YJ.calls k a0_0 t102 _ A7.out).mono ?_
      rintro e w' ⟨rfl, ⟨nd, rfl⟩⟩
      refine ⟨_, rfl, ?_⟩
      refine hK.out _ _ ⟨(Y2 BK101.out 0).trans rfl, (Y2 BK101.out 1).trans rfl, (Y2 BK101.out 2).trans rfl, (Y2 BK101.out 3).trans rfl⟩ (fun hHeld => ?_)
      clear hK K
      refine Y1A (a' := ?_) ?_ ?_
      rotate_left
      ·show Act.put _ (some 34) _ = _
       simp only [Act.put, List.setIfInBounds_toArray, List.set_cons_zero, List.set_cons_succ, Y16, Y17]
       rfl
      refine pY 9 35 Y2K ?_
      refine pY 10 36 Y2L ?_
      refine pY 11 37 Y2M ?_
      refine pY 12 38 Y2h ?_
      refine pY 13 39 Y2i ?_
      refine pY 14 40 Y2j ?_
      refine pY 15 41 Y2k ?_
      refine pY 16 42 Y20 ?_
      refine pY 17 43 Y21 ?_
      refine pY 18 44 Y22 ?_
      refine pY 19 45 Y23 ?_
      refine pY 20 46 Y1J ?_
      refine pT 21 47 Y1K ?_
      refine pY 22 48 Y1L ?_
      refine pY 23 49 Y1M ?_
      refine pY 24 50 Y1B ?_
      refine pY 25 51 Y1C ?_
      refine pU 26 52 Y1D ?_
      refine pU 27 53 Y1E ?_
      refine pU 28 54 Y1v ?_
      refine pU 29 55 Y1w ?_
      refine pU 30 56 Y1x ?_
      refine pU 31 57 Y1y ?_
      refine pU 32 58 Y1n ?_
      refine pU 33 59 Y1o ?_
      refine pY 34 60 Y1p ?_
      refine pY 35 61 Y1q ?_
      refine pU 36 62 Y1g ?_
      refine pU 37 63 Y1h ?_
      refine pU 38 64 Y1i ?_
      refine pY 39 65 Y1j ?_
      refine Y1S (Y1a HT_.out Z4) ?_
      try go_wp2
      go_ret
      exact Z2r
     ·rw [if_neg c11] at H
      have c11b0 : decide (4 < (l0_2.length : Int)) = false := decide_eq_false c11
      have c11b1 : decide (4 < l0_2.length) = false := decide_eq_false (by omega)
      clear c11
      by_cases c15 : a0_1.toList = ([] : List UInt8)
      ·rw [if_pos c15] at H
       have c15b0 : (a0_1.toList == ([] : List UInt8)) = true := beq_iff_eq.mpr c15
       have c15b1 : (a0_1.toList != ([] : List UInt8)) = false := bne_eq_false_iff_eq.mpr c15
       (try (have c15c9b0_true : (a0_0 == 1) = true := by have z_ := c9b0; rw [c15b1] at z_; simpa using z_))
       (try (have c15c9b0_false : (a0_0 == 1) = false := by have z_ := c9b0; rw [c15b1] at z_; simpa using z_))
       clear c15
       replace H := Option.bind_eq_some_iff.mp H
       obtain ⟨t103, A160, H⟩ := H
       replace H : (if t103 = true then (some (-1)) else (Yx.l0 k a1 1 l0_3 (l0_3.length : Int) 0)) = some r := H
       have A16 := Y0.mk A160
       clear A160
       by_cases c17 : t103 = true
       ·subst c17
        have H1 : (some (-1)) = some r := by rw [if_pos rfl] at H; exact H
        clear H
        have H := H1
        clear H1
        obtain rfl := Option.some.inj H
        go_enter Tryd.func62, Tryd.ntmps62
        try go_wp2_with (first | ((with_reducible refine YF (N := 2) rfl ?_); (try (refine YW (by rfl) ?_; dsimp only)); refine YD ?hg (N := 2) ?hd (cs := #[.int .i64 a0_0, .string a0_1, .slice A0_2 l0_2.length c0_2, .slice A0_3 l0_3.length c0_3]) (t := 37) ?hr ?_; (case hd => rfl); (case hg => rfl); (case hr => exact Zb); intro gb101 hg w18 hbox hb; have n_ := Y2N (Y8 QB hb) (hbox) ((by rw [hg]; exact (Yf QB) : w.heap.size ≤ gb101)) ((by rw [hg]; exact (Yf QB) : w.heap.size ≤ gb101)); clear HB; obtain ⟨HB, BK101, GW101, GE101⟩ := n_; clear hb hbox hg; obtain ⟨hcz19_0, hcz19_1, hcz19_2, hcz19_3, hfz19_0, hfz19_1, hfz19_2, hfz19_3⟩ := YA BK101.out))
        have n_ := Y2d (Yb BK101.out) (YP HB.out)
        clear BK101
        clear HB
        obtain ⟨BK101, HB⟩ := n_
        refine Y1m (n := 40) (S := fun w' => w'.cell? ⟨gb101, 0, none⟩ = some (.int .i64 a0_0) ∧ w'.cell? ⟨gb101, 1, none⟩ = some (.string a0_1) ∧ w'.cell? ⟨gb101, 2, none⟩ = some (.slice A0_2 l0_2.length c0_2) ∧ w'.cell? ⟨gb101, 3, none⟩ = some (.slice A0_3 l0_3.length c0_3)) (ds := []) Y3C Z4 rfl rfl ⟨(Y2 BK101.out 0).trans rfl, (Y2 BK101.out 1).trans rfl, (Y2 BK101.out 2).trans rfl, (Y2 BK101.out 3).trans rfl⟩ (fun hHeld => ?_); refine Y11 Yx.tab3 Yx.bits3 (fun HT_ HW_ => ?_)
        generalize w18.drew = w20 at BK101 HB hHeld ⊢
        refine pY 0 26 Y3D ?_
        refine pY 1 27 Y3E ?_
        refine pY 2 28 Y3F ?_
        refine pY 3 29 Y3G ?_
        refine pY 6 32 Y3i ?_
        refine pT 4 30 Y3j ?_
        refine pY 5 31 Y33 ?_
        refine pT 7 33 Y34 ?_
        refine Y2Q (i := 8) (N := some 34) Y2J rfl rfl (Y1b HT_.out Z4) (by decide) (fun K hK => ?_)
        refine Y1Q Tryd.func98 Z4 rfl #[.int .i64 a0_0] (by rfl) rfl rfl Z0 ?_
        with_reducible refine (YJ.calls k a0_0 t102 _ A7.out).mono ?_
        rintro e w' ⟨rfl, ⟨nd, rfl⟩⟩
        refine ⟨_, rfl, ?_⟩
        refine hK.out _ _ ⟨(Y2 BK101.out 0).trans rfl, (Y2 BK101.out 1).trans rfl, (Y2 BK101.out 2).trans rfl, (Y2 BK101.out 3).trans rfl⟩ (fun hHeld => ?_)
        clear hK K
        refine Y1A (a' := ?_) ?_ ?_
        rotate_left
        ·show Act.put _ (some 34) _ = _
         simp only [Act.put, List.setIfInBounds_toArray, List.set_cons_zero, List.set_cons_succ, Y16, Y17]
         rfl
        refine pY 9 35 Y2K ?_
        refine pY 10 36 Y2L ?_
        refine pY 11 37 Y2M ?_
        refine pY 12 38 Y2h ?_
        refine pY 13 39 Y2i ?_
        refine pY 14 40 Y2j ?_
        refine pY 15 41 Y2k ?_
        refine pY 16 42 Y20 ?_
        refine pY 17 43 Y21 ?_
        refine pY 18 44 Y22 ?_
        refine pY 19 45 Y23 ?_
        refine pY 20 46 Y1J ?_
        refine pT 21 47 Y1K ?_
        refine pY 22 48 Y1L ?_
        refine pY 23 49 Y1M ?_
        refine pY 24 50 Y1B ?_
        refine pY 25 51 Y1C ?_
        refine pY 26 52 Y1D ?_
        refine pT 27 53 Y1E ?_
        refine pY 28 54 Y1v ?_
        refine pY 29 55 Y1w ?_
        refine pU 30 56 Y1x ?_
        refine pU 31 57 Y1y ?_
        refine pU 32 58 Y1n ?_
        refine pY 33 59 Y1o ?_
        refine pY 34 60 Y1p ?_
        refine pY 35 61 Y1q ?_
        refine pY 36 62 Y1g ?_
        refine pT 37 63 Y1h ?_
        refine Y2Q (i := 38) (N := some 64) Y1i rfl rfl (Y1b HT_.out Z4) (by decide) (fun K hK => ?_)
        refine Y1Q Tryd.func100 Z4 rfl #[.slice A0_2 l0_2.length c0_2, .func (.func 99) #[] #[]] (by rfl) rfl rfl Z0 ?_
        with_reducible refine (Yy.calls k _ _ l0_2  true _ ?side1 ?side2 ?side3 A16.out).mono ?_
        (case side1 => exact Z3)
        (case side2 => exact Z1J)
        (case side3 => exact Z1P)
        rintro e w21 ⟨rfl, hb⟩
        refine ⟨_, rfl, ?_⟩
        have n_ := Y2d (Yt (g := gb101) (o := .cells #[.int .i64 a0_0, .string a0_1, .slice A0_2 l0_2.length c0_2, .slice A0_3 l0_3.length c0_3] 37 (0, 0)) QQ hb) (Y8 QB hb)
        clear BK101
        clear HB
        obtain ⟨BK101, HB⟩ := n_
        (try clear hb)
        (try clear hb2)
        (try clear hk)
        (try clear hi)
        refine hK.out _ _ ⟨(Y2 BK101.out 0).trans rfl, (Y2 BK101.out 1).trans rfl, (Y2 BK101.out 2).trans rfl, (Y2 BK101.out 3).trans rfl⟩ (fun hHeld => ?_)
        clear hK K
        refine Y1A (a' := ?_) ?_ ?_
        rotate_left
        ·show Act.put _ (some 64) _ = _
         simp only [Act.put, List.setIfInBounds_toArray, List.set_cons_zero, List.set_cons_succ, Y16, Y17]
         rfl
        refine pY 39 65 Y1j ?_
        refine Y1S (Y1a HT_.out Z4) ?_
        try go_wp2
        go_ret
        exact Z2r
       ·replace c17 := Bool.eq_false_iff.mpr c17
        subst c17
        have H1 : (Yx.l0 k a1 1 l0_3 (l0_3.length : Int) 0) = some r := by rw [if_neg (show ¬ (false = true) by decide)] at H; exact H
        clear H
        have H := H1
        clear H1
        have H' := Y0.mk H
        clear H
        go_enter Tryd.func62, Tryd.ntmps62
        try go_wp2_with (first | ((with_reducible refine YF (N := 2) rfl ?_); (try (refine YW (by rfl) ?_; dsimp only)); refine YD ?hg (N := 2) ?hd (cs := #[.int .i64 a0_0, .string a0_1, .slice A0_2 l0_2.length c0_2, .slice A0_3 l0_3.length c0_3]) (t := 37) ?hr ?_; (case hd => rfl); (case hg => rfl); (case hr => exact Zb); intro gb101 hg w22 hbox hb; have n_ := Y2N (Y8 QB hb) (hbox) ((by rw [hg]; exact (Yf QB) : w.heap.size ≤ gb101)) ((by rw [hg]; exact (Yf QB) : w.heap.size ≤ gb101)); clear HB; obtain ⟨HB, BK101, GW101, GE101⟩ := n_; clear hb hbox hg; obtain ⟨hcz23_0, hcz23_1, hcz23_2, hcz23_3, hfz23_0, hfz23_1, hfz23_2, hfz23_3⟩ := YA BK101.out))
        have n_ := Y2d (Yb BK101.out) (YP HB.out)
        clear BK101
        clear HB
        obtain ⟨BK101, HB⟩ := n_
        refine Y1m (n := 40) (S := fun w' => w'.cell? ⟨gb101, 0, none⟩ = some (.int .i64 a0_0) ∧ w'.cell? ⟨gb101, 1, none⟩ = some (.string a0_1) ∧ w'.cell? ⟨gb101, 2, none⟩ = some (.slice A0_2 l0_2.length c0_2) ∧ w'.cell? ⟨gb101, 3, none⟩ = some (.slice A0_3 l0_3.length c0_3)) (ds := []) Y3C Z4 rfl rfl ⟨(Y2 BK101.out 0).trans rfl, (Y2 BK101.out 1).trans rfl, (Y2 BK101.out 2).trans rfl, (Y2 BK101.out 3).trans rfl⟩ (fun hHeld => ?_); refine Y11 Yx.tab3 Yx.bits3 (fun HT_ HW_ => ?_)
        generalize w22.drew = w24 at BK101 HB hHeld ⊢
        refine pY 0 26 Y3D ?_
        refine pY 1 27 Y3E ?_
        refine pY 2 28 Y3F ?_
        refine pY 3 29 Y3G ?_
        refine pY 6 32 Y3i ?_
        refine pT 4 30 Y3j ?_
        refine pY 5 31 Y33 ?_
        refine pT 7 33 Y34 ?_
        refine Y2Q (i := 8) (N := some 34) Y2J rfl rfl (Y1b HT_.out Z4) (by decide) (fun K hK => ?_)
        refine Y1Q Tryd.func98 Z4 rfl #[.int .i64 a0_0] (by rfl) rfl rfl Z0 ?_
        with_reducible refine (YJ.calls k a0_0 t102 _ A7.out).mono ?_
        rintro e w' ⟨rfl, ⟨nd, rfl⟩⟩
        refine ⟨_, rfl, ?_⟩
        refine hK.out _ _ ⟨(Y2 BK101.out 0).trans rfl, (Y2 BK101.out 1).trans rfl, (Y2 BK101.out 2).trans rfl, (Y2 BK101.out 3).trans rfl⟩ (fun hHeld => ?_)
        clear hK K
        refine Y1A (a' := ?_) ?_ ?_
        rotate_left
        ·show Act.put _ (some 34) _ = _
         simp only [Act.put, List.setIfInBounds_toArray, List.set_cons_zero, List.set_cons_succ, Y16, Y17]
         rfl
        refine pY 9 35 Y2K ?_
        refine pY 10 36 Y2L ?_
        refine pY 11 37 Y2M ?_
        refine pY 12 38 Y2h ?_
        refine pY 13 39 Y2i ?_
        refine pY 14 40 Y2j ?_
        refine pY 15 41 Y2k ?_
        refine pY 16 42 Y20 ?_
        refine pY 17 43 Y21 ?_
        refine pY 18 44 Y22 ?_
        refine pY 19 45 Y23 ?_
        refine pY 20 46 Y1J ?_
        refine pT 21 47 Y1K ?_
        refine pY 22 48 Y1L ?_
        refine pY 23 49 Y1M ?_
        refine pY 24 50 Y1B ?_
        refine pY 25 51 Y1C ?_
        refine pY 26 52 Y1D ?_
        refine pT 27 53 Y1E ?_
        refine pY 28 54 Y1v ?_
        refine pY 29 55 Y1w ?_
        refine pU 30 56 Y1x ?_
        refine pU 31 57 Y1y ?_
        refine pU 32 58 Y1n ?_
        refine pY 33 59 Y1o ?_
        refine pY 34 60 Y1p ?_
        refine pY 35 61 Y1q ?_
        refine pY 36 62 Y1g ?_
        refine pT 37 63 Y1h ?_
        refine Y2Q (i := 38) (N := some 64) Y1i rfl rfl (Y1b HT_.out Z4) (by decide) (fun K hK => ?_)
        refine Y1Q Tryd.func100 Z4 rfl #[.slice A0_2 l0_2.length c0_2, .func (.func 99) #[] #[]] (by rfl) rfl rfl Z0 ?_
        with_reducible refine (Yy.calls k _ _ l0_2  false _ ?side1 ?side2 ?side3 A16.out).mono ?_
        (case side1 => exact Z3)
        (case side2 => exact Z1J)
        (case side3 => exact Z1P)
        rintro e w25 ⟨rfl, hb⟩
        refine ⟨_, rfl, ?_⟩
        have n_ := Y2d (Yt (g := gb101) (o := .cells #[.int .i64 a0_0, .string a0_1, .slice A0_2 l0_2.length c0_2, .slice A0_3 l0_3.length c0_3] 37 (0, 0)) QQ hb) (Y8 QB hb)
        clear BK101
        clear HB
        obtain ⟨BK101, HB⟩ := n_
        (try clear hb)
        (try clear hb2)
        (try clear hk)
        (try clear hi)
        refine hK.out _ _ ⟨(Y2 BK101.out 0).trans rfl, (Y2 BK101.out 1).trans rfl, (Y2 BK101.out 2).trans rfl, (Y2 BK101.out 3).trans rfl⟩ (fun hHeld => ?_)
        clear hK K
        refine Y1A (a' := ?_) ?_ ?_
        rotate_left
        ·show Act.put _ (some 64) _ = _
         simp only [Act.put, List.setIfInBounds_toArray, List.set_cons_zero, List.set_cons_succ, Y16, Y17]
         rfl
        refine pY 39 65 Y1j ?_
        refine Y1S (Y1a HT_.out Z4) ?_
        obtain ⟨hcz26_0, hcz26_1, hcz26_2, hcz26_3, hfz26_0, hfz26_1, hfz26_2, hfz26_3⟩ := YA BK101.out
        try go_wp2
        go_loopg [7, 69] k (fun kq v7 v69 w' => ∃ (x7_1 : Int) (x69_1 : Int), v7 = .int .i64 x7_1 ∧ v69 = .int .i64 x69_1 ∧ Y0 (Yx.l0 kq a1 x7_1 l0_3 (l0_3.length : Int) x69_1 = some r) ∧ Y0 (kq ≤ k) ∧ Y0 (w'.heap[gb101]? = some (.cells #[.int .i64 a0_0, .string a0_1, (.slice A0_2 l0_2.length c0_2), (.slice A0_3 l0_3.length c0_3)] 37 (0, 0))) ∧ Y0 (Below w.heap.size w w'))
        case atStart => exact Z2x
        case round =>
         clear H'
         try clear c1
         try clear p2
         try clear c6
         try clear c9
         try clear c10
         try clear c17
         try clear hcz23_0 hcz23_1 hcz23_2 hcz23_3
         try clear hcz26_0 hcz26_1 hcz26_2 hcz26_3
         try clear hfz23_0
         try clear hfz23_1
         try clear hfz23_2
         try clear hfz23_3
         try clear hfz26_0
         try clear hfz26_1
         try clear hfz26_2
         try clear hfz26_3
         obtain ⟨x7_1, x69_1, rfl, rfl, HA, HK1, BK101, HB⟩ := hrel
         cases gk with
         | zero => exact absurd HA.out (by simp [Yx.l0])
         | succ k1 =>
          have H := HA.out
          clear HA
          simp only [Yx.l0] at H
          by_cases c27 : x69_1 < (l0_3.length : Int)
          ·rw [if_pos c27] at H
           have c27b0 : decide (x69_1 < (l0_3.length : Int)) = true := decide_eq_true c27
           clear c27
           by_cases c28 : 0 ≤ x69_1
           ·rw [if_pos c28] at H
            have c28b0 : decide (0 ≤ x69_1) = true := decide_eq_true c28
            clear c28
            by_cases c29 : x69_1 < (l0_3.length : Int)
            ·rw [if_pos c29] at H
             have c29b0 : decide (x69_1 < (l0_3.length : Int)) = true := decide_eq_true c29
             clear c29
             replace H := Option.bind_eq_some_iff.mp H
             obtain ⟨t106, A300, H⟩ := H
             replace H : (if t106 < 0 then (some (-1)) else (Yx.l0 k1 a1 (wrap64 (x7_1 + t106)) l0_3 (l0_3.length : Int) (wrap64 (x69_1 + 1)))) = some r := H
             have A30 := Y0.mk A300
             clear A300
             by_cases c31 : t106 < 0
             ·rw [if_pos c31] at H
              have c31b0 : decide (t106 < 0) = true := decide_eq_true c31
              clear c31
              obtain rfl := Option.some.inj H
              have p104 : 0 ≤ (x69_1 : Int) := of_decide_eq_true Za
              have q104 : x69_1 < (l0_3.length : Int) := of_decide_eq_true Za
              obtain ⟨ad104, A104_2, c104_2, A104_3, c104_3, e104, hx104_0, hx104_1, hx104_2, hx104_3, hl104_2, hi104_2, hl104_3, hi104_3⟩ := Y2f HR0_3.out x69_1 p104 q104
              cases e104
              replace hx104_0 := Y15 HB.out hx104_0
              replace hx104_1 := Y15 HB.out hx104_1
              replace hx104_2 := Y15 HB.out hx104_2
              replace hx104_3 := Y15 HB.out hx104_3
              have HR104_2 := Y0.mk hi104_2
              have HC104_2 := Y0.mk hl104_2
              clear hi104_2 hl104_2
              have HR104_3 := Y0.mk hi104_3
              have HC104_3 := Y0.mk hl104_3
              clear hi104_3 hl104_3
              replace p104 := eq_true p104
              replace q104 := eq_true q104
              go_wp2_with (first | ((with_reducible refine YF (N := 9) rfl ?_); (try (refine YW (by rfl) ?_; dsimp only)); refine YD ?hg (N := 9) ?hd (cs := #[.int .i64 0, .string (⟨#[]⟩ : ByteArray), .slice none 0 0, .slice none 0 0]) (t := 37) ?hr ?_; (case hd => rfl); (case hg => rfl); (case hr => exact Zb); intro gb105 hg w32 hbox hb; have n_ := put7 (Yt (g := gb101) (o := .cells #[.int .i64 a0_0, .string a0_1, .slice A0_2 l0_2.length c0_2, .slice (some ad104) l0_3.length c0_3] 37 (0, 0)) QQ hb) (Y8 QB hb) (hbox) ((by rw [hg]; exact (Yf QB) : w.heap.size ≤ gb105)) ((by rw [hg]; exact (Yf QB) : w.heap.size ≤ gb105)) ((by rw [hg]; exact Nat.ne_of_lt (Y14 (g := gb101) (o := .cells #[.int .i64 a0_0, .string a0_1, .slice A0_2 l0_2.length c0_2, .slice (some ad104) l0_3.length c0_3] 37 (0, 0)) QQ) : gb101 ≠ gb105)) ((by rw [hg]; exact Nat.ne_of_gt (Y14 (g := gb101) (o := .cells #[.int .i64 a0_0, .string a0_1, .slice A0_2 l0_2.length c0_2, .slice (some ad104) l0_3.length c0_3] 37 (0, 0)) QQ) : gb105 ≠ gb101)); clear BK101 HB; obtain ⟨BK101, HB, BK105, GW105, GE105, NB101_105, NB105_101⟩ := n_; clear hb hbox hg; have hnb33 := NB105_101.out; have hnc33 := NB101_105.out; obtain ⟨hcz34_0, hcz34_1, hcz34_2, hcz34_3, hfz34_0, hfz34_1, hfz34_2, hfz34_3⟩ := YA BK105.out) | ((with_reducible refine Yl (f := 62) rfl ?_); refine YO (some 76) rfl rfl Tryd.func62 Z4 rfl #[.agg #[.int .i64 ((Yc l0_3 x69_1).f0), .string ((Yc l0_3 x69_1).f1), .slice A104_2 ((Yc l0_3 x69_1).f2).length c104_2, .slice A104_3 ((Yc l0_3 x69_1).f3).length c104_3], .int .i64 (wrap64 (a1 + 1))] rfl Z0 ?_; (with_reducible refine (ih k1 ZV ((Yc l0_3 x69_1).f0) ((Yc l0_3 x69_1).f1) _ _ ((Yc l0_3 x69_1).f2) _ _ ((Yc l0_3 x69_1).f3) (wrap64 (a1 + 1)) t106 _ ?side1 ?side2 ?side3 ?side4 ?side5 A30.out).mono ?_); (case side1 => exact Z3); (case side2 => exact Kd.C_below HR104_2.out QB); (case side3 => exact HC104_2.out); (case side4 => exact Kd.C_below HR104_3.out QB); (case side5 => exact HC104_3.out); rintro e w35 ⟨rfl, hb⟩; refine ⟨_, rfl, ?_⟩; have n_ := Y38 (Yt (g := gb101) (o := .cells #[.int .i64 a0_0, .string a0_1, .slice A0_2 l0_2.length c0_2, .slice (some ad104) l0_3.length c0_3] 37 (0, 0)) Zf hb) (Yt (g := gb105) (o := .cells #[.int .i64 ((Yc l0_3 x69_1).f0), .string ((Yc l0_3 x69_1).f1), .slice A104_2 ((Yc l0_3 x69_1).f2).length c104_2, .slice A104_3 ((Yc l0_3 x69_1).f3).length c104_3] 37 (0, 0)) Z2c hb) (Y8 QB hb); clear BK101 BK105 HB; obtain ⟨BK101, BK105, HB⟩ := n_; (try clear hb); (try clear hb2); (try clear hk); (try clear hi)))
              go_ret
              exact Z2r
             ·rw [if_neg c31] at H
              have c31b0 : decide (t106 < 0) = false := decide_eq_false c31
              clear c31
              have H' := Y0.mk H
              clear H
              have p104 : 0 ≤ (x69_1 : Int) := of_decide_eq_true Za
              have q104 : x69_1 < (l0_3.length : Int) := of_decide_eq_true Za
              obtain ⟨ad104, A104_2, c104_2, A104_3, c104_3, e104, hx104_0, hx104_1, hx104_2, hx104_3, hl104_2, hi104_2, hl104_3, hi104_3⟩ := Y2f HR0_3.out x69_1 p104 q104
              cases e104
              replace hx104_0 := Y15 HB.out hx104_0
              replace hx104_1 := Y15 HB.out hx104_1
              replace hx104_2 := Y15 HB.out hx104_2
              replace hx104_3 := Y15 HB.out hx104_3
              have HR104_2 := Y0.mk hi104_2
              have HC104_2 := Y0.mk hl104_2
              clear hi104_2 hl104_2
              have HR104_3 := Y0.mk hi104_3
              have HC104_3 := Y0.mk hl104_3
              clear hi104_3 hl104_3
              replace p104 := eq_true p104
              replace q104 := eq_true q104
              go_wp2_with (first | ((with_reducible refine YF (N := 9) rfl ?_); (try (refine YW (by rfl) ?_; dsimp only)); refine YD ?hg (N := 9) ?hd (cs := #[.int .i64 0, .string (⟨#[]⟩ : ByteArray), .slice none 0 0, .slice none 0 0]) (t := 37) ?hr ?_; (case hd => rfl); (case hg => rfl); (case hr => exact Zb); intro gb105 hg w36 hbox hb; have n_ := put7 (Yt (g := gb101) (o := .cells #[.int .i64 a0_0, .string a0_1, .slice A0_2 l0_2.length c0_2, .slice (some ad104) l0_3.length c0_3] 37 (0, 0)) QQ hb) (Y8 QB hb) (hbox) ((by rw [hg]; exact (Yf QB) : w.heap.size ≤ gb105)) ((by rw [hg]; exact (Yf QB) : w.heap.size ≤ gb105)) ((by rw [hg]; exact Nat.ne_of_lt (Y14 (g := gb101) (o := .cells #[.int .i64 a0_0, .string a0_1, .slice A0_2 l0_2.length c0_2, .slice (some ad104) l0_3.length c0_3] 37 (0, 0)) QQ) : gb101 ≠ gb105)) ((by rw [hg]; exact Nat.ne_of_gt (Y14 (g := gb101) (o := .cells #[.int .i64 a0_0, .string a0_1, .slice A0_2 l0_2.length c0_2, .slice (some ad104) l0_3.length c0_3] 37 (0, 0)) QQ) : gb105 ≠ gb101)); clear BK101 HB; obtain ⟨BK101, HB, BK105, GW105, GE105, NB101_105, NB105_101⟩ := n_; clear hb hbox hg; have hnb37 := NB105_101.out; have hnc37 := NB101_105.out; obtain ⟨hcz38_0, hcz38_1, hcz38_2, hcz38_3, hfz38_0, hfz38_1, hfz38_2, hfz38_3⟩ := YA BK105.out) | ((with_reducible refine Yl (f := 62) rfl ?_); refine YO (some 76) rfl rfl Tryd.func62 Z4 rfl #[.agg #[.int .i64 ((Yc l0_3 x69_1).f0), .string ((Yc l0_3 x69_1).f1), .slice A104_2 ((Yc l0_3 x69_1).f2).length c104_2, .slice A104_3 ((Yc l0_3 x69_1).f3).length c104_3], .int .i64 (wrap64 (a1 + 1))] rfl Z0 ?_; (with_reducible refine (ih k1 ZV ((Yc l0_3 x69_1).f0) ((Yc l0_3 x69_1).f1) _ _ ((Yc l0_3 x69_1).f2) _ _ ((Yc l0_3 x69_1).f3) (wrap64 (a1 + 1)) t106 _ ?side1 ?side2 ?side3 ?side4 ?side5 A30.out).mono ?_); (case side1 => exact Z3); (case side2 => exact Kd.C_below HR104_2.out QB); (case side3 => exact HC104_2.out); (case side4 => exact Kd.C_below HR104_3.out QB); (case side5 => exact HC104_3.out); rintro e w39 ⟨rfl, hb⟩; refine ⟨_, rfl, ?_⟩; have n_ := Y38 (Yt (g := gb101) (o := .cells #[.int .i64 a0_0, .string a0_1, .slice A0_2 l0_2.length c0_2, .slice (some ad104) l0_3.length c0_3] 37 (0, 0)) Zf hb) (Yt (g := gb105) (o := .cells #[.int .i64 ((Yc l0_3 x69_1).f0), .string ((Yc l0_3 x69_1).f1), .slice A104_2 ((Yc l0_3 x69_1).f2).length c104_2, .slice A104_3 ((Yc l0_3 x69_1).f3).length c104_3] 37 (0, 0)) Z2c hb) (Y8 QB hb); clear BK101 BK105 HB; obtain ⟨BK101, BK105, HB⟩ := n_; (try clear hb); (try clear hb2); (try clear hk); (try clear hi)))
              go_roundg k1
              case measure => have := HK1.out; omega
              case rel => exact ⟨(wrap64 (x7_1 + t106)), (wrap64 (x69_1 + 1)), Z8, Z8, H', ⟨ZV⟩, ⟨Z6⟩, ⟨QB⟩⟩
            ·rw [if_neg c29] at H
             exact Zn
           ·rw [if_neg c28] at H
            exact Zn
          ·rw [if_neg c27] at H
           have c27b0 : decide (x69_1 < (l0_3.length : Int)) = false := decide_eq_false c27
           clear c27
           obtain rfl := Option.some.inj H
           go_wp2
           go_ret
           exact Z2r
      ·rw [if_neg c15] at H
       have c15b0 : (a0_1.toList == ([] : List UInt8)) = false := beq_eq_false_iff_ne.mpr c15
       have c15b1 : (a0_1.toList != ([] : List UInt8)) = true := bne_iff_ne.mpr c15
       (try (have c15c9b0_true : (a0_0 == 1) = true := by have z_ := c9b0; rw [c15b1] at z_; simpa using z_))
       (try (have c15c9b0_false : (a0_0 == 1) = false := by have z_ := c9b0; rw [c15b1] at z_; simpa using z_))
       replace H := Option.bind_eq_some_iff.mp H
       obtain ⟨t107, A400, H⟩ := H
       replace H : (if t107 = true then (some (-1)) else ((Yy.f k l0_2).bind fun t108 => (if t108 = true then (some (-1)) else (Yx.l0 k a1 1 l0_3 (l0_3.length : Int) 0)))) = some r := H
       have A40 := Y0.mk A400
       clear A400
       by_cases c41 : t107 = true
       ·subst c41
        have H1 : (some (-1)) = some r := by rw [if_pos rfl] at H; exact H
        clear H
        have H := H1
        clear H1
        obtain rfl := Option.some.inj H
        go_enter Tryd.func62, Tryd.ntmps62
        try go_wp2_with (first | ((with_reducible refine YF (N := 2) rfl ?_); (try (refine YW (by rfl) ?_; dsimp only)); refine YD ?hg (N := 2) ?hd (cs := #[.int .i64 a0_0, .string a0_1, .slice A0_2 l0_2.length c0_2, .slice A0_3 l0_3.length c0_3]) (t := 37) ?hr ?_; (case hd => rfl); (case hg => rfl); (case hr => exact Zb); intro gb101 hg w42 hbox hb; have n_ := Y2N (Y8 QB hb) (hbox) ((by rw [hg]; exact (Yf QB) : w.heap.size ≤ gb101)) ((by rw [hg]; exact (Yf QB) : w.heap.size ≤ gb101)); clear HB; obtain ⟨HB, BK101, GW101, GE101⟩ := n_; clear hb hbox hg; obtain ⟨hcz43_0, hcz43_1, hcz43_2, hcz43_3, hfz43_0, hfz43_1, hfz43_2, hfz43_3⟩ := YA BK101.out))
        have n_ := Y2d (Yb BK101.out) (YP HB.out)
        clear BK101
        clear HB
        obtain ⟨BK101, HB⟩ := n_
        refine Y1m (n := 40) (S := fun w' => w'.cell? ⟨gb101, 0, none⟩ = some (.int .i64 a0_0) ∧ w'.cell? ⟨gb101, 1, none⟩ = some (.string a0_1) ∧ w'.cell? ⟨gb101, 2, none⟩ = some (.slice A0_2 l0_2.length c0_2) ∧ w'.cell? ⟨gb101, 3, none⟩ = some (.slice A0_3 l0_3.length c0_3)) (ds := []) Y3C Z4 rfl rfl ⟨(Y2 BK101.out 0).trans rfl, (Y2 BK101.out 1).trans rfl, (Y2 BK101.out 2).trans rfl, (Y2 BK101.out 3).trans rfl⟩ (fun hHeld => ?_); refine Y11 Yx.tab3 Yx.bits3 (fun HT_ HW_ => ?_)
        generalize w42.drew = w44 at BK101 HB hHeld ⊢
        refine pY 0 26 Y3D ?_
        refine pY 1 27 Y3E ?_
        refine pY 2 28 Y3F ?_
        refine pY 3 29 Y3G ?_
        refine pY 6 32 Y3i ?_
        refine pT 4 30 Y3j ?_
        refine pY 5 31 Y33 ?_
        refine pT 7 33 Y34 ?_
        refine Y2Q (i := 8) (N := some 34) Y2J rfl rfl (Y1b HT_.out Z4) (by decide) (fun K hK => ?_)
        refine Y1Q Tryd.func98 Z4 rfl #[.int .i64 a0_0] (by rfl) rfl rfl Z0 ?_
        with_reducible refine (YJ.calls k a0_0 t102 _ A7.out).mono ?_
        rintro e w' ⟨rfl, ⟨nd, rfl⟩⟩
        refine ⟨_, rfl, ?_⟩
        refine hK.out _ _ ⟨(Y2 BK101.out 0).trans rfl, (Y2 BK101.out 1).trans rfl, (Y2 BK101.out 2).trans rfl, (Y2 BK101.out 3).trans rfl⟩ (fun hHeld => ?_)
        clear hK K
        refine Y1A (a' := ?_) ?_ ?_
        rotate_left
        ·show Act.put _ (some 34) _ = _
         simp only [Act.put, List.setIfInBounds_toArray, List.set_cons_zero, List.set_cons_succ, Y16, Y17]
         rfl
        refine pY 9 35 Y2K ?_
        refine pY 10 36 Y2L ?_
        refine pY 11 37 Y2M ?_
        refine pY 12 38 Y2h ?_
        refine pY 13 39 Y2i ?_
        refine pY 14 40 Y2j ?_
        refine pY 15 41 Y2k ?_
        refine pY 16 42 Y20 ?_
        refine pY 17 43 Y21 ?_
        refine pY 18 44 Y22 ?_
        refine pY 19 45 Y23 ?_
        refine pY 20 46 Y1J ?_
        refine pT 21 47 Y1K ?_
        refine pY 22 48 Y1L ?_
        refine pY 23 49 Y1M ?_
        refine pY 24 50 Y1B ?_
        refine pY 25 51 Y1C ?_
        refine pY 26 52 Y1D ?_
        refine pT 27 53 Y1E ?_
        refine pY 28 54 Y1v ?_
        refine pY 29 55 Y1w ?_
        refine pY 30 56 Y1x ?_
        refine pT 31 57 Y1y ?_
        refine Y2Q (i := 32) (N := some 58) Y1n rfl rfl (Y1b HT_.out Z4) (by decide) (fun K hK => ?_)
        refine Y1Q Tryd.func99 Z4 rfl #[.string a0_1] (by rfl) rfl rfl Z0 ?_
        with_reducible refine (Y1k.calls a0_1 true _ ?side1 A40.out).mono ?_
        (case side1 => exact Z3)
        rintro e w45 ⟨rfl, hb⟩
        refine ⟨_, rfl, ?_⟩
        have n_ := Y2d (Yt (g := gb101) (o := .cells #[.int .i64 a0_0, .string a0_1, .slice A0_2 l0_2.length c0_2, .slice A0_3 l0_3.length c0_3] 37 (0, 0)) QQ hb) (Y8 QB hb)
        clear BK101
        clear HB
        obtain ⟨BK101, HB⟩ := n_
        (try clear hb)
        (try clear hb2)
        (try clear hk)
        (try clear hi)
        refine hK.out _ _ ⟨(Y2 BK101.out 0).trans rfl, (Y2 BK101.out 1).trans rfl, (Y2 BK101.out 2).trans rfl, (Y2 BK101.out 3).trans rfl⟩ (fun hHeld => ?_)
        clear hK K
        refine Y1A (a' := ?_) ?_ ?_
        rotate_left
        ·show Act.put _ (some 58) _ = _
         simp only [Act.put, List.setIfInBounds_toArray, List.set_cons_zero, List.set_cons_succ, Y16, Y17]
         rfl
        refine pY 33 59 Y1o ?_
        refine pY 34 60 Y1p ?_
        refine pY 35 61 Y1q ?_
        refine pU 36 62 Y1g ?_
        refine pU 37 63 Y1h ?_
        refine pU 38 64 Y1i ?_
        refine pY 39 65 Y1j ?_
        refine Y1S (Y1a HT_.out Z4) ?_
        try go_wp2
        go_ret
        exact Z2r
       ·replace c41 := Bool.eq_false_iff.mpr c41
        subst c41
        have H1 : ((Yy.f k l0_2).bind fun t108 => (if t108 = true then (some (-1)) else (Yx.l0 k a1 1 l0_3 (l0_3.length : Int) 0))) = some r := by rw [if_neg (show ¬ (false = true) by decide)] at H; exact H
        clear H
        have H := H1
        clear H1
        replace H := Option.bind_eq_some_iff.mp H
        obtain ⟨t108, A460, H⟩ := H
        replace H : (if t108 = true then (some (-1)) else (Yx.l0 k a1 1 l0_3 (l0_3.length : Int) 0)) = some r := H
        have A46 := Y0.mk A460
        clear A460
        by_cases c47 : t108 = true
        ·subst c47
         have H1 : (some (-1)) = some r := by rw [if_pos rfl] at H; exact H
         clear H
         have H := H1
         clear H1
         obtain rfl := Option.some.inj H
         go_enter Tryd.func62, Tryd.ntmps62
         try go_wp2_with (first | ((with_reducible refine YF (N := 2) rfl ?_); (try (refine YW (by rfl) ?_; dsimp only)); refine YD ?hg (N := 2) ?hd (cs := #[.int .i64 a0_0, .string a0_1, .slice A0_2 l0_2.length c0_2, .slice A0_3 l0_3.length c0_3]) (t := 37) ?hr ?_; (case hd => rfl); (case hg => rfl); (case hr => exact Zb); intro gb101 hg w48 hbox hb; have n_ := Y2N (Y8 QB hb) (hbox) ((by rw [hg]; exact (Yf QB) : w.heap.size ≤ gb101)) ((by rw [hg]; exact (Yf QB) : w.heap.size ≤ gb101)); clear HB; obtain ⟨HB, BK101, GW101, GE101⟩ := n_; clear hb hbox hg; obtain ⟨hcz49_0, hcz49_1, hcz49_2, hcz49_3, hfz49_0, hfz49_1, hfz49_2, hfz49_3⟩ := YA BK101.out))
         have n_ := Y2d (Yb BK101.out) (YP HB.out)
         clear BK101
         clear HB
         obtain ⟨BK101, HB⟩ := n_
         refine Y1m (n := 40) (S := fun w' => w'.cell? ⟨gb101, 0, none⟩ = some (.int .i64 a0_0) ∧ w'.cell? ⟨gb101, 1, none⟩ = some (.string a0_1) ∧ w'.cell? ⟨gb101, 2, none⟩ = some (.slice A0_2 l0_2.length c0_2) ∧ w'.cell? ⟨gb101, 3, none⟩ = some (.slice A0_3 l0_3.length c0_3)) (ds := []) Y3C Z4 rfl rfl ⟨(Y2 BK101.out 0).trans rfl, (Y2 BK101.out 1).trans rfl, (Y2 BK101.out 2).trans rfl, (Y2 BK101.out 3).trans rfl⟩ (fun hHeld => ?_); refine Y11 Yx.tab3 Yx.bits3 (fun HT_ HW_ => ?_)
         generalize w48.drew = w50 at BK101 HB hHeld ⊢
         refine pY 0 26 Y3D ?_
         refine pY 1 27 Y3E ?_
         refine pY 2 28 Y3F ?_
         refine pY 3 29 Y3G ?_
         refine pY 6 32 Y3i ?_
         refine pT 4 30 Y3j ?_
         refine pY 5 31 Y33 ?_
         refine pT 7 33 Y34 ?_
         refine Y2Q (i := 8) (N := some 34) Y2J rfl rfl (Y1b HT_.out Z4) (by decide) (fun K hK => ?_)
         refine Y1Q Tryd.func98 Z4 rfl #[.int .i64 a0_0] (by rfl) rfl rfl Z0 ?_
         with_reducible refine (YJ.calls k a0_0 t102 _ A7.out).mono ?_
         rintro e w' ⟨rfl, ⟨nd, rfl⟩⟩
         refine ⟨_, rfl, ?_⟩
         refine hK.out _ _ ⟨(Y2 BK101.out 0).trans rfl, (Y2 BK101.out 1).trans rfl, (Y2 BK101.out 2).trans rfl, (Y2 BK101.out 3).trans rfl⟩ (fun hHeld => ?_)
         clear hK K
         refine Y1A (a' := ?_) ?_ ?_
         rotate_left
         ·show Act.put _ (some 34) _ = _
          simp only [Act.put, List.setIfInBounds_toArray, List.set_cons_zero, List.set_cons_succ, Y16, Y17]
          rfl
         refine pY 9 35 Y2K ?_
         refine pY 10 36 Y2L ?_
         refine pY 11 37 Y2M ?_
         refine pY 12 38 Y2h ?_
         refine pY 13 39 Y2i ?_
         refine pY 14 40 Y2j ?_
         refine pY 15 41 Y2k ?_
         refine pY 16 42 Y20 ?_
         refine pY 17 43 Y21 ?_
         refine pY 18 44 Y22 ?_
         refine pY 19 45 Y23 ?_
         refine pY 20 46 Y1J ?_
         refine pT 21 47 Y1K ?_
         refine pY 22 48 Y1L ?_
         refine pY 23 49 Y1M ?_
         refine pY 24 50 Y1B ?_
         refine pY 25 51 Y1C ?_
         refine pY 26 52 Y1D ?_
         refine pT 27 53 Y1E ?_
         refine pY 28 54 Y1v ?_
         refine pY 29 55 Y1w ?_
         refine pY 30 56 Y1x ?_
         refine pT 31 57 Y1y ?_
         refine Y2Q (i := 32) (N := some 58) Y1n rfl rfl (Y1b HT_.out Z4) (by decide) (fun K hK => ?_)
         refine Y1Q Tryd.func99 Z4 rfl #[.string a0_1] (by rfl) rfl rfl Z0 ?_
         with_reducible refine (Y1k.calls a0_1 false _ ?side1 A40.out).mono ?_
         (case side1 => exact Z3)
         rintro e w51 ⟨rfl, hb⟩
         refine ⟨_, rfl, ?_⟩
         have n_ := Y2d (Yt (g := gb101) (o := .cells #[.int .i64 a0_0, .string a0_1, .slice A0_2 l0_2.length c0_2, .slice A0_3 l0_3.length c0_3] 37 (0, 0)) QQ hb) (Y8 QB hb)
         clear BK101
         clear HB
         obtain ⟨BK101, HB⟩ := n_
         (try clear hb)
         (try clear hb2)
         (try clear hk)
         (try clear hi)
         refine hK.out _ _ ⟨(Y2 BK101.out 0).trans rfl, (Y2 BK101.out 1).trans rfl, (Y2 BK101.out 2).trans rfl, (Y2 BK101.out 3).trans rfl⟩ (fun hHeld => ?_)
         clear hK K
         refine Y1A (a' := ?_) ?_ ?_
         rotate_left
         ·show Act.put _ (some 58) _ = _
          simp only [Act.put, List.setIfInBounds_toArray, List.set_cons_zero, List.set_cons_succ, Y16, Y17]
          rfl
         refine pY 33 59 Y1o ?_
         refine pY 34 60 Y1p ?_
         refine pY 35 61 Y1q ?_
         refine pY 36 62 Y1g ?_
         refine pT 37 63 Y1h ?_
         refine Y2Q (i := 38) (N := some 64) Y1i rfl rfl (Y1b HT_.out Z4) (by decide) (fun K hK => ?_)
         refine Y1Q Tryd.func100 Z4 rfl #[.slice A0_2 l0_2.length c0_2, .func (.func 99) #[] #[]] (by rfl) rfl rfl Z0 ?_
         with_reducible refine (Yy.calls k _ _ l0_2  true _ ?side1 ?side2 ?side3 A46.out).mono ?_
         (case side1 => exact Z3)
         (case side2 => exact Zc)
         (case side3 => exact Z1P)
         rintro e w52 ⟨rfl, hb⟩
         refine ⟨_, rfl, ?_⟩
         have n_ := Y2d (Yt (g := gb101) (o := .cells #[.int .i64 a0_0, .string a0_1, .slice A0_2 l0_2.length c0_2, .slice A0_3 l0_3.length c0_3] 37 (0, 0)) QQ hb) (Y8 QB hb)
         clear BK101
         clear HB
         obtain ⟨BK101, HB⟩ := n_
         (try clear hb)
         (try clear hb2)
         (try clear hk)
         (try clear hi)
         refine hK.out _ _ ⟨(Y2 BK101.out 0).trans rfl, (Y2 BK101.out 1).trans rfl, (Y2 BK101.out 2).trans rfl, (Y2 BK101.out 3).trans rfl⟩ (fun hHeld => ?_)
         clear hK K
         refine Y1A (a' := ?_) ?_ ?_
         rotate_left
         ·show Act.put _ (some 64) _ = _
          simp only [Act.put, List.setIfInBounds_toArray, List.set_cons_zero, List.set_cons_succ, Y16, Y17]
          rfl
         refine pY 39 65 Y1j ?_
         refine Y1S (Y1a HT_.out Z4) ?_
         try go_wp2
         go_ret
         exact Z2r
        ·replace c47 := Bool.eq_false_iff.mpr c47
         subst c47
         have H1 : (Yx.l0 k a1 1 l0_3 (l0_3.length : Int) 0) = some r := by rw [if_neg (show ¬ (false = true) by decide)] at H; exact H
         clear H
         have H := H1
         clear H1
         have H' := Y0.mk H
         clear H
         go_enter Tryd.func62, Tryd.ntmps62
         try go_wp2_with (first | ((with_reducible refine YF (N := 2) rfl ?_); (try (refine YW (by rfl) ?_; dsimp only)); refine YD ?hg (N := 2) ?hd (cs := #[.int .i64 a0_0, .string a0_1, .slice A0_2 l0_2.length c0_2, .slice A0_3 l0_3.length c0_3]) (t := 37) ?hr ?_; (case hd => rfl); (case hg => rfl); (case hr => exact Zb); intro gb101 hg w53 hbox hb; have n_ := Y2N (Y8 QB hb) (hbox) ((by rw [hg]; exact (Yf QB) : w.heap.size ≤ gb101)) ((by rw [hg]; exact (Yf QB) : w.heap.size ≤ gb101)); clear HB; obtain ⟨HB, BK101, GW101, GE101⟩ := n_; clear hb hbox hg; obtain ⟨hcz54_0, hcz54_1, hcz54_2, hcz54_3, hfz54_0, hfz54_1, hfz54_2, hfz54_3⟩ := YA BK101.out))
         have n_ := Y2d (Yb BK101.out) (YP HB.out)
         clear BK101
         clear HB
         obtain ⟨BK101, HB⟩ := n_
         refine Y1m (n := 40) (S := fun w' => w'.cell? ⟨gb101, 0, none⟩ = some (.int .i64 a0_0) ∧ w'.cell? ⟨gb101, 1, none⟩ = some (.string a0_1) ∧ w'.cell? ⟨gb101, 2, none⟩ = some (.slice A0_2 l0_2.length c0_2) ∧ w'.cell? ⟨gb101, 3, none⟩ = some (.slice A0_3 l0_3.length c0_3)) (ds := []) Y3C Z4 rfl rfl ⟨(Y2 BK101.out 0).trans rfl, (Y2 BK101.out 1).trans rfl, (Y2 BK101.out 2).trans rfl, (Y2 BK101.out 3).trans rfl⟩ (fun hHeld => ?_); refine Y11 Yx.tab3 Yx.bits3 (fun HT_ HW_ => ?_)
         generalize w53.drew = w55 at BK101 HB hHeld ⊢
         refine pY 0 26 Y3D ?_
         refine pY 1 27 Y3E ?_
         refine pY 2 28 Y3F ?_
         refine pY 3 29 Y3G ?_
         refine pY 6 32 Y3i ?_
         refine pT 4 30 Y3j ?_
         refine pY 5 31 Y33 ?_
         refine pT 7 33 Y34 ?_
         refine Y2Q (i := 8) (N := some 34) Y2J rfl rfl (Y1b HT_.out Z4) (by decide) (fun K hK => ?_)
         refine Y1Q Tryd.func98 Z4 rfl #[.int .i64 a0_0] (by rfl) rfl rfl Z0 ?_
         with_reducible refine (YJ.calls k a0_0 t102 _ A7.out).mono ?_
         rintro e w' ⟨rfl, ⟨nd, rfl⟩⟩
         refine ⟨_, rfl, ?_⟩
         refine hK.out _ _ ⟨(Y2 BK101.out 0).trans rfl, (Y2 BK101.out 1).trans rfl, (Y2 BK101.out 2).trans rfl, (Y2 BK101.out 3).trans rfl⟩ (fun hHeld => ?_)
         clear hK K
         refine Y1A (a' := ?_) ?_ ?_
         rotate_left
         ·show Act.put _ (some 34) _ = _
          simp only [Act.put, List.setIfInBounds_toArray, List.set_cons_zero, List.set_cons_succ, Y16, Y17]
          rfl
         refine pY 9 35 Y2K ?_
         refine pY 10 36 Y2L ?_
         refine pY 11 37 Y2M ?_
         refine pY 12 38 Y2h ?_
         refine pY 13 39 Y2i ?_
         refine pY 14 40 Y2j ?_
         refine pY 15 41 Y2k ?_
         refine pY 16 42 Y20 ?_
         refine pY 17 43 Y21 ?_
         refine pY 18 44 Y22 ?_
         refine pY 19 45 Y23 ?_
         refine pY 20 46 Y1J ?_
         refine pT 21 47 Y1K ?_
         refine pY 22 48 Y1L ?_
         refine pY 23 49 Y1M ?_
         refine pY 24 50 Y1B ?_
         refine pY 25 51 Y1C ?_
         refine pY 26 52 Y1D ?_
         refine pT 27 53 Y1E ?_
         refine pY 28 54 Y1v ?_
         refine pY 29 55 Y1w ?_
         refine pY 30 56 Y1x ?_
         refine pT 31 57 Y1y ?_
         refine Y2Q (i := 32) (N := some 58) Y1n rfl rfl (Y1b HT_.out Z4) (by decide) (fun K hK => ?_)
         refine Y1Q Tryd.func99 Z4 rfl #[.string a0_1] (by rfl) rfl rfl Z0 ?_
         with_reducible refine (Y1k.calls a0_1 false _ ?side1 A40.out).mono ?_
         (case side1 => exact Z3)
         rintro e w56 ⟨rfl, hb⟩
         refine ⟨_, rfl, ?_⟩
         have n_ := Y2d (Yt (g := gb101) (o := .cells #[.int .i64 a0_0, .string a0_1, .slice A0_2 l0_2.length c0_2, .slice A0_3 l0_3.length c0_3] 37 (0, 0)) QQ hb) (Y8 QB hb)
         clear BK101
         clear HB
         obtain ⟨BK101, HB⟩ := n_
         (try clear hb)
         (try clear hb2)
         (try clear hk)
         (try clear hi)
         refine hK.out _ _ ⟨(Y2 BK101.out 0).trans rfl, (Y2 BK101.out 1).trans rfl, (Y2 BK101.out 2).trans rfl, (Y2 BK101.out 3).trans rfl⟩ (fun hHeld => ?_)
         clear hK K
         refine Y1A (a' := ?_) ?_ ?_
         rotate_left
         ·show Act.put _ (some 58) _ = _
          simp only [Act.put, List.setIfInBounds_toArray, List.set_cons_zero, List.set_cons_succ, Y16, Y17]
          rfl
         refine pY 33 59 Y1o ?_
         refine pY 34 60 Y1p ?_
         refine pY 35 61 Y1q ?_
         refine pY 36 62 Y1g ?_
         refine pT 37 63 Y1h ?_
         refine Y2Q (i := 38) (N := some 64) Y1i rfl rfl (Y1b HT_.out Z4) (by decide) (fun K hK => ?_)
         refine Y1Q Tryd.func100 Z4 rfl #[.slice A0_2 l0_2.length c0_2, .func (.func 99) #[] #[]] (by rfl) rfl rfl Z0 ?_
         with_reducible refine (Yy.calls k _ _ l0_2  false _ ?side1 ?side2 ?side3 A46.out).mono ?_
         (case side1 => exact Z3)
         (case side2 => exact Zc)
         (case side3 => exact Z1P)
         rintro e w57 ⟨rfl, hb⟩
         refine ⟨_, rfl, ?_⟩
         have n_ := Y2d (Yt (g := gb101) (o := .cells #[.int .i64 a0_0, .string a0_1, .slice A0_2 l0_2.length c0_2, .slice A0_3 l0_3.length c0_3] 37 (0, 0)) QQ hb) (Y8 QB hb)
         clear BK101
         clear HB
         obtain ⟨BK101, HB⟩ := n_
         (try clear hb)
         (try clear hb2)
         (try clear hk)
         (try clear hi)
         refine hK.out _ _ ⟨(Y2 BK101.out 0).trans rfl, (Y2 BK101.out 1).trans rfl, (Y2 BK101.out 2).trans rfl, (Y2 BK101.out 3).trans rfl⟩ (fun hHeld => ?_)
         clear hK K
         refine Y1A (a' := ?_) ?_ ?_
         rotate_left
         ·show Act.put _ (some 64) _ = _
          simp only [Act.put, List.setIfInBounds_toArray, List.set_cons_zero, List.set_cons_succ, Y16, Y17]
          rfl
         refine pY 39 65 Y1j ?_
         refine Y1S (Y1a HT_.out Z4) ?_
         obtain ⟨hcz58_0, hcz58_1, hcz58_2, hcz58_3, hfz58_0, hfz58_1, hfz58_2, hfz58_3⟩ := YA BK101.out
         try go_wp2
         go_loopg [7, 69] k (fun kq v7 v69 w' => ∃ (x7_1 : Int) (x69_1 : Int), v7 = .int .i64 x7_1 ∧ v69 = .int .i64 x69_1 ∧ Y0 (Yx.l0 kq a1 x7_1 l0_3 (l0_3.length : Int) x69_1 = some r) ∧ Y0 (kq ≤ k) ∧ Y0 (w'.heap[gb101]? = some (.cells #[.int .i64 a0_0, .string a0_1, (.slice A0_2 l0_2.length c0_2), (.slice A0_3 l0_3.length c0_3)] 37 (0, 0))) ∧ Y0 (Below w.heap.size w w'))
         case atStart => exact Z2x
         case round =>
          clear H'
          try clear c1
          try clear p2
          try clear c4
          try clear c6
          try clear c9
          try clear c10
          try clear c47
          try clear hcz54_0 hcz54_1 hcz54_2 hcz54_3
          try clear hcz58_0 hcz58_1 hcz58_2 hcz58_3
          try clear hfz54_0
          try clear hfz54_1
          try clear hfz54_2
          try clear hfz54_3
          try clear hfz58_0
          try clear hfz58_1
          try clear hfz58_2
          try clear hfz58_3
          obtain ⟨x7_1, x69_1, rfl, rfl, HA, HK1, BK101, HB⟩ := hrel
          cases gk with
          | zero => exact absurd HA.out (by simp [Yx.l0])
          | succ k1 =>
           have H := HA.out
           clear HA
           simp only [Yx.l0] at H
           by_cases c59 : x69_1 < (l0_3.length : Int)
           ·rw [if_pos c59] at H
            have c59b0 : decide (x69_1 < (l0_3.length : Int)) = true := decide_eq_true c59
            clear c59
            by_cases c60 : 0 ≤ x69_1
            ·rw [if_pos c60] at H
             have c60b0 : decide (0 ≤ x69_1) = true := decide_eq_true c60
             clear c60
             by_cases c61 : x69_1 < (l0_3.length : Int)
             ·rw [if_pos c61] at H
              have c61b0 : decide (x69_1 < (l0_3.length : Int)) = true := decide_eq_true c61
              clear c61
              replace H := Option.bind_eq_some_iff.mp H
              obtain ⟨t106, A620, H⟩ := H
              replace H : (if t106 < 0 then (some (-1)) else (Yx.l0 k1 a1 (wrap64 (x7_1 + t106)) l0_3 (l0_3.length : Int) (wrap64 (x69_1 + 1)))) = some r := H
              have A62 := Y0.mk A620
              clear A620
              by_cases c63 : t106 < 0
              ·rw [if_pos c63] at H
               have c63b0 : decide (t106 < 0) = true := decide_eq_true c63
               clear c63
               obtain rfl := Option.some.inj H
               have p104 : 0 ≤ (x69_1 : Int) := of_decide_eq_true Za
               have q104 : x69_1 < (l0_3.length : Int) := of_decide_eq_true Za
               obtain ⟨ad104, A104_2, c104_2, A104_3, c104_3, e104, hx104_0, hx104_1, hx104_2, hx104_3, hl104_2, hi104_2, hl104_3, hi104_3⟩ := Y2f HR0_3.out x69_1 p104 q104
               cases e104
               replace hx104_0 := Y15 HB.out hx104_0
               replace hx104_1 := Y15 HB.out hx104_1
               replace hx104_2 := Y15 HB.out hx104_2
               replace hx104_3 := Y15 HB.out hx104_3
               have HR104_2 := Y0.mk hi104_2
               have HC104_2 := Y0.mk hl104_2
               clear hi104_2 hl104_2
               have HR104_3 := Y0.mk hi104_3
               have HC104_3 := Y0.mk hl104_3
               clear hi104_3 hl104_3
               replace p104 := eq_true p104
               replace q104 := eq_true q104
               go_wp2_with (first | ((with_reducible refine YF (N := 9) rfl ?_); (try (refine YW (by rfl) ?_; dsimp only)); refine YD ?hg (N := 9) ?hd (cs := #[.int .i64 0, .string (⟨#[]⟩ : ByteArray), .slice none 0 0, .slice none 0 0]) (t := 37) ?hr ?_; (case hd => rfl); (case hg => rfl); (case hr => exact Zb); intro gb105 hg w64 hbox hb; have n_ := put7 (Yt (g := gb101) (o := .cells #[.int .i64 a0_0, .string a0_1, .slice A0_2 l0_2.length c0_2, .slice (some ad104) l0_3.length c0_3] 37 (0, 0)) QQ hb) (Y8 QB hb) (hbox) ((by rw [hg]; exact (Yf QB) : w.heap.size ≤ gb105)) ((by rw [hg]; exact (Yf QB) : w.heap.size ≤ gb105)) ((by rw [hg]; exact Nat.ne_of_lt (Y14 (g := gb101) (o := .cells #[.int .i64 a0_0, .string a0_1, .slice A0_2 l0_2.length c0_2, .slice (some ad104) l0_3.length c0_3] 37 (0, 0)) QQ) : gb101 ≠ gb105)) ((by rw [hg]; exact Nat.ne_of_gt (Y14 (g := gb101) (o := .cells #[.int .i64 a0_0, .string a0_1, .slice A0_2 l0_2.length c0_2, .slice (some ad104) l0_3.length c0_3] 37 (0, 0)) QQ) : gb105 ≠ gb101)); clear BK101 HB; obtain ⟨BK101, HB, BK105, GW105, GE105, NB101_105, NB105_101⟩ := n_; clear hb hbox hg; have hnb65 := NB105_101.out; have hnc65 := NB101_105.out; obtain ⟨hcz66_0, hcz66_1, hcz66_2, hcz66_3, hfz66_0, hfz66_1, hfz66_2, hfz66_3⟩ := YA BK105.out) | ((with_reducible refine Yl (f := 62) rfl ?_); refine YO (some 76) rfl rfl Tryd.func62 Z4 rfl #[.agg #[.int .i64 ((Yc l0_3 x69_1).f0), .string ((Yc l0_3 x69_1).f1), .slice A104_2 ((Yc l0_3 x69_1).f2).length c104_2, .slice A104_3 ((Yc l0_3 x69_1).f3).length c104_3], .int .i64 (wrap64 (a1 + 1))] rfl Z0 ?_; (with_reducible refine (ih k1 ZV ((Yc l0_3 x69_1).f0) ((Yc l0_3 x69_1).f1) _ _ ((Yc l0_3 x69_1).f2) _ _ ((Yc l0_3 x69_1).f3) (wrap64 (a1 + 1)) t106 _ ?side1 ?side2 ?side3 ?side4 ?side5 A62.out).mono ?_); (case side1 => exact Z3); (case side2 => exact Kd.C_below HR104_2.out QB); (case side3 => exact HC104_2.out); (case side4 => exact Kd.C_below HR104_3.out QB); (case side5 => exact HC104_3.out); rintro e w67 ⟨rfl, hb⟩; refine ⟨_, rfl, ?_⟩; have n_ := Y38 (Yt (g := gb101) (o := .cells #[.int .i64 a0_0, .string a0_1, .slice A0_2 l0_2.length c0_2, .slice (some ad104) l0_3.length c0_3] 37 (0, 0)) Zf hb) (Yt (g := gb105) (o := .cells #[.int .i64 ((Yc l0_3 x69_1).f0), .string ((Yc l0_3 x69_1).f1), .slice A104_2 ((Yc l0_3 x69_1).f2).length c104_2, .slice A104_3 ((Yc l0_3 x69_1).f3).length c104_3] 37 (0, 0)) Z2c hb) (Y8 QB hb); clear BK101 BK105 HB; obtain ⟨BK101, BK105, HB⟩ := n_; (try clear hb); (try clear hb2); (try clear hk); (try clear hi)))
               go_ret
               exact Z2r
              ·rw [if_neg c63] at H
               have c63b0 : decide (t106 < 0) = false := decide_eq_false c63
               clear c63
               have H' := Y0.mk H
               clear H
               have p104 : 0 ≤ (x69_1 : Int) := of_decide_eq_true Za
               have q104 : x69_1 < (l0_3.length : Int) := of_decide_eq_true Za
               obtain ⟨ad104, A104_2, c104_2, A104_3, c104_3, e104, hx104_0, hx104_1, hx104_2, hx104_3, hl104_2, hi104_2, hl104_3, hi104_3⟩ := Y2f HR0_3.out x69_1 p104 q104
               cases e104
               replace hx104_0 := Y15 HB.out hx104_0
               replace hx104_1 := Y15 HB.out hx104_1
               replace hx104_2 := Y15 HB.out hx104_2
               replace hx104_3 := Y15 HB.out hx104_3
               have HR104_2 := Y0.mk hi104_2
               have HC104_2 := Y0.mk hl104_2
               clear hi104_2 hl104_2
               have HR104_3 := Y0.mk hi104_3
               have HC104_3 := Y0.mk hl104_3
               clear hi104_3 hl104_3
               replace p104 := eq_true p104
               replace q104 := eq_true q104
               go_wp2_with (first | ((with_reducible refine YF (N := 9) rfl ?_); (try (refine YW (by rfl) ?_; dsimp only)); refine YD ?hg (N := 9) ?hd (cs := #[.int .i64 0, .string (⟨#[]⟩ : ByteArray), .slice none 0 0, .slice none 0 0]) (t := 37) ?hr ?_; (case hd => rfl); (case hg => rfl); (case hr => exact Zb); intro gb105 hg w68 hbox hb; have n_ := put7 (Yt (g := gb101) (o := .cells #[.int .i64 a0_0, .string a0_1, .slice A0_2 l0_2.length c0_2, .slice (some ad104) l0_3.length c0_3] 37 (0, 0)) QQ hb) (Y8 QB hb) (hbox) ((by rw [hg]; exact (Yf QB) : w.heap.size ≤ gb105)) ((by rw [hg]; exact (Yf QB) : w.heap.size ≤ gb105)) ((by rw [hg]; exact Nat.ne_of_lt (Y14 (g := gb101) (o := .cells #[.int .i64 a0_0, .string a0_1, .slice A0_2 l0_2.length c0_2, .slice (some ad104) l0_3.length c0_3] 37 (0, 0)) QQ) : gb101 ≠ gb105)) ((by rw [hg]; exact Nat.ne_of_gt (Y14 (g := gb101) (o := .cells #[.int .i64 a0_0, .string a0_1, .slice A0_2 l0_2.length c0_2, .slice (some ad104) l0_3.length c0_3] 37 (0, 0)) QQ) : gb105 ≠ gb101)); clear BK101 HB; obtain ⟨BK101, HB, BK105, GW105, GE105, NB101_105, NB105_101⟩ := n_; clear hb hbox hg; have hnb69 := NB105_101.out; have hnc69 := NB101_105.out; obtain ⟨hcz70_0, hcz70_1, hcz70_2, hcz70_3, hfz70_0, hfz70_1, hfz70_2, hfz70_3⟩ := YA BK105.out) | ((with_reducible refine Yl (f := 62) rfl ?_); refine YO (some 76) rfl rfl Tryd.func62 Z4 rfl #[.agg #[.int .i64 ((Yc l0_3 x69_1).f0), .string ((Yc l0_3 x69_1).f1), .slice A104_2 ((Yc l0_3 x69_1).f2).length c104_2, .slice A104_3 ((Yc l0_3 x69_1).f3).length c104_3], .int .i64 (wrap64 (a1 + 1))] rfl Z0 ?_; (with_reducible refine (ih k1 ZV ((Yc l0_3 x69_1).f0) ((Yc l0_3 x69_1).f1) _ _ ((Yc l0_3 x69_1).f2) _ _ ((Yc l0_3 x69_1).f3) (wrap64 (a1 + 1)) t106 _ ?side1 ?side2 ?side3 ?side4 ?side5 A62.out).mono ?_); (case side1 => exact Z3); (case side2 => exact Kd.C_below HR104_2.out QB); (case side3 => exact HC104_2.out); (case side4 => exact Kd.C_below HR104_3.out QB); (case side5 => exact HC104_3.out); rintro e w71 ⟨rfl, hb⟩; refine ⟨_, rfl, ?_⟩; have n_ := Y38 (Yt (g := gb101) (o := .cells #[.int .i64 a0_0, .string a0_1, .slice A0_2 l0_2.length c0_2, .slice (some ad104) l0_3.length c0_3] 37 (0, 0)) Zf hb) (Yt (g := gb105) (o := .cells #[.int .i64 ((Yc l0_3 x69_1).f0), .string ((Yc l0_3 x69_1).f1), .slice A104_2 ((Yc l0_3 x69_1).f2).length c104_2, .slice A104_3 ((Yc l0_3 x69_1).f3).length c104_3] 37 (0, 0)) Z2c hb) (Y8 QB hb); clear BK101 BK105 HB; obtain ⟨BK101, BK105, HB⟩ := n_; (try clear hb); (try clear hb2); (try clear hk); (try clear hi)))
               go_roundg k1
               case measure => have := HK1.out; omega
               case rel => exact ⟨(wrap64 (x7_1 + t106)), (wrap64 (x69_1 + 1)), Z8, Z8, H', ⟨ZV⟩, ⟨Z6⟩, ⟨QB⟩⟩
             ·rw [if_neg c61] at H
              exact Zn
            ·rw [if_neg c60] at H
             exact Zn
           ·rw [if_neg c59] at H
            have c59b0 : decide (x69_1 < (l0_3.length : Int)) = false := decide_eq_false c59
            clear c59
            obtain rfl := Option.some.inj H
            go_wp2
            go_ret
            exact Z2r
    ·rw [if_neg c10] at H
     have c10b0 : ((a0_0 == 8) == (decide ((l0_2.length : Int) > 0))) = false := by simpa using c10
     (try (have c10b1 : ((a0_0 == 8) == decide (0 < l0_2.length)) = false := by first | simpa using c10 | simpa [show ∀ l_ : List UInt8, (l_ != ([] : List UInt8)) = !l_.isEmpty from fun l_ => by cases l_ <;> rfl, show ∀ l_ : List UInt8, (l_ == ([] : List UInt8)) = l_.isEmpty from fun l_ => by cases l_ <;> rfl] using c10))
     (try (have c10b2 : (((a0_0 = 8) = (decide ((l0_2.length : Int) > 0)))) = False := eq_false (by simpa using c10)))
     (try (have c10b3 : decide ((a0_0 == 8) = (decide ((l0_2.length : Int) > 0))) = false := by simpa using c10))
     (try (have c10b4 : ((a0_0 == 8) == (decide ((l0_2.length : Int) > 0))) = false := by simpa using c10))
     (try (have c10b5 : ¬ ((a0_0 == 8) = (decide ((l0_2.length : Int) > 0))) := by simpa using c10))
     clear c10
     obtain rfl := Option.some.inj H
     go_enter Tryd.func62, Tryd.ntmps62
     try go_wp2_with (first | ((with_reducible refine YF (N := 2) rfl ?_); (try (refine YW (by rfl) ?_; dsimp only)); refine YD ?hg (N := 2) ?hd (cs := #[.int .i64 a0_0, .string a0_1, .slice A0_2 l0_2.length c0_2, .slice A0_3 l0_3.length c0_3]) (t := 37) ?hr ?_; (case hd => rfl); (case hg => rfl); (case hr => exact Zb); intro gb101 hg w72 hbox hb; have n_ := Y2N (Y8 QB hb) (hbox) ((by rw [hg]; exact (Yf QB) : w.heap.size ≤ gb101)) ((by rw [hg]; exact (Yf QB) : w.heap.size ≤ gb101)); clear HB; obtain ⟨HB, BK101, GW101, GE101⟩ := n_; clear hb hbox hg; obtain ⟨hcz73_0, hcz73_1, hcz73_2, hcz73_3, hfz73_0, hfz73_1, hfz73_2, hfz73_3⟩ := YA BK101.out))
     have n_ := Y2d (Yb BK101.out) (YP HB.out)
     clear BK101
     clear HB
     obtain ⟨BK101, HB⟩ := n_
     refine Y1m (n := 40) (S := fun w' => w'.cell? ⟨gb101, 0, none⟩ = some (.int .i64 a0_0) ∧ w'.cell? ⟨gb101, 1, none⟩ = some (.string a0_1) ∧ w'.cell? ⟨gb101, 2, none⟩ = some (.slice A0_2 l0_2.length c0_2) ∧ w'.cell? ⟨gb101, 3, none⟩ = some (.slice A0_3 l0_3.length c0_3)) (ds := []) Y3C Z4 rfl rfl ⟨(Y2 BK101.out 0).trans rfl, (Y2 BK101.out 1).trans rfl, (Y2 BK101.out 2).trans rfl, (Y2 BK101.out 3).trans rfl⟩ (fun hHeld => ?_); refine Y11 Yx.tab3 Yx.bits3 (fun HT_ HW_ => ?_)
     generalize w72.drew = w74 at BK101 HB hHeld ⊢
     refine pY 0 26 Y3D ?_
     refine pY 1 27 Y3E ?_
     refine pY 2 28 Y3F ?_
     refine pY 3 29 Y3G ?_
     refine pY 6 32 Y3i ?_
     refine pT 4 30 Y3j ?_
     refine pY 5 31 Y33 ?_
     refine pT 7 33 Y34 ?_
     refine Y2Q (i := 8) (N := some 34) Y2J rfl rfl (Y1b HT_.out Z4) (by decide) (fun K hK => ?_)
     refine Y1Q Tryd.func98 Z4 rfl #[.int .i64 a0_0] (by rfl) rfl rfl Z0 ?_
     with_reducible refine (YJ.calls k a0_0 t102 _ A7.out).mono ?_
     rintro e w' ⟨rfl, ⟨nd, rfl⟩⟩
     refine ⟨_, rfl, ?_⟩
     refine hK.out _ _ ⟨(Y2 BK101.out 0).trans rfl, (Y2 BK101.out 1).trans rfl, (Y2 BK101.out 2).trans rfl, (Y2 BK101.out 3).trans rfl⟩ (fun hHeld => ?_)
     clear hK K
     refine Y1A (a' := ?_) ?_ ?_
     rotate_left
     ·show Act.put _ (some 34) _ = _
      simp only [Act.put, List.setIfInBounds_toArray, List.set_cons_zero, List.set_cons_succ, Y16, Y17]
      rfl
     refine pY 9 35 Y2K ?_
     refine pY 10 36 Y2L ?_
     refine pY 11 37 Y2M ?_
     refine pY 12 38 Y2h ?_
     refine pY 13 39 Y2i ?_
     refine pY 14 40 Y2j ?_
     refine pY 15 41 Y2k ?_
     refine pY 16 42 Y20 ?_
     refine pY 17 43 Y21 ?_
     refine pY 18 44 Y22 ?_
     refine pY 19 45 Y23 ?_
     refine pU 20 46 Y1J ?_
     refine pU 21 47 Y1K ?_
     refine pU 22 48 Y1L ?_
     refine pU 23 49 Y1M ?_
     refine pY 24 50 Y1B ?_
     refine pY 25 51 Y1C ?_
     refine pU 26 52 Y1D ?_
     refine pU 27 53 Y1E ?_
     refine pU 28 54 Y1v ?_
     refine pU 29 55 Y1w ?_
     refine pU 30 56 Y1x ?_
     refine pU 31 57 Y1y ?_
     refine pU 32 58 Y1n ?_
     refine pU 33 59 Y1o ?_
     refine pY 34 60 Y1p ?_
     refine pY 35 61 Y1q ?_
     refine pU 36 62 Y1g ?_
     refine pU 37 63 Y1h ?_
     refine pU 38 64 Y1i ?_
     refine pY 39 65 Y1j ?_
     refine Y1S (Y1a HT_.out Z4) ?_
     try go_wp2
     go_ret
     exact Z2r
   ·rw [if_neg c9] at H
    have c9b0 : ((a0_0 == 1) == (a0_1.toList != ([] : List UInt8))) = false := by simpa using c9
    (try (have c9b1 : ((a0_0 == 1) == !a0_1.toList.isEmpty) = false := by first | simpa using c9 | simpa [show ∀ l_ : List UInt8, (l_ != ([] : List UInt8)) = !l_.isEmpty from fun l_ => by cases l_ <;> rfl, show ∀ l_ : List UInt8, (l_ == ([] : List UInt8)) = l_.isEmpty from fun l_ => by cases l_ <;> rfl] using c9))
    (try (have c9b2 : (((a0_0 = 1) = (a0_1.toList != ([] : List UInt8)))) = False := eq_false (by simpa using c9)))
    (try (have c9b3 : decide ((a0_0 == 1) = (a0_1.toList != ([] : List UInt8))) = false := by simpa using c9))
    (try (have c9b4 : ((a0_0 == 1) == (a0_1.toList != ([] : List UInt8))) = false := by simpa using c9))
    (try (have c9b5 : ¬ ((a0_0 == 1) = (a0_1.toList != ([] : List UInt8))) := by simpa using c9))
    clear c9
    obtain rfl := Option.some.inj H
    go_enter Tryd.func62, Tryd.ntmps62
    try go_wp2_with (first | ((with_reducible refine YF (N := 2) rfl ?_); (try (refine YW (by rfl) ?_; dsimp only)); refine YD ?hg (N := 2) ?hd (cs := #[.int .i64 a0_0, .string a0_1, .slice A0_2 l0_2.length c0_2, .slice A0_3 l0_3.length c0_3]) (t := 37) ?hr ?_; (case hd => rfl); (case hg => rfl); (case hr => exact Zb); intro gb101 hg w75 hbox hb; have n_ := Y2N (Y8 QB hb) (hbox) ((by rw [hg]; exact (Yf QB) : w.heap.size ≤ gb101)) ((by rw [hg]; exact (Yf QB) : w.heap.size ≤ gb101)); clear HB; obtain ⟨HB, BK101, GW101, GE101⟩ := n_; clear hb hbox hg; obtain ⟨hcz76_0, hcz76_1, hcz76_2, hcz76_3, hfz76_0, hfz76_1, hfz76_2, hfz76_3⟩ := YA BK101.out))
    have n_ := Y2d (Yb BK101.out) (YP HB.out)
    clear BK101
    clear HB
    obtain ⟨BK101, HB⟩ := n_
    refine Y1m (n := 40) (S := fun w' => w'.cell? ⟨gb101, 0, none⟩ = some (.int .i64 a0_0) ∧ w'.cell? ⟨gb101, 1, none⟩ = some (.string a0_1) ∧ w'.cell? ⟨gb101, 2, none⟩ = some (.slice A0_2 l0_2.length c0_2) ∧ w'.cell? ⟨gb101, 3, none⟩ = some (.slice A0_3 l0_3.length c0_3)) (ds := []) Y3C Z4 rfl rfl ⟨(Y2 BK101.out 0).trans rfl, (Y2 BK101.out 1).trans rfl, (Y2 BK101.out 2).trans rfl, (Y2 BK101.out 3).trans rfl⟩ (fun hHeld => ?_); refine Y11 Yx.tab3 Yx.bits3 (fun HT_ HW_ => ?_)
    generalize w75.drew = w77 at BK101 HB hHeld ⊢
    refine pY 0 26 Y3D ?_
    refine pY 1 27 Y3E ?_
    refine pY 2 28 Y3F ?_
    refine pY 3 29 Y3G ?_
    refine pY 6 32 Y3i ?_
    refine pT 4 30 Y3j ?_
    refine pY 5 31 Y33 ?_
    refine pT 7 33 Y34 ?_
    refine Y2Q (i := 8) (N := some 34) Y2J rfl rfl (Y1b HT_.out Z4) (by decide) (fun K hK => ?_)
    refine Y1Q Tryd.func98 Z4 rfl #[.int .i64 a0_0] (by rfl) rfl rfl Z0 ?_
    with_reducible refine (YJ.calls k a0_0 t102 _ A7.out).mono ?_
    rintro e w' ⟨rfl, ⟨nd, rfl⟩⟩
    refine ⟨_, rfl, ?_⟩
    refine hK.out _ _ ⟨(Y2 BK101.out 0).trans rfl, (Y2 BK101.out 1).trans rfl, (Y2 BK101.out 2).trans rfl, (Y2 BK101.out 3).trans rfl⟩ (fun hHeld => ?_)
    clear hK K
    refine Y1A (a' := ?_) ?_ ?_
    rotate_left
    ·show Act.put _ (some 34) _ = _
     simp only [Act.put, List.setIfInBounds_toArray, List.set_cons_zero, List.set_cons_succ, Y16, Y17]
     rfl
    refine pY 9 35 Y2K ?_
    refine pY 10 36 Y2L ?_
    refine pY 11 37 Y2M ?_
    refine pY 12 38 Y2h ?_
    refine pY 13 39 Y2i ?_
    refine pY 14 40 Y2j ?_
    refine pY 15 41 Y2k ?_
    refine pU 16 42 Y20 ?_
    refine pU 17 43 Y21 ?_
    refine pY 18 44 Y22 ?_
    refine pY 19 45 Y23 ?_
    refine pU 20 46 Y1J ?_
    refine pU 21 47 Y1K ?_
    refine pU 22 48 Y1L ?_
    refine pU 23 49 Y1M ?_
    refine pY 24 50 Y1B ?_
    refine pY 25 51 Y1C ?_
    refine pU 26 52 Y1D ?_
    refine pU 27 53 Y1E ?_
    refine pU 28 54 Y1v ?_
    refine pU 29 55 Y1w ?_
    refine pU 30 56 Y1x ?_
    refine pU 31 57 Y1y ?_
    refine pU 32 58 Y1n ?_
    refine pU 33 59 Y1o ?_
    refine pY 34 60 Y1p ?_
    refine pY 35 61 Y1q ?_
    refine pU 36 62 Y1g ?_
    refine pU 37 63 Y1h ?_
    refine pU 38 64 Y1i ?_
    refine pY 39 65 Y1j ?_
    refine Y1S (Y1a HT_.out Z4) ?_
    try go_wp2
    go_ret
    exact Z2r
  ·rw [if_neg c8] at H
   have c8b0 : ((l0_3.length : Int) == t102) = false := beq_eq_false_iff_ne.mpr c8
   have c8b1 : ((l0_3.length : Int) != t102) = true := bne_iff_ne.mpr c8
   obtain rfl := Option.some.inj H
   go_enter Tryd.func62, Tryd.ntmps62
   try go_wp2_with (first | ((with_reducible refine YF (N := 2) rfl ?_); (try (refine YW (by rfl) ?_; dsimp only)); refine YD ?hg (N := 2) ?hd (cs := #[.int .i64 a0_0, .string a0_1, .slice A0_2 l0_2.length c0_2, .slice A0_3 l0_3.length c0_3]) (t := 37) ?hr ?_; (case hd => rfl); (case hg => rfl); (case hr => exact Zb); intro gb101 hg w78 hbox hb; have n_ := Y2N (Y8 QB hb) (hbox) ((by rw [hg]; exact (Yf QB) : w.heap.size ≤ gb101)) ((by rw [hg]; exact (Yf QB) : w.heap.size ≤ gb101)); clear HB; obtain ⟨HB, BK101, GW101, GE101⟩ := n_; clear hb hbox hg; obtain ⟨hcz79_0, hcz79_1, hcz79_2, hcz79_3, hfz79_0, hfz79_1, hfz79_2, hfz79_3⟩ := YA BK101.out))
   have n_ := Y2d (Yb BK101.out) (YP HB.out)
   clear BK101
   clear HB
   obtain ⟨BK101, HB⟩ := n_
   refine Y1m (n := 40) (S := fun w' => w'.cell? ⟨gb101, 0, none⟩ = some (.int .i64 a0_0) ∧ w'.cell? ⟨gb101, 1, none⟩ = some (.string a0_1) ∧ w'.cell? ⟨gb101, 2, none⟩ = some (.slice A0_2 l0_2.length c0_2) ∧ w'.cell? ⟨gb101, 3, none⟩ = some (.slice A0_3 l0_3.length c0_3)) (ds := []) Y3C Z4 rfl rfl ⟨(Y2 BK101.out 0).trans rfl, (Y2 BK101.out 1).trans rfl, (Y2 BK101.out 2).trans rfl, (Y2 BK101.out 3).trans rfl⟩ (fun hHeld => ?_); refine Y11 Yx.tab3 Yx.bits3 (fun HT_ HW_ => ?_)
   generalize w78.drew = w80 at BK101 HB hHeld ⊢
   refine pY 0 26 Y3D ?_
   refine pY 1 27 Y3E ?_
   refine pY 2 28 Y3F ?_
   refine pY 3 29 Y3G ?_
   refine pY 6 32 Y3i ?_
   refine pT 4 30 Y3j ?_
   refine pY 5 31 Y33 ?_
   refine pT 7 33 Y34 ?_
   refine Y2Q (i := 8) (N := some 34) Y2J rfl rfl (Y1b HT_.out Z4) (by decide) (fun K hK => ?_)
   refine Y1Q Tryd.func98 Z4 rfl #[.int .i64 a0_0] (by rfl) rfl rfl Z0 ?_
   with_reducible refine (YJ.calls k a0_0 t102 _ A7.out).mono ?_
   rintro e w' ⟨rfl, ⟨nd, rfl⟩⟩
   refine ⟨_, rfl, ?_⟩
   refine hK.out _ _ ⟨(Y2 BK101.out 0).trans rfl, (Y2 BK101.out 1).trans rfl, (Y2 BK101.out 2).trans rfl, (Y2 BK101.out 3).trans rfl⟩ (fun hHeld => ?_)
   clear hK K
   refine Y1A (a' := ?_) ?_ ?_
   rotate_left
   ·show Act.put _ (some 34) _ = _
    simp only [Act.put, List.setIfInBounds_toArray, List.set_cons_zero, List.set_cons_succ, Y16, Y17]
    rfl
   refine pY 9 35 Y2K ?_
   refine pY 10 36 Y2L ?_
   refine pY 11 37 Y2M ?_
   refine pU 12 38 Y2h ?_
   refine pU 13 39 Y2i ?_
   refine pY 14 40 Y2j ?_
   refine pY 15 41 Y2k ?_
   refine pU 16 42 Y20 ?_
   refine pU 17 43 Y21 ?_
   refine pY 18 44 Y22 ?_
   refine pY 19 45 Y23 ?_
   refine pU 20 46 Y1J ?_
   refine pU 21 47 Y1K ?_
   refine pU 22 48 Y1L ?_
   refine pU 23 49 Y1M ?_
   refine pY 24 50 Y1B ?_
   refine pY 25 51 Y1C ?_
   refine pU 26 52 Y1D ?_
   refine pU 27 53 Y1E ?_
   refine pU 28 54 Y1v ?_
   refine pU 29 55 Y1w ?_
   refine pU 30 56 Y1x ?_
   refine pU 31 57 Y1y ?_
   refine pU 32 58 Y1n ?_
   refine pU 33 59 Y1o ?_
   refine pY 34 60 Y1p ?_
   refine pY 35 61 Y1q ?_
   refine pU 36 62 Y1g ?_
   refine pU 37 63 Y1h ?_
   refine pU 38 64 Y1i ?_
   refine pY 39 65 Y1j ?_
   refine Y1S (Y1a HT_.out Z4) ?_
   try go_wp2
   go_ret
   exact Z2r
def Y1f.f (k : Nat) (a0_0 : Int) (a0_1 : ByteArray) (l0_2 : List ByteArray) (l0_3 : List (S37)) : Option (Bool) := (Yx.f k a0_0 a0_1 l0_2 l0_3 0).bind fun t102 => (if t102 > 0 then (some (decide (t102 ≤ 30))) else (some false))
theorem Y1f.mono : ∀ a0 a1 a2 a3 k, LeO (Y1f.f k a0 a1 a2 a3) (Y1f.f (k + 1) a0 a1 a2 a3) := by
 intro a0 a1 a2 a3 k
 unfold Y1f.f
 exact QM
set_option maxHeartbeats 8000000 in
set_option maxRecDepth 100000 in
theorem Y1f.calls (k : Nat) (a0_0 : Int) (a0_1 : ByteArray) (A0_2 : Option Addr) (c0_2 : Nat) (l0_2 : List ByteArray) (A0_3 : Option Addr) (c0_3 : Nat) (l0_3 : List (S37)) (r : Bool) (w : World) (hT : Tabs w) (hr0_2 : Kd.C Kd.string w A0_2 l0_2.length l0_2) (hc0_2 : l0_2.length ≤ c0_2) (hr0_3 : Kd.C k37 w A0_3 l0_3.length l0_3) (hc0_3 : l0_3.length ≤ c0_3) (h : Y1f.f k a0_0 a0_1 l0_2 l0_3 = some r) :
  Calls Tryd.prog 31 #[.agg #[.int .i64 a0_0, .string a0_1, .slice A0_2 l0_2.length c0_2, .slice A0_3 l0_3.length c0_3]] w fun e w' => e = .returned (.bool r) ∧ Below w.heap.size w w' := by
 have HT := Y0.mk hT
 clear hT
 have hu37 := Tryd.underlying37
 have HR0_2 := Y0.mk hr0_2
 have HC0_2 := Y0.mk hc0_2
 clear hr0_2 hc0_2
 have HR0_3 := Y0.mk hr0_3
 have HC0_3 := Y0.mk hc0_3
 clear hr0_3 hc0_3
 have HB := Y0.mk (Below.refl w.heap.size w)
 have H : ((Yx.f k a0_0 a0_1 l0_2 l0_3 0).bind fun t102 => (if t102 > 0 then (some (decide (t102 ≤ 30))) else (some false))) = some r := h
 clear h
 replace H := Option.bind_eq_some_iff.mp H
 obtain ⟨t102, A20, H⟩ := H
 replace H : (if t102 > 0 then (some (decide (t102 ≤ 30))) else (some false)) = some r := H
 have A2 := Y0.mk A20
 clear A20
 by_cases c3 : t102 > 0
 ·rw [if_pos c3] at H
  have c3b0 : decide (0 < t102) = true := decide_eq_true c3
  clear c3
  obtain rfl := Option.some.inj H
  go_enter Tryd.func31, Tryd.ntmps31
  go_wp2_with (first | ((with_reducible refine YF (N := 1) rfl ?_); refine YD ?hg (N := 1) ?hd (cs := #[.int .i64 a0_0, .string a0_1, .slice A0_2 l0_2.length c0_2, .slice A0_3 l0_3.length c0_3]) (t := 37) ?hr ?_; (case hd => rfl); (case hg => rfl); (case hr => exact Zb); intro gb101 hg w4 hbox hb; have n_ := Y2N (Y8 QB hb) (hbox) ((by rw [hg]; exact (Yf QB) : w.heap.size ≤ gb101)) ((by rw [hg]; exact (Yf QB) : w.heap.size ≤ gb101)); clear HB; obtain ⟨HB, BK101, GW101, GE101⟩ := n_; clear hb hbox hg; obtain ⟨hcz5_0, hcz5_1, hcz5_2, hcz5_3, hfz5_0, hfz5_1, hfz5_2, hfz5_3⟩ := YA BK101.out) | ((with_reducible refine Yl (f := 62) rfl ?_); refine YO (some 5) rfl rfl Tryd.func62 Z4 rfl #[.agg #[.int .i64 a0_0, .string a0_1, .slice A0_2 l0_2.length c0_2, .slice A0_3 l0_3.length c0_3], .int .i64 0] rfl Z0 ?_; (with_reducible refine (Yx.calls k a0_0 a0_1 _ _ l0_2 _ _ l0_3 0 t102 _ ?side1 ?side2 ?side3 ?side4 ?side5 A2.out).mono ?_); (case side1 => exact Z3); (case side2 => exact Zc); (case side3 => exact Z1P); (case side4 => exact Zd); (case side5 => exact Z24); rintro e w6 ⟨rfl, hb⟩; refine ⟨_, rfl, ?_⟩; have n_ := Y2d (Yt (g := gb101) (o := .cells #[.int .i64 a0_0, .string a0_1, .slice A0_2 l0_2.length c0_2, .slice A0_3 l0_3.length c0_3] 37 (0, 0)) QQ hb) (Y8 QB hb); clear BK101 HB; obtain ⟨BK101, HB⟩ := n_; (try clear hb); (try clear hb2); (try clear hk); (try clear hi)))
  go_ret
  exact Z2r
 ·rw [if_neg c3] at H
  have c3b0 : decide (0 < t102) = false := decide_eq_false c3
  clear c3
  obtain rfl := Option.some.inj H
  go_enter Tryd.func31, Tryd.ntmps31
  go_wp2_with (first | ((with_reducible refine YF (N := 1) rfl ?_); refine YD ?hg (N := 1) ?hd (cs := #[.int .i64 a0_0, .string a0_1, .slice A0_2 l0_2.length c0_2, .slice A0_3 l0_3.length c0_3]) (t := 37) ?hr ?_; (case hd => rfl); (case hg => rfl); (case hr => exact Zb); intro gb101 hg w7 hbox hb; have n_ := Y2N (Y8 QB hb) (hbox) ((by rw [hg]; exact (Yf QB) : w.heap.size ≤ gb101)) ((by rw [hg]; exact (Yf QB) : w.heap.size ≤ gb101)); clear HB; obtain ⟨HB, BK101, GW101, GE101⟩ := n_; clear hb hbox hg; obtain ⟨hcz8_0, hcz8_1, hcz8_2, hcz8_3, hfz8_0, hfz8_1, hfz8_2, hfz8_3⟩ := YA BK101.out) | ((with_reducible refine Yl (f := 62) rfl ?_); refine YO (some 5) rfl rfl Tryd.func62 Z4 rfl #[.agg #[.int .i64 a0_0, .string a0_1, .slice A0_2 l0_2.length c0_2, .slice A0_3 l0_3.length c0_3], .int .i64 0] rfl Z0 ?_; (with_reducible refine (Yx.calls k a0_0 a0_1 _ _ l0_2 _ _ l0_3 0 t102 _ ?side1 ?side2 ?side3 ?side4 ?side5 A2.out).mono ?_); (case side1 => exact Z3); (case side2 => exact Zc); (case side3 => exact Z1P); (case side4 => exact Zd); (case side5 => exact Z24); rintro e w9 ⟨rfl, hb⟩; refine ⟨_, rfl, ?_⟩; have n_ := Y2d (Yt (g := gb101) (o := .cells #[.int .i64 a0_0, .string a0_1, .slice A0_2 l0_2.length c0_2, .slice A0_3 l0_3.length c0_3] 37 (0, 0)) QQ hb) (Y8 QB hb); clear BK101 HB; obtain ⟨BK101, HB⟩ := n_; (try clear hb); (try clear hb2); (try clear hk); (try clear hi)))
  go_ret
  exact Z2r
end Go.Proofs.YtbpbfboaofkpaaaDoor.Print
end
section
set_option linter.unusedVariables false
namespace Go.Proofs.YtbpbfboaofkpaaaDoor.Print
open Go.RowKit Go.Shelf Go.Lib Go.Proofs.YtbpbfboaofkpaaaDoorW.PrintWords
def Y3s (sep : List UInt8) : List ByteArray → List UInt8
 | [] => []
 | [x] => x.data.toList
 | x :: y :: l => x.data.toList ++ (sep ++ Y3s sep (y :: l))
theorem Y6t (sep : List UInt8) : ∀ l : List ByteArray, Y3s sep l = Lib.join (l.map (·.data.toList)) sep
 | [] => rfl
 | [x] => by rw [List.map_cons, List.map_nil, Lib.join_one]; rfl
 | x :: y :: l => by
  have ih := Y6t sep (y :: l)
  rw [Y3s, ih, List.map_cons, List.map_cons, Lib.join_cons, Lib.join_cons]
  simp [Lib.joinTail]
theorem Y5O (sep : List UInt8) (hs : sep.length ≤ 1000) : ∀ l : List ByteArray, (∀ x ∈ l, x.size ≤ 1000000) → (Y3s sep l).length ≤ l.length * 1001000
 | [], _ => by simp [Y3s]
 | [x], h => by
  have := h x (List.mem_cons_self ..)
  have e : (Y3s sep [x]).length = x.size := Y5s x
  rw [e]; simp; omega
 | x :: y :: l, h => by
  have h1 := h x (List.mem_cons_self ..)
  have ih := Y5O sep hs (y :: l) (fun z hz => h z (List.mem_cons_of_mem _ hz))
  have e := Y5s x
  rw [Y3s, List.length_append, List.length_append, e]
  simp only [List.length_cons] at ih ⊢
  omega
def Y5P (l : List ByteArray) (s : ByteArray) : Bool := decide (l.length ≤ 1000000) && l.all (fun x => decide (x.size ≤ 1000000)) && decide (s.size ≤ 1000)
def strings_Join.f (l0 : List ByteArray) (a1 : ByteArray) : Option ByteArray := if Y5P l0 a1 then some ⟨(Y3s a1.data.toList l0).toArray⟩ else none
theorem strings_Join.calls (A0 : Option Addr) (c0 : Nat) (l0 : List ByteArray) (a1 : ByteArray) (r : ByteArray) (w : World) (hr0 : Kd.C Kd.string w A0 l0.length l0) (hc0 : l0.length ≤ c0) (h : strings_Join.f l0 a1 = some r) :
  Calls Tryd.prog 51 #[.slice A0 l0.length c0, .string a1] w fun e w' => e = .returned (.string r) ∧ Below w.heap.size w w' := by
 unfold strings_Join.f at h
 by_cases hj : Y5P l0 a1 = true
 ·rw [if_pos hj] at h
  obtain rfl := Option.some.inj h
  unfold Y5P at hj
  simp only [Bool.and_eq_true, decide_eq_true_eq, List.all_eq_true] at hj
  obtain ⟨⟨j1, j2⟩, j3⟩ := hj
  by_cases hn : l0.length = 0
  ·obtain rfl := List.length_eq_zero_iff.1 hn
   exact (Tryd.strings_Join_none A0 c0 a1 w).mono fun e w' ⟨he, hw⟩ => ⟨he, hw ▸ Below.refl _ _⟩
  ·obtain ⟨ad, hA⟩ : ∃ ad, A0 = some ad := by
    obtain ⟨ad, c, e, _⟩ := Kd.C_get hr0 (⟨#[]⟩ : ByteArray) 0 (by omega) (by omega)
    exact ⟨ad, e⟩
   subst hA
   have hcell : ∀ (j : Nat) x, l0[j]? = some x → w.cell? (ad.add j) = some (.string x) := by
    intro j x hx
    have hjl : j < l0.length := (List.getElem?_eq_some_iff.1 hx).1
    obtain ⟨ad', c, e, _, hK, hc⟩ := Kd.C_get hr0 (⟨#[]⟩ : ByteArray) (j : Int) (by omega) (by omega)
    obtain rfl := Option.some.inj e
    have hk : c = [.string (l0.getD (j : Int).toNat ⟨#[]⟩)] := hK
    subst hk
    have e1 : w.cell? (ad.add ((j : Int).toNat * 1 + 0)) = some (.string (l0.getD (j : Int).toNat ⟨#[]⟩)) := hc 0 _ rfl
    rw [Nat.mul_one, Nat.add_zero, Int.toNat_natCast, List.getD_eq_getElem?_getD, hx] at e1
    exact e1
   obtain ⟨bk, o, sp⟩ := ad
   have h0 := hcell 0 _ (List.getElem?_eq_getElem (by omega : 0 < l0.length))
   have hsp : sp = none := by
    have := World.cell?_spot h0
    simpa [Addr.add] using this
   subst hsp
   have hb := World.block_lt_of_cell? w _ h0
   have hp : ∀ j, (⟨bk, o, none⟩ : Addr).add j = ⟨bk, o + j, none⟩ := fun j => by unfold Addr.add; split <;> simp_all
   have hlen := Y5O a1.data.toList (by rw [Y5s]; exact j3) l0 j2
   rw [Y6t] at hlen ⊢
   exact Tryd.strings_Join bk o c0 l0 a1 w (fun j x hx => by rw [← hp j]; exact hcell j x hx) (by simpa [Addr.add] using hb) (by omega) hc0 (by omega)
 ·rw [if_neg hj] at h; cases h
end Go.Proofs.YtbpbfboaofkpaaaDoor.Print
end
section
namespace Go.Proofs.YtbpbfboaofkpaaaDoor.Print
open Go.RowKit Go.Proofs.YtbpbfboaofkpaaaDoorW.PrintWords Go.Proofs.YtbpbfboaofkpaaaDoorW.PrintLast Go.Proofs.YtbpbfboaofkpaaaDoorW.PrintMore
attribute [local go_sem] max2_int min2_int max_two min_two max_three min_three max_four min_four
set_option linter.unusedVariables false
set_option linter.unusedSimpArgs false
mutual
def YK.f : Nat → Int → ByteArray → List ByteArray → List (S37) → Option (ByteArray)
 | 0, _, _, _, _ => none
 | k + 1, a0_0, a0_1, l0_2, l0_3 => if a0_0 = 1 then (if 1 + a0_1.size ≤ 9223372036854775807 then (if 1 + a0_1.size + 1 ≤ 9223372036854775807 then (some (((⟨#[60]⟩ : ByteArray) ++ a0_1) ++ (⟨#[62]⟩ : ByteArray))) else (none)) else (none)) else (if a0_0 = 2 then (if 0 < (l0_3.length : Int) then ((YL.f k ((Yc l0_3 0).f0) ((Yc l0_3 0).f1) ((Yc l0_3 0).f2) ((Yc l0_3 0).f3)).bind fun t103 => (if 1 + t103.size ≤ 9223372036854775807 then (some ((⟨#[94]⟩ : ByteArray) ++ t103)) else (none))) else (none)) else (if a0_0 = 3 then (if 0 < (l0_3.length : Int) then ((YL.f k ((Yc l0_3 0).f0) ((Yc l0_3 0).f1) ((Yc l0_3 0).f2) ((Yc l0_3 0).f3)).bind fun t105 => (if t105.size + 1 ≤ 9223372036854775807 then (if 1 < (l0_3.length : Int) then ((YL.f k ((Yc l0_3 1).f0) ((Yc l0_3 1).f1) ((Yc l0_3 1).f2) ((Yc l0_3 1).f3)).bind fun t107 => (if t105.size + 1 + t107.size ≤ 9223372036854775807 then (some ((t105 ++ (⟨#[47]⟩ : ByteArray)) ++ t107)) else (none))) else (none)) else (none))) else (none)) else (if a0_0 = 4 then (if 0 < (l0_3.length : Int) then ((YL.f k ((Yc l0_3 0).f0) ((Yc l0_3 0).f1) ((Yc l0_3 0).f2) ((Yc l0_3 0).f3)).bind fun t109 => (if t109.size + 1 ≤ 9223372036854775807 then (if 1 < (l0_3.length : Int) then ((YL.f k ((Yc l0_3 1).f0) ((Yc l0_3 1).f1) ((Yc l0_3 1).f2) ((Yc l0_3 1).f3)).bind fun t111 => (if t109.size + 1 + t111.size ≤ 9223372036854775807 then (some ((t109 ++ (⟨#[124]⟩ : ByteArray)) ++ t111)) else (none))) else (none)) else (none))) else (none)) else (if a0_0 = 5 then (if 0 < (l0_3.length : Int) then ((YL.f k ((Yc l0_3 0).f0) ((Yc l0_3 0).f1) ((Yc l0_3 0).f2) ((Yc l0_3 0).f3)).bind fun t113 => (if t113.size + 1 ≤ 9223372036854775807 then (some (t113 ++ (⟨#[42]⟩ : ByteArray))) else (none))) else (none)) else (if a0_0 = 6 then (if 0 < (l0_3.length : Int) then ((YL.f k ((Yc l0_3 0).f0) ((Yc l0_3 0).f1) ((Yc l0_3 0).f2) ((Yc l0_3 0).f3)).bind fun t115 => (if t115.size + 1 ≤ 9223372036854775807 then (some (t115 ++ (⟨#[43]⟩ : ByteArray))) else (none))) else (none)) else (if a0_0 = 7 then (if 0 < (l0_3.length : Int) then ((YL.f k ((Yc l0_3 0).f0) ((Yc l0_3 0).f1) ((Yc l0_3 0).f2) ((Yc l0_3 0).f3)).bind fun t117 => (if t117.size + 1 ≤ 9223372036854775807 then (some (t117 ++ (⟨#[63]⟩ : ByteArray))) else (none))) else (none)) else ((strings_Join.f l0_2 (⟨#[62, 124, 60]⟩ : ByteArray)).bind fun t118 => (if 3 + t118.size ≤ 9223372036854775807 then (if 3 + t118.size + 2 ≤ 9223372036854775807 then (some (((⟨#[33, 40, 60]⟩ : ByteArray) ++ t118) ++ (⟨#[62, 41]⟩ : ByteArray))) else (none)) else (none)))))))))
def YL.f : Nat → Int → ByteArray → List ByteArray → List (S37) → Option (ByteArray)
 | 0, _, _, _, _ => none
 | k + 1, a0_0, a0_1, l0_2, l0_3 => if a0_0 = 1 then ((YK.f k a0_0 a0_1 l0_2 l0_3).bind fun t120 => (some t120)) else ((YK.f k a0_0 a0_1 l0_2 l0_3).bind fun t121 => (if 1 + t121.size ≤ 9223372036854775807 then (if 1 + t121.size + 1 ≤ 9223372036854775807 then (some (((⟨#[40]⟩ : ByteArray) ++ t121) ++ (⟨#[41]⟩ : ByteArray))) else (none)) else (none)))
end
theorem YK.mono_j : ∀ k, (∀ y0 y1 y2 y3, LeO (YK.f k y0 y1 y2 y3) (YK.f (k + 1) y0 y1 y2 y3)) ∧ (∀ y0 y1 y2 y3, LeO (YL.f k y0 y1 y2 y3) (YL.f (k + 1) y0 y1 y2 y3))
 | 0 => ⟨fun _ _ _ _ r h => by simp [YK.f] at h, fun _ _ _ _ r h => by simp [YL.f] at h⟩
 | k + 1 => by
  obtain ⟨ih0, ih1⟩ := YK.mono_j k
  refine ⟨?_, ?_⟩
  ·intro y0 y1 y2 y3
   unfold YK.f
   exact QM
  ·intro y0 y1 y2 y3
   unfold YL.f
   exact QM
theorem YK.mono : ∀ a0 a1 a2 a3 k, LeO (YK.f k a0 a1 a2 a3) (YK.f (k + 1) a0 a1 a2 a3) := fun a0 a1 a2 a3 k => (YK.mono_j k).1 a0 a1 a2 a3
abbrev YK.Spec (k : Nat) : Prop := ∀ (a0_0 : Int) (a0_1 : ByteArray) (A0_2 : Option Addr) (c0_2 : Nat) (l0_2 : List ByteArray) (A0_3 : Option Addr) (c0_3 : Nat) (l0_3 : List (S37)) (r : ByteArray) (w : World) (hr0_2 : Kd.C Kd.string w A0_2 l0_2.length l0_2) (hc0_2 : l0_2.length ≤ c0_2) (hr0_3 : Kd.C k37 w A0_3 l0_3.length l0_3) (hc0_3 : l0_3.length ≤ c0_3) (h : YK.f k a0_0 a0_1 l0_2 l0_3 = some r),
  Calls Tryd.prog 24 #[.agg #[.int .i64 a0_0, .string a0_1, .slice A0_2 l0_2.length c0_2, .slice A0_3 l0_3.length c0_3]] w fun e w' => e = .returned (.string r) ∧ Below w.heap.size w w'
abbrev YL.Spec (k : Nat) : Prop := ∀ (a0_0 : Int) (a0_1 : ByteArray) (A0_2 : Option Addr) (c0_2 : Nat) (l0_2 : List ByteArray) (A0_3 : Option Addr) (c0_3 : Nat) (l0_3 : List (S37)) (r : ByteArray) (w : World) (hr0_2 : Kd.C Kd.string w A0_2 l0_2.length l0_2) (hc0_2 : l0_2.length ≤ c0_2) (hr0_3 : Kd.C k37 w A0_3 l0_3.length l0_3) (hc0_3 : l0_3.length ≤ c0_3) (h : YL.f k a0_0 a0_1 l0_2 l0_3 = some r),
  Calls Tryd.prog 50 #[.agg #[.int .i64 a0_0, .string a0_1, .slice A0_2 l0_2.length c0_2, .slice A0_3 l0_3.length c0_3]] w fun e w' => e = .returned (.string r) ∧ Below w.heap.size w w'
set_option maxHeartbeats 8000000 in
def YK.T7 : Bool × List (List Nat × List Nat) := (true, [([], []), ([0], [0]), ([1], [1]), ([2], [2]), ([3], [3]), ([4], [4]), ([], []), ([6], [6]), ([7], [7]), ([8], [8]), ([9, 4], [9]), ([5, 10], [5, 10]), ([11, 10, 0, 1, 2, 3, 4, 5, 6, 7, 8, 9, 10, 11], [11])])
def YK.B7 : List Nat := [0, 1, 3, 7, 15, 31, 0, 64, 192, 448, 991, 2047, 4095]
theorem YK.tab7 : Y3x .any (Y3P Tryd.f24 7) = YK.T7 := by kernel_rfl
theorem YK.bits7 : Y1Y YK.T7.2 YK.B7 = true := by kernel_rfl
def YK.T9 : Bool × List (List Nat × List Nat) := (true, [([], []), ([0], [0]), ([1], [1]), ([2], [2]), ([3], [3]), ([4], [4]), ([], []), ([6], [6]), ([7], [7]), ([8], [8]), ([9, 4], [9]), ([5, 10], [5, 10]), ([11, 10, 0, 1, 2, 3, 4, 5, 6, 7, 8, 9, 10, 11], [11])])
def YK.B9 : List Nat := [0, 1, 3, 7, 15, 31, 0, 64, 192, 448, 991, 2047, 4095]
theorem YK.tab9 : Y3x .any (Y3P Tryd.f24 9) = YK.T9 := by kernel_rfl
theorem YK.bits9 : Y1Y YK.T9.2 YK.B9 = true := by kernel_rfl
set_option maxRecDepth 100000 in
theorem YK.step (k : Nat) (ih : ∀ j_ < k, YK.Spec j_ ∧ YL.Spec j_) : ∀ (a0_0 : Int) (a0_1 : ByteArray) (A0_2 : Option Addr) (c0_2 : Nat) (l0_2 : List ByteArray) (A0_3 : Option Addr) (c0_3 : Nat) (l0_3 : List (S37)) (r : ByteArray) (w : World) (hr0_2 : Kd.C Kd.string w A0_2 l0_2.length l0_2) (hc0_2 : l0_2.length ≤ c0_2) (hr0_3 : Kd.C k37 w A0_3 l0_3.length l0_3) (hc0_3 : l0_3.length ≤ c0_3) (h : YK.f k a0_0 a0_1 l0_2 l0_3 = some r),
  Calls Tryd.prog 24 #[.agg #[.int .i64 a0_0, .string a0_1, .slice A0_2 l0_2.length c0_2, .slice A0_3 l0_3.length c0_3]] w fun e w' => e = .returned (.string r) ∧ Below w.heap.size w w' := by
 intro a0_0 a0_1 A0_2 c0_2 l0_2 A0_3 c0_3 l0_3 r w hr0_2 hc0_2 hr0_3 hc0_3 h
 cases k with
 | zero => exact absurd h (by simp [YK.f])
 | succ k =>
 simp only [YK.f] at h
 have hu37 := Tryd.underlying37
 have HR0_2 := Y0.mk hr0_2
 have HC0_2 := Y0.mk hc0_2
 clear hr0_2 hc0_2
 have HR0_3 := Y0.mk hr0_3
 have HC0_3 := Y0.mk hc0_3
 clear hr0_3 hc0_3
 have HB := Y0.mk (Below.refl w.heap.size w)
 have H : (if a0_0 = 1 then (if 1 + a0_1.size ≤ 9223372036854775807 then (if 1 + a0_1.size + 1 ≤ 9223372036854775807 then (some (((⟨#[60]⟩ : ByteArray) ++ a0_1) ++ (⟨#[62]⟩ : ByteArray))) else (none)) else (none)) else (if a0_0 = 2 then (if 0 < (l0_3.length : Int) then ((YL.f k ((Yc l0_3 0).f0) ((Yc l0_3 0).f1) ((Yc l0_3 0).f2) ((Yc l0_3 0).f3)).bind fun t103 => (if 1 + t103.size ≤ 9223372036854775807 then (some ((⟨#[94]⟩ : ByteArray) ++ t103)) else (none))) else (none)) else (if a0_0 = 3 then (if 0 < (l0_3.length : Int) then ((YL.f k ((Yc l0_3 0).f0) ((Yc l0_3 0).f1) ((Yc l0_3 0).f2) ((Yc l0_3 0).f3)).bind fun t105 => (if t105.size + 1 ≤ 9223372036854775807 then (if 1 < (l0_3.length : Int) then ((YL.f k ((Yc l0_3 1).f0) ((Yc l0_3 1).f1) ((Yc l0_3 1).f2) ((Yc l0_3 1).f3)).bind fun t107 => (if t105.size + 1 + t107.size ≤ 9223372036854775807 then (some ((t105 ++ (⟨#[47]⟩ : ByteArray)) ++ t107)) else (none))) else (none)) else (none))) else (none)) else (if a0_0 = 4 then (if 0 < (l0_3.length : Int) then ((YL.f k ((Yc l0_3 0).f0) ((Yc l0_3 0).f1) ((Yc l0_3 0).f2) ((Yc l0_3 0).f3)).bind fun t109 => (if t109.size + 1 ≤ 9223372036854775807 then (if 1 < (l0_3.length : Int) then ((YL.f k ((Yc l0_3 1).f0) ((Yc l0_3 1).f1) ((Yc l0_3 1).f2) ((Yc l0_3 1).f3)).bind fun t111 => (if t109.size + 1 + t111.size ≤ 9223372036854775807 then (some ((t109 ++ (⟨#[124]⟩ : ByteArray)) ++ t111)) else (none))) else (none)) else (none))) else (none)) else (if a0_0 = 5 then (if 0 < (l0_3.length : Int) then ((YL.f k ((Yc l0_3 0).f0) ((Yc l0_3 0).f1) ((Yc l0_3 0).f2) ((Yc l0_3 0).f3)).bind fun t113 => (if t113.size + 1 ≤ 9223372036854775807 then (some (t113 ++ (⟨#[42]⟩ : ByteArray))) else (none))) else (none)) else (if a0_0 = 6 then (if 0 < (l0_3.length : Int) then ((YL.f k ((Yc l0_3 0).f0) ((Yc l0_3 0).f1) ((Yc l0_3 0).f2) ((Yc l0_3 0).f3)).bind fun t115 => (if t115.size + 1 ≤ 9223372036854775807 then (some (t115 ++ (⟨#[43]⟩ : ByteArray))) else (none))) else (none)) else (if a0_0 = 7 then (if 0 < (l0_3.length : Int) then ((YL.f k ((Yc l0_3 0).f0) ((Yc l0_3 0).f1) ((Yc l0_3 0).f2) ((Yc l0_3 0).f3)).bind fun t117 => (if t117.size + 1 ≤ 9223372036854775807 then (some (t117 ++ (⟨#[63]⟩ : ByteArray))) else (none))) else (none)) else ((strings_Join.f l0_2 (⟨#[62, 124, 60]⟩ : ByteArray)).bind fun t118 => (if 3 + t118.size ≤ 9223372036854775807 then (if 3 + t118.size + 2 ≤ 9223372036854775807 then (some (((⟨#[33, 40, 60]⟩ : ByteArray) ++ t118) ++ (⟨#[62, 41]⟩ : ByteArray))) else (none)) else (none)))))))))) = some r := h
 clear h
 by_cases c2 : a0_0 = 1
 ·rw [if_pos c2] at H
  have c2b0 : (a0_0 == 1) = true := beq_iff_eq.mpr c2
  have c2b1 : (a0_0 != 1) = false := bne_eq_false_iff_eq.mpr c2
  clear c2
  by_cases c3 : 1 + a0_1.size ≤ 9223372036854775807
  ·rw [if_pos c3] at H
   have c3b0 := eq_true c3
   have c3b1 : decide (1 + a0_1.size ≤ 9223372036854775807) = true := decide_eq_true c3
   try have c3b2 : (9223372036854775807 < 1 + a0_1.size) = False := eq_false (Nat.not_lt.2 c3)
   by_cases c4 : 1 + a0_1.size + 1 ≤ 9223372036854775807
   ·rw [if_pos c4] at H
    have c4b0 := eq_true c4
    have c4b1 : decide (1 + a0_1.size + 1 ≤ 9223372036854775807) = true := decide_eq_true c4
    try have c4b2 : (9223372036854775807 < 1 + a0_1.size + 1) = False := eq_false (Nat.not_lt.2 c4)
    obtain rfl := Option.some.inj H
    go_enter Tryd.func24, Tryd.ntmps24
    go_wp2_with (first | ((with_reducible refine YF (N := 1) rfl ?_); refine YD ?hg (N := 1) ?hd (cs := #[.int .i64 a0_0, .string a0_1, .slice A0_2 l0_2.length c0_2, .slice A0_3 l0_3.length c0_3]) (t := 37) ?hr ?_; (case hd => rfl); (case hg => rfl); (case hr => exact Zb); intro gb101 hg w5 hbox hb; have n_ := Y2N (Y8 QB hb) (hbox) ((by rw [hg]; exact (Yf QB) : w.heap.size ≤ gb101)) ((by rw [hg]; exact (Yf QB) : w.heap.size ≤ gb101)); clear HB; obtain ⟨HB, BK101, GW101, GE101⟩ := n_; clear hb hbox hg; obtain ⟨hcz6_0, hcz6_1, hcz6_2, hcz6_3, hfz6_0, hfz6_1, hfz6_2, hfz6_3⟩ := YA BK101.out))
    go_ret
    exact Z2r
   ·rw [if_neg c4] at H
    exact Zn
  ·rw [if_neg c3] at H
   exact Zn
 ·rw [if_neg c2] at H
  have c2b0 : (a0_0 == 1) = false := beq_eq_false_iff_ne.mpr c2
  have c2b1 : (a0_0 != 1) = true := bne_iff_ne.mpr c2
  by_cases c7 : a0_0 = 2
  ·rw [if_pos c7] at H
   have c7b0 : (a0_0 == 2) = true := beq_iff_eq.mpr c7
   have c7b1 : (a0_0 != 2) = false := bne_eq_false_iff_eq.mpr c7
   clear c7
   by_cases c8 : 0 < (l0_3.length : Int)
   ·rw [if_pos c8] at H
    have c8b0 : decide (0 < (l0_3.length : Int)) = true := decide_eq_true c8
    have c8b1 : decide (0 < l0_3.length) = true := decide_eq_true (by omega)
    clear c8
    replace H := Option.bind_eq_some_iff.mp H
    obtain ⟨t103, A90, H⟩ := H
    replace H : (if 1 + t103.size ≤ 9223372036854775807 then (some ((⟨#[94]⟩ : ByteArray) ++ t103)) else (none)) = some r := H
    have A9 := Y0.mk A90
    clear A90
    by_cases c10 : 1 + t103.size ≤ 9223372036854775807
    ·rw [if_pos c10] at H
     have c10b0 := eq_true c10
     have c10b1 : decide (1 + t103.size ≤ 9223372036854775807) = true := decide_eq_true c10
     try have c10b2 : (9223372036854775807 < 1 + t103.size) = False := eq_false (Nat.not_lt.2 c10)
     obtain rfl := Option.some.inj H
     go_enter Tryd.func24, Tryd.ntmps24
     go_wp2_with (first | ((with_reducible refine YF (N := 1) rfl ?_); refine YD ?hg (N := 1) ?hd (cs := #[.int .i64 a0_0, .string a0_1, .slice A0_2 l0_2.length c0_2, .slice A0_3 l0_3.length c0_3]) (t := 37) ?hr ?_; (case hd => rfl); (case hg => rfl); (case hr => exact Zb); intro gb101 hg w11 hbox hb; have n_ := Y2N (Y8 QB hb) (hbox) ((by rw [hg]; exact (Yf QB) : w.heap.size ≤ gb101)) ((by rw [hg]; exact (Yf QB) : w.heap.size ≤ gb101)); clear HB; obtain ⟨HB, BK101, GW101, GE101⟩ := n_; clear hb hbox hg; obtain ⟨hcz12_0, hcz12_1, hcz12_2, hcz12_3, hfz12_0, hfz12_1, hfz12_2, hfz12_3⟩ := YA BK101.out; have p102 : 0 ≤ (0 : Int) := (by omega); have q102 : 0 < (l0_3.length : Int) := of_decide_eq_true Za; obtain ⟨ad102, A102_2, c102_2, A102_3, c102_3, e102, hx102_0, hx102_1, hx102_2, hx102_3, hl102_2, hi102_2, hl102_3, hi102_3⟩ := Y2f HR0_3.out 0 p102 q102; cases e102; have qi102 : (0 < l0_3.length) = True := eq_true (by omega); (try rw [show ((0 : Int)).toNat = 0 from rfl] at hx102_0 hx102_1 hx102_2 hx102_3); (try rw [show 0 * 4 = 0 from rfl] at hx102_0 hx102_1 hx102_2 hx102_3); (try rw [Addr.add_zero'] at hx102_0 hx102_1 hx102_2 hx102_3); replace hx102_0 := Y15 HB.out hx102_0; replace hx102_1 := Y15 HB.out hx102_1; replace hx102_2 := Y15 HB.out hx102_2; replace hx102_3 := Y15 HB.out hx102_3; have HR102_2 := Y0.mk hi102_2; have HC102_2 := Y0.mk hl102_2; clear hi102_2 hl102_2; have HR102_3 := Y0.mk hi102_3; have HC102_3 := Y0.mk hl102_3; clear hi102_3 hl102_3; replace p102 := eq_true p102; replace q102 := eq_true q102) | ((with_reducible refine Yl (f := 50) rfl ?_); refine YO (some 17) rfl rfl Tryd.func50 Z4 rfl #[.agg #[.int .i64 ((Yc l0_3 0).f0), .string ((Yc l0_3 0).f1), .slice A102_2 ((Yc l0_3 0).f2).length c102_2, .slice A102_3 ((Yc l0_3 0).f3).length c102_3]] rfl Z0 ?_; (with_reducible refine ((ih k (by omega)).2 ((Yc l0_3 0).f0) ((Yc l0_3 0).f1) _ _ ((Yc l0_3 0).f2) _ _ ((Yc l0_3 0).f3) t103 _ ?side1 ?side2 ?side3 ?side4 A9.out).mono ?_); (case side1 => exact Z1w); (case side2 => exact HC102_2.out); (case side3 => exact Z1x); (case side4 => exact HC102_3.out); rintro e w13 ⟨rfl, hb⟩; refine ⟨_, rfl, ?_⟩; have n_ := Y2d (Yt (g := gb101) (o := .cells #[.int .i64 a0_0, .string a0_1, .slice A0_2 l0_2.length c0_2, .slice (some ad102) l0_3.length c0_3] 37 (0, 0)) QQ hb) (Y8 QB hb); clear BK101 HB; obtain ⟨BK101, HB⟩ := n_; (try clear hb); (try clear hb2); (try clear hk); (try clear hi)))
     go_ret
     exact Z2r
    ·rw [if_neg c10] at H
     exact Zn
   ·rw [if_neg c8] at H
    exact Zn
  ·rw [if_neg c7] at H
   have c7b0 : (a0_0 == 2) = false := beq_eq_false_iff_ne.mpr c7
   have c7b1 : (a0_0 != 2) = true := bne_iff_ne.mpr c7
   by_cases c14 : a0_0 = 3
   ·rw [if_pos c14] at H
    have c14b0 : (a0_0 == 3) = true := beq_iff_eq.mpr c14
    have c14b1 : (a0_0 != 3) = false := bne_eq_false_iff_eq.mpr c14
    clear c14
    by_cases c15 : 0 < (l0_3.length : Int)
    ·rw [if_pos c15] at H
     have c15b0 : decide (0 < (l0_3.length : Int)) = true := decide_eq_true c15
     have c15b1 : decide (0 < l0_3.length) = true := decide_eq_true (by omega)
     clear c15
     replace H := Option.bind_eq_some_iff.mp H
     obtain ⟨t105, A160, H⟩ := H
     replace H : (if t105.size + 1 ≤ 9223372036854775807 then (if 1 < (l0_3.length : Int) then ((YL.f k ((Yc l0_3 1).f0) ((Yc l0_3 1).f1) ((Yc l0_3 1).f2) ((Yc l0_3 1).f3)).bind fun t107 => (if t105.size + 1 + t107.size ≤ 9223372036854775807 then (some ((t105 ++ (⟨#[47]⟩ : ByteArray)) ++ t107)) else (none))) else (none)) else (none)) = some r := H
     have A16 := Y0.mk A160
     clear A160
     by_cases c17 : t105.size + 1 ≤ 9223372036854775807
     ·rw [if_pos c17] at H
      have c17b0 := eq_true c17
      have c17b1 : decide (t105.size + 1 ≤ 9223372036854775807) = true := decide_eq_true c17
      try have c17b2 : (9223372036854775807 < t105.size + 1) = False := eq_false (Nat.not_lt.2 c17)
      by_cases c18 : 1 < (l0_3.length : Int)
      ·rw [if_pos c18] at H
       have c18b0 : decide (1 < (l0_3.length : Int)) = true := decide_eq_true c18
       have c18b1 : decide (1 < l0_3.length) = true := decide_eq_true (by omega)
       clear c18
       replace H := Option.bind_eq_some_iff.mp H
       obtain ⟨t107, A190, H⟩ := H
       replace H : (if t105.size + 1 + t107.size ≤ 9223372036854775807 then (some ((t105 ++ (⟨#[47]⟩ : ByteArray)) ++ t107)) else (none)) = some r := H
       have A19 := Y0.mk A190
       clear A190
       by_cases c20 : t105.size + 1 + t107.size ≤ 9223372036854775807
       ·rw [if_pos c20] at H
        have c20b0 := eq_true c20
        have c20b1 : decide (t105.size + 1 + t107.size ≤ 9223372036854775807) = true := decide_eq_true c20
        try have c20b2 : (9223372036854775807 < t105.size + 1 + t107.size) = False := eq_false (Nat.not_lt.2 c20)
        obtain rfl := Option.some.inj H
        go_enter Tryd.func24, Tryd.ntmps24
        try go_wp2_with (first | ((with_reducible refine YF (N := 1) rfl ?_); refine YD ?hg (N := 1) ?hd (cs := #[.int .i64 a0_0, .string a0_1, .slice A0_2 l0_2.length c0_2, .slice A0_3 l0_3.length c0_3]) (t := 37) ?hr ?_; (case hd => rfl); (case hg => rfl); (case hr => exact Zb); intro gb101 hg w21 hbox hb; have n_ := Y2N (Y8 QB hb) (hbox) ((by rw [hg]; exact (Yf QB) : w.heap.size ≤ gb101)) ((by rw [hg]; exact (Yf QB) : w.heap.size ≤ gb101)); clear HB; obtain ⟨HB, BK101, GW101, GE101⟩ := n_; clear hb hbox hg; obtain ⟨hcz22_0, hcz22_1, hcz22_2, hcz22_3, hfz22_0, hfz22_1, hfz22_2, hfz22_3⟩ := YA BK101.out))
        have n_ := Y2d (Yb BK101.out) (YP HB.out)
        clear BK101
        clear HB
        obtain ⟨BK101, HB⟩ := n_
        have p104 : 0 ≤ (0 : Int) := (by omega)
        have q104 : 0 < (l0_3.length : Int) := of_decide_eq_true Za
        obtain ⟨ad104, A104_2, c104_2, A104_3, c104_3, e104, hx104_0, hx104_1, hx104_2, hx104_3, hl104_2, hi104_2, hl104_3, hi104_3⟩ := Y2f HR0_3.out 0 p104 q104
        have hw104_3 := hx104_3
        (try rw [show ((0 : Int)).toNat = 0 from rfl] at hw104_3)
        (try rw [show 0 * 4 = 0 from rfl] at hw104_3)
        (try rw [Addr.add_zero'] at hw104_3)
        have hw104_2 := hx104_2
        (try rw [show ((0 : Int)).toNat = 0 from rfl] at hw104_2)
        (try rw [show 0 * 4 = 0 from rfl] at hw104_2)
        (try rw [Addr.add_zero'] at hw104_2)
        have hw104_1 := hx104_1
        (try rw [show ((0 : Int)).toNat = 0 from rfl] at hw104_1)
        (try rw [show 0 * 4 = 0 from rfl] at hw104_1)
        (try rw [Addr.add_zero'] at hw104_1)
        have hw104_0 := hx104_0
        (try rw [show ((0 : Int)).toNat = 0 from rfl] at hw104_0)
        (try rw [show 0 * 4 = 0 from rfl] at hw104_0)
        (try rw [Addr.add_zero'] at hw104_0)
        cases e104
        have qi104 : (0 < l0_3.length) = True := eq_true (by omega)
        (try rw [show ((0 : Int)).toNat = 0 from rfl] at hx104_0)
        (try rw [show 0 * 4 = 0 from rfl] at hx104_0)
        (try rw [Addr.add_zero'] at hx104_0)
        (try rw [show ((0 : Int)).toNat = 0 from rfl] at hx104_1)
        (try rw [show 0 * 4 = 0 from rfl] at hx104_1)
        (try rw [Addr.add_zero'] at hx104_1)
        (try rw [show ((0 : Int)).toNat = 0 from rfl] at hx104_2)
        (try rw [show 0 * 4 = 0 from rfl] at hx104_2)
        (try rw [Addr.add_zero'] at hx104_2)
        (try rw [show ((0 : Int)).toNat = 0 from rfl] at hx104_3)
        (try rw [show 0 * 4 = 0 from rfl] at hx104_3)
        (try rw [Addr.add_zero'] at hx104_3)
        replace hx104_0 := Y15 HB.out hx104_0
        replace hx104_1 := Y15 HB.out hx104_1
        replace hx104_2 := Y15 HB.out hx104_2
        replace hx104_3 := Y15 HB.out hx104_3
        have HR104_2 := Y0.mk hi104_2
        have HC104_2 := Y0.mk hl104_2
        clear hi104_2 hl104_2
        have HR104_3 := Y0.mk hi104_3
        have HC104_3 := Y0.mk hl104_3
        clear hi104_3 hl104_3
        replace p104 := eq_true p104
        replace q104 := eq_true q104
        have p106 : 0 ≤ (1 : Int) := (by omega)
        have q106 : 1 < (l0_3.length : Int) := of_decide_eq_true Za
        obtain ⟨ad106, A106_2, c106_2, A106_3, c106_3, e106, hx106_0, hx106_1, hx106_2, hx106_3, hl106_2, hi106_2, hl106_3, hi106_3⟩ := Y2f HR0_3.out 1 p106 q106
        have hw106_3 := hx106_3
        (try rw [show ((1 : Int)).toNat = 1 from rfl] at hw106_3)
        (try rw [show 1 * 4 = 4 from rfl] at hw106_3)
        (try simp only [Nat.reduceMul, Nat.reduceEqDiff, Go.Addr.add, ↓reduceIte] at hw106_3)
        have hw106_2 := hx106_2
        (try rw [show ((1 : Int)).toNat = 1 from rfl] at hw106_2)
        (try rw [show 1 * 4 = 4 from rfl] at hw106_2)
        (try simp only [Nat.reduceMul, Nat.reduceEqDiff, Go.Addr.add, ↓reduceIte] at hw106_2)
        have hw106_1 := hx106_1
        (try rw [show ((1 : Int)).toNat = 1 from rfl] at hw106_1)
        (try rw [show 1 * 4 = 4 from rfl] at hw106_1)
        (try simp only [Nat.reduceMul, Nat.reduceEqDiff, Go.Addr.add, ↓reduceIte] at hw106_1)
        have hw106_0 := hx106_0
        (try rw [show ((1 : Int)).toNat = 1 from rfl] at hw106_0)
        (try rw [show 1 * 4 = 4 from rfl] at hw106_0)
        (try simp only [Nat.reduceMul, Nat.reduceEqDiff, Go.Addr.add, ↓reduceIte] at hw106_0)
        obtain rfl : ad104 = ad106 := (by injection e106)
        (try simp only [show (1 : Int).toNat = 1 from rfl, Nat.reduceMul, Nat.reduceEqDiff, Go.Addr.add, ↓reduceIte] at hx106_0)
        (try simp only [show (1 : Int).toNat = 1 from rfl, Nat.reduceMul, Nat.reduceEqDiff, Go.Addr.add, ↓reduceIte] at hx106_1)
        (try simp only [show (1 : Int).toNat = 1 from rfl, Nat.reduceMul, Nat.reduceEqDiff, Go.Addr.add, ↓reduceIte] at hx106_2)
        (try simp only [show (1 : Int).toNat = 1 from rfl, Nat.reduceMul, Nat.reduceEqDiff, Go.Addr.add, ↓reduceIte] at hx106_3)
        have qi106 : (1 < l0_3.length) = True := eq_true (by omega)
        (try rw [show ((1 : Int)).toNat = 1 from rfl] at hx106_0)
        (try rw [show 1 * 4 = 4 from rfl] at hx106_0)
        (try rw [show ((1 : Int)).toNat = 1 from rfl] at hx106_1)
        (try rw [show 1 * 4 = 4 from rfl] at hx106_1)
        (try rw [show ((1 : Int)).toNat = 1 from rfl] at hx106_2)
        (try rw [show 1 * 4 = 4 from rfl] at hx106_2)
        (try rw [show ((1 : Int)).toNat = 1 from rfl] at hx106_3)
        (try rw [show 1 * 4 = 4 from rfl] at hx106_3)
        replace hx106_0 := Y15 HB.out hx106_0
        replace hx106_1 := Y15 HB.out hx106_1
        replace hx106_2 := Y15 HB.out hx106_2
        replace hx106_3 := Y15 HB.out hx106_3
        have HR106_2 := Y0.mk hi106_2
        have HC106_2 := Y0.mk hl106_2
        clear hi106_2 hl106_2
        have HR106_3 := Y0.mk hi106_3
        have HC106_3 := Y0.mk hl106_3
        clear hi106_3 hl106_3
        replace p106 := eq_true p106
        replace q106 := eq_true q106
        refine Y1m (n := 13) (S := fun w' => w'.cell? ⟨gb101, 0, none⟩ = some (.int .i64 a0_0) ∧ w'.cell? ⟨gb101, 1, none⟩ = some (.string a0_1) ∧ w'.cell? ⟨gb101, 2, none⟩ = some (.slice A0_2 l0_2.length c0_2) ∧ w'.cell? ⟨gb101, 3, none⟩ = some (.slice (some ad104) l0_3.length c0_3) ∧ w'.cell? ad104 = some (.int .i64 ((Yc l0_3 0).f0)) ∧ w'.cell? ⟨ad104.block, ad104.off + 1, none⟩ = some (.string ((Yc l0_3 0).f1)) ∧ w'.cell? ⟨ad104.block, ad104.off + 2, none⟩ = some (.slice A104_2 ((Yc l0_3 0).f2).length c104_2) ∧ w'.cell? ⟨ad104.block, ad104.off + 3, none⟩ = some (.slice A104_3 ((Yc l0_3 0).f3).length c104_3) ∧ w'.cell? ⟨ad104.block, ad104.off + 4, none⟩ = some (.int .i64 ((Yc l0_3 1).f0)) ∧ w'.cell? ⟨ad104.block, ad104.off + 4 + 1, none⟩ = some (.string ((Yc l0_3 1).f1)) ∧ w'.cell? ⟨ad104.block, ad104.off + 4 + 2, none⟩ = some (.slice A106_2 ((Yc l0_3 1).f2).length c106_2) ∧ w'.cell? ⟨ad104.block, ad104.off + 4 + 3, none⟩ = some (.slice A106_3 ((Yc l0_3 1).f3).length c106_3)) (ds := []) Y6l Z4 rfl rfl ⟨(Y2 BK101.out 0).trans rfl, (Y2 BK101.out 1).trans rfl, (Y2 BK101.out 2).trans rfl, (Y2 BK101.out 3).trans rfl, ((HB.out.cell (World.block_lt_of_cell? w _ hw104_0)).trans hw104_0), ((HB.out.cell (World.block_lt_of_cell? w _ hw104_1)).trans hw104_1), ((HB.out.cell (World.block_lt_of_cell? w _ hw104_2)).trans hw104_2), ((HB.out.cell (World.block_lt_of_cell? w _ hw104_3)).trans hw104_3), ((HB.out.cell (World.block_lt_of_cell? w _ hw106_0)).trans hw106_0), ((HB.out.cell (World.block_lt_of_cell? w _ hw106_1)).trans hw106_1), ((HB.out.cell (World.block_lt_of_cell? w _ hw106_2)).trans hw106_2), ((HB.out.cell (World.block_lt_of_cell? w _ hw106_3)).trans hw106_3)⟩ (fun hHeld => ?_); refine Y11 YK.tab7 YK.bits7 (fun HT_ HW_ => ?_)
        generalize w21.drew = w23 at BK101 HB HR104_2 HR104_3 HR106_2 HR106_3 hx104_0 hx104_1 hx104_2 hx104_3 hx106_0 hx106_1 hx106_2 hx106_3 hHeld ⊢
        refine pY 0 21 Y6m ?_
        refine pY 6 27 Y5j ?_
        refine pT 1 22 Y5k ?_
        refine pY 2 23 Y5l ?_
        refine pT 3 24 Y5m ?_
        refine pT 7 28 Y5n ?_
        refine pY 8 29 Y4j ?_
        refine pT 9 30 Y4k ?_
        refine Y2Q (i := 4) (N := some 25) Y4l rfl rfl (Y1b HT_.out Z4) (by decide) (fun K hK => ?_)
        refine Y1Q Tryd.func50 Z4 rfl #[.agg #[.int .i64 ((Yc l0_3 0).f0), .string ((Yc l0_3 0).f1), .slice A104_2 ((Yc l0_3 0).f2).length c104_2, .slice A104_3 ((Yc l0_3 0).f3).length c104_3]] (by rfl) rfl rfl Z0 ?_
        with_reducible refine ((ih k (by omega)).2 ((Yc l0_3 0).f0) ((Yc l0_3 0).f1) _ _ ((Yc l0_3 0).f2) _ _ ((Yc l0_3 0).f3) t105 _ ?side1 ?side2 ?side3 ?side4 A16.out).mono ?_
        (case side1 => exact Z1A)
        (case side2 => exact HC104_2.out)
        (case side3 => exact Z1B)
        (case side4 => exact HC104_3.out)
        rintro e w24 ⟨rfl, hb⟩
        refine ⟨_, rfl, ?_⟩
        have n_ := Y2d (Yt (g := gb101) (o := .cells #[.int .i64 a0_0, .string a0_1, .slice A0_2 l0_2.length c0_2, .slice (some ad104) l0_3.length c0_3] 37 (0, 0)) QQ hb) (Y8 QB hb)
        clear BK101
        clear HB
        obtain ⟨BK101, HB⟩ := n_
        (try clear hb)
        (try clear hb2)
        (try clear hk)
        (try clear hi)
        refine hK.out _ _ ⟨(Y2 BK101.out 0).trans rfl, (Y2 BK101.out 1).trans rfl, (Y2 BK101.out 2).trans rfl, (Y2 BK101.out 3).trans rfl, ((HB.out.cell (World.block_lt_of_cell? w _ hw104_0)).trans hw104_0), ((HB.out.cell (World.block_lt_of_cell? w _ hw104_1)).trans hw104_1), ((HB.out.cell (World.block_lt_of_cell? w _ hw104_2)).trans hw104_2), ((HB.out.cell (World.block_lt_of_cell? w _ hw104_3)).trans hw104_3), ((HB.out.cell (World.block_lt_of_cell? w _ hw106_0)).trans hw106_0), ((HB.out.cell (World.block_lt_of_cell? w _ hw106_1)).trans hw106_1), ((HB.out.cell (World.block_lt_of_cell? w _ hw106_2)).trans hw106_2), ((HB.out.cell (World.block_lt_of_cell? w _ hw106_3)).trans hw106_3)⟩ (fun hHeld => ?_)
        clear hK K
        refine Y1A (a' := ?_) ?_ ?_
        rotate_left
        ·show Act.put _ (some 25) _ = _
         simp only [Act.put, List.setIfInBounds_toArray, List.set_cons_zero, List.set_cons_succ, Y16, Y17]
         rfl
        refine pY 5 26 Y4m ?_
        refine Y2Q (i := 10) (N := some 31) Y4n rfl rfl (Y1b HT_.out Z4) (by decide) (fun K hK => ?_)
        refine Y1Q Tryd.func50 Z4 rfl #[.agg #[.int .i64 ((Yc l0_3 1).f0), .string ((Yc l0_3 1).f1), .slice A106_2 ((Yc l0_3 1).f2).length c106_2, .slice A106_3 ((Yc l0_3 1).f3).length c106_3]] (by rfl) rfl rfl Z0 ?_
        with_reducible refine ((ih k (by omega)).2 ((Yc l0_3 1).f0) ((Yc l0_3 1).f1) _ _ ((Yc l0_3 1).f2) _ _ ((Yc l0_3 1).f3) t107 _ ?side1 ?side2 ?side3 ?side4 A19.out).mono ?_
        (case side1 => exact Z13)
        (case side2 => exact HC106_2.out)
        (case side3 => exact Z14)
        (case side4 => exact HC106_3.out)
        rintro e w25 ⟨rfl, hb⟩
        refine ⟨_, rfl, ?_⟩
        have n_ := Y2d (Yt (g := gb101) (o := .cells #[.int .i64 a0_0, .string a0_1, .slice A0_2 l0_2.length c0_2, .slice (some ad104) l0_3.length c0_3] 37 (0, 0)) QQ hb) (Y8 QB hb)
        clear BK101
        clear HB
        obtain ⟨BK101, HB⟩ := n_
        (try clear hb)
        (try clear hb2)
        (try clear hk)
        (try clear hi)
        refine hK.out _ _ ⟨(Y2 BK101.out 0).trans rfl, (Y2 BK101.out 1).trans rfl, (Y2 BK101.out 2).trans rfl, (Y2 BK101.out 3).trans rfl, ((HB.out.cell (World.block_lt_of_cell? w _ hw104_0)).trans hw104_0), ((HB.out.cell (World.block_lt_of_cell? w _ hw104_1)).trans hw104_1), ((HB.out.cell (World.block_lt_of_cell? w _ hw104_2)).trans hw104_2), ((HB.out.cell (World.block_lt_of_cell? w _ hw104_3)).trans hw104_3), ((HB.out.cell (World.block_lt_of_cell? w _ hw106_0)).trans hw106_0), ((HB.out.cell (World.block_lt_of_cell? w _ hw106_1)).trans hw106_1), ((HB.out.cell (World.block_lt_of_cell? w _ hw106_2)).trans hw106_2), ((HB.out.cell (World.block_lt_of_cell? w _ hw106_3)).trans hw106_3)⟩ (fun hHeld => ?_)
        clear hK K
        refine Y1A (a' := ?_) ?_ ?_
        rotate_left
        ·show Act.put _ (some 31) _ = _
         simp only [Act.put, List.setIfInBounds_toArray, List.set_cons_zero, List.set_cons_succ, Y16, Y17]
         rfl
        refine pY 11 32 Y4o ?_
        refine pY 12 2 Y3U ?_
        refine Y1S (Y1a HT_.out Z4) ?_
        try go_wp2
        go_ret
        exact Z2r
       ·rw [if_neg c20] at H
        exact Zn
      ·rw [if_neg c18] at H
       exact Zn
     ·rw [if_neg c17] at H
      exact Zn
    ·rw [if_neg c15] at H
     exact Zn
   ·rw [if_neg c14] at H
    have c14b0 : (a0_0 == 3) = false := beq_eq_false_iff_ne.mpr c14
    have c14b1 : (a0_0 != 3) = true := bne_iff_ne.mpr c14
    by_cases c26 : a0_0 = 4
    ·rw [if_pos c26] at H
     have c26b0 : (a0_0 == 4) = true := beq_iff_eq.mpr c26
     have c26b1 : (a0_0 != 4) = false := bne_eq_false_iff_eq.mpr c26
     clear c26
     by_cases c27 : 0 < (l0_3.length : Int)
     ·rw [if_pos c27] at H
      have c27b0 : decide (0 < (l0_3.length : Int)) = true := decide_eq_true c27
      have c27b1 : decide (0 < l0_3.length) = true := decide_eq_true (by omega)
      clear c27
      replace H := Option.bind_eq_some_iff.mp H
      obtain ⟨t109, A280, H⟩ := H
      replace H : (if t109.size + 1 ≤ 9223372036854775807 then (if 1 < (l0_3.length : Int) then ((YL.f k ((Yc l0_3 1).f0) ((Yc l0_3 1).f1) ((Yc l0_3 1).f2) ((Yc l0_3 1).f3)).bind fun t111 => (if t109.size + 1 + t111.size ≤ 9223372036854775807 then (some ((t109 ++ (⟨#[124]⟩ : ByteArray)) ++ t111)) else (none))) else (none)) else (none)) = some r := H
      have A28 := Y0.mk A280
      clear A280
      by_cases c29 : t109.size + 1 ≤ 9223372036854775807
      ·rw [if_pos c29] at H
       have c29b0 := eq_true c29
       have c29b1 : decide (t109.size + 1 ≤ 9223372036854775807) = true := decide_eq_true c29
       try have c29b2 : (9223372036854775807 < t109.size + 1) = False := eq_false (Nat.not_lt.2 c29)
       by_cases c30 : 1 < (l0_3.length : Int)
       ·rw [if_pos c30] at H
        have c30b0 : decide (1 < (l0_3.length : Int)) = true := decide_eq_true c30
        have c30b1 : decide (1 < l0_3.length) = true := decide_eq_true (by omega)
        clear c30
        replace H := Option.bind_eq_some_iff.mp H
        obtain ⟨t111, A310, H⟩ := H
        replace H : (if t109.size + 1 + t111.size ≤ 9223372036854775807 then (some ((t109 ++ (⟨#[124]⟩ : ByteArray)) ++ t111)) else (none)) = some r := H
        have A31 := Y0.mk A310
        clear A310
        by_cases c32 : t109.size + 1 + t111.size ≤ 9223372036854775807
        ·rw [if_pos c32] at H
         have c32b0 := eq_true c32
         have c32b1 : decide (t109.size + 1 + t111.size ≤ 9223372036854775807) = true := decide_eq_true c32
         try have c32b2 : (9223372036854775807 < t109.size + 1 + t111.size) = False := eq_false (Nat.not_lt.2 c32)
         obtain rfl := Option.some.inj H
         go_enter Tryd.func24, Tryd.ntmps24
         try go_wp2_with (first | ((with_reducible refine YF (N := 1) rfl ?_); refine YD ?hg (N := 1) ?hd (cs := #[.int .i64 a0_0, .string a0_1, .slice A0_2 l0_2.length c0_2, .slice A0_3 l0_3.length c0_3]) (t := 37) ?hr ?_; (case hd => rfl); (case hg => rfl); (case hr => exact Zb); intro gb101 hg w33 hbox hb; have n_ := Y2N (Y8 QB hb) (hbox) ((by rw [hg]; exact (Yf QB) : w.heap.size ≤ gb101)) ((by rw [hg]; exact (Yf QB) : w.heap.size ≤ gb101)); clear HB; obtain ⟨HB, BK101, GW101, GE101⟩ := n_; clear hb hbox hg; obtain ⟨hcz34_0, hcz34_1, hcz34_2, hcz34_3, hfz34_0, hfz34_1, hfz34_2, hfz34_3⟩ := YA BK101.out))
         have n_ := Y2d (Yb BK101.out) (YP HB.out)
         clear BK101
         clear HB
         obtain ⟨BK101, HB⟩ := n_
         have p108 : 0 ≤ (0 : Int) := (by omega)
         have q108 : 0 < (l0_3.length : Int) := of_decide_eq_true Za
         obtain ⟨ad108, A108_2, c108_2, A108_3, c108_3, e108, hx108_0, hx108_1, hx108_2, hx108_3, hl108_2, hi108_2, hl108_3, hi108_3⟩ := Y2f HR0_3.out 0 p108 q108
         have hw108_3 := hx108_3
         (try rw [show ((0 : Int)).toNat = 0 from rfl] at hw108_3)
         (try rw [show 0 * 4 = 0 from rfl] at hw108_3)
         (try rw [Addr.add_zero'] at hw108_3)
         have hw108_2 := hx108_2
         (try rw [show ((0 : Int)).toNat = 0 from rfl] at hw108_2)
         (try rw [show 0 * 4 = 0 from rfl] at hw108_2)
         (try rw [Addr.add_zero'] at hw108_2)
         have hw108_1 := hx108_1
         (try rw [show ((0 : Int)).toNat = 0 from rfl] at hw108_1)
         (try rw [show 0 * 4 = 0 from rfl] at hw108_1)
         (try rw [Addr.add_zero'] at hw108_1)
         have hw108_0 := hx108_0
         (try rw [show ((0 : Int)).toNat = 0 from rfl] at hw108_0)
         (try rw [show 0 * 4 = 0 from rfl] at hw108_0)
         (try rw [Addr.add_zero'] at hw108_0)
         cases e108
         have qi108 : (0 < l0_3.length) = True := eq_true (by omega)
         (try rw [show ((0 : Int)).toNat = 0 from rfl] at hx108_0)
         (try rw [show 0 * 4 = 0 from rfl] at hx108_0)
         (try rw [Addr.add_zero'] at hx108_0)
         (try rw [show ((0 : Int)).toNat = 0 from rfl] at hx108_1)
         (try rw [show 0 * 4 = 0 from rfl] at hx108_1)
         (try rw [Addr.add_zero'] at hx108_1)
         (try rw [show ((0 : Int)).toNat = 0 from rfl] at hx108_2)
         (try rw [show 0 * 4 = 0 from rfl] at hx108_2)
         (try rw [Addr.add_zero'] at hx108_2)
         (try rw [show ((0 : Int)).toNat = 0 from rfl] at hx108_3)
         (try rw [show 0 * 4 = 0 from rfl] at hx108_3)
         (try rw [Addr.add_zero'] at hx108_3)
         replace hx108_0 := Y15 HB.out hx108_0
         replace hx108_1 := Y15 HB.out hx108_1
         replace hx108_2 := Y15 HB.out hx108_2
         replace hx108_3 := Y15 HB.out hx108_3
         have HR108_2 := Y0.mk hi108_2
         have HC108_2 := Y0.mk hl108_2
         clear hi108_2 hl108_2
         have HR108_3 := Y0.mk hi108_3
         have HC108_3 := Y0.mk hl108_3
         clear hi108_3 hl108_3
         replace p108 := eq_true p108
         replace q108 := eq_true q108
         have p110 : 0 ≤ (1 : Int) := (by omega)
         have q110 : 1 < (l0_3.length : Int) := of_decide_eq_true Za
         obtain ⟨ad110, A110_2, c110_2, A110_3, c110_3, e110, hx110_0, hx110_1, hx110_2, hx110_3, hl110_2, hi110_2, hl110_3, hi110_3⟩ := Y2f HR0_3.out 1 p110 q110
         have hw110_3 := hx110_3
         (try rw [show ((1 : Int)).toNat = 1 from rfl] at hw110_3)
         (try rw [show 1 * 4 = 4 from rfl] at hw110_3)
         (try simp only [Nat.reduceMul, Nat.reduceEqDiff, Go.Addr.add, ↓reduceIte] at hw110_3)
         have hw110_2 := hx110_2
         (try rw [show ((1 : Int)).toNat = 1 from rfl] at hw110_2)
         (try rw [show 1 * 4 = 4 from rfl] at hw110_2)
         (try simp only [Nat.reduceMul, Nat.reduceEqDiff, Go.Addr.add, ↓reduceIte] at hw110_2)
         have hw110_1 := hx110_1
         (try rw [show ((1 : Int)).toNat = 1 from rfl] at hw110_1)
         (try rw [show 1 * 4 = 4 from rfl] at hw110_1)
         (try simp only [Nat.reduceMul, Nat.reduceEqDiff, Go.Addr.add, ↓reduceIte] at hw110_1)
         have hw110_0 := hx110_0
         (try rw [show ((1 : Int)).toNat = 1 from rfl] at hw110_0)
         (try rw [show 1 * 4 = 4 from rfl] at hw110_0)
         (try simp only [Nat.reduceMul, Nat.reduceEqDiff, Go.Addr.add, ↓reduceIte] at hw110_0)
         obtain rfl : ad108 = ad110 := (by injection e110)
         (try simp only [show (1 : Int).toNat = 1 from rfl, Nat.reduceMul, Nat.reduceEqDiff, Go.Addr.add, ↓reduceIte] at hx110_0)
         (try simp only [show (1 : Int).toNat = 1 from rfl, Nat.reduceMul, Nat.reduceEqDiff, Go.Addr.add, ↓reduceIte] at hx110_1)
         (try simp only [show (1 : Int).toNat = 1 from rfl, Nat.reduceMul, Nat.reduceEqDiff, Go.Addr.add, ↓reduceIte] at hx110_2)
         (try simp only [show (1 : Int).toNat = 1 from rfl, Nat.reduceMul, Nat.reduceEqDiff, Go.Addr.add, ↓reduceIte] at hx110_3)
         have qi110 : (1 < l0_3.length) = True := eq_true (by omega)
         (try rw [show ((1 : Int)).toNat = 1 from rfl] at hx110_0)
         (try rw [show 1 * 4 = 4 from rfl] at hx110_0)
         (try rw [show ((1 : Int)).toNat = 1 from rfl] at hx110_1)
         (try rw [show 1 * 4 = 4 from rfl] at hx110_1)
         (try rw [show ((1 : Int)).toNat = 1 from rfl] at hx110_2)
         (try rw [show 1 * 4 = 4 from rfl] at hx110_2)
         (try rw [show ((1 : Int)).toNat = 1 from rfl] at hx110_3)
         (try rw [show 1 * 4 = 4 from rfl] at hx110_3)
         replace hx110_0 := Y15 HB.out hx110_0
         replace hx110_1 := Y15 HB.out hx110_1
         replace hx110_2 := Y15 HB.out hx110_2
         replace hx110_3 := Y15 HB.out hx110_3
         have HR110_2 := Y0.mk hi110_2
         have HC110_2 := Y0.mk hl110_2
         clear hi110_2 hl110_2
         have HR110_3 := Y0.mk hi110_3
         have HC110_3 := Y0.mk hl110_3
         clear hi110_3 hl110_3
         replace p110 := eq_true p110
         replace q110 := eq_true q110
         refine Y1m (n := 13) (S := fun w' => w'.cell? ⟨gb101, 0, none⟩ = some (.int .i64 a0_0) ∧ w'.cell? ⟨gb101, 1, none⟩ = some (.string a0_1) ∧ w'.cell? ⟨gb101, 2, none⟩ = some (.slice A0_2 l0_2.length c0_2) ∧ w'.cell? ⟨gb101, 3, none⟩ = some (.slice (some ad108) l0_3.length c0_3) ∧ w'.cell? ad108 = some (.int .i64 ((Yc l0_3 0).f0)) ∧ w'.cell? ⟨ad108.block, ad108.off + 1, none⟩ = some (.string ((Yc l0_3 0).f1)) ∧ w'.cell? ⟨ad108.block, ad108.off + 2, none⟩ = some (.slice A108_2 ((Yc l0_3 0).f2).length c108_2) ∧ w'.cell? ⟨ad108.block, ad108.off + 3, none⟩ = some (.slice A108_3 ((Yc l0_3 0).f3).length c108_3) ∧ w'.cell? ⟨ad108.block, ad108.off + 4, none⟩ = some (.int .i64 ((Yc l0_3 1).f0)) ∧ w'.cell? ⟨ad108.block, ad108.off + 4 + 1, none⟩ = some (.string ((Yc l0_3 1).f1)) ∧ w'.cell? ⟨ad108.block, ad108.off + 4 + 2, none⟩ = some (.slice A110_2 ((Yc l0_3 1).f2).length c110_2) ∧ w'.cell? ⟨ad108.block, ad108.off + 4 + 3, none⟩ = some (.slice A110_3 ((Yc l0_3 1).f3).length c110_3)) (ds := []) Y6l Z4 rfl rfl ⟨(Y2 BK101.out 0).trans rfl, (Y2 BK101.out 1).trans rfl, (Y2 BK101.out 2).trans rfl, (Y2 BK101.out 3).trans rfl, ((HB.out.cell (World.block_lt_of_cell? w _ hw108_0)).trans hw108_0), ((HB.out.cell (World.block_lt_of_cell? w _ hw108_1)).trans hw108_1), ((HB.out.cell (World.block_lt_of_cell? w _ hw108_2)).trans hw108_2), ((HB.out.cell (World.block_lt_of_cell? w _ hw108_3)).trans hw108_3), ((HB.out.cell (World.block_lt_of_cell? w _ hw110_0)).trans hw110_0), ((HB.out.cell (World.block_lt_of_cell? w _ hw110_1)).trans hw110_1), ((HB.out.cell (World.block_lt_of_cell? w _ hw110_2)).trans hw110_2), ((HB.out.cell (World.block_lt_of_cell? w _ hw110_3)).trans hw110_3)⟩ (fun hHeld => ?_); refine Y11 YK.tab9 YK.bits9 (fun HT_ HW_ => ?_)
         generalize w33.drew = w35 at BK101 HB HR108_2 HR108_3 HR110_2 HR110_3 hx108_0 hx108_1 hx108_2 hx108_3 hx110_0 hx110_1 hx110_2 hx110_3 hHeld ⊢
         refine pY 0 35 Y6m ?_
         refine pY 6 41 Y5j ?_
         refine pT 1 36 Y5k ?_
         refine pY 2 37 Y5l ?_
         refine pT 3 38 Y5m ?_
         refine pT 7 42 Y5n ?_
         refine pY 8 43 Y4j ?_
         refine pT 9 44 Y4k ?_
         refine Y2Q (i := 4) (N := some 39) Y4l rfl rfl (Y1b HT_.out Z4) (by decide) (fun K hK => ?_)
         refine Y1Q Tryd.func50 Z4 rfl #[.agg #[.int .i64 ((Yc l0_3 0).f0), .string ((Yc l0_3 0).f1), .slice A108_2 ((Yc l0_3 0).f2).length c108_2, .slice A108_3 ((Yc l0_3 0).f3).length c108_3]] (by rfl) rfl rfl Z0 ?_
         with_reducible refine ((ih k (by omega)).2 ((Yc l0_3 0).f0) ((Yc l0_3 0).f1) _ _ ((Yc l0_3 0).f2) _ _ ((Yc l0_3 0).f3) t109 _ ?side1 ?side2 ?side3 ?side4 A28.out).mono ?_
         (case side1 => exact Z1C)
         (case side2 => exact HC108_2.out)
         (case side3 => exact Z1D)
         (case side4 => exact HC108_3.out)
         rintro e w36 ⟨rfl, hb⟩
         refine ⟨_, rfl, ?_⟩
         have n_ := Y2d (Yt (g := gb101) (o := .cells #[.int .i64 a0_0, .string a0_1, .slice A0_2 l0_2.length c0_2, .slice (some ad108) l0_3.length c0_3] 37 (0, 0)) QQ hb) (Y8 QB hb)
         clear BK101
         clear HB
         obtain ⟨BK101, HB⟩ := n_
         (try clear hb)
         (try clear hb2)
         (try clear hk)
         (try clear hi)
         refine hK.out _ _ ⟨(Y2 BK101.out 0).trans rfl, (Y2 BK101.out 1).trans rfl, (Y2 BK101.out 2).trans rfl, (Y2 BK101.out 3).trans rfl, ((HB.out.cell (World.block_lt_of_cell? w _ hw108_0)).trans hw108_0), ((HB.out.cell (World.block_lt_of_cell? w _ hw108_1)).trans hw108_1), ((HB.out.cell (World.block_lt_of_cell? w _ hw108_2)).trans hw108_2), ((HB.out.cell (World.block_lt_of_cell? w _ hw108_3)).trans hw108_3), ((HB.out.cell (World.block_lt_of_cell? w _ hw110_0)).trans hw110_0), ((HB.out.cell (World.block_lt_of_cell? w _ hw110_1)).trans hw110_1), ((HB.out.cell (World.block_lt_of_cell? w _ hw110_2)).trans hw110_2), ((HB.out.cell (World.block_lt_of_cell? w _ hw110_3)).trans hw110_3)⟩ (fun hHeld => ?_)
         clear hK K
         refine Y1A (a' := ?_) ?_ ?_
         rotate_left
         ·show Act.put _ (some 39) _ = _
          simp only [Act.put, List.setIfInBounds_toArray, List.set_cons_zero, List.set_cons_succ, Y16, Y17]
          rfl
         refine pY 5 40 Y4m ?_
         refine Y2Q (i := 10) (N := some 45) Y4n rfl rfl (Y1b HT_.out Z4) (by decide) (fun K hK => ?_)
         refine Y1Q Tryd.func50 Z4 rfl #[.agg #[.int .i64 ((Yc l0_3 1).f0), .string ((Yc l0_3 1).f1), .slice A110_2 ((Yc l0_3 1).f2).length c110_2, .slice A110_3 ((Yc l0_3 1).f3).length c110_3]] (by rfl) rfl rfl Z0 ?_
         with_reducible refine ((ih k (by omega)).2 ((Yc l0_3 1).f0) ((Yc l0_3 1).f1) _ _ ((Yc l0_3 1).f2) _ _ ((Yc l0_3 1).f3) t111 _ ?side1 ?side2 ?side3 ?side4 A31.out).mono ?_
         (case side1 => exact Z1E)
         (case side2 => exact HC110_2.out)
         (case side3 => exact Z1F)
         (case side4 => exact HC110_3.out)
         rintro e w37 ⟨rfl, hb⟩
         refine ⟨_, rfl, ?_⟩
         have n_ := Y2d (Yt (g := gb101) (o := .cells #[.int .i64 a0_0, .string a0_1, .slice A0_2 l0_2.length c0_2, .slice (some ad108) l0_3.length c0_3] 37 (0, 0)) QQ hb) (Y8 QB hb)
         clear BK101
         clear HB
         obtain ⟨BK101, HB⟩ := n_
         (try clear hb)
         (try clear hb2)
         (try clear hk)
         (try clear hi)
         refine hK.out _ _ ⟨(Y2 BK101.out 0).trans rfl, (Y2 BK101.out 1).trans rfl, (Y2 BK101.out 2).trans rfl, (Y2 BK101.out 3).trans rfl, ((HB.out.cell (World.block_lt_of_cell? w _ hw108_0)).trans hw108_0), ((HB.out.cell (World.block_lt_of_cell? w _ hw108_1)).trans hw108_1), ((HB.out.cell (World.block_lt_of_cell? w _ hw108_2)).trans hw108_2), ((HB.out.cell (World.block_lt_of_cell? w _ hw108_3)).trans hw108_3), ((HB.out.cell (World.block_lt_of_cell? w _ hw110_0)).trans hw110_0), ((HB.out.cell (World.block_lt_of_cell? w _ hw110_1)).trans hw110_1), ((HB.out.cell (World.block_lt_of_cell? w _ hw110_2)).trans hw110_2), ((HB.out.cell (World.block_lt_of_cell? w _ hw110_3)).trans hw110_3)⟩ (fun hHeld => ?_)
         clear hK K
         refine Y1A (a' := ?_) ?_ ?_
         rotate_left
         ·show Act.put _ (some 45) _ = _
          simp only [Act.put, List.setIfInBounds_toArray, List.set_cons_zero, List.set_cons_succ, Y16, Y17]
          rfl
         refine pY 11 46 Y4o ?_
         refine pY 12 2 Y3U ?_
         refine Y1S (Y1a HT_.out Z4) ?_
         try go_wp2
         go_ret
         exact Z2r
        ·rw [if_neg c32] at H
         exact Zn
       ·rw [if_neg c30] at H
        exact Zn
      ·rw [if_neg c29] at H
       exact Zn
     ·rw [if_neg c27] at H
      exact Zn
    ·rw [if_neg c26] at H
     have c26b0 : (a0_0 == 4) = false := beq_eq_false_iff_ne.mpr c26
     have c26b1 : (a0_0 != 4) = true := bne_iff_ne.mpr c26
     by_cases c38 : a0_0 = 5
     ·rw [if_pos c38] at H
      have c38b0 : (a0_0 == 5) = true := beq_iff_eq.mpr c38
      have c38b1 : (a0_0 != 5) = false := bne_eq_false_iff_eq.mpr c38
      clear c38
      by_cases c39 : 0 < (l0_3.length : Int)
      ·rw [if_pos c39] at H
       have c39b0 : decide (0 < (l0_3.length : Int)) = true := decide_eq_true c39
       have c39b1 : decide (0 < l0_3.length) = true := decide_eq_true (by omega)
       clear c39
       replace H := Option.bind_eq_some_iff.mp H
       obtain ⟨t113, A400, H⟩ := H
       replace H : (if t113.size + 1 ≤ 9223372036854775807 then (some (t113 ++ (⟨#[42]⟩ : ByteArray))) else (none)) = some r := H
       have A40 := Y0.mk A400
       clear A400
       by_cases c41 : t113.size + 1 ≤ 9223372036854775807
       ·rw [if_pos c41] at H
        have c41b0 := eq_true c41
        have c41b1 : decide (t113.size + 1 ≤ 9223372036854775807) = true := decide_eq_true c41
        try have c41b2 : (9223372036854775807 < t113.size + 1) = False := eq_false (Nat.not_lt.2 c41)
        obtain rfl := Option.some.inj H
        go_enter Tryd.func24, Tryd.ntmps24
        go_wp2_with (first | ((with_reducible refine YF (N := 1) rfl ?_); refine YD ?hg (N := 1) ?hd (cs := #[.int .i64 a0_0, .string a0_1, .slice A0_2 l0_2.length c0_2, .slice A0_3 l0_3.length c0_3]) (t := 37) ?hr ?_; (case hd => rfl); (case hg => rfl); (case hr => exact Zb); intro gb101 hg w42 hbox hb; have n_ := Y2N (Y8 QB hb) (hbox) ((by rw [hg]; exact (Yf QB) : w.heap.size ≤ gb101)) ((by rw [hg]; exact (Yf QB) : w.heap.size ≤ gb101)); clear HB; obtain ⟨HB, BK101, GW101, GE101⟩ := n_; clear hb hbox hg; obtain ⟨hcz43_0, hcz43_1, hcz43_2, hcz43_3, hfz43_0, hfz43_1, hfz43_2, hfz43_3⟩ := YA BK101.out; have p112 : 0 ≤ (0 : Int) := (by omega); have q112 : 0 < (l0_3.length : Int) := of_decide_eq_true Za; obtain ⟨ad112, A112_2, c112_2, A112_3, c112_3, e112, hx112_0, hx112_1, hx112_2, hx112_3, hl112_2, hi112_2, hl112_3, hi112_3⟩ := Y2f HR0_3.out 0 p112 q112; cases e112; have qi112 : (0 < l0_3.length) = True := eq_true (by omega); (try rw [show ((0 : Int)).toNat = 0 from rfl] at hx112_0 hx112_1 hx112_2 hx112_3); (try rw [show 0 * 4 = 0 from rfl] at hx112_0 hx112_1 hx112_2 hx112_3); (try rw [Addr.add_zero'] at hx112_0 hx112_1 hx112_2 hx112_3); replace hx112_0 := Y15 HB.out hx112_0; replace hx112_1 := Y15 HB.out hx112_1; replace hx112_2 := Y15 HB.out hx112_2; replace hx112_3 := Y15 HB.out hx112_3; have HR112_2 := Y0.mk hi112_2; have HC112_2 := Y0.mk hl112_2; clear hi112_2 hl112_2; have HR112_3 := Y0.mk hi112_3; have HC112_3 := Y0.mk hl112_3; clear hi112_3 hl112_3; replace p112 := eq_true p112; replace q112 := eq_true q112) | ((with_reducible refine Yl (f := 50) rfl ?_); refine YO (some 53) rfl rfl Tryd.func50 Z4 rfl #[.agg #[.int .i64 ((Yc l0_3 0).f0), .string ((Yc l0_3 0).f1), .slice A112_2 ((Yc l0_3 0).f2).length c112_2, .slice A112_3 ((Yc l0_3 0).f3).length c112_3]] rfl Z0 ?_; (with_reducible refine ((ih k (by omega)).2 ((Yc l0_3 0).f0) ((Yc l0_3 0).f1) _ _ ((Yc l0_3 0).f2) _ _ ((Yc l0_3 0).f3) t113 _ ?side1 ?side2 ?side3 ?side4 A40.out).mono ?_); (case side1 => repeat (first | exact (Kd.C_below HR112_2.out HB.out) | (with_reducible refine Kd.C_alloc ?_ _) | (with_reducible refine Kd.C_drewN ?_ _) | (with_reducible refine Kd.C_drew ?_))); (case side2 => exact HC112_2.out); (case side3 => repeat (first | exact (Kd.C_below HR112_3.out HB.out) | (with_reducible refine Kd.C_alloc ?_ _) | (with_reducible refine Kd.C_drewN ?_ _) | (with_reducible refine Kd.C_drew ?_))); (case side4 => exact HC112_3.out); rintro e w44 ⟨rfl, hb⟩; refine ⟨_, rfl, ?_⟩; have n_ := Y2d (Yt (g := gb101) (o := .cells #[.int .i64 a0_0, .string a0_1, .slice A0_2 l0_2.length c0_2, .slice (some ad112) l0_3.length c0_3] 37 (0, 0)) QQ hb) (Y8 QB hb); clear BK101 HB; obtain ⟨BK101, HB⟩ := n_; (try clear hb); (try clear hb2); (try clear hk); (try clear hi)))
        go_ret
        exact Z2r
       ·rw [if_neg c41] at H
        exact Zn
      ·rw [if_neg c39] at H
       exact Zn
     ·rw [if_neg c38] at H
      have c38b0 : (a0_0 == 5) = false := beq_eq_false_iff_ne.mpr c38
      have c38b1 : (a0_0 != 5) = true := bne_iff_ne.mpr c38
      by_cases c45 : a0_0 = 6
      ·rw [if_pos c45] at H
       have c45b0 : (a0_0 == 6) = true := beq_iff_eq.mpr c45
       have c45b1 : (a0_0 != 6) = false := bne_eq_false_iff_eq.mpr c45
       clear c45
       by_cases c46 : 0 < (l0_3.length : Int)
       ·rw [if_pos c46] at H
        have c46b0 : decide (0 < (l0_3.length : Int)) = true := decide_eq_true c46
        have c46b1 : decide (0 < l0_3.length) = true := decide_eq_true (by omega)
        clear c46
        replace H := Option.bind_eq_some_iff.mp H
        obtain ⟨t115, A470, H⟩ := H
        replace H : (if t115.size + 1 ≤ 9223372036854775807 then (some (t115 ++ (⟨#[43]⟩ : ByteArray))) else (none)) = some r := H
        have A47 := Y0.mk A470
        clear A470
        by_cases c48 : t115.size + 1 ≤ 9223372036854775807
        ·rw [if_pos c48] at H
         have c48b0 := eq_true c48
         have c48b1 : decide (t115.size + 1 ≤ 9223372036854775807) = true := decide_eq_true c48
         try have c48b2 : (9223372036854775807 < t115.size + 1) = False := eq_false (Nat.not_lt.2 c48)
         obtain rfl := Option.some.inj H
         go_enter Tryd.func24, Tryd.ntmps24
         go_wp2_with (first | ((with_reducible refine YF (N := 1) rfl ?_); refine YD ?hg (N := 1) ?hd (cs := #[.int .i64 a0_0, .string a0_1, .slice A0_2 l0_2.length c0_2, .slice A0_3 l0_3.length c0_3]) (t := 37) ?hr ?_; (case hd => rfl); (case hg => rfl); (case hr => exact Zb); intro gb101 hg w49 hbox hb; have n_ := Y2N (Y8 QB hb) (hbox) ((by rw [hg]; exact (Yf QB) : w.heap.size ≤ gb101)) ((by rw [hg]; exact (Yf QB) : w.heap.size ≤ gb101)); clear HB; obtain ⟨HB, BK101, GW101, GE101⟩ := n_; clear hb hbox hg; obtain ⟨hcz50_0, hcz50_1, hcz50_2, hcz50_3, hfz50_0, hfz50_1, hfz50_2, hfz50_3⟩ := YA BK101.out; have p114 : 0 ≤ (0 : Int) := (by omega); have q114 : 0 < (l0_3.length : Int) := of_decide_eq_true Za; obtain ⟨ad114, A114_2, c114_2, A114_3, c114_3, e114, hx114_0, hx114_1, hx114_2, hx114_3, hl114_2, hi114_2, hl114_3, hi114_3⟩ := Y2f HR0_3.out 0 p114 q114; cases e114; have qi114 : (0 < l0_3.length) = True := eq_true (by omega); (try rw [show ((0 : Int)).toNat = 0 from rfl] at hx114_0 hx114_1 hx114_2 hx114_3); (try rw [show 0 * 4 = 0 from rfl] at hx114_0 hx114_1 hx114_2 hx114_3); (try rw [Addr.add_zero'] at hx114_0 hx114_1 hx114_2 hx114_3); replace hx114_0 := Y15 HB.out hx114_0; replace hx114_1 := Y15 HB.out hx114_1; replace hx114_2 := Y15 HB.out hx114_2; replace hx114_3 := Y15 HB.out hx114_3; have HR114_2 := Y0.mk hi114_2; have HC114_2 := Y0.mk hl114_2; clear hi114_2 hl114_2; have HR114_3 := Y0.mk hi114_3; have HC114_3 := Y0.mk hl114_3; clear hi114_3 hl114_3; replace p114 := eq_true p114; replace q114 := eq_true q114) | ((with_reducible refine Yl (f := 50) rfl ?_); refine YO (some 61) rfl rfl Tryd.func50 Z4 rfl #[.agg #[.int .i64 ((Yc l0_3 0).f0), .string ((Yc l0_3 0).f1), .slice A114_2 ((Yc l0_3 0).f2).length c114_2, .slice A114_3 ((Yc l0_3 0).f3).length c114_3]] rfl Z0 ?_; (with_reducible refine ((ih k (by omega)).2 ((Yc l0_3 0).f0) ((Yc l0_3 0).f1) _ _ ((Yc l0_3 0).f2) _ _ ((Yc l0_3 0).f3) t115 _ ?side1 ?side2 ?side3 ?side4 A47.out).mono ?_); (case side1 => exact Z1G); (case side2 => exact HC114_2.out); (case side3 => exact Z1H); (case side4 => exact HC114_3.out); rintro e w51 ⟨rfl, hb⟩; refine ⟨_, rfl, ?_⟩; have n_ := Y2d (Yt (g := gb101) (o := .cells #[.int .i64 a0_0, .string a0_1, .slice A0_2 l0_2.length c0_2, .slice (some ad114) l0_3.length c0_3] 37 (0, 0)) QQ hb) (Y8 QB hb); clear BK101 HB; obtain ⟨BK101, HB⟩ := n_; (try clear hb); (try clear hb2); (try clear hk); (try clear hi)))
         go_ret
         exact Z2r
        ·rw [if_neg c48] at H
         exact Zn
       ·rw [if_neg c46] at H
        exact Zn
      ·rw [if_neg c45] at H
       have c45b0 : (a0_0 == 6) = false := beq_eq_false_iff_ne.mpr c45
       have c45b1 : (a0_0 != 6) = true := bne_iff_ne.mpr c45
       by_cases c52 : a0_0 = 7
       ·rw [if_pos c52] at H
        have c52b0 : (a0_0 == 7) = true := beq_iff_eq.mpr c52
        have c52b1 : (a0_0 != 7) = false := bne_eq_false_iff_eq.mpr c52
        clear c52
        by_cases c53 : 0 < (l0_3.length : Int)
        ·rw [if_pos c53] at H
         have c53b0 : decide (0 < (l0_3.length : Int)) = true := decide_eq_true c53
         have c53b1 : decide (0 < l0_3.length) = true := decide_eq_true (by omega)
         clear c53
         replace H := Option.bind_eq_some_iff.mp H
         obtain ⟨t117, A540, H⟩ := H
         replace H : (if t117.size + 1 ≤ 9223372036854775807 then (some (t117 ++ (⟨#[63]⟩ : ByteArray))) else (none)) = some r := H
         have A54 := Y0.mk A540
         clear A540
         by_cases c55 : t117.size + 1 ≤ 9223372036854775807
         ·rw [if_pos c55] at H
          have c55b0 := eq_true c55
          have c55b1 : decide (t117.size + 1 ≤ 9223372036854775807) = true := decide_eq_true c55
          try have c55b2 : (9223372036854775807 < t117.size + 1) = False := eq_false (Nat.not_lt.2 c55)
          obtain rfl := Option.some.inj H
          go_enter Tryd.func24, Tryd.ntmps24
          go_wp2_with (first | ((with_reducible refine YF (N := 1) rfl ?_); refine YD ?hg (N := 1) ?hd (cs := #[.int .i64 a0_0, .string a0_1, .slice A0_2 l0_2.length c0_2, .slice A0_3 l0_3.length c0_3]) (t := 37) ?hr ?_; (case hd => rfl); (case hg => rfl); (case hr => exact Zb); intro gb101 hg w56 hbox hb; have n_ := Y2N (Y8 QB hb) (hbox) ((by rw [hg]; exact (Yf QB) : w.heap.size ≤ gb101)) ((by rw [hg]; exact (Yf QB) : w.heap.size ≤ gb101)); clear HB; obtain ⟨HB, BK101, GW101, GE101⟩ := n_; clear hb hbox hg; obtain ⟨hcz57_0, hcz57_1, hcz57_2, hcz57_3, hfz57_0, hfz57_1, hfz57_2, hfz57_3⟩ := YA BK101.out; have p116 : 0 ≤ (0 : Int) := (by omega); have q116 : 0 < (l0_3.length : Int) := of_decide_eq_true Za; obtain ⟨ad116, A116_2, c116_2, A116_3, c116_3, e116, hx116_0, hx116_1, hx116_2, hx116_3, hl116_2, hi116_2, hl116_3, hi116_3⟩ := Y2f HR0_3.out 0 p116 q116; cases e116; have qi116 : (0 < l0_3.length) = True := eq_true (by omega); (try rw [show ((0 : Int)).toNat = 0 from rfl] at hx116_0 hx116_1 hx116_2 hx116_3); (try rw [show 0 * 4 = 0 from rfl] at hx116_0 hx116_1 hx116_2 hx116_3); (try rw [Addr.add_zero'] at hx116_0 hx116_1 hx116_2 hx116_3); replace hx116_0 := Y15 HB.out hx116_0; replace hx116_1 := Y15 HB.out hx116_1; replace hx116_2 := Y15 HB.out hx116_2; replace hx116_3 := Y15 HB.out hx116_3; have HR116_2 := Y0.mk hi116_2; have HC116_2 := Y0.mk hl116_2; clear hi116_2 hl116_2; have HR116_3 := Y0.mk hi116_3; have HC116_3 := Y0.mk hl116_3; clear hi116_3 hl116_3; replace p116 := eq_true p116; replace q116 := eq_true q116) | ((with_reducible refine Yl (f := 50) rfl ?_); refine YO (some 69) rfl rfl Tryd.func50 Z4 rfl #[.agg #[.int .i64 ((Yc l0_3 0).f0), .string ((Yc l0_3 0).f1), .slice A116_2 ((Yc l0_3 0).f2).length c116_2, .slice A116_3 ((Yc l0_3 0).f3).length c116_3]] rfl Z0 ?_; (with_reducible refine ((ih k (by omega)).2 ((Yc l0_3 0).f0) ((Yc l0_3 0).f1) _ _ ((Yc l0_3 0).f2) _ _ ((Yc l0_3 0).f3) t117 _ ?side1 ?side2 ?side3 ?side4 A54.out).mono ?_); (case side1 => repeat (first | exact (Kd.C_below HR116_2.out HB.out) | (with_reducible refine Kd.C_alloc ?_ _) | (with_reducible refine Kd.C_drewN ?_ _) | (with_reducible refine Kd.C_drew ?_))); (case side2 => exact HC116_2.out); (case side3 => repeat (first | exact (Kd.C_below HR116_3.out HB.out) | (with_reducible refine Kd.C_alloc ?_ _) | (with_reducible refine Kd.C_drewN ?_ _) | (with_reducible refine Kd.C_drew ?_))); (case side4 => exact HC116_3.out); rintro e w58 ⟨rfl, hb⟩; refine ⟨_, rfl, ?_⟩; have n_ := Y2d (Yt (g := gb101) (o := .cells #[.int .i64 a0_0, .string a0_1, .slice A0_2 l0_2.length c0_2, .slice (some ad116) l0_3.length c0_3] 37 (0, 0)) QQ hb) (Y8 QB hb); clear BK101 HB; obtain ⟨BK101, HB⟩ := n_; (try clear hb); (try clear hb2); (try clear hk); (try clear hi)))
          go_ret
          exact Z2r
         ·rw [if_neg c55] at H
          exact Zn
        ·rw [if_neg c53] at H
         exact Zn
       ·rw [if_neg c52] at H
        have c52b0 : (a0_0 == 7) = false := beq_eq_false_iff_ne.mpr c52
        have c52b1 : (a0_0 != 7) = true := bne_iff_ne.mpr c52
        replace H := Option.bind_eq_some_iff.mp H
        obtain ⟨t118, A590, H⟩ := H
        replace H : (if 3 + t118.size ≤ 9223372036854775807 then (if 3 + t118.size + 2 ≤ 9223372036854775807 then (some (((⟨#[33, 40, 60]⟩ : ByteArray) ++ t118) ++ (⟨#[62, 41]⟩ : ByteArray))) else (none)) else (none)) = some r := H
        have A59 := Y0.mk A590
        clear A590
        by_cases c60 : 3 + t118.size ≤ 9223372036854775807
        ·rw [if_pos c60] at H
         have c60b0 := eq_true c60
         have c60b1 : decide (3 + t118.size ≤ 9223372036854775807) = true := decide_eq_true c60
         try have c60b2 : (9223372036854775807 < 3 + t118.size) = False := eq_false (Nat.not_lt.2 c60)
         by_cases c61 : 3 + t118.size + 2 ≤ 9223372036854775807
         ·rw [if_pos c61] at H
          have c61b0 := eq_true c61
          have c61b1 : decide (3 + t118.size + 2 ≤ 9223372036854775807) = true := decide_eq_true c61
          try have c61b2 : (9223372036854775807 < 3 + t118.size + 2) = False := eq_false (Nat.not_lt.2 c61)
          obtain rfl := Option.some.inj H
          go_enter Tryd.func24, Tryd.ntmps24
          go_wp2_with (first | ((with_reducible refine YF (N := 1) rfl ?_); refine YD ?hg (N := 1) ?hd (cs := #[.int .i64 a0_0, .string a0_1, .slice A0_2 l0_2.length c0_2, .slice A0_3 l0_3.length c0_3]) (t := 37) ?hr ?_; (case hd => rfl); (case hg => rfl); (case hr => exact Zb); intro gb101 hg w62 hbox hb; have n_ := Y2N (Y8 QB hb) (hbox) ((by rw [hg]; exact (Yf QB) : w.heap.size ≤ gb101)) ((by rw [hg]; exact (Yf QB) : w.heap.size ≤ gb101)); clear HB; obtain ⟨HB, BK101, GW101, GE101⟩ := n_; clear hb hbox hg; obtain ⟨hcz63_0, hcz63_1, hcz63_2, hcz63_3, hfz63_0, hfz63_1, hfz63_2, hfz63_3⟩ := YA BK101.out) | ((with_reducible refine Yl (f := 51) rfl ?_); refine YO (some 73) rfl rfl Tryd.func51 Z4 rfl #[.slice A0_2 l0_2.length c0_2, .string (⟨#[62, 124, 60]⟩ : ByteArray)] rfl Z0 ?_; (with_reducible refine (strings_Join.calls _ _ l0_2 (⟨#[62, 124, 60]⟩ : ByteArray) t118 _ ?side1 ?side2 A59.out).mono ?_); (case side1 => exact Zc); (case side2 => exact Z1P); rintro e w64 ⟨rfl, hb⟩; refine ⟨_, rfl, ?_⟩; have n_ := Y2d (Yt (g := gb101) (o := .cells #[.int .i64 a0_0, .string a0_1, .slice A0_2 l0_2.length c0_2, .slice A0_3 l0_3.length c0_3] 37 (0, 0)) QQ hb) (Y8 QB hb); clear BK101 HB; obtain ⟨BK101, HB⟩ := n_; (try clear hb); (try clear hb2); (try clear hk); (try clear hi)))
          go_ret
          exact Z2r
         ·rw [if_neg c61] at H
          exact Zn
        ·rw [if_neg c60] at H
         exact Zn
set_option maxHeartbeats 8000000 in
set_option maxRecDepth 100000 in
theorem YL.step (k : Nat) (ih : ∀ j_ < k, YK.Spec j_ ∧ YL.Spec j_) : ∀ (a0_0 : Int) (a0_1 : ByteArray) (A0_2 : Option Addr) (c0_2 : Nat) (l0_2 : List ByteArray) (A0_3 : Option Addr) (c0_3 : Nat) (l0_3 : List (S37)) (r : ByteArray) (w : World) (hr0_2 : Kd.C Kd.string w A0_2 l0_2.length l0_2) (hc0_2 : l0_2.length ≤ c0_2) (hr0_3 : Kd.C k37 w A0_3 l0_3.length l0_3) (hc0_3 : l0_3.length ≤ c0_3) (h : YL.f k a0_0 a0_1 l0_2 l0_3 = some r),
  Calls Tryd.prog 50 #[.agg #[.int .i64 a0_0, .string a0_1, .slice A0_2 l0_2.length c0_2, .slice A0_3 l0_3.length c0_3]] w fun e w' => e = .returned (.string r) ∧ Below w.heap.size w w' := by
 intro a0_0 a0_1 A0_2 c0_2 l0_2 A0_3 c0_3 l0_3 r w hr0_2 hc0_2 hr0_3 hc0_3 h
 cases k with
 | zero => exact absurd h (by simp [YL.f])
 | succ k =>
 simp only [YL.f] at h
 have hu37 := Tryd.underlying37
 have HR0_2 := Y0.mk hr0_2
 have HC0_2 := Y0.mk hc0_2
 clear hr0_2 hc0_2
 have HR0_3 := Y0.mk hr0_3
 have HC0_3 := Y0.mk hc0_3
 clear hr0_3 hc0_3
 have HB := Y0.mk (Below.refl w.heap.size w)
 have H : (if a0_0 = 1 then ((YK.f k a0_0 a0_1 l0_2 l0_3).bind fun t120 => (some t120)) else ((YK.f k a0_0 a0_1 l0_2 l0_3).bind fun t121 => (if 1 + t121.size ≤ 9223372036854775807 then (if 1 + t121.size + 1 ≤ 9223372036854775807 then (some (((⟨#[40]⟩ : ByteArray) ++ t121) ++ (⟨#[41]⟩ : ByteArray))) else (none)) else (none)))) = some r := h
 clear h
 by_cases c2 : a0_0 = 1
 ·rw [if_pos c2] at H
  have c2b0 : (a0_0 == 1) = true := beq_iff_eq.mpr c2
  have c2b1 : (a0_0 != 1) = false := bne_eq_false_iff_eq.mpr c2
  clear c2
  replace H := Option.bind_eq_some_iff.mp H
  obtain ⟨t120, A30, H⟩ := H
  replace H : (some t120) = some r := H
  have A3 := Y0.mk A30
  clear A30
  obtain rfl := Option.some.inj H
  go_enter Tryd.func50, Tryd.ntmps50
  go_wp2_with (first | ((with_reducible refine YF (N := 1) rfl ?_); refine YD ?hg (N := 1) ?hd (cs := #[.int .i64 a0_0, .string a0_1, .slice A0_2 l0_2.length c0_2, .slice A0_3 l0_3.length c0_3]) (t := 37) ?hr ?_; (case hd => rfl); (case hg => rfl); (case hr => exact Zb); intro gb119 hg w4 hbox hb; have n_ := Y2N (Y8 QB hb) (hbox) ((by rw [hg]; exact (Yf QB) : w.heap.size ≤ gb119)) ((by rw [hg]; exact (Yf QB) : w.heap.size ≤ gb119)); clear HB; obtain ⟨HB, BK119, GW119, GE119⟩ := n_; clear hb hbox hg; obtain ⟨hcz5_0, hcz5_1, hcz5_2, hcz5_3, hfz5_0, hfz5_1, hfz5_2, hfz5_3⟩ := YA BK119.out) | ((with_reducible refine Yl (f := 24) rfl ?_); refine YO (some 7) rfl rfl Tryd.func24 Z4 rfl #[.agg #[.int .i64 a0_0, .string a0_1, .slice A0_2 l0_2.length c0_2, .slice A0_3 l0_3.length c0_3]] rfl Z0 ?_; (with_reducible refine ((ih k (by omega)).1 a0_0 a0_1 _ _ l0_2 _ _ l0_3 t120 _ ?side1 ?side2 ?side3 ?side4 A3.out).mono ?_); (case side1 => exact Zc); (case side2 => exact Z1P); (case side3 => exact Zd); (case side4 => exact Z24); rintro e w6 ⟨rfl, hb⟩; refine ⟨_, rfl, ?_⟩; have n_ := Y2d (Yt (g := gb119) (o := .cells #[.int .i64 a0_0, .string a0_1, .slice A0_2 l0_2.length c0_2, .slice A0_3 l0_3.length c0_3] 37 (0, 0)) QQ hb) (Y8 QB hb); clear BK119 HB; obtain ⟨BK119, HB⟩ := n_; (try clear hb); (try clear hb2); (try clear hk); (try clear hi)))
  go_ret
  exact Z2r
 ·rw [if_neg c2] at H
  have c2b0 : (a0_0 == 1) = false := beq_eq_false_iff_ne.mpr c2
  have c2b1 : (a0_0 != 1) = true := bne_iff_ne.mpr c2
  replace H := Option.bind_eq_some_iff.mp H
  obtain ⟨t121, A70, H⟩ := H
  replace H : (if 1 + t121.size ≤ 9223372036854775807 then (if 1 + t121.size + 1 ≤ 9223372036854775807 then (some (((⟨#[40]⟩ : ByteArray) ++ t121) ++ (⟨#[41]⟩ : ByteArray))) else (none)) else (none)) = some r := H
  have A7 := Y0.mk A70
  clear A70
  by_cases c8 : 1 + t121.size ≤ 9223372036854775807
  ·rw [if_pos c8] at H
   have c8b0 := eq_true c8
   have c8b1 : decide (1 + t121.size ≤ 9223372036854775807) = true := decide_eq_true c8
   try have c8b2 : (9223372036854775807 < 1 + t121.size) = False := eq_false (Nat.not_lt.2 c8)
   by_cases c9 : 1 + t121.size + 1 ≤ 9223372036854775807
   ·rw [if_pos c9] at H
    have c9b0 := eq_true c9
    have c9b1 : decide (1 + t121.size + 1 ≤ 9223372036854775807) = true := decide_eq_true c9
    try have c9b2 : (9223372036854775807 < 1 + t121.size + 1) = False := eq_false (Nat.not_lt.2 c9)
    obtain rfl := Option.some.inj H
    go_enter Tryd.func50, Tryd.ntmps50
    go_wp2_with (first | ((with_reducible refine YF (N := 1) rfl ?_); refine YD ?hg (N := 1) ?hd (cs := #[.int .i64 a0_0, .string a0_1, .slice A0_2 l0_2.length c0_2, .slice A0_3 l0_3.length c0_3]) (t := 37) ?hr ?_; (case hd => rfl); (case hg => rfl); (case hr => exact Zb); intro gb119 hg w10 hbox hb; have n_ := Y2N (Y8 QB hb) (hbox) ((by rw [hg]; exact (Yf QB) : w.heap.size ≤ gb119)) ((by rw [hg]; exact (Yf QB) : w.heap.size ≤ gb119)); clear HB; obtain ⟨HB, BK119, GW119, GE119⟩ := n_; clear hb hbox hg; obtain ⟨hcz11_0, hcz11_1, hcz11_2, hcz11_3, hfz11_0, hfz11_1, hfz11_2, hfz11_3⟩ := YA BK119.out) | ((with_reducible refine Yl (f := 24) rfl ?_); refine YO (some 9) rfl rfl Tryd.func24 Z4 rfl #[.agg #[.int .i64 a0_0, .string a0_1, .slice A0_2 l0_2.length c0_2, .slice A0_3 l0_3.length c0_3]] rfl Z0 ?_; (with_reducible refine ((ih k (by omega)).1 a0_0 a0_1 _ _ l0_2 _ _ l0_3 t121 _ ?side1 ?side2 ?side3 ?side4 A7.out).mono ?_); (case side1 => exact Zc); (case side2 => exact Z1P); (case side3 => exact Zd); (case side4 => exact Z24); rintro e w12 ⟨rfl, hb⟩; refine ⟨_, rfl, ?_⟩; have n_ := Y2d (Yt (g := gb119) (o := .cells #[.int .i64 a0_0, .string a0_1, .slice A0_2 l0_2.length c0_2, .slice A0_3 l0_3.length c0_3] 37 (0, 0)) QQ hb) (Y8 QB hb); clear BK119 HB; obtain ⟨BK119, HB⟩ := n_; (try clear hb); (try clear hb2); (try clear hk); (try clear hi)))
    go_ret
    exact Z2r
   ·rw [if_neg c9] at H
    exact Zn
  ·rw [if_neg c8] at H
   exact Zn
theorem YK.joint : ∀ k, YK.Spec k ∧ YL.Spec k := by
 intro k
 induction k using Nat.strongRecOn with
 | _ k ih => exact ⟨YK.step k ih, YL.step k ih⟩
theorem YK.calls (k : Nat) : YK.Spec k := (YK.joint k).1
def YV.f (k : Nat)  : Option (Bool) := (YI.f k (⟨#[60, 97, 62, 47, 60, 98, 62, 124, 60, 99, 62, 42]⟩ : ByteArray)).bind fun bt101 => (if bt101.2.2.2.2.2 = 0 then (if bt101.2.2.2.2.1 = 12 then (if bt101.1 = 4 then ((YK.f k bt101.1 bt101.2.1 bt101.2.2.1 bt101.2.2.2.1).bind fun t112 => (if t112.toList = ([40, 60, 97, 62, 47, 60, 98, 62, 41, 124, 40, 60, 99, 62, 42, 41] : List UInt8) then ((Y1f.f k bt101.1 bt101.2.1 bt101.2.2.1 bt101.2.2.2.1).bind fun t113 => (some t113)) else (some false))) else (some false)) else (some false)) else (some false))
theorem YV.mono : ∀ k, LeO (YV.f k ) (YV.f (k + 1) ) := by
 intro  k
 unfold YV.f
 exact QM
set_option maxHeartbeats 8000000 in
set_option maxRecDepth 100000 in
theorem YV.calls (k : Nat)  (r : Bool) (w : World) (hT : Tabs w) (h : YV.f k  = some r) :
  Calls Tryd.prog 27 #[] w fun e w' => e = .returned (.bool r) ∧ Below w.heap.size w w' := by
 have HT := Y0.mk hT
 clear hT
 have hu37 := Tryd.underlying37
 have HB := Y0.mk (Below.refl w.heap.size w)
 have H : ((YI.f k (⟨#[60, 97, 62, 47, 60, 98, 62, 124, 60, 99, 62, 42]⟩ : ByteArray)).bind fun bt101 => (if bt101.2.2.2.2.2 = 0 then (if bt101.2.2.2.2.1 = 12 then (if bt101.1 = 4 then ((YK.f k bt101.1 bt101.2.1 bt101.2.2.1 bt101.2.2.2.1).bind fun t112 => (if t112.toList = ([40, 60, 97, 62, 47, 60, 98, 62, 41, 124, 40, 60, 99, 62, 42, 41] : List UInt8) then ((Y1f.f k bt101.1 bt101.2.1 bt101.2.2.1 bt101.2.2.2.1).bind fun t113 => (some t113)) else (some false))) else (some false)) else (some false)) else (some false))) = some r := h
 clear h
 replace H := Option.bind_eq_some_iff.mp H
 obtain ⟨⟨t101, t102, t103, t106, t109, t110⟩, A10, H⟩ := H
 replace H : (if t110 = 0 then (if t109 = 12 then (if t101 = 4 then ((YK.f k t101 t102 t103 t106).bind fun t112 => (if t112.toList = ([40, 60, 97, 62, 47, 60, 98, 62, 41, 124, 40, 60, 99, 62, 42, 41] : List UInt8) then ((Y1f.f k t101 t102 t103 t106).bind fun t113 => (some t113)) else (some false))) else (some false)) else (some false)) else (some false)) = some r := H
 have A1 := Y0.mk A10
 clear A10
 by_cases c2 : t110 = 0
 ·rw [if_pos c2] at H
  have c2b0 : (t110 == 0) = true := beq_iff_eq.mpr c2
  have c2b1 : (t110 != 0) = false := bne_eq_false_iff_eq.mpr c2
  clear c2
  by_cases c3 : t109 = 12
  ·rw [if_pos c3] at H
   have c3b0 : (t109 == 12) = true := beq_iff_eq.mpr c3
   have c3b1 : (t109 != 12) = false := bne_eq_false_iff_eq.mpr c3
   clear c3
   by_cases c4 : t101 = 4
   ·rw [if_pos c4] at H
    have c4b0 : (t101 == 4) = true := beq_iff_eq.mpr c4
    have c4b1 : (t101 != 4) = false := bne_eq_false_iff_eq.mpr c4
    clear c4
    replace H := Option.bind_eq_some_iff.mp H
    obtain ⟨t112, A50, H⟩ := H
    replace H : (if t112.toList = ([40, 60, 97, 62, 47, 60, 98, 62, 41, 124, 40, 60, 99, 62, 42, 41] : List UInt8) then ((Y1f.f k t101 t102 t103 t106).bind fun t113 => (some t113)) else (some false)) = some r := H
    have A5 := Y0.mk A50
    clear A50
    by_cases c6 : t112.toList = ([40, 60, 97, 62, 47, 60, 98, 62, 41, 124, 40, 60, 99, 62, 42, 41] : List UInt8)
    ·rw [if_pos c6] at H
     have c6b0 : (t112.toList == ([40, 60, 97, 62, 47, 60, 98, 62, 41, 124, 40, 60, 99, 62, 42, 41] : List UInt8)) = true := beq_iff_eq.mpr c6
     have c6b1 : (t112.toList != ([40, 60, 97, 62, 47, 60, 98, 62, 41, 124, 40, 60, 99, 62, 42, 41] : List UInt8)) = false := bne_eq_false_iff_eq.mpr c6
     clear c6
     replace H := Option.bind_eq_some_iff.mp H
     obtain ⟨t113, A70, H⟩ := H
     replace H : (some t113) = some r := H
     have A7 := Y0.mk A70
     clear A70
     obtain rfl := Option.some.inj H
     go_enter Tryd.func27, Tryd.ntmps27
     go_wp2_with (first | ((with_reducible refine Yl (f := 25) rfl ?_); refine YO (some 5) rfl rfl Tryd.func25 Z4 rfl #[.string (⟨#[60, 97, 62, 47, 60, 98, 62, 124, 60, 99, 62, 42]⟩ : ByteArray)] rfl Z0 ?_; (with_reducible refine (YI.calls k (⟨#[60, 97, 62, 47, 60, 98, 62, 124, 60, 99, 62, 42]⟩ : ByteArray) t101 t102 t103 t106 t109 t110 _ ?side1 A1.out).mono ?_); (case side1 => exact ZB); rintro e w8 ⟨v104, v107, rfl, ho0, ho1, hb⟩; refine ⟨_, rfl, ?_⟩; have n_ := Y38 (Kd.R_lower (Kd.R_mono (ok' := fun k_ => True) ho0 (fun _ hk_ => trivial)) (Yf QB)) (Kd.N_lower (Kd.N_mono (ok' := fun k_ => some k_ ≠ (v104 : Value).ownBlock) ho1 (fun k_ hk_ => hk_.2)) (Yf QB)) (Y8 QB hb); clear HB; obtain ⟨HO105, HO108, HB⟩ := n_; (try clear hb); (try clear hb2); (try clear hk); (try clear hi); (try clear ho0); (try clear ho1)) | ((with_reducible refine YF (N := 1) rfl ?_); refine YD ?hg (N := 1) ?hd (cs := #[.int .i64 0, .string (⟨#[]⟩ : ByteArray), .slice none 0 0, .slice none 0 0]) (t := 37) ?hr ?_; (case hd => rfl); (case hg => rfl); (case hr => exact Zb); intro gb111 hg w9 hbox hb; have n_ := Y3t (Kd.R_below ZS hb) (Kd.N_below (Kd.N_elderB ZQ gb111 (Nat.le_of_eq hg.symm)) hb) (Y8 QB hb) (hbox) ((by rw [hg]; exact (Yf QB) : w.heap.size ≤ gb111)) ((by rw [hg]; exact (Yf QB) : w.heap.size ≤ gb111)); clear HO105 HO108 HB; obtain ⟨HO105, HO108, HB, BK111, GW111, GE111⟩ := n_; clear hb hbox hg; obtain ⟨hcz10_0, hcz10_1, hcz10_2, hcz10_3, hfz10_0, hfz10_1, hfz10_2, hfz10_3⟩ := YA BK111.out; obtain ⟨Ao11, co11, eo11⟩ := Kd.R_slice HO105.out; subst eo11; obtain ⟨Ao12, co12, eo12⟩ := Kd.N_slice HO108.out; subst eo12) | (go_at_call 24; (with_reducible refine (YK.calls k t101 t102 _ _ t103 _ _ t106 t112 _ ?side1 ?side2 ?side3 ?side4 A5.out).mono ?_); (case side1 => refine (Kd.R_reads' (e := 9) (base := w.heap.size) (ok := fun k_ => True) (n := t103.length) (c := co11) ?_).2.2; exact Z15); (case side2 => exact (Kd.R_reads' HO105.out).2.1); (case side3 => refine (Kd.N_reads' (e := 37) (base := w.heap.size) (ok := fun k_ => (some k_ ≠ (.slice Ao11 t103.length co11 : Value).ownBlock ∧ k_ ≠ gb111)) (n := t106.length) (c := co12) ?_).2.2; exact ZW); (case side4 => exact (Kd.N_reads' HO108.out).2.1); rintro e w13 ⟨rfl, hb⟩; have n0_ := Y0.mk (Kd.R_below Z15 hb); have n1_ := Y0.mk (Kd.N_below ZW hb); have n2_ := Y0.mk (Yt (g := gb111) (o := .cells #[.int .i64 t101, .string t102, .slice Ao11 t103.length co11, .slice Ao12 t106.length co12] 37 (0, 0)) (by (with_reducible repeat (first | refine Yh ?_ _ | refine Yb ?_ | refine Yd ?_ _)); exact YE (cs := #[.int .i64 t101, .string t102, .slice Ao11 t103.length co11, .slice none 0 0]) Z2o 3 _ rfl) hb); have n3_ := Y0.mk (Y8 QB hb); clear HO105 HO108 BK111 HB; have HO105 := n0_; have HO108 := n1_; have BK111 := n2_; have HB := n3_; clear n0_ n1_ n2_ n3_; (try clear hb); (try clear hb2); (try clear hk); (try clear hi); obtain ⟨hcz14_0, hcz14_1, hcz14_2, hcz14_3, hfz14_0, hfz14_1, hfz14_2, hfz14_3⟩ := YA BK111.out) | (go_at_call 31; (with_reducible refine (Y1f.calls k t101 t102 _ _ t103 _ _ t106 t113 _ ?side1 ?side2 ?side3 ?side4 ?side5 A7.out).mono ?_); (case side1 => exact Z3); (case side2 => repeat (first | exact (Kd.R_reads' HO105.out).2.2 | (with_reducible refine Kd.C_alloc ?_ _) | (with_reducible refine Kd.C_drewN ?_ _) | (with_reducible refine Kd.C_drew ?_))); (case side3 => exact (Kd.R_reads' HO105.out).2.1); (case side4 => repeat (first | exact (Kd.N_reads' HO108.out).2.2 | (with_reducible refine Kd.C_alloc ?_ _) | (with_reducible refine Kd.C_drewN ?_ _) | (with_reducible refine Kd.C_drew ?_))); (case side5 => exact (Kd.N_reads' HO108.out).2.1); rintro e w15 ⟨rfl, hb⟩; have n_ := Y2N (Kd.R_below ZS hb) (Kd.N_below ZQ hb) (Yt (g := gb111) (o := .cells #[.int .i64 t101, .string t102, .slice Ao11 t103.length co11, .slice Ao12 t106.length co12] 37 (0, 0)) QQ hb) (Y8 QB hb); clear HO105 HO108 BK111 HB; obtain ⟨HO105, HO108, BK111, HB⟩ := n_; (try clear hb); (try clear hb2); (try clear hk); (try clear hi)))
     go_ret
     exact Z2r
    ·rw [if_neg c6] at H
     have c6b0 : (t112.toList == ([40, 60, 97, 62, 47, 60, 98, 62, 41, 124, 40, 60, 99, 62, 42, 41] : List UInt8)) = false := beq_eq_false_iff_ne.mpr c6
     have c6b1 : (t112.toList != ([40, 60, 97, 62, 47, 60, 98, 62, 41, 124, 40, 60, 99, 62, 42, 41] : List UInt8)) = true := bne_iff_ne.mpr c6
     obtain rfl := Option.some.inj H
     go_enter Tryd.func27, Tryd.ntmps27
     go_wp2_with (first | ((with_reducible refine Yl (f := 25) rfl ?_); refine YO (some 5) rfl rfl Tryd.func25 Z4 rfl #[.string (⟨#[60, 97, 62, 47, 60, 98, 62, 124, 60, 99, 62, 42]⟩ : ByteArray)] rfl Z0 ?_; (with_reducible refine (YI.calls k (⟨#[60, 97, 62, 47, 60, 98, 62, 124, 60, 99, 62, 42]⟩ : ByteArray) t101 t102 t103 t106 t109 t110 _ ?side1 A1.out).mono ?_); (case side1 => exact ZB); rintro e w16 ⟨v104, v107, rfl, ho0, ho1, hb⟩; refine ⟨_, rfl, ?_⟩; have n_ := Y38 (Kd.R_lower (Kd.R_mono (ok' := fun k_ => True) ho0 (fun _ hk_ => trivial)) (Yf QB)) (Kd.N_lower (Kd.N_mono (ok' := fun k_ => some k_ ≠ (v104 : Value).ownBlock) ho1 (fun k_ hk_ => hk_.2)) (Yf QB)) (Y8 QB hb); clear HB; obtain ⟨HO105, HO108, HB⟩ := n_; (try clear hb); (try clear hb2); (try clear hk); (try clear hi); (try clear ho0); (try clear ho1)) | ((with_reducible refine YF (N := 1) rfl ?_); refine YD ?hg (N := 1) ?hd (cs := #[.int .i64 0, .string (⟨#[]⟩ : ByteArray), .slice none 0 0, .slice none 0 0]) (t := 37) ?hr ?_; (case hd => rfl); (case hg => rfl); (case hr => exact Zb); intro gb111 hg w17 hbox hb; have n_ := Y3t (Kd.R_below ZS hb) (Kd.N_below (Kd.N_elderB ZQ gb111 (Nat.le_of_eq hg.symm)) hb) (Y8 QB hb) (hbox) ((by rw [hg]; exact (Yf QB) : w.heap.size ≤ gb111)) ((by rw [hg]; exact (Yf QB) : w.heap.size ≤ gb111)); clear HO105 HO108 HB; obtain ⟨HO105, HO108, HB, BK111, GW111, GE111⟩ := n_; clear hb hbox hg; obtain ⟨hcz18_0, hcz18_1, hcz18_2, hcz18_3, hfz18_0, hfz18_1, hfz18_2, hfz18_3⟩ := YA BK111.out; obtain ⟨Ao19, co19, eo19⟩ := Kd.R_slice HO105.out; subst eo19; obtain ⟨Ao20, co20, eo20⟩ := Kd.N_slice HO108.out; subst eo20) | (go_at_call 24; (with_reducible refine (YK.calls k t101 t102 _ _ t103 _ _ t106 t112 _ ?side1 ?side2 ?side3 ?side4 A5.out).mono ?_); (case side1 => refine (Kd.R_reads' (e := 9) (base := w.heap.size) (ok := fun k_ => True) (n := t103.length) (c := co19) ?_).2.2; exact Z16); (case side2 => exact (Kd.R_reads' HO105.out).2.1); (case side3 => refine (Kd.N_reads' (e := 37) (base := w.heap.size) (ok := fun k_ => (some k_ ≠ (.slice Ao19 t103.length co19 : Value).ownBlock ∧ k_ ≠ gb111)) (n := t106.length) (c := co20) ?_).2.2; exact ZX); (case side4 => exact (Kd.N_reads' HO108.out).2.1); rintro e w21 ⟨rfl, hb⟩; have n0_ := Y0.mk (Kd.R_below Z16 hb); have n1_ := Y0.mk (Kd.N_below ZX hb); have n2_ := Y0.mk (Yt (g := gb111) (o := .cells #[.int .i64 t101, .string t102, .slice Ao19 t103.length co19, .slice Ao20 t106.length co20] 37 (0, 0)) (by (with_reducible repeat (first | refine Yh ?_ _ | refine Yb ?_ | refine Yd ?_ _)); exact YE (cs := #[.int .i64 t101, .string t102, .slice Ao19 t103.length co19, .slice none 0 0]) Z2o 3 _ rfl) hb); have n3_ := Y0.mk (Y8 QB hb); clear HO105 HO108 BK111 HB; have HO105 := n0_; have HO108 := n1_; have BK111 := n2_; have HB := n3_; clear n0_ n1_ n2_ n3_; (try clear hb); (try clear hb2); (try clear hk); (try clear hi)))
     go_ret
     exact Z2r
   ·rw [if_neg c4] at H
    have c4b0 : (t101 == 4) = false := beq_eq_false_iff_ne.mpr c4
    have c4b1 : (t101 != 4) = true := bne_iff_ne.mpr c4
    obtain rfl := Option.some.inj H
    go_enter Tryd.func27, Tryd.ntmps27
    go_wp2_with (first | ((with_reducible refine Yl (f := 25) rfl ?_); refine YO (some 5) rfl rfl Tryd.func25 Z4 rfl #[.string (⟨#[60, 97, 62, 47, 60, 98, 62, 124, 60, 99, 62, 42]⟩ : ByteArray)] rfl Z0 ?_; (with_reducible refine (YI.calls k (⟨#[60, 97, 62, 47, 60, 98, 62, 124, 60, 99, 62, 42]⟩ : ByteArray) t101 t102 t103 t106 t109 t110 _ ?side1 A1.out).mono ?_); (case side1 => exact ZB); rintro e w22 ⟨v104, v107, rfl, ho0, ho1, hb⟩; refine ⟨_, rfl, ?_⟩; have n_ := Y38 (Kd.R_lower (Kd.R_mono (ok' := fun k_ => True) ho0 (fun _ hk_ => trivial)) (Yf QB)) (Kd.N_lower (Kd.N_mono (ok' := fun k_ => some k_ ≠ (v104 : Value).ownBlock) ho1 (fun k_ hk_ => hk_.2)) (Yf QB)) (Y8 QB hb); clear HB; obtain ⟨HO105, HO108, HB⟩ := n_; (try clear hb); (try clear hb2); (try clear hk); (try clear hi); (try clear ho0); (try clear ho1)) | ((with_reducible refine YF (N := 1) rfl ?_); refine YD ?hg (N := 1) ?hd (cs := #[.int .i64 0, .string (⟨#[]⟩ : ByteArray), .slice none 0 0, .slice none 0 0]) (t := 37) ?hr ?_; (case hd => rfl); (case hg => rfl); (case hr => exact Zb); intro gb111 hg w23 hbox hb; have n_ := Y3t (Kd.R_below ZS hb) (Kd.N_below (Kd.N_elderB ZQ gb111 (Nat.le_of_eq hg.symm)) hb) (Y8 QB hb) (hbox) ((by rw [hg]; exact (Yf QB) : w.heap.size ≤ gb111)) ((by rw [hg]; exact (Yf QB) : w.heap.size ≤ gb111)); clear HO105 HO108 HB; obtain ⟨HO105, HO108, HB, BK111, GW111, GE111⟩ := n_; clear hb hbox hg; obtain ⟨hcz24_0, hcz24_1, hcz24_2, hcz24_3, hfz24_0, hfz24_1, hfz24_2, hfz24_3⟩ := YA BK111.out; obtain ⟨Ao25, co25, eo25⟩ := Kd.R_slice HO105.out; subst eo25; obtain ⟨Ao26, co26, eo26⟩ := Kd.N_slice HO108.out; subst eo26))
    go_ret
    exact Z2r
  ·rw [if_neg c3] at H
   have c3b0 : (t109 == 12) = false := beq_eq_false_iff_ne.mpr c3
   have c3b1 : (t109 != 12) = true := bne_iff_ne.mpr c3
   obtain rfl := Option.some.inj H
   go_enter Tryd.func27, Tryd.ntmps27
   go_wp2_with (first | ((with_reducible refine Yl (f := 25) rfl ?_); refine YO (some 5) rfl rfl Tryd.func25 Z4 rfl #[.string (⟨#[60, 97, 62, 47, 60, 98, 62, 124, 60, 99, 62, 42]⟩ : ByteArray)] rfl Z0 ?_; (with_reducible refine (YI.calls k (⟨#[60, 97, 62, 47, 60, 98, 62, 124, 60, 99, 62, 42]⟩ : ByteArray) t101 t102 t103 t106 t109 t110 _ ?side1 A1.out).mono ?_); (case side1 => exact ZB); rintro e w27 ⟨v104, v107, rfl, ho0, ho1, hb⟩; refine ⟨_, rfl, ?_⟩; have n_ := Y38 (Kd.R_lower (Kd.R_mono (ok' := fun k_ => True) ho0 (fun _ hk_ => trivial)) (Yf QB)) (Kd.N_lower (Kd.N_mono (ok' := fun k_ => some k_ ≠ (v104 : Value).ownBlock) ho1 (fun k_ hk_ => hk_.2)) (Yf QB)) (Y8 QB hb); clear HB; obtain ⟨HO105, HO108, HB⟩ := n_; (try clear hb); (try clear hb2); (try clear hk); (try clear hi); (try clear ho0); (try clear ho1)) | ((with_reducible refine YF (N := 1) rfl ?_); refine YD ?hg (N := 1) ?hd (cs := #[.int .i64 0, .string (⟨#[]⟩ : ByteArray), .slice none 0 0, .slice none 0 0]) (t := 37) ?hr ?_; (case hd => rfl); (case hg => rfl); (case hr => exact Zb); intro gb111 hg w28 hbox hb; have n_ := Y3t (Kd.R_below ZS hb) (Kd.N_below (Kd.N_elderB ZQ gb111 (Nat.le_of_eq hg.symm)) hb) (Y8 QB hb) (hbox) ((by rw [hg]; exact (Yf QB) : w.heap.size ≤ gb111)) ((by rw [hg]; exact (Yf QB) : w.heap.size ≤ gb111)); clear HO105 HO108 HB; obtain ⟨HO105, HO108, HB, BK111, GW111, GE111⟩ := n_; clear hb hbox hg; obtain ⟨hcz29_0, hcz29_1, hcz29_2, hcz29_3, hfz29_0, hfz29_1, hfz29_2, hfz29_3⟩ := YA BK111.out; obtain ⟨Ao30, co30, eo30⟩ := Kd.R_slice HO105.out; subst eo30; obtain ⟨Ao31, co31, eo31⟩ := Kd.N_slice HO108.out; subst eo31))
   go_ret
   exact Z2r
 ·rw [if_neg c2] at H
  have c2b0 : (t110 == 0) = false := beq_eq_false_iff_ne.mpr c2
  have c2b1 : (t110 != 0) = true := bne_iff_ne.mpr c2
  obtain rfl := Option.some.inj H
  go_enter Tryd.func27, Tryd.ntmps27
  go_wp2_with (first | ((with_reducible refine Yl (f := 25) rfl ?_); refine YO (some 5) rfl rfl Tryd.func25 Z4 rfl #[.string (⟨#[60, 97, 62, 47, 60, 98, 62, 124, 60, 99, 62, 42]⟩ : ByteArray)] rfl Z0 ?_; (with_reducible refine (YI.calls k (⟨#[60, 97, 62, 47, 60, 98, 62, 124, 60, 99, 62, 42]⟩ : ByteArray) t101 t102 t103 t106 t109 t110 _ ?side1 A1.out).mono ?_); (case side1 => exact ZB); rintro e w32 ⟨v104, v107, rfl, ho0, ho1, hb⟩; refine ⟨_, rfl, ?_⟩; have n_ := Y38 (Kd.R_lower (Kd.R_mono (ok' := fun k_ => True) ho0 (fun _ hk_ => trivial)) (Yf QB)) (Kd.N_lower (Kd.N_mono (ok' := fun k_ => some k_ ≠ (v104 : Value).ownBlock) ho1 (fun k_ hk_ => hk_.2)) (Yf QB)) (Y8 QB hb); clear HB; obtain ⟨HO105, HO108, HB⟩ := n_; (try clear hb); (try clear hb2); (try clear hk); (try clear hi); (try clear ho0); (try clear ho1)) | ((with_reducible refine YF (N := 1) rfl ?_); refine YD ?hg (N := 1) ?hd (cs := #[.int .i64 0, .string (⟨#[]⟩ : ByteArray), .slice none 0 0, .slice none 0 0]) (t := 37) ?hr ?_; (case hd => rfl); (case hg => rfl); (case hr => exact Zb); intro gb111 hg w33 hbox hb; have n_ := Y3t (Kd.R_below ZS hb) (Kd.N_below (Kd.N_elderB ZQ gb111 (Nat.le_of_eq hg.symm)) hb) (Y8 QB hb) (hbox) ((by rw [hg]; exact (Yf QB) : w.heap.size ≤ gb111)) ((by rw [hg]; exact (Yf QB) : w.heap.size ≤ gb111)); clear HO105 HO108 HB; obtain ⟨HO105, HO108, HB, BK111, GW111, GE111⟩ := n_; clear hb hbox hg; obtain ⟨hcz34_0, hcz34_1, hcz34_2, hcz34_3, hfz34_0, hfz34_1, hfz34_2, hfz34_3⟩ := YA BK111.out; obtain ⟨Ao35, co35, eo35⟩ := Kd.R_slice HO105.out; subst eo35; obtain ⟨Ao36, co36, eo36⟩ := Kd.N_slice HO108.out; subst eo36))
  go_ret
  exact Z2r
mutual
def Yr.j0 : Nat → Int → Bool → Option (Int)
 | 0, _, _ => none
 | k + 1, x3, x4 => if x4 = true then (some 0) else (if x3 = 3 then (Yr.j1 k x3 (x3 == 3)) else (Yr.j1 k x3 (x3 == 4)))
def Yr.j1 : Nat → Int → Bool → Option (Int)
 | 0, _, _ => none
 | k + 1, x3, x7 => if x7 = true then (some 2) else (if x3 = 2 then (some 1) else (if x3 = 5 then (some 1) else (if x3 = 6 then (some 1) else (if x3 = 7 then (some 1) else (some (-1))))))
end
def Yr.f (k : Nat) (a0 : Int) : Option (Int) := if a0 = 1 then (Yr.j0 k a0 (a0 == 1)) else (Yr.j0 k a0 (a0 == 8))
theorem Yr.mono_l : ∀ k, (∀ y0 y1, LeO (Yr.j0 k y0 y1) (Yr.j0 (k + 1) y0 y1)) ∧ (∀ y0 y1, LeO (Yr.j1 k y0 y1) (Yr.j1 (k + 1) y0 y1))
 | 0 => ⟨fun _ _ r h => by simp [Yr.j0] at h, fun _ _ r h => by simp [Yr.j1] at h⟩
 | k + 1 => by
  obtain ⟨ih0, ih1⟩ := Yr.mono_l k
  refine ⟨?_, ?_⟩
  ·intro y0 y1
   unfold Yr.j0
   exact QM
  ·intro y0 y1
   unfold Yr.j1
   exact QM
theorem Yr.mono : ∀ a0 k, LeO (Yr.f k a0) (Yr.f (k + 1) a0) := by
 intro a0 k
 obtain ⟨ih0, ih1⟩ := Yr.mono_l k
 unfold Yr.f
 exact QM
set_option maxHeartbeats 8000000 in
set_option maxRecDepth 100000 in
theorem Yr.calls (k : Nat) (a0 : Int) (r : Int) (w : World) (h : Yr.f k a0 = some r) :
  Calls Tryd.prog 92 #[.int .i64 a0] w fun e w' => e = .returned (.int .i64 r) ∧ Y2v w w' := by
 have H : (if a0 = 1 then (Yr.j0 k a0 (a0 == 1)) else (Yr.j0 k a0 (a0 == 8))) = some r := h
 clear h
 have HC2 := Y0.mk H
 clear H
 go_enter Tryd.func92, Tryd.ntmps92
 go_upto_if 4 with (fail)
 go_cut [4] (fun v4 wc => ∃ (kq : Nat) (x4_1 : Bool), v4 = .bool x4_1 ∧ Y0 (Yr.j0 kq a0 x4_1 = some r) ∧ Y0 (kq ≤ k) ∧ Y2v w wc)
 case first =>
  have H := HC2.out
  clear HC2
  by_cases c3 : a0 = 1
  ·rw [if_pos c3] at H
   have c3b0 : (a0 == 1) = true := beq_iff_eq.mpr c3
   have c3b1 : (a0 != 1) = false := bne_eq_false_iff_eq.mpr c3
   clear c3
   (first | rw [c3b0] | (simp only [Y16, Y17]; rw [c3b0]) | skip)
   have H' := Y0.mk H
   clear H
   go_wp2
   go_meet
   case rel => exact ⟨_, ((a0 == 1)), Z8, H', ⟨Zr⟩, Zk⟩
  ·rw [if_neg c3] at H
   have c3b0 : (a0 == 1) = false := beq_eq_false_iff_ne.mpr c3
   have c3b1 : (a0 != 1) = true := bne_iff_ne.mpr c3
   (first | rw [c3b0] | (simp only [Y16, Y17]; rw [c3b0]) | skip)
   have H' := Y0.mk H
   clear H
   go_wp2
   go_meet
   case rel => exact ⟨_, ((a0 == 8)), Z8, H', ⟨Zr⟩, Zk⟩
 case rest =>
  clear HC2
  try clear p2
  try clear c3
  try clear c3b0
  try clear c3b1
  obtain ⟨kq, x4_1, rfl, HA, HJ1, ⟨mc1, rfl⟩⟩ := hcut
  cases kq with
  | zero => exact absurd HA.out (by simp [Yr.j0])
  | succ kj1 =>
   have H := HA.out
   clear HA
   simp only [Yr.j0] at H
   by_cases c4 : x4_1 = true
   ·subst c4
    have H1 : (some 0) = some r := by rw [if_pos rfl] at H; exact H
    clear H
    have H := H1
    clear H1
    obtain rfl := Option.some.inj H
    go_wp2
    go_ret
    exact ⟨Z8, Zk⟩
   ·replace c4 := Bool.eq_false_iff.mpr c4
    subst c4
    have H1 : (if a0 = 3 then (Yr.j1 kj1 a0 (a0 == 3)) else (Yr.j1 kj1 a0 (a0 == 4))) = some r := by rw [if_neg (show ¬ (false = true) by decide)] at H; exact H
    clear H
    have H := H1
    clear H1
    have HC5 := Y0.mk H
    clear H
    go_upto_if 7 with (fail)
    go_cut [7] (fun v7 wc => ∃ (kq : Nat) (x7_4 : Bool), v7 = .bool x7_4 ∧ Y0 (Yr.j1 kq a0 x7_4 = some r) ∧ Y0 (kq ≤ kj1) ∧ Y2v w wc)
    case first =>
     have H := HC5.out
     clear HC5
     by_cases c6 : a0 = 3
     ·rw [if_pos c6] at H
      have c6b0 : (a0 == 3) = true := beq_iff_eq.mpr c6
      have c6b1 : (a0 != 3) = false := bne_eq_false_iff_eq.mpr c6
      clear c6
      (first | rw [c6b0] | (simp only [Y16, Y17]; rw [c6b0]) | skip)
      have H' := Y0.mk H
      clear H
      go_wp2
      go_meet
      case rel => exact ⟨_, ((a0 == 3)), Z8, H', ⟨Z1j⟩, Zk⟩
     ·rw [if_neg c6] at H
      have c6b0 : (a0 == 3) = false := beq_eq_false_iff_ne.mpr c6
      have c6b1 : (a0 != 3) = true := bne_iff_ne.mpr c6
      (first | rw [c6b0] | (simp only [Y16, Y17]; rw [c6b0]) | skip)
      have H' := Y0.mk H
      clear H
      go_wp2
      go_meet
      case rel => exact ⟨_, ((a0 == 4)), Z8, H', ⟨Z1j⟩, Zk⟩
    case rest =>
     clear HC5
     try clear c1
     try clear p2
     try clear c3
     try clear c3b0
     try clear c3b1
     try clear c4
     try clear c6
     try clear c6b0
     try clear c6b1
     try clear p2
     obtain ⟨kq, x7_4, rfl, HA, HJ4, ⟨mc4, rfl⟩⟩ := hcut
     cases kq with
     | zero => exact absurd HA.out (by simp [Yr.j1])
     | succ kj4 =>
      have H := HA.out
      clear HA
      simp only [Yr.j1] at H
      by_cases c7 : x7_4 = true
      ·subst c7
       have H1 : (some 2) = some r := by rw [if_pos rfl] at H; exact H
       clear H
       have H := H1
       clear H1
       obtain rfl := Option.some.inj H
       go_wp2
       go_ret
       exact ⟨Z8, Zk⟩
      ·replace c7 := Bool.eq_false_iff.mpr c7
       subst c7
       have H1 : (if a0 = 2 then (some 1) else (if a0 = 5 then (some 1) else (if a0 = 6 then (some 1) else (if a0 = 7 then (some 1) else (some (-1)))))) = some r := by rw [if_neg (show ¬ (false = true) by decide)] at H; exact H
       clear H
       have H := H1
       clear H1
       by_cases c8 : a0 = 2
       ·rw [if_pos c8] at H
        have c8b0 : (a0 == 2) = true := beq_iff_eq.mpr c8
        have c8b1 : (a0 != 2) = false := bne_eq_false_iff_eq.mpr c8
        clear c8
        obtain rfl := Option.some.inj H
        go_wp2
        go_ret
        exact ⟨Z8, Zk⟩
       ·rw [if_neg c8] at H
        have c8b0 : (a0 == 2) = false := beq_eq_false_iff_ne.mpr c8
        have c8b1 : (a0 != 2) = true := bne_iff_ne.mpr c8
        by_cases c9 : a0 = 5
        ·rw [if_pos c9] at H
         have c9b0 : (a0 == 5) = true := beq_iff_eq.mpr c9
         have c9b1 : (a0 != 5) = false := bne_eq_false_iff_eq.mpr c9
         clear c9
         obtain rfl := Option.some.inj H
         go_wp2
         go_ret
         exact ⟨Z8, Zk⟩
        ·rw [if_neg c9] at H
         have c9b0 : (a0 == 5) = false := beq_eq_false_iff_ne.mpr c9
         have c9b1 : (a0 != 5) = true := bne_iff_ne.mpr c9
         by_cases c10 : a0 = 6
         ·rw [if_pos c10] at H
          have c10b0 : (a0 == 6) = true := beq_iff_eq.mpr c10
          have c10b1 : (a0 != 6) = false := bne_eq_false_iff_eq.mpr c10
          clear c10
          obtain rfl := Option.some.inj H
          go_wp2
          go_ret
          exact ⟨Z8, Zk⟩
         ·rw [if_neg c10] at H
          have c10b0 : (a0 == 6) = false := beq_eq_false_iff_ne.mpr c10
          have c10b1 : (a0 != 6) = true := bne_iff_ne.mpr c10
          by_cases c11 : a0 = 7
          ·rw [if_pos c11] at H
           have c11b0 : (a0 == 7) = true := beq_iff_eq.mpr c11
           have c11b1 : (a0 != 7) = false := bne_eq_false_iff_eq.mpr c11
           clear c11
           obtain rfl := Option.some.inj H
           go_wp2
           go_ret
           exact ⟨Z8, Zk⟩
          ·rw [if_neg c11] at H
           have c11b0 : (a0 == 7) = false := beq_eq_false_iff_ne.mpr c11
           have c11b1 : (a0 != 7) = true := bne_iff_ne.mpr c11
           obtain rfl := Option.some.inj H
           go_wp2
           go_ret
           exact ⟨Z8, Zk⟩
mutual
def Y5.j0 : Nat → Int → Bool → Int → ByteArray → List ByteArray → List (S37) → Option (Int)
 | 0, _, _, _, _, _, _ => none
 | k + 1, x1, x40, x102000, x102001, x102002, x102003 => if x40 = true then (some (-1)) else (if x102000 = 1 then ((YU.f x102001).bind fun t103 => (if t103 = true then (if x102000 = 8 then (if (x102002.length : Int) < 1 then (Y5.j1 k x1 true x102000 x102001 x102002 x102003) else (Y5.j1 k x1 (decide ((x102002.length : Int) > 4)) x102000 x102001 x102002 x102003)) else (Y5.j1 k x1 false x102000 x102001 x102002 x102003)) else (Y5.j1 k x1 true x102000 x102001 x102002 x102003))) else (if x102000 = 8 then (if (x102002.length : Int) < 1 then (Y5.j1 k x1 true x102000 x102001 x102002 x102003) else (Y5.j1 k x1 (decide ((x102002.length : Int) > 4)) x102000 x102001 x102002 x102003)) else (Y5.j1 k x1 false x102000 x102001 x102002 x102003)))
def Y5.j1 : Nat → Int → Bool → Int → ByteArray → List ByteArray → List (S37) → Option (Int)
 | 0, _, _, _, _, _, _ => none
 | k + 1, x1, x66, x102000, x102001, x102002, x102003 => if x66 = true then (some (-1)) else (Y5.l0 k x1 0 x102000 x102001 x102002 x102003)
def Y5.l0 : Nat → Int → Int → Int → ByteArray → List ByteArray → List (S37) → Option (Int)
 | 0, _, _, _, _, _, _ => none
 | k + 1, x1, x5, x102000, x102001, x102002, x102003 => if x5 < (x102002.length : Int) then (if 0 ≤ x5 then ((YU.f (Y39 ByteArray.empty x102002 x5)).bind fun t105 => (if t105 = true then (Y5.l0 k x1 (wrap64 (x5 + 1)) x102000 x102001 x102002 x102003) else (some (-1)))) else (none)) else (Y5.l1 k x1 1 0 x102000 x102001 x102002 x102003)
def Y5.l1 : Nat → Int → Int → Int → Int → ByteArray → List ByteArray → List (S37) → Option (Int)
 | 0, _, _, _, _, _, _, _ => none
 | k + 1, x1, x6, x7, x102000, x102001, x102002, x102003 => if x7 < (x102003.length : Int) then (if 0 ≤ x7 then ((Y5.f k ((Yc x102003 x7).f0) ((Yc x102003 x7).f1) ((Yc x102003 x7).f2) ((Yc x102003 x7).f3) (wrap64 (x1 + 1))).bind fun t107 => (if t107 < 0 then (some (-1)) else (Y5.l1 k x1 (wrap64 (x6 + t107)) (wrap64 (x7 + 1)) x102000 x102001 x102002 x102003))) else (none)) else (some x6)
def Y5.f : Nat → Int → ByteArray → List ByteArray → List (S37) → Int → Option (Int)
 | 0, _, _, _, _, _ => none
 | k + 1, a0_0, a0_1, l0_2, l0_3, a1 => (Yr.f k a0_0).bind fun t102 => (if t102 = (l0_3.length : Int) then (if a1 > 5 then (Y5.j0 k a1 true a0_0 a0_1 l0_2 l0_3) else (if a0_0 = 1 then (if a0_0 = 8 then (Y5.j0 k a1 false a0_0 a0_1 l0_2 l0_3) else (Y5.j0 k a1 (decide ((l0_2.length : Int) > 0)) a0_0 a0_1 l0_2 l0_3)) else (if a0_1.toList = ([] : List UInt8) then (if a0_0 = 8 then (Y5.j0 k a1 false a0_0 a0_1 l0_2 l0_3) else (Y5.j0 k a1 (decide ((l0_2.length : Int) > 0)) a0_0 a0_1 l0_2 l0_3)) else (Y5.j0 k a1 true a0_0 a0_1 l0_2 l0_3)))) else (Y5.j0 k a1 true a0_0 a0_1 l0_2 l0_3))
end
def Y5.T1 : Bool × List (List Nat × List Nat) := (true, [([], []), ([0], [0]), ([1], [1]), ([], []), ([3], [3]), ([4], [4]), ([2, 5], [2, 5]), ([6, 2], [6]), ([7], [7]), ([8, 7], [7, 8]), ([7, 9], [7, 9]), ([10, 7], [10]), ([11], [11]), ([12, 11], [11, 12]), ([13, 11], [11, 13]), ([14, 11, 11], [11, 14]), ([15], [15]), ([16, 15], [15, 16]), ([17, 15], [15, 17]), ([15, 18, 11], [11, 15, 18]), ([11, 19], [11, 19]), ([20, 15], [20]), ([21], [21]), ([22, 21], [21, 22]), ([23, 21], [21, 23]), ([24, 21, 21], [21, 24]), ([25], [25]), ([26, 25], [25, 26]), ([27, 25], [25, 27]), ([28, 25], [25, 28]), ([25, 29, 21], [21, 25, 29]), ([21, 30], [21, 30])])
def Y5.B1 : List Nat := [0, 1, 3, 0, 8, 24, 63, 127, 255, 511, 1023, 2047, 4095, 8191, 16383, 32767, 65535, 131071, 262143, 524287, 1048575, 2097151, 4194303, 8388607, 16777215, 33554431, 67108863, 134217727, 268435455, 536870911, 1073741823, 2147483647]
theorem Y5.tab1 : Y3x .any (Y3P Tryd.f49 1) = Y5.T1 := by kernel_rfl
theorem Y5.bits1 : Y1Y Y5.T1.2 Y5.B1 = true := by kernel_rfl
set_option maxHeartbeats 8000000 in
set_option maxRecDepth 100000 in
theorem Y5.calls (k : Nat) : ∀ (a0_0 : Int) (a0_1 : ByteArray) (A0_2 : Option Addr) (c0_2 : Nat) (l0_2 : List ByteArray) (A0_3 : Option Addr) (c0_3 : Nat) (l0_3 : List (S37)) (a1 : Int) (r : Int) (w : World) (hT : Tabs w) (hr0_2 : Kd.C Kd.string w A0_2 l0_2.length l0_2) (hc0_2 : l0_2.length ≤ c0_2) (hr0_3 : Kd.C k37 w A0_3 l0_3.length l0_3) (hc0_3 : l0_3.length ≤ c0_3) (h : Y5.f k a0_0 a0_1 l0_2 l0_3 a1 = some r),
  Calls Tryd.prog 49 #[.agg #[.int .i64 a0_0, .string a0_1, .slice A0_2 l0_2.length c0_2, .slice A0_3 l0_3.length c0_3], .int .i64 a1] w fun e w' => e = .returned (.int .i64 r) ∧ Below w.heap.size w w' := by
 induction k using Nat.strongRecOn with
 | _ k ih =>
 intro a0_0 a0_1 A0_2 c0_2 l0_2 A0_3 c0_3 l0_3 a1 r w hT hr0_2 hc0_2 hr0_3 hc0_3 h
 cases k with
 | zero => exact absurd h (by simp [Y5.f])
 | succ k =>
 simp only [Y5.f] at h
 have HT := Y0.mk hT
 clear hT
 have hu37 := Tryd.underlying37
 have HR0_2 := Y0.mk hr0_2
 have HC0_2 := Y0.mk hc0_2
 clear hr0_2 hc0_2
 have HR0_3 := Y0.mk hr0_3
 have HC0_3 := Y0.mk hc0_3
 clear hr0_3 hc0_3
 have HB := Y0.mk (Below.refl w.heap.size w)
 have H : ((Yr.f k a0_0).bind fun t102 => (if t102 = (l0_3.length : Int) then (if a1 > 5 then (Y5.j0 k a1 true a0_0 a0_1 l0_2 l0_3) else (if a0_0 = 1 then (if a0_0 = 8 then (Y5.j0 k a1 false a0_0 a0_1 l0_2 l0_3) else (Y5.j0 k a1 (decide ((l0_2.length : Int) > 0)) a0_0 a0_1 l0_2 l0_3)) else (if a0_1.toList = ([] : List UInt8) then (if a0_0 = 8 then (Y5.j0 k a1 false a0_0 a0_1 l0_2 l0_3) else (Y5.j0 k a1 (decide ((l0_2.length : Int) > 0)) a0_0 a0_1 l0_2 l0_3)) else (Y5.j0 k a1 true a0_0 a0_1 l0_2 l0_3)))) else (Y5.j0 k a1 true a0_0 a0_1 l0_2 l0_3))) = some r := h
 clear h
 have HC3 := Y0.mk H
 clear H
 go_enter Tryd.func49, Tryd.ntmps49
 go_upto_region 1 with (first | ((with_reducible refine YF (N := 2) rfl ?_); (try (refine YW (by rfl) ?_; dsimp only)); refine YD ?hg (N := 2) ?hd (cs := #[.int .i64 a0_0, .string a0_1, .slice A0_2 l0_2.length c0_2, .slice A0_3 l0_3.length c0_3]) (t := 37) ?hr ?_; (case hd => rfl); (case hg => rfl); (case hr => exact Zb); intro gb101 hg w4 hbox hb; have n_ := Y2N (Y8 QB hb) (hbox) ((by rw [hg]; exact (Yf QB) : w.heap.size ≤ gb101)) ((by rw [hg]; exact (Yf QB) : w.heap.size ≤ gb101)); clear HB; obtain ⟨HB, BK101, GW101, GE101⟩ := n_; clear hb hbox hg))
 (try simp only [Act.put, List.setIfInBounds_toArray, List.set_cons_zero, List.set_cons_succ])
 go_cut [40] (fun v40 wc => ∃ (kq : Nat) (x40_2 : Bool), v40 = .bool x40_2 ∧ Y0 (Y5.j0 kq a1 x40_2 a0_0 a0_1 l0_2 l0_3 = some r) ∧ Y0 (kq ≤ k) ∧ Y0 (wc.heap[gb101]? = some (.cells #[.int .i64 a0_0, .string a0_1, (.slice A0_2 l0_2.length c0_2), (.slice A0_3 l0_3.length c0_3)] 37 (0, 0))) ∧ Y0 (Below w.heap.size w wc))
 case first =>
  have H := HC3.out
  clear HC3
  replace H := Option.bind_eq_some_iff.mp H
  obtain ⟨t102, A50, H⟩ := H
  replace H : (if t102 = (l0_3.length : Int) then (if a1 > 5 then (Y5.j0 k a1 true a0_0 a0_1 l0_2 l0_3) else (if a0_0 = 1 then (if a0_0 = 8 then (Y5.j0 k a1 false a0_0 a0_1 l0_2 l0_3) else (Y5.j0 k a1 (decide ((l0_2.length : Int) > 0)) a0_0 a0_1 l0_2 l0_3)) else (if a0_1.toList = ([] : List UInt8) then (if a0_0 = 8 then (Y5.j0 k a1 false a0_0 a0_1 l0_2 l0_3) else (Y5.j0 k a1 (decide ((l0_2.length : Int) > 0)) a0_0 a0_1 l0_2 l0_3)) else (Y5.j0 k a1 true a0_0 a0_1 l0_2 l0_3)))) else (Y5.j0 k a1 true a0_0 a0_1 l0_2 l0_3)) = some r := H
  have A5 := Y0.mk A50
  clear A50
  by_cases c6 : t102 = (l0_3.length : Int)
  ·rw [if_pos c6] at H
   have c6b0 : (t102 == (l0_3.length : Int)) = true := beq_iff_eq.mpr c6
   have c6b1 : (t102 != (l0_3.length : Int)) = false := bne_eq_false_iff_eq.mpr c6
   clear c6
   (first | rw [c6b0] | (simp only [Y16, Y17]; rw [c6b0]) | skip)
   by_cases c7 : a1 > 5
   ·rw [if_pos c7] at H
    have c7b0 : decide (5 < a1) = true := decide_eq_true c7
    clear c7
    have H' := Y0.mk H
    clear H
    try go_wp2
    have n_ := Y2d (Yb BK101.out) (YP HB.out)
    clear BK101
    clear HB
    obtain ⟨BK101, HB⟩ := n_
    refine Y1m (n := 32) (S := fun w' => w'.cell? ⟨gb101, 0, none⟩ = some (.int .i64 a0_0) ∧ w'.cell? ⟨gb101, 1, none⟩ = some (.string a0_1) ∧ w'.cell? ⟨gb101, 2, none⟩ = some (.slice A0_2 l0_2.length c0_2) ∧ w'.cell? ⟨gb101, 3, none⟩ = some (.slice A0_3 l0_3.length c0_3)) (ds := []) Y4D Z4 rfl rfl ⟨(Y2 BK101.out 0).trans rfl, (Y2 BK101.out 1).trans rfl, (Y2 BK101.out 2).trans rfl, (Y2 BK101.out 3).trans rfl⟩ (fun hHeld => ?_); refine Y11 Y5.tab1 Y5.bits1 (fun HT_ HW_ => ?_)
    generalize w4.drew = w8 at BK101 HB hHeld ⊢
    refine pY 0 9 Y4E ?_
    refine pY 3 12 Y4F ?_
    refine pT 1 10 Y4G ?_
    refine pT 4 13 Y3K ?_
    refine pY 5 14 Y3L ?_
    refine Y2Q (i := 2) (N := some 11) Y3M rfl rfl (Y1b HT_.out Z4) (by decide) (fun K hK => ?_)
    refine Y1Q Tryd.func92 Z4 rfl #[.int .i64 a0_0] (by rfl) rfl rfl Z0 ?_
    with_reducible refine (Yr.calls k a0_0 t102 _ A5.out).mono ?_
    rintro e w' ⟨rfl, ⟨nd, rfl⟩⟩
    refine ⟨_, rfl, ?_⟩
    refine hK.out _ _ ⟨(Y2 BK101.out 0).trans rfl, (Y2 BK101.out 1).trans rfl, (Y2 BK101.out 2).trans rfl, (Y2 BK101.out 3).trans rfl⟩ (fun hHeld => ?_)
    clear hK K
    refine Y1A (a' := ?_) ?_ ?_
    rotate_left
    ·show Act.put _ (some 11) _ = _
     simp only [Act.put, List.setIfInBounds_toArray, List.set_cons_zero, List.set_cons_succ, Y16, Y17]
     rfl
    refine pY 6 15 Y3N ?_
    refine pY 7 16 Y3O ?_
    refine pY 8 17 Y3e ?_
    refine pY 9 18 Y3f ?_
    refine pY 10 19 Y3g ?_
    refine pY 11 20 Y3h ?_
    refine pU 12 21 Y2W ?_
    refine pU 13 22 Y2X ?_
    refine pU 14 23 Y2Y ?_
    refine pU 15 24 Y2Z ?_
    refine pU 16 25 Y2D ?_
    refine pU 17 26 Y2E ?_
    refine pU 18 27 Y2F ?_
    refine pU 19 28 Y2G ?_
    refine pY 20 29 Y2q ?_
    refine pY 21 30 Y2r ?_
    refine pU 22 31 Y2s ?_
    refine pU 23 32 Y2t ?_
    refine pU 24 33 Y26 ?_
    refine pU 25 34 Y27 ?_
    refine pU 26 35 Y28 ?_
    refine pU 27 36 Y29 ?_
    refine pU 28 37 Y1U ?_
    refine pU 29 38 Y1V ?_
    refine pU 30 39 Y1W ?_
    refine pY 31 40 Y1X ?_
    refine Y1S (Y1a HT_.out Z4) ?_
    try go_wp2
    go_meet
    case rel => exact Z2s
   ·rw [if_neg c7] at H
    have c7b0 : decide (5 < a1) = false := decide_eq_false c7
    clear c7
    by_cases c9 : a0_0 = 1
    ·rw [if_pos c9] at H
     have c9b0 : (a0_0 == 1) = true := beq_iff_eq.mpr c9
     have c9b1 : (a0_0 != 1) = false := bne_eq_false_iff_eq.mpr c9
     clear c9
     by_cases c10 : a0_0 = 8
     ·rw [if_pos c10] at H
      have c10b0 : (a0_0 == 8) = true := beq_iff_eq.mpr c10
      have c10b1 : (a0_0 != 8) = false := bne_eq_false_iff_eq.mpr c10
      clear c10
      have H' := Y0.mk H
      clear H
      try go_wp2
      have n_ := Y2d (Yb BK101.out) (YP HB.out)
      clear BK101
      clear HB
      obtain ⟨BK101, HB⟩ := n_
      refine Y1m (n := 32) (S := fun w' => w'.cell? ⟨gb101, 0, none⟩ = some (.int .i64 a0_0) ∧ w'.cell? ⟨gb101, 1, none⟩ = some (.string a0_1) ∧ w'.cell? ⟨gb101, 2, none⟩ = some (.slice A0_2 l0_2.length c0_2) ∧ w'.cell? ⟨gb101, 3, none⟩ = some (.slice A0_3 l0_3.length c0_3)) (ds := []) Y4D Z4 rfl rfl ⟨(Y2 BK101.out 0).trans rfl, (Y2 BK101.out 1).trans rfl, (Y2 BK101.out 2).trans rfl, (Y2 BK101.out 3).trans rfl⟩ (fun hHeld => ?_); refine Y11 Y5.tab1 Y5.bits1 (fun HT_ HW_ => ?_)
      generalize w4.drew = w11 at BK101 HB hHeld ⊢
      refine pY 0 9 Y4E ?_
      refine pY 3 12 Y4F ?_
      refine pT 1 10 Y4G ?_
      refine pT 4 13 Y3K ?_
      refine pY 5 14 Y3L ?_
      refine Y2Q (i := 2) (N := some 11) Y3M rfl rfl (Y1b HT_.out Z4) (by decide) (fun K hK => ?_)
      refine Y1Q Tryd.func92 Z4 rfl #[.int .i64 a0_0] (by rfl) rfl rfl Z0 ?_
      with_reducible refine (Yr.calls k a0_0 t102 _ A5.out).mono ?_
      rintro e w' ⟨rfl, ⟨nd, rfl⟩⟩
      refine ⟨_, rfl, ?_⟩
      refine hK.out _ _ ⟨(Y2 BK101.out 0).trans rfl, (Y2 BK101.out 1).trans rfl, (Y2 BK101.out 2).trans rfl, (Y2 BK101.out 3).trans rfl⟩ (fun hHeld => ?_)
      clear hK K
      refine Y1A (a' := ?_) ?_ ?_
      rotate_left
      ·show Act.put _ (some 11) _ = _
       simp only [Act.put, List.setIfInBounds_toArray, List.set_cons_zero, List.set_cons_succ, Y16, Y17]
       rfl
      refine pY 6 15 Y3N ?_
      refine pY 7 16 Y3O ?_
      refine pY 8 17 Y3e ?_
      refine pY 9 18 Y3f ?_
      refine pY 10 19 Y3g ?_
      refine pY 11 20 Y3h ?_
      refine pY 12 21 Y2W ?_
      refine pT 13 22 Y2X ?_
      refine pY 14 23 Y2Y ?_
      refine pY 15 24 Y2Z ?_
      refine pU 16 25 Y2D ?_
      refine pU 17 26 Y2E ?_
      refine pU 18 27 Y2F ?_
      refine pY 19 28 Y2G ?_
      refine pY 20 29 Y2q ?_
      refine pY 21 30 Y2r ?_
      refine pY 22 31 Y2s ?_
      refine pT 23 32 Y2t ?_
      refine pY 24 33 Y26 ?_
      refine pY 25 34 Y27 ?_
      refine pU 26 35 Y28 ?_
      refine pU 27 36 Y29 ?_
      refine pU 28 37 Y1U ?_
      refine pU 29 38 Y1V ?_
      refine pY 30 39 Y1W ?_
      refine pY 31 40 Y1X ?_
      refine Y1S (Y1a HT_.out Z4) ?_
      try go_wp2
      go_meet
      case rel => exact ⟨_, (false), Z8, H', ⟨Zr⟩, ⟨Z6⟩, ⟨QB⟩⟩
     ·rw [if_neg c10] at H
      have c10b0 : (a0_0 == 8) = false := beq_eq_false_iff_ne.mpr c10
      have c10b1 : (a0_0 != 8) = true := bne_iff_ne.mpr c10
      have H' := Y0.mk H
      clear H
      try go_wp2
      have n_ := Y2d (Yb BK101.out) (YP HB.out)
      clear BK101
      clear HB
      obtain ⟨BK101, HB⟩ := n_
      refine Y1m (n := 32) (S := fun w' => w'.cell? ⟨gb101, 0, none⟩ = some (.int .i64 a0_0) ∧ w'.cell? ⟨gb101, 1, none⟩ = some (.string a0_1) ∧ w'.cell? ⟨gb101, 2, none⟩ = some (.slice A0_2 l0_2.length c0_2) ∧ w'.cell? ⟨gb101, 3, none⟩ = some (.slice A0_3 l0_3.length c0_3)) (ds := []) Y4D Z4 rfl rfl ⟨(Y2 BK101.out 0).trans rfl, (Y2 BK101.out 1).trans rfl, (Y2 BK101.out 2).trans rfl, (Y2 BK101.out 3).trans rfl⟩ (fun hHeld => ?_); refine Y11 Y5.tab1 Y5.bits1 (fun HT_ HW_ => ?_)
      generalize w4.drew = w12 at BK101 HB hHeld ⊢
      refine pY 0 9 Y4E ?_
      refine pY 3 12 Y4F ?_
      refine pT 1 10 Y4G ?_
      refine pT 4 13 Y3K ?_
      refine pY 5 14 Y3L ?_
      refine Y2Q (i := 2) (N := some 11) Y3M rfl rfl (Y1b HT_.out Z4) (by decide) (fun K hK => ?_)
      refine Y1Q Tryd.func92 Z4 rfl #[.int .i64 a0_0] (by rfl) rfl rfl Z0 ?_
      with_reducible refine (Yr.calls k a0_0 t102 _ A5.out).mono ?_
      rintro e w' ⟨rfl, ⟨nd, rfl⟩⟩
      refine ⟨_, rfl, ?_⟩
      refine hK.out _ _ ⟨(Y2 BK101.out 0).trans rfl, (Y2 BK101.out 1).trans rfl, (Y2 BK101.out 2).trans rfl, (Y2 BK101.out 3).trans rfl⟩ (fun hHeld => ?_)
      clear hK K
      refine Y1A (a' := ?_) ?_ ?_
      rotate_left
      ·show Act.put _ (some 11) _ = _
       simp only [Act.put, List.setIfInBounds_toArray, List.set_cons_zero, List.set_cons_succ, Y16, Y17]
       rfl
      refine pY 6 15 Y3N ?_
      refine pY 7 16 Y3O ?_
      refine pY 8 17 Y3e ?_
      refine pY 9 18 Y3f ?_
      refine pY 10 19 Y3g ?_
      refine pY 11 20 Y3h ?_
      refine pY 12 21 Y2W ?_
      refine pT 13 22 Y2X ?_
      refine pY 14 23 Y2Y ?_
      refine pY 15 24 Y2Z ?_
      refine pU 16 25 Y2D ?_
      refine pU 17 26 Y2E ?_
      refine pU 18 27 Y2F ?_
      refine pY 19 28 Y2G ?_
      refine pY 20 29 Y2q ?_
      refine pY 21 30 Y2r ?_
      refine pY 22 31 Y2s ?_
      refine pT 23 32 Y2t ?_
      refine pY 24 33 Y26 ?_
      refine pY 25 34 Y27 ?_
      refine pY 26 35 Y28 ?_
      refine pT 27 36 Y29 ?_
      refine pY 28 37 Y1U ?_
      refine pY 29 38 Y1V ?_
      refine pY 30 39 Y1W ?_
      refine pY 31 40 Y1X ?_
      refine Y1S (Y1a HT_.out Z4) ?_
      try go_wp2
      go_meet
      case rel => exact ⟨_, (decide ((l0_2.length : Int) > 0)), Z8, H', ⟨Zr⟩, ⟨Z6⟩, ⟨QB⟩⟩
    ·rw [if_neg c9] at H
     have c9b0 : (a0_0 == 1) = false := beq_eq_false_iff_ne.mpr c9
     have c9b1 : (a0_0 != 1) = true := bne_iff_ne.mpr c9
     by_cases c13 : a0_1.toList = ([] : List UInt8)
     ·rw [if_pos c13] at H
      have c13b0 : (a0_1.toList == ([] : List UInt8)) = true := beq_iff_eq.mpr c13
      have c13b1 : (a0_1.toList != ([] : List UInt8)) = false := bne_eq_false_iff_eq.mpr c13
      clear c13
      by_cases c14 : a0_0 = 8
      ·rw [if_pos c14] at H
       have c14b0 : (a0_0 == 8) = true := beq_iff_eq.mpr c14
       have c14b1 : (a0_0 != 8) = false := bne_eq_false_iff_eq.mpr c14
       clear c14
       have H' := Y0.mk H
       clear H
       try go_wp2
       have n_ := Y2d (Yb BK101.out) (YP HB.out)
       clear BK101
       clear HB
       obtain ⟨BK101, HB⟩ := n_
       refine Y1m (n := 32) (S := fun w' => w'.cell? ⟨gb101, 0, none⟩ = some (.int .i64 a0_0) ∧ w'.cell? ⟨gb101, 1, none⟩ = some (.string a0_1) ∧ w'.cell? ⟨gb101, 2, none⟩ = some (.slice A0_2 l0_2.length c0_2) ∧ w'.cell? ⟨gb101, 3, none⟩ = some (.slice A0_3 l0_3.length c0_3)) (ds := []) Y4D Z4 rfl rfl ⟨(Y2 BK101.out 0).trans rfl, (Y2 BK101.out 1).trans rfl, (Y2 BK101.out 2).trans rfl, (Y2 BK101.out 3).trans rfl⟩ (fun hHeld => ?_); refine Y11 Y5.tab1 Y5.bits1 (fun HT_ HW_ => ?_)
       generalize w4.drew = w15 at BK101 HB hHeld ⊢
       refine pY 0 9 Y4E ?_
       refine pY 3 12 Y4F ?_
       refine pT 1 10 Y4G ?_
       refine pT 4 13 Y3K ?_
       refine pY 5 14 Y3L ?_
       refine Y2Q (i := 2) (N := some 11) Y3M rfl rfl (Y1b HT_.out Z4) (by decide) (fun K hK => ?_)
       refine Y1Q Tryd.func92 Z4 rfl #[.int .i64 a0_0] (by rfl) rfl rfl Z0 ?_
       with_reducible refine (Yr.calls k a0_0 t102 _ A5.out).mono ?_
       rintro e w' ⟨rfl, ⟨nd, rfl⟩⟩
       refine ⟨_, rfl, ?_⟩
       refine hK.out _ _ ⟨(Y2 BK101.out 0).trans rfl, (Y2 BK101.out 1).trans rfl, (Y2 BK101.out 2).trans rfl, (Y2 BK101.out 3).trans rfl⟩ (fun hHeld => ?_)
       clear hK K
       refine Y1A (a' := ?_) ?_ ?_
       rotate_left
       ·show Act.put _ (some 11) _ = _
        simp only [Act.put, List.setIfInBounds_toArray, List.set_cons_zero, List.set_cons_succ, Y16, Y17]
        rfl
       refine pY 6 15 Y3N ?_
       refine pY 7 16 Y3O ?_
       refine pY 8 17 Y3e ?_
       refine pY 9 18 Y3f ?_
       refine pY 10 19 Y3g ?_
       refine pY 11 20 Y3h ?_
       refine pY 12 21 Y2W ?_
       refine pT 13 22 Y2X ?_
       refine pY 14 23 Y2Y ?_
       refine pY 15 24 Y2Z ?_
       refine pY 16 25 Y2D ?_
       refine pT 17 26 Y2E ?_
       refine pY 18 27 Y2F ?_
       refine pY 19 28 Y2G ?_
       refine pY 20 29 Y2q ?_
       refine pY 21 30 Y2r ?_
       refine pY 22 31 Y2s ?_
       refine pT 23 32 Y2t ?_
       refine pY 24 33 Y26 ?_
       refine pY 25 34 Y27 ?_
       refine pU 26 35 Y28 ?_
       refine pU 27 36 Y29 ?_
       refine pU 28 37 Y1U ?_
       refine pU 29 38 Y1V ?_
       refine pY 30 39 Y1W ?_
       refine pY 31 40 Y1X ?_
       refine Y1S (Y1a HT_.out Z4) ?_
       try go_wp2
       go_meet
       case rel => exact ⟨_, (false), Z8, H', ⟨Zr⟩, ⟨Z6⟩, ⟨QB⟩⟩
      ·rw [if_neg c14] at H
       have c14b0 : (a0_0 == 8) = false := beq_eq_false_iff_ne.mpr c14
       have c14b1 : (a0_0 != 8) = true := bne_iff_ne.mpr c14
       have H' := Y0.mk H
       clear H
       try go_wp2
       have n_ := Y2d (Yb BK101.out) (YP HB.out)
       clear BK101
       clear HB
       obtain ⟨BK101, HB⟩ := n_
       refine Y1m (n := 32) (S := fun w' => w'.cell? ⟨gb101, 0, none⟩ = some (.int .i64 a0_0) ∧ w'.cell? ⟨gb101, 1, none⟩ = some (.string a0_1) ∧ w'.cell? ⟨gb101, 2, none⟩ = some (.slice A0_2 l0_2.length c0_2) ∧ w'.cell? ⟨gb101, 3, none⟩ = some (.slice A0_3 l0_3.length c0_3)) (ds := []) Y4D Z4 rfl rfl ⟨(Y2 BK101.out 0).trans rfl, (Y2 BK101.out 1).trans rfl, (Y2 BK101.out 2).trans rfl, (Y2 BK101.out 3).trans rfl⟩ (fun hHeld => ?_); refine Y11 Y5.tab1 Y5.bits1 (fun HT_ HW_ => ?_)
       generalize w4.drew = w16 at BK101 HB hHeld ⊢
       refine pY 0 9 Y4E ?_
       refine pY 3 12 Y4F ?_
       refine pT 1 10 Y4G ?_
       refine pT 4 13 Y3K ?_
       refine pY 5 14 Y3L ?_
       refine Y2Q (i := 2) (N := some 11) Y3M rfl rfl (Y1b HT_.out Z4) (by decide) (fun K hK => ?_)
       refine Y1Q Tryd.func92 Z4 rfl #[.int .i64 a0_0] (by rfl) rfl rfl Z0 ?_
       with_reducible refine (Yr.calls k a0_0 t102 _ A5.out).mono ?_
       rintro e w' ⟨rfl, ⟨nd, rfl⟩⟩
       refine ⟨_, rfl, ?_⟩
       refine hK.out _ _ ⟨(Y2 BK101.out 0).trans rfl, (Y2 BK101.out 1).trans rfl, (Y2 BK101.out 2).trans rfl, (Y2 BK101.out 3).trans rfl⟩ (fun hHeld => ?_)
       clear hK K
       refine Y1A (a' := ?_) ?_ ?_
       rotate_left
       ·show Act.put _ (some 11) _ = _
        simp only [Act.put, List.setIfInBounds_toArray, List.set_cons_zero, List.set_cons_succ, Y16, Y17]
        rfl
       refine pY 6 15 Y3N ?_
       refine pY 7 16 Y3O ?_
       refine pY 8 17 Y3e ?_
       refine pY 9 18 Y3f ?_
       refine pY 10 19 Y3g ?_
       refine pY 11 20 Y3h ?_
       refine pY 12 21 Y2W ?_
       refine pT 13 22 Y2X ?_
       refine pY 14 23 Y2Y ?_
       refine pY 15 24 Y2Z ?_
       refine pY 16 25 Y2D ?_
       refine pT 17 26 Y2E ?_
       refine pY 18 27 Y2F ?_
       refine pY 19 28 Y2G ?_
       refine pY 20 29 Y2q ?_
       refine pY 21 30 Y2r ?_
       refine pY 22 31 Y2s ?_
       refine pT 23 32 Y2t ?_
       refine pY 24 33 Y26 ?_
       refine pY 25 34 Y27 ?_
       refine pY 26 35 Y28 ?_
       refine pT 27 36 Y29 ?_
       refine pY 28 37 Y1U ?_
       refine pY 29 38 Y1V ?_
       refine pY 30 39 Y1W ?_
       refine pY 31 40 Y1X ?_
       refine Y1S (Y1a HT_.out Z4) ?_
       try go_wp2
       go_meet
       case rel => exact ⟨_, (decide ((l0_2.length : Int) > 0)), Z8, H', ⟨Zr⟩, ⟨Z6⟩, ⟨QB⟩⟩
     ·rw [if_neg c13] at H
      have c13b0 : (a0_1.toList == ([] : List UInt8)) = false := beq_eq_false_iff_ne.mpr c13
      have c13b1 : (a0_1.toList != ([] : List UInt8)) = true := bne_iff_ne.mpr c13
      have H' := Y0.mk H
      clear H
      try go_wp2
      have n_ := Y2d (Yb BK101.out) (YP HB.out)
      clear BK101
      clear HB
      obtain ⟨BK101, HB⟩ := n_
      refine Y1m (n := 32) (S := fun w' => w'.cell? ⟨gb101, 0, none⟩ = some (.int .i64 a0_0) ∧ w'.cell? ⟨gb101, 1, none⟩ = some (.string a0_1) ∧ w'.cell? ⟨gb101, 2, none⟩ = some (.slice A0_2 l0_2.length c0_2) ∧ w'.cell? ⟨gb101, 3, none⟩ = some (.slice A0_3 l0_3.length c0_3)) (ds := []) Y4D Z4 rfl rfl ⟨(Y2 BK101.out 0).trans rfl, (Y2 BK101.out 1).trans rfl, (Y2 BK101.out 2).trans rfl, (Y2 BK101.out 3).trans rfl⟩ (fun hHeld => ?_); refine Y11 Y5.tab1 Y5.bits1 (fun HT_ HW_ => ?_)
      generalize w4.drew = w17 at BK101 HB hHeld ⊢
      refine pY 0 9 Y4E ?_
      refine pY 3 12 Y4F ?_
      refine pT 1 10 Y4G ?_
      refine pT 4 13 Y3K ?_
      refine pY 5 14 Y3L ?_
      refine Y2Q (i := 2) (N := some 11) Y3M rfl rfl (Y1b HT_.out Z4) (by decide) (fun K hK => ?_)
      refine Y1Q Tryd.func92 Z4 rfl #[.int .i64 a0_0] (by rfl) rfl rfl Z0 ?_
      with_reducible refine (Yr.calls k a0_0 t102 _ A5.out).mono ?_
      rintro e w' ⟨rfl, ⟨nd, rfl⟩⟩
      refine ⟨_, rfl, ?_⟩
      refine hK.out _ _ ⟨(Y2 BK101.out 0).trans rfl, (Y2 BK101.out 1).trans rfl, (Y2 BK101.out 2).trans rfl, (Y2 BK101.out 3).trans rfl⟩ (fun hHeld => ?_)
      clear hK K
      refine Y1A (a' := ?_) ?_ ?_
      rotate_left
      ·show Act.put _ (some 11) _ = _
       simp only [Act.put, List.setIfInBounds_toArray, List.set_cons_zero, List.set_cons_succ, Y16, Y17]
       rfl
      refine pY 6 15 Y3N ?_
      refine pY 7 16 Y3O ?_
      refine pY 8 17 Y3e ?_
      refine pY 9 18 Y3f ?_
      refine pY 10 19 Y3g ?_
      refine pY 11 20 Y3h ?_
      refine pY 12 21 Y2W ?_
      refine pT 13 22 Y2X ?_
      refine pY 14 23 Y2Y ?_
      refine pY 15 24 Y2Z ?_
      refine pY 16 25 Y2D ?_
      refine pT 17 26 Y2E ?_
      refine pY 18 27 Y2F ?_
      refine pY 19 28 Y2G ?_
      refine pY 20 29 Y2q ?_
      refine pY 21 30 Y2r ?_
      refine pU 22 31 Y2s ?_
      refine pU 23 32 Y2t ?_
      refine pU 24 33 Y26 ?_
      refine pU 25 34 Y27 ?_
      refine pU 26 35 Y28 ?_
      refine pU 27 36 Y29 ?_
      refine pU 28 37 Y1U ?_
      refine pU 29 38 Y1V ?_
      refine pU 30 39 Y1W ?_
      refine pY 31 40 Y1X ?_
      refine Y1S (Y1a HT_.out Z4) ?_
      try go_wp2
      go_meet
      case rel => exact Z2s
  ·rw [if_neg c6] at H
   have c6b0 : (t102 == (l0_3.length : Int)) = false := beq_eq_false_iff_ne.mpr c6
   have c6b1 : (t102 != (l0_3.length : Int)) = true := bne_iff_ne.mpr c6
   (first | rw [c6b0] | (simp only [Y16, Y17]; rw [c6b0]) | skip)
   have H' := Y0.mk H
   clear H
   try go_wp2
   have n_ := Y2d (Yb BK101.out) (YP HB.out)
   clear BK101
   clear HB
   obtain ⟨BK101, HB⟩ := n_
   refine Y1m (n := 32) (S := fun w' => w'.cell? ⟨gb101, 0, none⟩ = some (.int .i64 a0_0) ∧ w'.cell? ⟨gb101, 1, none⟩ = some (.string a0_1) ∧ w'.cell? ⟨gb101, 2, none⟩ = some (.slice A0_2 l0_2.length c0_2) ∧ w'.cell? ⟨gb101, 3, none⟩ = some (.slice A0_3 l0_3.length c0_3)) (ds := []) Y4D Z4 rfl rfl ⟨(Y2 BK101.out 0).trans rfl, (Y2 BK101.out 1).trans rfl, (Y2 BK101.out 2).trans rfl, (Y2 BK101.out 3).trans rfl⟩ (fun hHeld => ?_); refine Y11 Y5.tab1 Y5.bits1 (fun HT_ HW_ => ?_)
   generalize w4.drew = w18 at BK101 HB hHeld ⊢
   refine pY 0 9 Y4E ?_
   refine pY 3 12 Y4F ?_
   refine pT 1 10 Y4G ?_
   refine pT 4 13 Y3K ?_
   refine pY 5 14 Y3L ?_
   refine Y2Q (i := 2) (N := some 11) Y3M rfl rfl (Y1b HT_.out Z4) (by decide) (fun K hK => ?_)
   refine Y1Q Tryd.func92 Z4 rfl #[.int .i64 a0_0] (by rfl) rfl rfl Z0 ?_
   with_reducible refine (Yr.calls k a0_0 t102 _ A5.out).mono ?_
   rintro e w' ⟨rfl, ⟨nd, rfl⟩⟩
   refine ⟨_, rfl, ?_⟩
   refine hK.out _ _ ⟨(Y2 BK101.out 0).trans rfl, (Y2 BK101.out 1).trans rfl, (Y2 BK101.out 2).trans rfl, (Y2 BK101.out 3).trans rfl⟩ (fun hHeld => ?_)
   clear hK K
   refine Y1A (a' := ?_) ?_ ?_
   rotate_left
   ·show Act.put _ (some 11) _ = _
    simp only [Act.put, List.setIfInBounds_toArray, List.set_cons_zero, List.set_cons_succ, Y16, Y17]
    rfl
   refine pY 6 15 Y3N ?_
   refine pY 7 16 Y3O ?_
   refine pU 8 17 Y3e ?_
   refine pU 9 18 Y3f ?_
   refine pY 10 19 Y3g ?_
   refine pY 11 20 Y3h ?_
   refine pU 12 21 Y2W ?_
   refine pU 13 22 Y2X ?_
   refine pU 14 23 Y2Y ?_
   refine pU 15 24 Y2Z ?_
   refine pU 16 25 Y2D ?_
   refine pU 17 26 Y2E ?_
   refine pU 18 27 Y2F ?_
   refine pU 19 28 Y2G ?_
   refine pY 20 29 Y2q ?_
   refine pY 21 30 Y2r ?_
   refine pU 22 31 Y2s ?_
   refine pU 23 32 Y2t ?_
   refine pU 24 33 Y26 ?_
   refine pU 25 34 Y27 ?_
   refine pU 26 35 Y28 ?_
   refine pU 27 36 Y29 ?_
   refine pU 28 37 Y1U ?_
   refine pU 29 38 Y1V ?_
   refine pU 30 39 Y1W ?_
   refine pY 31 40 Y1X ?_
   refine Y1S (Y1a HT_.out Z4) ?_
   try go_wp2
   go_meet
   case rel => exact Z2s
 case rest =>
  clear HC3
  try clear c1
  try clear p2
  try clear c6
  try clear c6b0
  try clear c6b1
  try clear c9
  try clear c13
  try clear c13b0
  try clear c13b1
  obtain ⟨kq, x40_2, rfl, HA, HJ2, BK101, HB⟩ := hcut
  cases kq with
  | zero => exact absurd HA.out (by simp [Y5.j0])
  | succ kj2 =>
   have H := HA.out
   clear HA
   simp only [Y5.j0] at H
   by_cases c19 : x40_2 = true
   ·subst c19
    have H1 : (some (-1)) = some r := by rw [if_pos rfl] at H; exact H
    clear H
    have H := H1
    clear H1
    obtain rfl := Option.some.inj H
    go_wp2
    go_ret
    exact Z2r
   ·replace c19 := Bool.eq_false_iff.mpr c19
    subst c19
    have H1 : (if a0_0 = 1 then ((YU.f a0_1).bind fun t103 => (if t103 = true then (if a0_0 = 8 then (if (l0_2.length : Int) < 1 then (Y5.j1 kj2 a1 true a0_0 a0_1 l0_2 l0_3) else (Y5.j1 kj2 a1 (decide ((l0_2.length : Int) > 4)) a0_0 a0_1 l0_2 l0_3)) else (Y5.j1 kj2 a1 false a0_0 a0_1 l0_2 l0_3)) else (Y5.j1 kj2 a1 true a0_0 a0_1 l0_2 l0_3))) else (if a0_0 = 8 then (if (l0_2.length : Int) < 1 then (Y5.j1 kj2 a1 true a0_0 a0_1 l0_2 l0_3) else (Y5.j1 kj2 a1 (decide ((l0_2.length : Int) > 4)) a0_0 a0_1 l0_2 l0_3)) else (Y5.j1 kj2 a1 false a0_0 a0_1 l0_2 l0_3))) = some r := by rw [if_neg (show ¬ (false = true) by decide)] at H; exact H
    clear H
    have H := H1
    clear H1
    have HC20 := Y0.mk H
    clear H
    go_upto_region 3 with (fail)
    go_cut [66] (fun v66 wc => ∃ (kq : Nat) (x66_19 : Bool), v66 = .bool x66_19 ∧ Y0 (Y5.j1 kq a1 x66_19 a0_0 a0_1 l0_2 l0_3 = some r) ∧ Y0 (kq ≤ kj2) ∧ Y0 (wc.heap[gb101]? = some (.cells #[.int .i64 a0_0, .string a0_1, (.slice A0_2 l0_2.length c0_2), (.slice A0_3 l0_3.length c0_3)] 37 (0, 0))) ∧ Y0 (Below w.heap.size w wc))
    case first =>
     have H := HC20.out
     clear HC20
     by_cases c21 : a0_0 = 1
     ·rw [if_pos c21] at H
      have c21b0 : (a0_0 == 1) = true := beq_iff_eq.mpr c21
      have c21b1 : (a0_0 != 1) = false := bne_eq_false_iff_eq.mpr c21
      clear c21
      (first | rw [c21b0] | (simp only [Y16, Y17]; rw [c21b0]) | skip)
      replace H := Option.bind_eq_some_iff.mp H
      obtain ⟨t103, A220, H⟩ := H
      replace H : (if t103 = true then (if a0_0 = 8 then (if (l0_2.length : Int) < 1 then (Y5.j1 kj2 a1 true a0_0 a0_1 l0_2 l0_3) else (Y5.j1 kj2 a1 (decide ((l0_2.length : Int) > 4)) a0_0 a0_1 l0_2 l0_3)) else (Y5.j1 kj2 a1 false a0_0 a0_1 l0_2 l0_3)) else (Y5.j1 kj2 a1 true a0_0 a0_1 l0_2 l0_3)) = some r := H
      have A22 := Y0.mk A220
      clear A220
      by_cases c23 : t103 = true
      ·subst c23
       have H1 : (if a0_0 = 8 then (if (l0_2.length : Int) < 1 then (Y5.j1 kj2 a1 true a0_0 a0_1 l0_2 l0_3) else (Y5.j1 kj2 a1 (decide ((l0_2.length : Int) > 4)) a0_0 a0_1 l0_2 l0_3)) else (Y5.j1 kj2 a1 false a0_0 a0_1 l0_2 l0_3)) = some r := by rw [if_pos rfl] at H; exact H
       clear H
       have H := H1
       clear H1
       by_cases c24 : a0_0 = 8
       ·rw [if_pos c24] at H
        have c24b0 : (a0_0 == 8) = true := beq_iff_eq.mpr c24
        have c24b1 : (a0_0 != 8) = false := bne_eq_false_iff_eq.mpr c24
        clear c24
        by_cases c25 : (l0_2.length : Int) < 1
        ·rw [if_pos c25] at H
         have c25b0 : decide ((l0_2.length : Int) < 1) = true := decide_eq_true c25
         have c25b1 : decide (l0_2.length < 1) = true := decide_eq_true (by omega)
         clear c25
         have H' := Y0.mk H
         clear H
         obtain ⟨hcz26_0, hcz26_1, hcz26_2, hcz26_3, hfz26_0, hfz26_1, hfz26_2, hfz26_3⟩ := YA BK101.out
         go_wp2_with (first | (go_at_call 45; (with_reducible refine (YU.calls a0_1 true _ ?side1 A22.out).mono ?_); (case side1 => exact Z3); rintro e w27 ⟨rfl, hb⟩; have n_ := Y2d (Yt (g := gb101) (o := .cells #[.int .i64 a0_0, .string a0_1, .slice A0_2 l0_2.length c0_2, .slice A0_3 l0_3.length c0_3] 37 (0, 0)) QQ hb) (Y8 QB hb); clear BK101 HB; obtain ⟨BK101, HB⟩ := n_; (try clear hb); (try clear hb2); (try clear hk); (try clear hi); obtain ⟨hcz28_0, hcz28_1, hcz28_2, hcz28_3, hfz28_0, hfz28_1, hfz28_2, hfz28_3⟩ := YA BK101.out))
         go_meet
         case rel => exact ⟨_, (true), Z8, H', ⟨Z1h⟩, ⟨Z6⟩, ⟨QB⟩⟩
        ·rw [if_neg c25] at H
         have c25b0 : decide ((l0_2.length : Int) < 1) = false := decide_eq_false c25
         have c25b1 : decide (l0_2.length < 1) = false := decide_eq_false (by omega)
         clear c25
         have H' := Y0.mk H
         clear H
         obtain ⟨hcz29_0, hcz29_1, hcz29_2, hcz29_3, hfz29_0, hfz29_1, hfz29_2, hfz29_3⟩ := YA BK101.out
         go_wp2_with (first | (go_at_call 45; (with_reducible refine (YU.calls a0_1 true _ ?side1 A22.out).mono ?_); (case side1 => exact Z3); rintro e w30 ⟨rfl, hb⟩; have n_ := Y2d (Yt (g := gb101) (o := .cells #[.int .i64 a0_0, .string a0_1, .slice A0_2 l0_2.length c0_2, .slice A0_3 l0_3.length c0_3] 37 (0, 0)) QQ hb) (Y8 QB hb); clear BK101 HB; obtain ⟨BK101, HB⟩ := n_; (try clear hb); (try clear hb2); (try clear hk); (try clear hi); obtain ⟨hcz31_0, hcz31_1, hcz31_2, hcz31_3, hfz31_0, hfz31_1, hfz31_2, hfz31_3⟩ := YA BK101.out))
         go_meet
         case rel => exact ⟨_, (decide ((l0_2.length : Int) > 4)), Z8, H', ⟨Z1h⟩, ⟨Z6⟩, ⟨QB⟩⟩
       ·rw [if_neg c24] at H
        have c24b0 : (a0_0 == 8) = false := beq_eq_false_iff_ne.mpr c24
        have c24b1 : (a0_0 != 8) = true := bne_iff_ne.mpr c24
        have H' := Y0.mk H
        clear H
        obtain ⟨hcz32_0, hcz32_1, hcz32_2, hcz32_3, hfz32_0, hfz32_1, hfz32_2, hfz32_3⟩ := YA BK101.out
        go_wp2_with (first | (go_at_call 45; (with_reducible refine (YU.calls a0_1 true _ ?side1 A22.out).mono ?_); (case side1 => exact Z3); rintro e w33 ⟨rfl, hb⟩; have n_ := Y2d (Yt (g := gb101) (o := .cells #[.int .i64 a0_0, .string a0_1, .slice A0_2 l0_2.length c0_2, .slice A0_3 l0_3.length c0_3] 37 (0, 0)) QQ hb) (Y8 QB hb); clear BK101 HB; obtain ⟨BK101, HB⟩ := n_; (try clear hb); (try clear hb2); (try clear hk); (try clear hi); obtain ⟨hcz34_0, hcz34_1, hcz34_2, hcz34_3, hfz34_0, hfz34_1, hfz34_2, hfz34_3⟩ := YA BK101.out))
        go_meet
        case rel => exact ⟨_, (false), Z8, H', ⟨Z1h⟩, ⟨Z6⟩, ⟨QB⟩⟩
      ·replace c23 := Bool.eq_false_iff.mpr c23
       subst c23
       have H1 : (Y5.j1 kj2 a1 true a0_0 a0_1 l0_2 l0_3) = some r := by rw [if_neg (show ¬ (false = true) by decide)] at H; exact H
       clear H
       have H := H1
       clear H1
       have H' := Y0.mk H
       clear H
       obtain ⟨hcz35_0, hcz35_1, hcz35_2, hcz35_3, hfz35_0, hfz35_1, hfz35_2, hfz35_3⟩ := YA BK101.out
       go_wp2_with (first | (go_at_call 45; (with_reducible refine (YU.calls a0_1 false _ ?side1 A22.out).mono ?_); (case side1 => exact Z3); rintro e w36 ⟨rfl, hb⟩; have n_ := Y2d (Yt (g := gb101) (o := .cells #[.int .i64 a0_0, .string a0_1, .slice A0_2 l0_2.length c0_2, .slice A0_3 l0_3.length c0_3] 37 (0, 0)) QQ hb) (Y8 QB hb); clear BK101 HB; obtain ⟨BK101, HB⟩ := n_; (try clear hb); (try clear hb2); (try clear hk); (try clear hi)))
       go_meet
       case rel => exact ⟨_, (true), Z8, H', ⟨Z1h⟩, ⟨Z6⟩, ⟨QB⟩⟩
     ·rw [if_neg c21] at H
      have c21b0 : (a0_0 == 1) = false := beq_eq_false_iff_ne.mpr c21
      have c21b1 : (a0_0 != 1) = true := bne_iff_ne.mpr c21
      (first | rw [c21b0] | (simp only [Y16, Y17]; rw [c21b0]) | skip)
      by_cases c37 : a0_0 = 8
      ·rw [if_pos c37] at H
       have c37b0 : (a0_0 == 8) = true := beq_iff_eq.mpr c37
       have c37b1 : (a0_0 != 8) = false := bne_eq_false_iff_eq.mpr c37
       clear c37
       by_cases c38 : (l0_2.length : Int) < 1
       ·rw [if_pos c38] at H
        have c38b0 : decide ((l0_2.length : Int) < 1) = true := decide_eq_true c38
        have c38b1 : decide (l0_2.length < 1) = true := decide_eq_true (by omega)
        clear c38
        have H' := Y0.mk H
        clear H
        obtain ⟨hcz39_0, hcz39_1, hcz39_2, hcz39_3, hfz39_0, hfz39_1, hfz39_2, hfz39_3⟩ := YA BK101.out
        go_wp2
        go_meet
        case rel => exact ⟨_, (true), Z8, H', ⟨Z1h⟩, ⟨Z6⟩, ⟨QB⟩⟩
       ·rw [if_neg c38] at H
        have c38b0 : decide ((l0_2.length : Int) < 1) = false := decide_eq_false c38
        have c38b1 : decide (l0_2.length < 1) = false := decide_eq_false (by omega)
        clear c38
        have H' := Y0.mk H
        clear H
        obtain ⟨hcz40_0, hcz40_1, hcz40_2, hcz40_3, hfz40_0, hfz40_1, hfz40_2, hfz40_3⟩ := YA BK101.out
        go_wp2
        go_meet
        case rel => exact ⟨_, (decide ((l0_2.length : Int) > 4)), Z8, H', ⟨Z1h⟩, ⟨Z6⟩, ⟨QB⟩⟩
      ·rw [if_neg c37] at H
       have c37b0 : (a0_0 == 8) = false := beq_eq_false_iff_ne.mpr c37
       have c37b1 : (a0_0 != 8) = true := bne_iff_ne.mpr c37
       have H' := Y0.mk H
       clear H
       obtain ⟨hcz41_0, hcz41_1, hcz41_2, hcz41_3, hfz41_0, hfz41_1, hfz41_2, hfz41_3⟩ := YA BK101.out
       go_wp2
       go_meet
       case rel => exact ⟨_, (false), Z8, H', ⟨Z1h⟩, ⟨Z6⟩, ⟨QB⟩⟩
    case rest =>
     clear HC20
     try clear c1
     try clear c2
     try clear p2
     try clear c3
     try clear c6
     try clear c6b0
     try clear c6b1
     try clear c9
     try clear c13
     try clear c13b0
     try clear c13b1
     try clear c19
     try clear c21
     try clear c21b0
     try clear c21b1
     try clear c23
     try clear c24
     try clear c24b0
     try clear c24b1
     try clear c25
     try clear c25b0
     try clear c25b1
     try clear c37
     try clear c37b0
     try clear c37b1
     try clear c38
     try clear c38b0
     try clear c38b1
     try clear hcz26_0 hcz26_1 hcz26_2 hcz26_3
     try clear hcz28_0 hcz28_1 hcz28_2 hcz28_3
     try clear hcz29_0 hcz29_1 hcz29_2 hcz29_3
     try clear hcz31_0 hcz31_1 hcz31_2 hcz31_3
     try clear hcz32_0 hcz32_1 hcz32_2 hcz32_3
     try clear hcz34_0 hcz34_1 hcz34_2 hcz34_3
     try clear hcz35_0 hcz35_1 hcz35_2 hcz35_3
     try clear hcz39_0 hcz39_1 hcz39_2 hcz39_3
     try clear hcz40_0 hcz40_1 hcz40_2 hcz40_3
     try clear hcz41_0 hcz41_1 hcz41_2 hcz41_3
     try clear hfz26_0
     try clear hfz26_1
     try clear hfz26_2
     try clear hfz26_3
     try clear hfz28_0
     try clear hfz28_1
     try clear hfz28_2
     try clear hfz28_3
     try clear hfz29_0
     try clear hfz29_1
     try clear hfz29_2
     try clear hfz29_3
     try clear hfz31_0
     try clear hfz31_1
     try clear hfz31_2
     try clear hfz31_3
     try clear hfz32_0
     try clear hfz32_1
     try clear hfz32_2
     try clear hfz32_3
     try clear hfz34_0
     try clear hfz34_1
     try clear hfz34_2
     try clear hfz34_3
     try clear hfz35_0
     try clear hfz35_1
     try clear hfz35_2
     try clear hfz35_3
     try clear hfz39_0
     try clear hfz39_1
     try clear hfz39_2
     try clear hfz39_3
     try clear hfz40_0
     try clear hfz40_1
     try clear hfz40_2
     try clear hfz40_3
     try clear hfz41_0
     try clear hfz41_1
     try clear hfz41_2
     try clear hfz41_3
     try clear p2
     obtain ⟨kq, x66_19, rfl, HA, HJ19, BK101, HB⟩ := hcut
     cases kq with
     | zero => exact absurd HA.out (by simp [Y5.j1])
     | succ kj19 =>
      have H := HA.out
      clear HA
      simp only [Y5.j1] at H
      by_cases c42 : x66_19 = true
      ·subst c42
       have H1 : (some (-1)) = some r := by rw [if_pos rfl] at H; exact H
       clear H
       have H := H1
       clear H1
       obtain rfl := Option.some.inj H
       go_wp2
       go_ret
       exact Z2r
      ·replace c42 := Bool.eq_false_iff.mpr c42
       subst c42
       have H1 : (Y5.l0 kj19 a1 0 a0_0 a0_1 l0_2 l0_3) = some r := by rw [if_neg (show ¬ (false = true) by decide)] at H; exact H
       clear H
       have H := H1
       clear H1
       have H' := Y0.mk H
       clear H
       go_wp2
       go_loopg [5] kj19 (fun kq v5 w' => ∃ (x5_3 : Int), v5 = .int .i64 x5_3 ∧ Y0 (Y5.l0 kq a1 x5_3 a0_0 a0_1 l0_2 l0_3 = some r) ∧ Y0 (kq ≤ kj19) ∧ Y0 (w'.heap[gb101]? = some (.cells #[.int .i64 a0_0, .string a0_1, (.slice A0_2 l0_2.length c0_2), (.slice A0_3 l0_3.length c0_3)] 37 (0, 0))) ∧ Y0 (Below w.heap.size w w'))
       case atStart => exact Z2z
       case round =>
        clear H'
        try clear c1
        try clear c2
        try clear p2
        try clear c3
        try clear c4
        try clear c6
        try clear c6b0
        try clear c6b1
        try clear c9
        try clear c13
        try clear c13b0
        try clear c13b1
        try clear c19
        try clear c21
        try clear c21b0
        try clear c21b1
        try clear c23
        try clear c24
        try clear c24b0
        try clear c24b1
        try clear c25
        try clear c25b0
        try clear c25b1
        try clear c37
        try clear c37b0
        try clear c37b1
        try clear c38
        try clear c38b0
        try clear c38b1
        try clear c42
        try clear hcz26_0 hcz26_1 hcz26_2 hcz26_3
        try clear hcz28_0 hcz28_1 hcz28_2 hcz28_3
        try clear hcz29_0 hcz29_1 hcz29_2 hcz29_3
        try clear hcz31_0 hcz31_1 hcz31_2 hcz31_3
        try clear hcz32_0 hcz32_1 hcz32_2 hcz32_3
        try clear hcz34_0 hcz34_1 hcz34_2 hcz34_3
        try clear hcz35_0 hcz35_1 hcz35_2 hcz35_3
        try clear hcz39_0 hcz39_1 hcz39_2 hcz39_3
        try clear hcz40_0 hcz40_1 hcz40_2 hcz40_3
        try clear hcz41_0 hcz41_1 hcz41_2 hcz41_3
        try clear hfz26_0
        try clear hfz26_1
        try clear hfz26_2
        try clear hfz26_3
        try clear hfz28_0
        try clear hfz28_1
        try clear hfz28_2
        try clear hfz28_3
        try clear hfz29_0
        try clear hfz29_1
        try clear hfz29_2
        try clear hfz29_3
        try clear hfz31_0
        try clear hfz31_1
        try clear hfz31_2
        try clear hfz31_3
        try clear hfz32_0
        try clear hfz32_1
        try clear hfz32_2
        try clear hfz32_3
        try clear hfz34_0
        try clear hfz34_1
        try clear hfz34_2
        try clear hfz34_3
        try clear hfz35_0
        try clear hfz35_1
        try clear hfz35_2
        try clear hfz35_3
        try clear hfz39_0
        try clear hfz39_1
        try clear hfz39_2
        try clear hfz39_3
        try clear hfz40_0
        try clear hfz40_1
        try clear hfz40_2
        try clear hfz40_3
        try clear hfz41_0
        try clear hfz41_1
        try clear hfz41_2
        try clear hfz41_3
        try clear p2
        obtain ⟨x5_3, rfl, HA, HK3, BK101, HB⟩ := hrel
        cases gk with
        | zero => exact absurd HA.out (by simp [Y5.l0])
        | succ k3 =>
         have H := HA.out
         clear HA
         simp only [Y5.l0] at H
         by_cases c43 : x5_3 < (l0_2.length : Int)
         ·rw [if_pos c43] at H
          have c43b0 : decide (x5_3 < (l0_2.length : Int)) = true := decide_eq_true c43
          clear c43
          by_cases c44 : 0 ≤ x5_3
          ·rw [if_pos c44] at H
           have c44b0 : decide (0 ≤ x5_3) = true := decide_eq_true c44
           clear c44
           replace H := Option.bind_eq_some_iff.mp H
           obtain ⟨t105, A450, H⟩ := H
           replace H : (if t105 = true then (Y5.l0 k3 a1 (wrap64 (x5_3 + 1)) a0_0 a0_1 l0_2 l0_3) else (some (-1))) = some r := H
           have A45 := Y0.mk A450
           clear A450
           by_cases c46 : t105 = true
           ·subst c46
            have H1 : (Y5.l0 k3 a1 (wrap64 (x5_3 + 1)) a0_0 a0_1 l0_2 l0_3) = some r := by rw [if_pos rfl] at H; exact H
            clear H
            have H := H1
            clear H1
            have H' := Y0.mk H
            clear H
            obtain ⟨hcz47_0, hcz47_1, hcz47_2, hcz47_3, hfz47_0, hfz47_1, hfz47_2, hfz47_3⟩ := YA BK101.out
            have p104 : 0 ≤ (x5_3 : Int) := of_decide_eq_true Za
            have q104 : x5_3 < (l0_2.length : Int) := of_decide_eq_true Za
            obtain ⟨ad104, e104, hx104_0⟩ := Kd.at_string HR0_2.out x5_3 p104 q104
            cases e104
            replace hx104_0 := Y15 HB.out hx104_0
            replace p104 := eq_true p104
            replace q104 := eq_true q104
            go_wp2_with (first | ((with_reducible refine Yl (f := 45) rfl ?_); refine YO (some 79) rfl rfl Tryd.func45 Z4 rfl #[.string (Y39 ByteArray.empty l0_2 x5_3)] rfl Z0 ?_; (with_reducible refine (YU.calls (Y39 ByteArray.empty l0_2 x5_3) true _ ?side1 A45.out).mono ?_); (case side1 => exact Z3); rintro e w48 ⟨rfl, hb⟩; refine ⟨_, rfl, ?_⟩; have n_ := Y2d (Yt (g := gb101) (o := .cells #[.int .i64 a0_0, .string a0_1, .slice (some ad104) l0_2.length c0_2, .slice A0_3 l0_3.length c0_3] 37 (0, 0)) QQ hb) (Y8 QB hb); clear BK101 HB; obtain ⟨BK101, HB⟩ := n_; (try clear hb); (try clear hb2); (try clear hk); (try clear hi)))
            go_roundg k3
            case measure => have := HJ2.out; have := HJ19.out; have := HK3.out; omega
            case rel => exact ⟨(wrap64 (x5_3 + 1)), Z8, H', ⟨by have := HJ2.out; have := HJ19.out; have := HK3.out; omega⟩, ⟨Z6⟩, ⟨QB⟩⟩
           ·replace c46 := Bool.eq_false_iff.mpr c46
            subst c46
            have H1 : (some (-1)) = some r := by rw [if_neg (show ¬ (false = true) by decide)] at H; exact H
            clear H
            have H := H1
            clear H1
            obtain rfl := Option.some.inj H
            obtain ⟨hcz49_0, hcz49_1, hcz49_2, hcz49_3, hfz49_0, hfz49_1, hfz49_2, hfz49_3⟩ := YA BK101.out
            have p104 : 0 ≤ (x5_3 : Int) := of_decide_eq_true Za
            have q104 : x5_3 < (l0_2.length : Int) := of_decide_eq_true Za
            obtain ⟨ad104, e104, hx104_0⟩ := Kd.at_string HR0_2.out x5_3 p104 q104
            cases e104
            replace hx104_0 := Y15 HB.out hx104_0
            replace p104 := eq_true p104
            replace q104 := eq_true q104
            go_wp2_with (first | ((with_reducible refine Yl (f := 45) rfl ?_); refine YO (some 79) rfl rfl Tryd.func45 Z4 rfl #[.string (Y39 ByteArray.empty l0_2 x5_3)] rfl Z0 ?_; (with_reducible refine (YU.calls (Y39 ByteArray.empty l0_2 x5_3) false _ ?side1 A45.out).mono ?_); (case side1 => exact Z3); rintro e w50 ⟨rfl, hb⟩; refine ⟨_, rfl, ?_⟩; have n_ := Y2d (Yt (g := gb101) (o := .cells #[.int .i64 a0_0, .string a0_1, .slice (some ad104) l0_2.length c0_2, .slice A0_3 l0_3.length c0_3] 37 (0, 0)) QQ hb) (Y8 QB hb); clear BK101 HB; obtain ⟨BK101, HB⟩ := n_; (try clear hb); (try clear hb2); (try clear hk); (try clear hi)))
            go_ret
            exact Z2r
          ·rw [if_neg c44] at H
           exact Zn
         ·rw [if_neg c43] at H
          have c43b0 : decide (x5_3 < (l0_2.length : Int)) = false := decide_eq_false c43
          clear c43
          have H' := Y0.mk H
          clear H
          obtain ⟨hcz51_0, hcz51_1, hcz51_2, hcz51_3, hfz51_0, hfz51_1, hfz51_2, hfz51_3⟩ := YA BK101.out
          go_wp2
          go_loopg [6, 7] k3 (fun kq v6 v7 w' => ∃ (x6_4 : Int) (x7_4 : Int), v6 = .int .i64 x6_4 ∧ v7 = .int .i64 x7_4 ∧ Y0 (Y5.l1 kq a1 x6_4 x7_4 a0_0 a0_1 l0_2 l0_3 = some r) ∧ Y0 (kq ≤ k3) ∧ Y0 (w'.heap[gb101]? = some (.cells #[.int .i64 a0_0, .string a0_1, (.slice A0_2 l0_2.length c0_2), (.slice A0_3 l0_3.length c0_3)] 37 (0, 0))) ∧ Y0 (Below w.heap.size w w'))
          case atStart => exact Z2x
          case round =>
           clear H'
           try clear c1
           try clear p1
           try clear q1
           try clear hx1
           try clear c2
           try clear p2
           try clear c3
           try clear c4
           try clear c6
           try clear c6b0
           try clear c6b1
           try clear p6
           try clear c9
           try clear p10
           try clear q10
           try clear hx10
           try clear c13
           try clear c13b0
           try clear c13b1
           try clear c19
           try clear c21
           try clear c21b0
           try clear c21b1
           try clear c23
           try clear c24
           try clear c24b0
           try clear c24b1
           try clear c25
           try clear c25b0
           try clear c25b1
           try clear c37
           try clear c37b0
           try clear c37b1
           try clear c38
           try clear c38b0
           try clear c38b1
           try clear c42
           try clear c43
           try clear c43b0
           try clear c44
           try clear c44b0
           try clear c45
           try clear c46
           try clear hcz26_0 hcz26_1 hcz26_2 hcz26_3
           try clear hcz28_0 hcz28_1 hcz28_2 hcz28_3
           try clear hcz29_0 hcz29_1 hcz29_2 hcz29_3
           try clear hcz31_0 hcz31_1 hcz31_2 hcz31_3
           try clear hcz32_0 hcz32_1 hcz32_2 hcz32_3
           try clear hcz34_0 hcz34_1 hcz34_2 hcz34_3
           try clear hcz35_0 hcz35_1 hcz35_2 hcz35_3
           try clear hcz39_0 hcz39_1 hcz39_2 hcz39_3
           try clear hcz40_0 hcz40_1 hcz40_2 hcz40_3
           try clear hcz41_0 hcz41_1 hcz41_2 hcz41_3
           try clear hcz47_0 hcz47_1 hcz47_2 hcz47_3
           try clear hcz49_0 hcz49_1 hcz49_2 hcz49_3
           try clear hcz51_0 hcz51_1 hcz51_2 hcz51_3
           try clear hfz26_0
           try clear hfz26_1
           try clear hfz26_2
           try clear hfz26_3
           try clear hfz28_0
           try clear hfz28_1
           try clear hfz28_2
           try clear hfz28_3
           try clear hfz29_0
           try clear hfz29_1
           try clear hfz29_2
           try clear hfz29_3
           try clear hfz31_0
           try clear hfz31_1
           try clear hfz31_2
           try clear hfz31_3
           try clear hfz32_0
           try clear hfz32_1
           try clear hfz32_2
           try clear hfz32_3
           try clear hfz34_0
           try clear hfz34_1
           try clear hfz34_2
           try clear hfz34_3
           try clear hfz35_0
           try clear hfz35_1
           try clear hfz35_2
           try clear hfz35_3
           try clear hfz39_0
           try clear hfz39_1
           try clear hfz39_2
           try clear hfz39_3
           try clear hfz40_0
           try clear hfz40_1
           try clear hfz40_2
           try clear hfz40_3
           try clear hfz41_0
           try clear hfz41_1
           try clear hfz41_2
           try clear hfz41_3
           try clear hfz47_0
           try clear hfz47_1
           try clear hfz47_2
           try clear hfz47_3
           try clear hfz49_0
           try clear hfz49_1
           try clear hfz49_2
           try clear hfz49_3
           try clear hfz51_0
           try clear hfz51_1
           try clear hfz51_2
           try clear hfz51_3
           try clear hx104_0
           try clear p104
           try clear p2
           try clear q104
           obtain ⟨x6_4, x7_4, rfl, rfl, HA, HK4, BK101, HB⟩ := hrel
           cases gk with
           | zero => exact absurd HA.out (by simp [Y5.l1])
           | succ k4 =>
            have H := HA.out
            clear HA
            simp only [Y5.l1] at H
            by_cases c52 : x7_4 < (l0_3.length : Int)
            ·rw [if_pos c52] at H
             have c52b0 : decide (x7_4 < (l0_3.length : Int)) = true := decide_eq_true c52
             clear c52
             by_cases c53 : 0 ≤ x7_4
             ·rw [if_pos c53] at H
              have c53b0 : decide (0 ≤ x7_4) = true := decide_eq_true c53
              clear c53
              replace H := Option.bind_eq_some_iff.mp H
              obtain ⟨t107, A540, H⟩ := H
              replace H : (if t107 < 0 then (some (-1)) else (Y5.l1 k4 a1 (wrap64 (x6_4 + t107)) (wrap64 (x7_4 + 1)) a0_0 a0_1 l0_2 l0_3)) = some r := H
              have A54 := Y0.mk A540
              clear A540
              by_cases c55 : t107 < 0
              ·rw [if_pos c55] at H
               have c55b0 : decide (t107 < 0) = true := decide_eq_true c55
               clear c55
               obtain rfl := Option.some.inj H
               obtain ⟨hcz56_0, hcz56_1, hcz56_2, hcz56_3, hfz56_0, hfz56_1, hfz56_2, hfz56_3⟩ := YA BK101.out
               have p106 : 0 ≤ (x7_4 : Int) := of_decide_eq_true Za
               have q106 : x7_4 < (l0_3.length : Int) := of_decide_eq_true Za
               obtain ⟨ad106, A106_2, c106_2, A106_3, c106_3, e106, hx106_0, hx106_1, hx106_2, hx106_3, hl106_2, hi106_2, hl106_3, hi106_3⟩ := Y2f HR0_3.out x7_4 p106 q106
               cases e106
               replace hx106_0 := Y15 HB.out hx106_0
               replace hx106_1 := Y15 HB.out hx106_1
               replace hx106_2 := Y15 HB.out hx106_2
               replace hx106_3 := Y15 HB.out hx106_3
               have HR106_2 := Y0.mk hi106_2
               have HC106_2 := Y0.mk hl106_2
               clear hi106_2 hl106_2
               have HR106_3 := Y0.mk hi106_3
               have HC106_3 := Y0.mk hl106_3
               clear hi106_3 hl106_3
               replace p106 := eq_true p106
               replace q106 := eq_true q106
               go_wp2_with (first | ((with_reducible refine Yl (f := 49) rfl ?_); refine YO (some 95) rfl rfl Tryd.func49 Z4 rfl #[.agg #[.int .i64 ((Yc l0_3 x7_4).f0), .string ((Yc l0_3 x7_4).f1), .slice A106_2 ((Yc l0_3 x7_4).f2).length c106_2, .slice A106_3 ((Yc l0_3 x7_4).f3).length c106_3], .int .i64 (wrap64 (a1 + 1))] rfl Z0 ?_; (with_reducible refine (ih k4 Z1I ((Yc l0_3 x7_4).f0) ((Yc l0_3 x7_4).f1) _ _ ((Yc l0_3 x7_4).f2) _ _ ((Yc l0_3 x7_4).f3) (wrap64 (a1 + 1)) t107 _ ?side1 ?side2 ?side3 ?side4 ?side5 A54.out).mono ?_); (case side1 => exact Z3); (case side2 => exact Z13); (case side3 => exact HC106_2.out); (case side4 => exact Z14); (case side5 => exact HC106_3.out); rintro e w57 ⟨rfl, hb⟩; refine ⟨_, rfl, ?_⟩; have n_ := Y2d (Yt (g := gb101) (o := .cells #[.int .i64 a0_0, .string a0_1, .slice A0_2 l0_2.length c0_2, .slice (some ad106) l0_3.length c0_3] 37 (0, 0)) QQ hb) (Y8 QB hb); clear BK101 HB; obtain ⟨BK101, HB⟩ := n_; (try clear hb); (try clear hb2); (try clear hk); (try clear hi)))
               go_ret
               exact Z2r
              ·rw [if_neg c55] at H
               have c55b0 : decide (t107 < 0) = false := decide_eq_false c55
               clear c55
               have H' := Y0.mk H
               clear H
               obtain ⟨hcz58_0, hcz58_1, hcz58_2, hcz58_3, hfz58_0, hfz58_1, hfz58_2, hfz58_3⟩ := YA BK101.out
               have p106 : 0 ≤ (x7_4 : Int) := of_decide_eq_true Za
               have q106 : x7_4 < (l0_3.length : Int) := of_decide_eq_true Za
               obtain ⟨ad106, A106_2, c106_2, A106_3, c106_3, e106, hx106_0, hx106_1, hx106_2, hx106_3, hl106_2, hi106_2, hl106_3, hi106_3⟩ := Y2f HR0_3.out x7_4 p106 q106
               cases e106
               replace hx106_0 := Y15 HB.out hx106_0
               replace hx106_1 := Y15 HB.out hx106_1
               replace hx106_2 := Y15 HB.out hx106_2
               replace hx106_3 := Y15 HB.out hx106_3
               have HR106_2 := Y0.mk hi106_2
               have HC106_2 := Y0.mk hl106_2
               clear hi106_2 hl106_2
               have HR106_3 := Y0.mk hi106_3
               have HC106_3 := Y0.mk hl106_3
               clear hi106_3 hl106_3
               replace p106 := eq_true p106
               replace q106 := eq_true q106
               go_wp2_with (first | ((with_reducible refine Yl (f := 49) rfl ?_); refine YO (some 95) rfl rfl Tryd.func49 Z4 rfl #[.agg #[.int .i64 ((Yc l0_3 x7_4).f0), .string ((Yc l0_3 x7_4).f1), .slice A106_2 ((Yc l0_3 x7_4).f2).length c106_2, .slice A106_3 ((Yc l0_3 x7_4).f3).length c106_3], .int .i64 (wrap64 (a1 + 1))] rfl Z0 ?_; (with_reducible refine (ih k4 Z1I ((Yc l0_3 x7_4).f0) ((Yc l0_3 x7_4).f1) _ _ ((Yc l0_3 x7_4).f2) _ _ ((Yc l0_3 x7_4).f3) (wrap64 (a1 + 1)) t107 _ ?side1 ?side2 ?side3 ?side4 ?side5 A54.out).mono ?_); (case side1 => exact Z3); (case side2 => exact Z13); (case side3 => exact HC106_2.out); (case side4 => exact Z14); (case side5 => exact HC106_3.out); rintro e w59 ⟨rfl, hb⟩; refine ⟨_, rfl, ?_⟩; have n_ := Y2d (Yt (g := gb101) (o := .cells #[.int .i64 a0_0, .string a0_1, .slice A0_2 l0_2.length c0_2, .slice (some ad106) l0_3.length c0_3] 37 (0, 0)) QQ hb) (Y8 QB hb); clear BK101 HB; obtain ⟨BK101, HB⟩ := n_; (try clear hb); (try clear hb2); (try clear hk); (try clear hi)))
               go_roundg k4
               case measure => have := HJ2.out; have := HJ19.out; have := HK3.out; have := HK4.out; omega
               case rel => exact ⟨(wrap64 (x6_4 + t107)), (wrap64 (x7_4 + 1)), Z8, Z8, H', ⟨Z1I⟩, ⟨Z6⟩, ⟨QB⟩⟩
             ·rw [if_neg c53] at H
              exact Zn
            ·rw [if_neg c52] at H
             have c52b0 : decide (x7_4 < (l0_3.length : Int)) = false := decide_eq_false c52
             clear c52
             obtain rfl := Option.some.inj H
             obtain ⟨hcz60_0, hcz60_1, hcz60_2, hcz60_3, hfz60_0, hfz60_1, hfz60_2, hfz60_3⟩ := YA BK101.out
             go_wp2
             go_ret
             exact Z2r
def Y19.f (k : Nat) (a0_0 : Int) (a0_1 : ByteArray) (l0_2 : List ByteArray) (l0_3 : List (S37)) : Option (Bool) := (Y5.f k a0_0 a0_1 l0_2 l0_3 0).bind fun t102 => (if t102 ≥ 1 then (some (decide (t102 ≤ 30))) else (some false))
set_option maxHeartbeats 8000000 in
set_option maxRecDepth 100000 in
theorem Y19.calls (k : Nat) (a0_0 : Int) (a0_1 : ByteArray) (A0_2 : Option Addr) (c0_2 : Nat) (l0_2 : List ByteArray) (A0_3 : Option Addr) (c0_3 : Nat) (l0_3 : List (S37)) (r : Bool) (w : World) (hT : Tabs w) (hr0_2 : Kd.C Kd.string w A0_2 l0_2.length l0_2) (hc0_2 : l0_2.length ≤ c0_2) (hr0_3 : Kd.C k37 w A0_3 l0_3.length l0_3) (hc0_3 : l0_3.length ≤ c0_3) (h : Y19.f k a0_0 a0_1 l0_2 l0_3 = some r) :
  Calls Tryd.prog 23 #[.agg #[.int .i64 a0_0, .string a0_1, .slice A0_2 l0_2.length c0_2, .slice A0_3 l0_3.length c0_3]] w fun e w' => e = .returned (.bool r) ∧ Below w.heap.size w w' := by
 have HT := Y0.mk hT
 clear hT
 have hu37 := Tryd.underlying37
 have HR0_2 := Y0.mk hr0_2
 have HC0_2 := Y0.mk hc0_2
 clear hr0_2 hc0_2
 have HR0_3 := Y0.mk hr0_3
 have HC0_3 := Y0.mk hc0_3
 clear hr0_3 hc0_3
 have HB := Y0.mk (Below.refl w.heap.size w)
 have H : ((Y5.f k a0_0 a0_1 l0_2 l0_3 0).bind fun t102 => (if t102 ≥ 1 then (some (decide (t102 ≤ 30))) else (some false))) = some r := h
 clear h
 replace H := Option.bind_eq_some_iff.mp H
 obtain ⟨t102, A20, H⟩ := H
 replace H : (if t102 ≥ 1 then (some (decide (t102 ≤ 30))) else (some false)) = some r := H
 have A2 := Y0.mk A20
 clear A20
 by_cases c3 : t102 ≥ 1
 ·rw [if_pos c3] at H
  have c3b0 : decide (1 ≤ t102) = true := decide_eq_true c3
  clear c3
  obtain rfl := Option.some.inj H
  go_enter Tryd.func23, Tryd.ntmps23
  go_wp2_with (first | ((with_reducible refine YF (N := 1) rfl ?_); refine YD ?hg (N := 1) ?hd (cs := #[.int .i64 a0_0, .string a0_1, .slice A0_2 l0_2.length c0_2, .slice A0_3 l0_3.length c0_3]) (t := 37) ?hr ?_; (case hd => rfl); (case hg => rfl); (case hr => exact Zb); intro gb101 hg w4 hbox hb; have n_ := Y2N (Y8 QB hb) (hbox) ((by rw [hg]; exact (Yf QB) : w.heap.size ≤ gb101)) ((by rw [hg]; exact (Yf QB) : w.heap.size ≤ gb101)); clear HB; obtain ⟨HB, BK101, GW101, GE101⟩ := n_; clear hb hbox hg; obtain ⟨hcz5_0, hcz5_1, hcz5_2, hcz5_3, hfz5_0, hfz5_1, hfz5_2, hfz5_3⟩ := YA BK101.out) | ((with_reducible refine Yl (f := 49) rfl ?_); refine YO (some 5) rfl rfl Tryd.func49 Z4 rfl #[.agg #[.int .i64 a0_0, .string a0_1, .slice A0_2 l0_2.length c0_2, .slice A0_3 l0_3.length c0_3], .int .i64 0] rfl Z0 ?_; (with_reducible refine (Y5.calls k a0_0 a0_1 _ _ l0_2 _ _ l0_3 0 t102 _ ?side1 ?side2 ?side3 ?side4 ?side5 A2.out).mono ?_); (case side1 => exact Z3); (case side2 => exact Zc); (case side3 => exact Z1P); (case side4 => exact Zd); (case side5 => exact Z24); rintro e w6 ⟨rfl, hb⟩; refine ⟨_, rfl, ?_⟩; have n_ := Y2d (Yt (g := gb101) (o := .cells #[.int .i64 a0_0, .string a0_1, .slice A0_2 l0_2.length c0_2, .slice A0_3 l0_3.length c0_3] 37 (0, 0)) QQ hb) (Y8 QB hb); clear BK101 HB; obtain ⟨BK101, HB⟩ := n_; (try clear hb); (try clear hb2); (try clear hk); (try clear hi)))
  go_ret
  exact Z2r
 ·rw [if_neg c3] at H
  have c3b0 : decide (1 ≤ t102) = false := decide_eq_false c3
  clear c3
  obtain rfl := Option.some.inj H
  go_enter Tryd.func23, Tryd.ntmps23
  go_wp2_with (first | ((with_reducible refine YF (N := 1) rfl ?_); refine YD ?hg (N := 1) ?hd (cs := #[.int .i64 a0_0, .string a0_1, .slice A0_2 l0_2.length c0_2, .slice A0_3 l0_3.length c0_3]) (t := 37) ?hr ?_; (case hd => rfl); (case hg => rfl); (case hr => exact Zb); intro gb101 hg w7 hbox hb; have n_ := Y2N (Y8 QB hb) (hbox) ((by rw [hg]; exact (Yf QB) : w.heap.size ≤ gb101)) ((by rw [hg]; exact (Yf QB) : w.heap.size ≤ gb101)); clear HB; obtain ⟨HB, BK101, GW101, GE101⟩ := n_; clear hb hbox hg; obtain ⟨hcz8_0, hcz8_1, hcz8_2, hcz8_3, hfz8_0, hfz8_1, hfz8_2, hfz8_3⟩ := YA BK101.out) | ((with_reducible refine Yl (f := 49) rfl ?_); refine YO (some 5) rfl rfl Tryd.func49 Z4 rfl #[.agg #[.int .i64 a0_0, .string a0_1, .slice A0_2 l0_2.length c0_2, .slice A0_3 l0_3.length c0_3], .int .i64 0] rfl Z0 ?_; (with_reducible refine (Y5.calls k a0_0 a0_1 _ _ l0_2 _ _ l0_3 0 t102 _ ?side1 ?side2 ?side3 ?side4 ?side5 A2.out).mono ?_); (case side1 => exact Z3); (case side2 => exact Zc); (case side3 => exact Z1P); (case side4 => exact Zd); (case side5 => exact Z24); rintro e w9 ⟨rfl, hb⟩; refine ⟨_, rfl, ?_⟩; have n_ := Y2d (Yt (g := gb101) (o := .cells #[.int .i64 a0_0, .string a0_1, .slice A0_2 l0_2.length c0_2, .slice A0_3 l0_3.length c0_3] 37 (0, 0)) QQ hb) (Y8 QB hb); clear BK101 HB; obtain ⟨BK101, HB⟩ := n_; (try clear hb); (try clear hb2); (try clear hk); (try clear hi)))
  go_ret
  exact Z2r
def YC (w0 W : World) (g : Nat) (f0 : ByteArray) (f1 : Int) (f2 : Int) (f3 : Int) : Prop := W.heap[g]? = some (.cells #[.string f0, .int .i64 f1, .int .i64 f2, .int .i64 f3] 81 (0, 0)) ∧ w0.heap.size ≤ g
theorem YC.grown {w0 W : World} {g : Nat} {f0 : ByteArray} {f1 : Int} {f2 : Int} {f3 : Int} {W1 : World} {row : Option Nat} (h : YC w0 W g f0 f1 f2 f3) (hw : W.grownBy W1 row) (hne : some g ≠ row) : YC w0 W1 g f0 f1 f2 f3 := by
 obtain ⟨hb, hg⟩ := h
 exact ⟨Y37 hb hw hne, hg⟩
theorem YC.fresh {w0 W : World} {g : Nat} {f0 : ByteArray} {f1 : Int} {f2 : Int} {f3 : Int} (h : YC w0 W g f0 f1 f2 f3) : ∀ k, W.heap.size ≤ k → k ≠ g := by
 obtain ⟨hb, hg⟩ := h
 exact Kd.freshB hb
theorem YC.kept {w0 W : World} {g : Nat} {f0 : ByteArray} {f1 : Int} {f2 : Int} {f3 : Int} {W1 : World} {S : Nat → Prop} (h : YC w0 W g f0 f1 f2 f3) (hk : Y3Q W W1 S) (hne : ¬ S g) : YC w0 W1 g f0 f1 f2 f3 := by
 obtain ⟨hb, hg⟩ := h
 exact ⟨Y6j hb hk hne, hg⟩
theorem YC.below {w0 W : World} {g : Nat} {f0 : ByteArray} {f1 : Int} {f2 : Int} {f3 : Int} {W1 : World} (h : YC w0 W g f0 f1 f2 f3) (hw : Below W.heap.size W W1) : YC w0 W1 g f0 f1 f2 f3 := h.grown (Y35 hw none) (by simp)
theorem YC.alloc {w0 W : World} {g : Nat} {f0 : ByteArray} {f1 : Int} {f2 : Int} {f3 : Int} (h : YC w0 W g f0 f1 f2 f3) (o : Obj) : YC w0 (W.alloc o) g f0 f1 f2 f3 := h.below (Y1I (Below.refl _ _) o)
theorem YC.drewN {w0 W : World} {g : Nat} {f0 : ByteArray} {f1 : Int} {f2 : Int} {f3 : Int} (h : YC w0 W g f0 f1 f2 f3) (m : Nat) : YC w0 (W.drewN m) g f0 f1 f2 f3 := h
theorem YC.drew {w0 W : World} {g : Nat} {f0 : ByteArray} {f1 : Int} {f2 : Int} {f3 : Int} (h : YC w0 W g f0 f1 f2 f3) : YC w0 W.drew g f0 f1 f2 f3 := h
theorem YC.at_ {w0 W : World} {g : Nat} {f0 : ByteArray} {f1 : Int} {f2 : Int} {f3 : Int} {w' : World} {m : Nat} (hq : W.drewN m = w') (h : YC w0 W g f0 f1 f2 f3) : YC w0 w' g f0 f1 f2 f3 := by subst hq; exact YC.drewN h m
theorem YC.apart {w0 W : World} {g : Nat} {f0 : ByteArray} {f1 : Int} {f2 : Int} {f3 : Int} {α : Type} {d : Kd α} {e : Nat} {base : Nat} {ok : Nat → Prop} {v : Value} {xs : List α} (h : YC w0 W g f0 f1 f2 f3) (ho : d.R e W base ok v xs) (ht : ∀ q, q ∈ e :: d.E → q ≠ 81) : d.R e W base (fun k => ok k ∧ k ≠ g) v xs := by
 obtain ⟨hb, hg⟩ := h
 exact Kd.R_types ho hb ht
theorem YC.Y5a {w0 W : World} {g : Nat} {f0 : ByteArray} {f1 : Int} {f2 : Int} {f3 : Int} {α : Type} {d : Kd α} {e : Nat} {base : Nat} {ok : Nat → Prop} {v : Value} {xs : List α} (h : YC w0 W g f0 f1 f2 f3) (ho : d.R e W base ok v xs) (ht : e ≠ 81) : some g ≠ v.ownBlock := by
 obtain ⟨hb, hg⟩ := h
 exact Kd.R_ne ho hb ht
theorem YC.lt {w0 W : World} {g : Nat} {f0 : ByteArray} {f1 : Int} {f2 : Int} {f3 : Int} (h : YC w0 W g f0 f1 f2 f3) : g < W.heap.size := by
 obtain ⟨hb, hg⟩ := h
 exact Y14 hb
theorem YC.ge {w0 W : World} {g : Nat} {f0 : ByteArray} {f1 : Int} {f2 : Int} {f3 : Int} (h : YC w0 W g f0 f1 f2 f3) : w0.heap.size ≤ g := by
 obtain ⟨hb, hg⟩ := h
 exact hg
theorem YC.far {w0 W : World} {g : Nat} {f0 : ByteArray} {f1 : Int} {f2 : Int} {f3 : Int} {p : Addr} (h : YC w0 W g f0 f1 f2 f3) (hne : g ≠ p.block) (u : Value) : YC w0 (W.setCell p u) g f0 f1 f2 f3 := by
 obtain ⟨hb, hg⟩ := h
 exact ⟨Y13 hb hne u, hg⟩
theorem Y1r {W : World} {g : Nat} {f0 : ByteArray} {f1 : Int} {f2 : Int} {f3 : Int} (h : W.heap[g]? = some (.cells #[.string f0, .int .i64 f1, .int .i64 f2, .int .i64 f3] 81 (0, 0))) : W.cell? ⟨g, 0, none⟩ = some (.string f0) := (Y2 h 0).trans rfl
theorem YC.set_0 {w0 W : World} {g : Nat} {f0 : ByteArray} {f1 : Int} {f2 : Int} {f3 : Int} (h : YC w0 W g f0 f1 f2 f3) (x : ByteArray) : YC w0 (W.setCell ⟨g, 0, none⟩ (.string x)) g x f1 f2 f3 := by
 obtain ⟨hb, hg⟩ := h
 exact ⟨by simpa using Y3a hb 0 (.string x), hg⟩
theorem Y1s {W : World} {g : Nat} {f0 : ByteArray} {f1 : Int} {f2 : Int} {f3 : Int} (h : W.heap[g]? = some (.cells #[.string f0, .int .i64 f1, .int .i64 f2, .int .i64 f3] 81 (0, 0))) : W.cell? ⟨g, 1, none⟩ = some (.int .i64 f1) := (Y2 h 1).trans rfl
theorem YC.set_1 {w0 W : World} {g : Nat} {f0 : ByteArray} {f1 : Int} {f2 : Int} {f3 : Int} (h : YC w0 W g f0 f1 f2 f3) (x : Int) : YC w0 (W.setCell ⟨g, 1, none⟩ (.int .i64 x)) g f0 x f2 f3 := by
 obtain ⟨hb, hg⟩ := h
 exact ⟨by simpa using Y3a hb 1 (.int .i64 x), hg⟩
theorem Y1t {W : World} {g : Nat} {f0 : ByteArray} {f1 : Int} {f2 : Int} {f3 : Int} (h : W.heap[g]? = some (.cells #[.string f0, .int .i64 f1, .int .i64 f2, .int .i64 f3] 81 (0, 0))) : W.cell? ⟨g, 2, none⟩ = some (.int .i64 f2) := (Y2 h 2).trans rfl
theorem YC.set_2 {w0 W : World} {g : Nat} {f0 : ByteArray} {f1 : Int} {f2 : Int} {f3 : Int} (h : YC w0 W g f0 f1 f2 f3) (x : Int) : YC w0 (W.setCell ⟨g, 2, none⟩ (.int .i64 x)) g f0 f1 x f3 := by
 obtain ⟨hb, hg⟩ := h
 exact ⟨by simpa using Y3a hb 2 (.int .i64 x), hg⟩
theorem Y1u {W : World} {g : Nat} {f0 : ByteArray} {f1 : Int} {f2 : Int} {f3 : Int} (h : W.heap[g]? = some (.cells #[.string f0, .int .i64 f1, .int .i64 f2, .int .i64 f3] 81 (0, 0))) : W.cell? ⟨g, 3, none⟩ = some (.int .i64 f3) := (Y2 h 3).trans rfl
theorem YC.set_3 {w0 W : World} {g : Nat} {f0 : ByteArray} {f1 : Int} {f2 : Int} {f3 : Int} (h : YC w0 W g f0 f1 f2 f3) (x : Int) : YC w0 (W.setCell ⟨g, 3, none⟩ (.int .i64 x)) g f0 f1 f2 x := by
 obtain ⟨hb, hg⟩ := h
 exact ⟨by simpa using Y3a hb 3 (.int .i64 x), hg⟩
def Ye.l0 : Nat → ByteArray → Int → Int → Int → Option (Int × ByteArray × Int × Int × Int)
 | 0, _, _, _, _ => none
 | k + 1, x1000, x1001, x1002, x1003 => if x1001 < (x1000.size : Int) then (if 0 ≤ x1001 then (if (bt x1000 x1001) = 32 then (Ye.l0 k x1000 (wrap64 (x1001 + 1)) x1002 x1003) else (if x1002 = 0 then (if x1001 ≥ (x1000.size : Int) then (some (0, x1000, x1001, x1002, x1003)) else (some (bt x1000 x1001, x1000, x1001, x1002, x1003))) else (some (0, x1000, x1001, x1002, x1003)))) else (none)) else (if x1002 = 0 then (if x1001 ≥ (x1000.size : Int) then (some (0, x1000, x1001, x1002, x1003)) else (if 0 ≤ x1001 then (none) else (none))) else (some (0, x1000, x1001, x1002, x1003)))
def Ye.f (k : Nat) (s0_0 : ByteArray) (s0_1 : Int) (s0_2 : Int) (s0_3 : Int) : Option (Int × ByteArray × Int × Int × Int) := Ye.l0 k s0_0 s0_1 s0_2 s0_3
theorem Ye.mono_l : ∀ k, (∀ y0 y1 y2 y3, LeO (Ye.l0 k y0 y1 y2 y3) (Ye.l0 (k + 1) y0 y1 y2 y3))
 | 0 => fun _ _ _ _ r h => by simp [Ye.l0] at h
 | k + 1 => by
  have ih0 := Ye.mono_l k
  ·intro y0 y1 y2 y3
   unfold Ye.l0
   exact QM
theorem Ye.mono : ∀ a0 a1 a2 a3 k, LeO (Ye.f k a0 a1 a2 a3) (Ye.f (k + 1) a0 a1 a2 a3) := by
 intro a0 a1 a2 a3 k
 have ih0 := Ye.mono_l k
 unfold Ye.f
 exact QM
end Go.Proofs.YtbpbfboaofkpaaaDoor.Print
end
