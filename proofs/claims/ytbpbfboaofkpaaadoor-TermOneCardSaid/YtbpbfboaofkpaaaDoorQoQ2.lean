/- Proofs for this claim: printed by our driver and joined by pack.py; the last text holds the statement. -/
import Derived.Test.YtbpbfboaofkpaaaDoorQoQ1
set_option linter.unusedSimpArgs false
section
namespace Go.Proofs.YtbpbfboaofkpaaaDoor.Print
open Go.RowKit Go.Proofs.YtbpbfboaofkpaaaDoorW.PrintWords Go.Proofs.YtbpbfboaofkpaaaDoorW.PrintLast Go.Proofs.YtbpbfboaofkpaaaDoorW.PrintMore
attribute [local go_sem] max2_int min2_int max_two min_two max_three min_three max_four min_four
set_option linter.unusedVariables false
set_option linter.unusedSimpArgs false
set_option maxHeartbeats 8000000 in
set_option maxRecDepth 100000 in
theorem Yj.calls (a0_0 : Int) (a0_1 : ByteArray) (a0_2 : ByteArray) (r : ByteArray) (w : World) (h : Yj.f a0_0 a0_1 a0_2 = some r) :
  Calls Tryd.prog 17 #[.agg #[.int .i64 a0_0, .string a0_1, .string a0_2]] w fun e w' => e = .returned (.string r) ∧ Below w.heap.size w w' := by
 have hu24 := Tryd.underlying24
 have HB := Y0.mk (Below.refl w.heap.size w)
 have H : (if a0_0 = 1 then (if 1 + a0_1.size ≤ 9223372036854775807 then (if 1 + a0_1.size + 1 ≤ 9223372036854775807 then (some (((⟨#[60]⟩ : ByteArray) ++ a0_1) ++ (⟨#[62]⟩ : ByteArray))) else (none)) else (none)) else (if a0_0 = 2 then (if 2 + a0_1.size ≤ 9223372036854775807 then (some ((⟨#[95, 58]⟩ : ByteArray) ++ a0_1)) else (none)) else (if a0_0 = 4 then ((YL.f a0_1).bind fun t102 => (if t102.size + 1 ≤ 9223372036854775807 then (if t102.size + 1 + a0_2.size ≤ 9223372036854775807 then (some ((t102 ++ (⟨#[64]⟩ : ByteArray)) ++ a0_2)) else (none)) else (none))) else (if a0_0 = 5 then ((YL.f a0_1).bind fun t103 => (if t103.size + 3 ≤ 9223372036854775807 then (if t103.size + 3 + a0_2.size ≤ 9223372036854775807 then (if t103.size + 3 + a0_2.size + 1 ≤ 9223372036854775807 then (some (((t103 ++ (⟨#[94, 94, 60]⟩ : ByteArray)) ++ a0_2) ++ (⟨#[62]⟩ : ByteArray))) else (none)) else (none)) else (none))) else ((YL.f a0_1).bind fun t104 => (some t104)))))) = some r := h
 clear h
 by_cases c2 : a0_0 = 1
 ·rw [if_pos c2] at H
  have c2b0 : (a0_0 == 1) = true := beq_iff_eq.mpr c2
  have c2b1 : (a0_0 != 1) = false := bne_eq_false_iff_eq.mpr c2
  clear c2
  by_cases c3 : 1 + a0_1.size ≤ 9223372036854775807
  ·rw [if_pos c3] at H
   have c3b0 := eq_true c3
   have c3b1 : decide (1 + a0_1.size ≤ 9223372036854775807) = true := decide_eq_true c3
   try have c3b2 : (9223372036854775807 < 1 + a0_1.size) = False := eq_false (Nat.not_lt.2 c3)
   by_cases c4 : 1 + a0_1.size + 1 ≤ 9223372036854775807
   ·rw [if_pos c4] at H
    have c4b0 := eq_true c4
    have c4b1 : decide (1 + a0_1.size + 1 ≤ 9223372036854775807) = true := decide_eq_true c4
    try have c4b2 : (9223372036854775807 < 1 + a0_1.size + 1) = False := eq_false (Nat.not_lt.2 c4)
    obtain rfl := Option.some.inj H
    go_enter Tryd.func17, Tryd.ntmps17
    go_wp2_with (first | ((with_reducible refine Yt (N := 1) rfl ?_); refine Yp ?hg (N := 1) ?hd (cs := #[.int .i64 a0_0, .string a0_1, .string a0_2]) (t := 24) ?hr ?_; (case hd => rfl); (case hg => rfl); (case hr => exact Zb); intro gb101 hg w5 hbox hb; have n_ := Y1L (Y8 QB hb) (hbox) ((by rw [hg]; exact (Yd QB) : w.heap.size ≤ gb101)) ((by rw [hg]; exact (Yd QB) : w.heap.size ≤ gb101)); clear HB; obtain ⟨HB, BK101, GW101, GE101⟩ := n_; clear hb hbox hg; obtain ⟨hcz6_0, hcz6_1, hcz6_2, hfz6_0, hfz6_1, hfz6_2⟩ := Yr BK101.out))
    go_ret
    exact ZT
   ·rw [if_neg c4] at H
    exact Zd
  ·rw [if_neg c3] at H
   exact Zd
 ·rw [if_neg c2] at H
  have c2b0 : (a0_0 == 1) = false := beq_eq_false_iff_ne.mpr c2
  have c2b1 : (a0_0 != 1) = true := bne_iff_ne.mpr c2
  by_cases c7 : a0_0 = 2
  ·rw [if_pos c7] at H
   have c7b0 : (a0_0 == 2) = true := beq_iff_eq.mpr c7
   have c7b1 : (a0_0 != 2) = false := bne_eq_false_iff_eq.mpr c7
   clear c7
   by_cases c8 : 2 + a0_1.size ≤ 9223372036854775807
   ·rw [if_pos c8] at H
    have c8b0 := eq_true c8
    have c8b1 : decide (2 + a0_1.size ≤ 9223372036854775807) = true := decide_eq_true c8
    try have c8b2 : (9223372036854775807 < 2 + a0_1.size) = False := eq_false (Nat.not_lt.2 c8)
    obtain rfl := Option.some.inj H
    go_enter Tryd.func17, Tryd.ntmps17
    go_wp2_with (first | ((with_reducible refine Yt (N := 1) rfl ?_); refine Yp ?hg (N := 1) ?hd (cs := #[.int .i64 a0_0, .string a0_1, .string a0_2]) (t := 24) ?hr ?_; (case hd => rfl); (case hg => rfl); (case hr => exact Zb); intro gb101 hg w9 hbox hb; have n_ := Y1L (Y8 QB hb) (hbox) ((by rw [hg]; exact (Yd QB) : w.heap.size ≤ gb101)) ((by rw [hg]; exact (Yd QB) : w.heap.size ≤ gb101)); clear HB; obtain ⟨HB, BK101, GW101, GE101⟩ := n_; clear hb hbox hg; obtain ⟨hcz10_0, hcz10_1, hcz10_2, hfz10_0, hfz10_1, hfz10_2⟩ := Yr BK101.out))
    go_ret
    exact ZT
   ·rw [if_neg c8] at H
    exact Zd
  ·rw [if_neg c7] at H
   have c7b0 : (a0_0 == 2) = false := beq_eq_false_iff_ne.mpr c7
   have c7b1 : (a0_0 != 2) = true := bne_iff_ne.mpr c7
   by_cases c11 : a0_0 = 4
   ·rw [if_pos c11] at H
    have c11b0 : (a0_0 == 4) = true := beq_iff_eq.mpr c11
    have c11b1 : (a0_0 != 4) = false := bne_eq_false_iff_eq.mpr c11
    clear c11
    replace H := Option.bind_eq_some_iff.mp H
    obtain ⟨t102, A120, H⟩ := H
    replace H : (if t102.size + 1 ≤ 9223372036854775807 then (if t102.size + 1 + a0_2.size ≤ 9223372036854775807 then (some ((t102 ++ (⟨#[64]⟩ : ByteArray)) ++ a0_2)) else (none)) else (none)) = some r := H
    have A12 := Y0.mk A120
    clear A120
    by_cases c13 : t102.size + 1 ≤ 9223372036854775807
    ·rw [if_pos c13] at H
     have c13b0 := eq_true c13
     have c13b1 : decide (t102.size + 1 ≤ 9223372036854775807) = true := decide_eq_true c13
     try have c13b2 : (9223372036854775807 < t102.size + 1) = False := eq_false (Nat.not_lt.2 c13)
     by_cases c14 : t102.size + 1 + a0_2.size ≤ 9223372036854775807
     ·rw [if_pos c14] at H
      have c14b0 := eq_true c14
      have c14b1 : decide (t102.size + 1 + a0_2.size ≤ 9223372036854775807) = true := decide_eq_true c14
      try have c14b2 : (9223372036854775807 < t102.size + 1 + a0_2.size) = False := eq_false (Nat.not_lt.2 c14)
      obtain rfl := Option.some.inj H
      go_enter Tryd.func17, Tryd.ntmps17
      try go_wp2_with (first | ((with_reducible refine Yt (N := 1) rfl ?_); refine Yp ?hg (N := 1) ?hd (cs := #[.int .i64 a0_0, .string a0_1, .string a0_2]) (t := 24) ?hr ?_; (case hd => rfl); (case hg => rfl); (case hr => exact Zb); intro gb101 hg w15 hbox hb; have n_ := Y1L (Y8 QB hb) (hbox) ((by rw [hg]; exact (Yd QB) : w.heap.size ≤ gb101)) ((by rw [hg]; exact (Yd QB) : w.heap.size ≤ gb101)); clear HB; obtain ⟨HB, BK101, GW101, GE101⟩ := n_; clear hb hbox hg; obtain ⟨hcz16_0, hcz16_1, hcz16_2, hfz16_0, hfz16_1, hfz16_2⟩ := Yr BK101.out))
      have n_ := Y2f (Yg BK101.out) (YH HB.out)
      clear BK101
      clear HB
      obtain ⟨BK101, HB⟩ := n_
      refine Y1K (n := 8) (S := fun w' => w'.cell? ⟨gb101, 0, none⟩ = some (.int .i64 a0_0) ∧ w'.cell? ⟨gb101, 1, none⟩ = some (.string a0_1) ∧ w'.cell? ⟨gb101, 2, none⟩ = some (.string a0_2)) (ds := []) bz8_0 Z7 rfl rfl ⟨(Y1 BK101.out 0).trans rfl, (Y1 BK101.out 1).trans rfl, (Y1 BK101.out 2).trans rfl⟩ (fun hHeld => ?_); refine Y1A Yj.tab7 Yj.bits7 (fun HT_ HW_ => ?_)
      generalize w15.drew = w17 at BK101 HB hHeld ⊢
      refine pY 0 18 bz8_1 ?_
      refine pY 4 22 bz8_11 ?_
      refine pT 1 19 bz8_13 ?_
      refine pT 5 23 bz8_33 ?_
      refine Y2Q (i := 2) (N := some 20) bz8_37 rfl rfl (Y2B HT_.out Z7) (by decide) (fun K hK => ?_)
      refine Y1G Tryd.func42 Z7 rfl #[.string a0_1] (by rfl) rfl rfl Z0 ?_
      with_reducible refine (YL.calls a0_1 t102 _ A12.out).mono ?_
      rintro e w18 ⟨rfl, hb⟩
      refine ⟨_, rfl, ?_⟩
      have n_ := Y2f (Y9 (g := gb101) (o := .cells #[.int .i64 a0_0, .string a0_1, .string a0_2] 24 (0, 0)) QQ hb) (Y8 QB hb)
      clear BK101
      clear HB
      obtain ⟨BK101, HB⟩ := n_
      (try clear hb)
      (try clear hb2)
      (try clear hk)
      (try clear hi)
      refine hK.out _ _ ⟨(Y1 BK101.out 0).trans rfl, (Y1 BK101.out 1).trans rfl, (Y1 BK101.out 2).trans rfl⟩ (fun hHeld => ?_)
      clear hK K
      refine Y1J (a' := ?_) ?_ ?_
      rotate_left
      ·show Act.put _ (some 20) _ = _
       simp only [Act.put, List.setIfInBounds_toArray, List.set_cons_zero, List.set_cons_succ, YI, YJ]
       rfl
      refine pY 3 21 bz8_3f ?_
      refine pY 6 24 bz8_7f ?_
      refine pY 7 2 bz8_ff ?_
      refine Y2g (Y23 HT_.out Z7) ?_
      try go_wp2
      go_ret
      exact ZT
     ·rw [if_neg c14] at H
      exact Zd
    ·rw [if_neg c13] at H
     exact Zd
   ·rw [if_neg c11] at H
    have c11b0 : (a0_0 == 4) = false := beq_eq_false_iff_ne.mpr c11
    have c11b1 : (a0_0 != 4) = true := bne_iff_ne.mpr c11
    by_cases c19 : a0_0 = 5
    ·rw [if_pos c19] at H
     have c19b0 : (a0_0 == 5) = true := beq_iff_eq.mpr c19
     have c19b1 : (a0_0 != 5) = false := bne_eq_false_iff_eq.mpr c19
     clear c19
     replace H := Option.bind_eq_some_iff.mp H
     obtain ⟨t103, A200, H⟩ := H
     replace H : (if t103.size + 3 ≤ 9223372036854775807 then (if t103.size + 3 + a0_2.size ≤ 9223372036854775807 then (if t103.size + 3 + a0_2.size + 1 ≤ 9223372036854775807 then (some (((t103 ++ (⟨#[94, 94, 60]⟩ : ByteArray)) ++ a0_2) ++ (⟨#[62]⟩ : ByteArray))) else (none)) else (none)) else (none)) = some r := H
     have A20 := Y0.mk A200
     clear A200
     by_cases c21 : t103.size + 3 ≤ 9223372036854775807
     ·rw [if_pos c21] at H
      have c21b0 := eq_true c21
      have c21b1 : decide (t103.size + 3 ≤ 9223372036854775807) = true := decide_eq_true c21
      try have c21b2 : (9223372036854775807 < t103.size + 3) = False := eq_false (Nat.not_lt.2 c21)
      by_cases c22 : t103.size + 3 + a0_2.size ≤ 9223372036854775807
      ·rw [if_pos c22] at H
       have c22b0 := eq_true c22
       have c22b1 : decide (t103.size + 3 + a0_2.size ≤ 9223372036854775807) = true := decide_eq_true c22
       try have c22b2 : (9223372036854775807 < t103.size + 3 + a0_2.size) = False := eq_false (Nat.not_lt.2 c22)
       by_cases c23 : t103.size + 3 + a0_2.size + 1 ≤ 9223372036854775807
       ·rw [if_pos c23] at H
        have c23b0 := eq_true c23
        have c23b1 : decide (t103.size + 3 + a0_2.size + 1 ≤ 9223372036854775807) = true := decide_eq_true c23
        try have c23b2 : (9223372036854775807 < t103.size + 3 + a0_2.size + 1) = False := eq_false (Nat.not_lt.2 c23)
        obtain rfl := Option.some.inj H
        go_enter Tryd.func17, Tryd.ntmps17
        try go_wp2_with (first | ((with_reducible refine Yt (N := 1) rfl ?_); refine Yp ?hg (N := 1) ?hd (cs := #[.int .i64 a0_0, .string a0_1, .string a0_2]) (t := 24) ?hr ?_; (case hd => rfl); (case hg => rfl); (case hr => exact Zb); intro gb101 hg w24 hbox hb; have n_ := Y1L (Y8 QB hb) (hbox) ((by rw [hg]; exact (Yd QB) : w.heap.size ≤ gb101)) ((by rw [hg]; exact (Yd QB) : w.heap.size ≤ gb101)); clear HB; obtain ⟨HB, BK101, GW101, GE101⟩ := n_; clear hb hbox hg; obtain ⟨hcz25_0, hcz25_1, hcz25_2, hfz25_0, hfz25_1, hfz25_2⟩ := Yr BK101.out))
        have n_ := Y2f (Yg BK101.out) (YH HB.out)
        clear BK101
        clear HB
        obtain ⟨BK101, HB⟩ := n_
        refine Y1K (n := 9) (S := fun w' => w'.cell? ⟨gb101, 0, none⟩ = some (.int .i64 a0_0) ∧ w'.cell? ⟨gb101, 1, none⟩ = some (.string a0_1) ∧ w'.cell? ⟨gb101, 2, none⟩ = some (.string a0_2)) (ds := []) bz9_0 Z7 rfl rfl ⟨(Y1 BK101.out 0).trans rfl, (Y1 BK101.out 1).trans rfl, (Y1 BK101.out 2).trans rfl⟩ (fun hHeld => ?_); refine Y1A Yj.tab9 Yj.bits9 (fun HT_ HW_ => ?_)
        generalize w24.drew = w26 at BK101 HB hHeld ⊢
        refine pY 0 27 bz9_1 ?_
        refine pY 4 31 bz9_11 ?_
        refine pT 1 28 bz9_13 ?_
        refine pT 5 32 bz9_33 ?_
        refine Y2Q (i := 2) (N := some 29) bz9_37 rfl rfl (Y2B HT_.out Z7) (by decide) (fun K hK => ?_)
        refine Y1G Tryd.func42 Z7 rfl #[.string a0_1] (by rfl) rfl rfl Z0 ?_
        with_reducible refine (YL.calls a0_1 t103 _ A20.out).mono ?_
        rintro e w27 ⟨rfl, hb⟩
        refine ⟨_, rfl, ?_⟩
        have n_ := Y2f (Y9 (g := gb101) (o := .cells #[.int .i64 a0_0, .string a0_1, .string a0_2] 24 (0, 0)) QQ hb) (Y8 QB hb)
        clear BK101
        clear HB
        obtain ⟨BK101, HB⟩ := n_
        (try clear hb)
        (try clear hb2)
        (try clear hk)
        (try clear hi)
        refine hK.out _ _ ⟨(Y1 BK101.out 0).trans rfl, (Y1 BK101.out 1).trans rfl, (Y1 BK101.out 2).trans rfl⟩ (fun hHeld => ?_)
        clear hK K
        refine Y1J (a' := ?_) ?_ ?_
        rotate_left
        ·show Act.put _ (some 29) _ = _
         simp only [Act.put, List.setIfInBounds_toArray, List.set_cons_zero, List.set_cons_succ, YI, YJ]
         rfl
        refine pY 3 30 bz9_3f ?_
        refine pY 6 33 bz9_7f ?_
        refine pY 7 34 bz9_ff ?_
        refine pY 8 2 bz9_1ff ?_
        refine Y2g (Y23 HT_.out Z7) ?_
        try go_wp2
        go_ret
        exact ZT
       ·rw [if_neg c23] at H
        exact Zd
      ·rw [if_neg c22] at H
       exact Zd
     ·rw [if_neg c21] at H
      exact Zd
    ·rw [if_neg c19] at H
     have c19b0 : (a0_0 == 5) = false := beq_eq_false_iff_ne.mpr c19
     have c19b1 : (a0_0 != 5) = true := bne_iff_ne.mpr c19
     replace H := Option.bind_eq_some_iff.mp H
     obtain ⟨t104, A280, H⟩ := H
     replace H : (some t104) = some r := H
     have A28 := Y0.mk A280
     clear A280
     obtain rfl := Option.some.inj H
     go_enter Tryd.func17, Tryd.ntmps17
     go_wp2_with (first | ((with_reducible refine Yt (N := 1) rfl ?_); refine Yp ?hg (N := 1) ?hd (cs := #[.int .i64 a0_0, .string a0_1, .string a0_2]) (t := 24) ?hr ?_; (case hd => rfl); (case hg => rfl); (case hr => exact Zb); intro gb101 hg w29 hbox hb; have n_ := Y1L (Y8 QB hb) (hbox) ((by rw [hg]; exact (Yd QB) : w.heap.size ≤ gb101)) ((by rw [hg]; exact (Yd QB) : w.heap.size ≤ gb101)); clear HB; obtain ⟨HB, BK101, GW101, GE101⟩ := n_; clear hb hbox hg; obtain ⟨hcz30_0, hcz30_1, hcz30_2, hfz30_0, hfz30_1, hfz30_2⟩ := Yr BK101.out) | ((with_reducible refine Ya (f := 42) rfl ?_); refine Yu (some 37) rfl rfl Tryd.func42 Z7 rfl #[.string a0_1] rfl Z0 ?_; (with_reducible refine (YL.calls a0_1 t104 _ A28.out).mono ?_); rintro e w31 ⟨rfl, hb⟩; refine ⟨_, rfl, ?_⟩; have n_ := Y2f (Y9 (g := gb101) (o := .cells #[.int .i64 a0_0, .string a0_1, .string a0_2] 24 (0, 0)) QQ hb) (Y8 QB hb); clear BK101 HB; obtain ⟨BK101, HB⟩ := n_; (try clear hb); (try clear hb2); (try clear hk); (try clear hi)))
     go_ret
     exact ZT
def Y1b.f (a0_0 : Int) (a0_1 : ByteArray) (a0_2 : ByteArray) (a1_0 : Int) (a1_1 : ByteArray) (a1_2 : ByteArray) : Option (Int) := (Yj.f a0_0 a0_1 a0_2).bind fun t103 => ((Yj.f a1_0 a1_1 a1_2).bind fun t104 => ((YF.f t103 t104).bind fun t105 => (some t105)))
set_option maxHeartbeats 8000000 in
set_option maxRecDepth 100000 in
theorem Y1b.calls (a0_0 : Int) (a0_1 : ByteArray) (a0_2 : ByteArray) (a1_0 : Int) (a1_1 : ByteArray) (a1_2 : ByteArray) (r : Int) (w : World) (h : Y1b.f a0_0 a0_1 a0_2 a1_0 a1_1 a1_2 = some r) :
  Calls Tryd.prog 21 #[.agg #[.int .i64 a0_0, .string a0_1, .string a0_2], .agg #[.int .i64 a1_0, .string a1_1, .string a1_2]] w fun e w' => e = .returned (.int .i64 r) ∧ Below w.heap.size w w' := by
 have hu24 := Tryd.underlying24
 have HB := Y0.mk (Below.refl w.heap.size w)
 have H : ((Yj.f a0_0 a0_1 a0_2).bind fun t103 => ((Yj.f a1_0 a1_1 a1_2).bind fun t104 => ((YF.f t103 t104).bind fun t105 => (some t105)))) = some r := h
 clear h
 replace H := Option.bind_eq_some_iff.mp H
 obtain ⟨t103, A30, H⟩ := H
 replace H : ((Yj.f a1_0 a1_1 a1_2).bind fun t104 => ((YF.f t103 t104).bind fun t105 => (some t105))) = some r := H
 have A3 := Y0.mk A30
 clear A30
 replace H := Option.bind_eq_some_iff.mp H
 obtain ⟨t104, A40, H⟩ := H
 replace H : ((YF.f t103 t104).bind fun t105 => (some t105)) = some r := H
 have A4 := Y0.mk A40
 clear A40
 replace H := Option.bind_eq_some_iff.mp H
 obtain ⟨t105, A50, H⟩ := H
 replace H : (some t105) = some r := H
 have A5 := Y0.mk A50
 clear A50
 obtain rfl := Option.some.inj H
 go_enter Tryd.func21, Tryd.ntmps21
 try go_wp2_with (first | ((with_reducible refine Yt (N := 2) rfl ?_); refine Yp ?hg (N := 2) ?hd (cs := #[.int .i64 a0_0, .string a0_1, .string a0_2]) (t := 24) ?hr ?_; (case hd => rfl); (case hg => rfl); (case hr => exact Zb); intro gb101 hg w6 hbox hb; have n_ := Y1L (Y8 QB hb) (hbox) ((by rw [hg]; exact (Yd QB) : w.heap.size ≤ gb101)) ((by rw [hg]; exact (Yd QB) : w.heap.size ≤ gb101)); clear HB; obtain ⟨HB, BK101, GW101, GE101⟩ := n_; clear hb hbox hg) | ((with_reducible refine Yt (N := 3) rfl ?_); refine Yp ?hg (N := 3) ?hd (cs := #[.int .i64 a1_0, .string a1_1, .string a1_2]) (t := 24) ?hr ?_; (case hd => rfl); (case hg => rfl); (case hr => exact Zb); intro gb102 hg w7 hbox hb; have n_ := put7 (Y9 (g := gb101) (o := .cells #[.int .i64 a0_0, .string a0_1, .string a0_2] 24 (0, 0)) QQ hb) (Y8 QB hb) (hbox) ((by rw [hg]; exact (Yd QB) : w.heap.size ≤ gb102)) ((by rw [hg]; exact (Yd QB) : w.heap.size ≤ gb102)) ((by rw [hg]; exact Nat.ne_of_lt (Yy (g := gb101) (o := .cells #[.int .i64 a0_0, .string a0_1, .string a0_2] 24 (0, 0)) QQ) : gb101 ≠ gb102)) ((by rw [hg]; exact Nat.ne_of_gt (Yy (g := gb101) (o := .cells #[.int .i64 a0_0, .string a0_1, .string a0_2] 24 (0, 0)) QQ) : gb102 ≠ gb101)); clear BK101 HB; obtain ⟨BK101, HB, BK102, GW102, GE102, NB101_102, NB102_101⟩ := n_; clear hb hbox hg))
 have n_ := Y1X (Yg BK101.out) (Yg BK102.out) (YH HB.out)
 clear BK101
 clear BK102
 clear HB
 obtain ⟨BK101, BK102, HB⟩ := n_
 refine Y1K (n := 6) (S := fun w' => w'.cell? ⟨gb101, 0, none⟩ = some (.int .i64 a0_0) ∧ w'.cell? ⟨gb101, 1, none⟩ = some (.string a0_1) ∧ w'.cell? ⟨gb101, 2, none⟩ = some (.string a0_2) ∧ w'.cell? ⟨gb102, 0, none⟩ = some (.int .i64 a1_0) ∧ w'.cell? ⟨gb102, 1, none⟩ = some (.string a1_1) ∧ w'.cell? ⟨gb102, 2, none⟩ = some (.string a1_2)) (ds := []) #[false, false, false, false, false, false] Z7 rfl rfl ⟨(Y1 BK101.out 0).trans rfl, (Y1 BK101.out 1).trans rfl, (Y1 BK101.out 2).trans rfl, (Y1 BK102.out 0).trans rfl, (Y1 BK102.out 1).trans rfl, (Y1 BK102.out 2).trans rfl⟩ (fun hHeld => ?_)
 generalize w7.drew = w8 at BK101 BK102 HB hHeld ⊢
 refine Y29 (i := 0) (N := some 5) (v := ?_) (a' := ?_) #[true, false, false, false, false, false] rfl rfl Z7 (fun _ _ _ h => h) (Or.inl ⟨by rfl, ?_⟩) hHeld ?_ ?_
 rotate_left
 ·rintro w' ⟨s0, s1, s2, s3, s4, s5⟩
  go_simp
  with_reducible rfl
 rotate_left
 ·simp only [Act.put, List.setIfInBounds_toArray, List.set_cons_zero, List.set_cons_succ, YI, YJ]
  rfl
 refine Y29 (i := 2) (N := some 7) (v := ?_) (a' := ?_) #[true, false, true, false, false, false] rfl rfl Z7 (fun _ _ _ h => h) (Or.inl ⟨by rfl, ?_⟩) hHeld ?_ ?_
 rotate_left
 ·rintro w' ⟨s0, s1, s2, s3, s4, s5⟩
  go_simp
  with_reducible rfl
 rotate_left
 ·simp only [Act.put, List.setIfInBounds_toArray, List.set_cons_zero, List.set_cons_succ, YI, YJ]
  rfl
 refine Y2Q (i := 1) (N := some 6) #[true, true, true, false, false, false] rfl rfl Z7 (by decide) (fun K hK => ?_)
 refine Y1G Tryd.func17 Z7 rfl #[.agg #[.int .i64 a0_0, .string a0_1, .string a0_2]] (by rfl) rfl rfl Z0 ?_
 with_reducible refine (Yj.calls a0_0 a0_1 a0_2 t103 _ A3.out).mono ?_
 rintro e w9 ⟨rfl, hb⟩
 refine ⟨_, rfl, ?_⟩
 have n_ := Y1X (Y9 (g := gb101) (o := .cells #[.int .i64 a0_0, .string a0_1, .string a0_2] 24 (0, 0)) QQ hb) (Y9 (g := gb102) (o := .cells #[.int .i64 a1_0, .string a1_1, .string a1_2] 24 (0, 0)) QQ hb) (Y8 QB hb)
 clear BK101
 clear BK102
 clear HB
 obtain ⟨BK101, BK102, HB⟩ := n_
 (try clear hb)
 (try clear hb2)
 (try clear hk)
 (try clear hi)
 refine hK.out _ _ ⟨(Y1 BK101.out 0).trans rfl, (Y1 BK101.out 1).trans rfl, (Y1 BK101.out 2).trans rfl, (Y1 BK102.out 0).trans rfl, (Y1 BK102.out 1).trans rfl, (Y1 BK102.out 2).trans rfl⟩ (fun hHeld => ?_)
 clear hK K
 refine Y1J (a' := ?_) ?_ ?_
 rotate_left
 ·show Act.put _ (some 6) _ = _
  simp only [Act.put, List.setIfInBounds_toArray, List.set_cons_zero, List.set_cons_succ, YI, YJ]
  rfl
 refine Y2Q (i := 3) (N := some 8) #[true, true, true, true, false, false] rfl rfl Z7 (by decide) (fun K hK => ?_)
 refine Y1G Tryd.func17 Z7 rfl #[.agg #[.int .i64 a1_0, .string a1_1, .string a1_2]] (by rfl) rfl rfl Z0 ?_
 with_reducible refine (Yj.calls a1_0 a1_1 a1_2 t104 _ A4.out).mono ?_
 rintro e w10 ⟨rfl, hb⟩
 refine ⟨_, rfl, ?_⟩
 have n_ := Y1X (Y9 (g := gb101) (o := .cells #[.int .i64 a0_0, .string a0_1, .string a0_2] 24 (0, 0)) QQ hb) (Y9 (g := gb102) (o := .cells #[.int .i64 a1_0, .string a1_1, .string a1_2] 24 (0, 0)) QQ hb) (Y8 QB hb)
 clear BK101
 clear BK102
 clear HB
 obtain ⟨BK101, BK102, HB⟩ := n_
 (try clear hb)
 (try clear hb2)
 (try clear hk)
 (try clear hi)
 refine hK.out _ _ ⟨(Y1 BK101.out 0).trans rfl, (Y1 BK101.out 1).trans rfl, (Y1 BK101.out 2).trans rfl, (Y1 BK102.out 0).trans rfl, (Y1 BK102.out 1).trans rfl, (Y1 BK102.out 2).trans rfl⟩ (fun hHeld => ?_)
 clear hK K
 refine Y1J (a' := ?_) ?_ ?_
 rotate_left
 ·show Act.put _ (some 8) _ = _
  simp only [Act.put, List.setIfInBounds_toArray, List.set_cons_zero, List.set_cons_succ, YI, YJ]
  rfl
 refine Y2Q (i := 4) (N := some 9) #[true, true, true, true, true, false] rfl rfl Z7 (by decide) (fun K hK => ?_)
 refine Y1G Tryd.func48 Z7 rfl #[.string t103, .string t104] (by rfl) rfl rfl Z0 ?_
 with_reducible refine (YF.calls t103 t104 t105 _ A5.out).mono ?_
 rintro e w' ⟨rfl, ⟨nd, rfl⟩⟩
 refine ⟨_, rfl, ?_⟩
 refine hK.out _ _ ⟨(Y1 BK101.out 0).trans rfl, (Y1 BK101.out 1).trans rfl, (Y1 BK101.out 2).trans rfl, (Y1 BK102.out 0).trans rfl, (Y1 BK102.out 1).trans rfl, (Y1 BK102.out 2).trans rfl⟩ (fun hHeld => ?_)
 clear hK K
 refine Y1J (a' := ?_) ?_ ?_
 rotate_left
 ·show Act.put _ (some 9) _ = _
  simp only [Act.put, List.setIfInBounds_toArray, List.set_cons_zero, List.set_cons_succ, YI, YJ]
  rfl
 refine Y2h (i := 5) (N := some 4) (v := ?_) (a' := ?_) #[true, true, true, true, true, true] rfl rfl Z7 (fun _ _ _ h => h) (Or.inl ⟨by rfl, ?_⟩) ?_ ?_
 rotate_left
 ·intro w'
  go_simp
  with_reducible rfl
 rotate_left
 ·simp only [Act.put, List.setIfInBounds_toArray, List.set_cons_zero, List.set_cons_succ, YI, YJ]
  rfl
 refine Y2g Z7 ?_
 try go_wp2
 go_ret
 exact ZT
def YK.j0 : Nat → Bool → Int → ByteArray → ByteArray → Option (Bool)
 | 0, _, _, _, _ => none
 | k + 1, x3, x102000, x102001, x102002 => if x102000 = 1 then ((YC.f x102001).bind fun t103 => (if t103 = true then (some (x102002.toList == ([] : List UInt8))) else (some false))) else (if x102000 = 2 then ((Y1k.f x102001).bind fun t104 => (if t104 = true then (some (x102002.toList == ([] : List UInt8))) else (some false))) else (if x102000 = 3 then (if x3 = true then (some (x102002.toList == ([] : List UInt8))) else (some false)) else (if x102000 = 4 then (if x3 = true then ((Y1s.f x102002).bind fun t105 => (some t105)) else (some false)) else (if x102000 = 5 then (if x3 = true then ((YC.f x102002).bind fun t106 => (some t106)) else (some false)) else (some false)))))
def YK.f (k : Nat) (a0_0 : Int) (a0_1 : ByteArray) (a0_2 : ByteArray) : Option (Bool) := if (a0_1.size : Int) ≤ 30 then ((utf8_ValidString.f a0_1).bind fun t102 => (YK.j0 k t102 a0_0 a0_1 a0_2)) else (YK.j0 k false a0_0 a0_1 a0_2)
theorem YK.mono_l : ∀ k, (∀ y0 y1 y2 y3, LeO (YK.j0 k y0 y1 y2 y3) (YK.j0 (k + 1) y0 y1 y2 y3))
 | 0 => fun _ _ _ _ r h => by simp [YK.j0] at h
 | k + 1 => by
  have ih0 := YK.mono_l k
  ·intro y0 y1 y2 y3
   unfold YK.j0
   exact QM
theorem YK.mono : ∀ a0 a1 a2 k, LeO (YK.f k a0 a1 a2) (YK.f (k + 1) a0 a1 a2) := by
 intro a0 a1 a2 k
 have ih0 := YK.mono_l k
 unfold YK.f
 exact QM
set_option maxHeartbeats 8000000 in
set_option maxRecDepth 100000 in
theorem YK.calls (k : Nat) (a0_0 : Int) (a0_1 : ByteArray) (a0_2 : ByteArray) (r : Bool) (w : World) (hT : Tabs w) (h : YK.f k a0_0 a0_1 a0_2 = some r) :
  Calls Tryd.prog 15 #[.agg #[.int .i64 a0_0, .string a0_1, .string a0_2]] w fun e w' => e = .returned (.bool r) ∧ Below w.heap.size w w' := by
 have HT := Y0.mk hT
 clear hT
 have hu24 := Tryd.underlying24
 have HB := Y0.mk (Below.refl w.heap.size w)
 have H : (if (a0_1.size : Int) ≤ 30 then ((utf8_ValidString.f a0_1).bind fun t102 => (YK.j0 k t102 a0_0 a0_1 a0_2)) else (YK.j0 k false a0_0 a0_1 a0_2)) = some r := h
 clear h
 have HC2 := Y0.mk H
 clear H
 go_enter Tryd.func15, Tryd.ntmps15
 go_upto_region 1 with (first | ((with_reducible refine Yt (N := 1) rfl ?_); refine Yp ?hg (N := 1) ?hd (cs := #[.int .i64 a0_0, .string a0_1, .string a0_2]) (t := 24) ?hr ?_; (case hd => rfl); (case hg => rfl); (case hr => exact Zb); intro gb101 hg w3 hbox hb; have n_ := Y1L (Y8 QB hb) (hbox) ((by rw [hg]; exact (Yd QB) : w.heap.size ≤ gb101)) ((by rw [hg]; exact (Yd QB) : w.heap.size ≤ gb101)); clear HB; obtain ⟨HB, BK101, GW101, GE101⟩ := n_; clear hb hbox hg))
 (try simp only [Act.put, List.setIfInBounds_toArray, List.set_cons_zero, List.set_cons_succ])
 go_cut [3] (fun v3 wc => ∃ (kq : Nat) (x3_1 : Bool), v3 = .bool x3_1 ∧ Y0 (YK.j0 kq x3_1 a0_0 a0_1 a0_2 = some r) ∧ Y0 (kq ≤ k) ∧ Y0 (wc.heap[gb101]? = some (.cells #[.int .i64 a0_0, .string a0_1, .string a0_2] 24 (0, 0))) ∧ Y0 (Below w.heap.size w wc))
 case first =>
  have H := HC2.out
  clear HC2
  by_cases c4 : (a0_1.size : Int) ≤ 30
  ·rw [if_pos c4] at H
   have c4b0 : decide ((a0_1.size : Int) ≤ 30) = true := decide_eq_true c4
   have c4b1 : decide (a0_1.size ≤ 30) = true := decide_eq_true (by omega)
   clear c4
   (first | rw [c4b0] | (simp only [YI, YJ]; rw [c4b0]) | skip)
   replace H := Option.bind_eq_some_iff.mp H
   obtain ⟨t102, A50, H⟩ := H
   replace H : (YK.j0 k t102 a0_0 a0_1 a0_2) = some r := H
   have A5 := Y0.mk A50
   clear A50
   have H' := Y0.mk H
   clear H
   obtain ⟨hcz6_0, hcz6_1, hcz6_2, hfz6_0, hfz6_1, hfz6_2⟩ := Yr BK101.out
   go_wp2_with (first | (go_at_call 38; (with_reducible refine (utf8_ValidString.calls a0_1 t102 _ ?side1 A5.out).mono ?_); (case side1 => exact Z3); rintro e w7 ⟨rfl, hb⟩; have n_ := Y2f (Y9 (g := gb101) (o := .cells #[.int .i64 a0_0, .string a0_1, .string a0_2] 24 (0, 0)) QQ hb) (Y8 QB hb); clear BK101 HB; obtain ⟨BK101, HB⟩ := n_; (try clear hb); (try clear hb2); (try clear hk); (try clear hi)))
   go_meet
   case rel => exact ⟨_, (t102), Z4, H', ⟨Zj⟩, ⟨Zf⟩, ⟨QB⟩⟩
  ·rw [if_neg c4] at H
   have c4b0 : decide ((a0_1.size : Int) ≤ 30) = false := decide_eq_false c4
   have c4b1 : decide (a0_1.size ≤ 30) = false := decide_eq_false (by omega)
   clear c4
   (first | rw [c4b0] | (simp only [YI, YJ]; rw [c4b0]) | skip)
   have H' := Y0.mk H
   clear H
   obtain ⟨hcz8_0, hcz8_1, hcz8_2, hfz8_0, hfz8_1, hfz8_2⟩ := Yr BK101.out
   go_wp2
   go_meet
   case rel => exact ⟨_, (false), Z4, H', ⟨Zj⟩, ⟨Zf⟩, ⟨QB⟩⟩
 case rest =>
  clear HC2
  try clear c1
  try clear p2
  try clear c4
  try clear c4b0
  try clear c4b1
  try clear hcz6_0 hcz6_1 hcz6_2
  try clear hcz8_0 hcz8_1 hcz8_2
  try clear hfz6_0
  try clear hfz6_1
  try clear hfz6_2
  try clear hfz8_0
  try clear hfz8_1
  try clear hfz8_2
  obtain ⟨kq, x3_1, rfl, HA, HJ1, BK101, HB⟩ := hcut
  cases kq with
  | zero => exact absurd HA.out (by simp [YK.j0])
  | succ kj1 =>
   have H := HA.out
   clear HA
   simp only [YK.j0] at H
   by_cases c9 : a0_0 = 1
   ·rw [if_pos c9] at H
    have c9b0 : (a0_0 == 1) = true := beq_iff_eq.mpr c9
    have c9b1 : (a0_0 != 1) = false := bne_eq_false_iff_eq.mpr c9
    clear c9
    replace H := Option.bind_eq_some_iff.mp H
    obtain ⟨t103, A100, H⟩ := H
    replace H : (if t103 = true then (some (a0_2.toList == ([] : List UInt8))) else (some false)) = some r := H
    have A10 := Y0.mk A100
    clear A100
    by_cases c11 : t103 = true
    ·subst c11
     have H1 : (some (a0_2.toList == ([] : List UInt8))) = some r := by rw [if_pos rfl] at H; exact H
     clear H
     have H := H1
     clear H1
     obtain rfl := Option.some.inj H
     obtain ⟨hcz12_0, hcz12_1, hcz12_2, hfz12_0, hfz12_1, hfz12_2⟩ := Yr BK101.out
     go_wp2_with (first | ((with_reducible refine Ya (f := 39) rfl ?_); refine Yu (some 19) rfl rfl Tryd.func39 Z7 rfl #[.string a0_1] rfl Z0 ?_; (with_reducible refine (YC.calls a0_1 true _ ?side1 A10.out).mono ?_); (case side1 => exact Z3); rintro e w13 ⟨rfl, hb⟩; refine ⟨_, rfl, ?_⟩; have n_ := Y2f (Y9 (g := gb101) (o := .cells #[.int .i64 a0_0, .string a0_1, .string a0_2] 24 (0, 0)) QQ hb) (Y8 QB hb); clear BK101 HB; obtain ⟨BK101, HB⟩ := n_; (try clear hb); (try clear hb2); (try clear hk); (try clear hi); obtain ⟨hcz14_0, hcz14_1, hcz14_2, hfz14_0, hfz14_1, hfz14_2⟩ := Yr BK101.out))
     go_ret
     exact ZT
    ·replace c11 := Bool.eq_false_iff.mpr c11
     subst c11
     have H1 : (some false) = some r := by rw [if_neg (show ¬ (false = true) by decide)] at H; exact H
     clear H
     have H := H1
     clear H1
     obtain rfl := Option.some.inj H
     obtain ⟨hcz15_0, hcz15_1, hcz15_2, hfz15_0, hfz15_1, hfz15_2⟩ := Yr BK101.out
     go_wp2_with (first | ((with_reducible refine Ya (f := 39) rfl ?_); refine Yu (some 19) rfl rfl Tryd.func39 Z7 rfl #[.string a0_1] rfl Z0 ?_; (with_reducible refine (YC.calls a0_1 false _ ?side1 A10.out).mono ?_); (case side1 => exact Z3); rintro e w16 ⟨rfl, hb⟩; refine ⟨_, rfl, ?_⟩; have n_ := Y2f (Y9 (g := gb101) (o := .cells #[.int .i64 a0_0, .string a0_1, .string a0_2] 24 (0, 0)) QQ hb) (Y8 QB hb); clear BK101 HB; obtain ⟨BK101, HB⟩ := n_; (try clear hb); (try clear hb2); (try clear hk); (try clear hi)))
     go_ret
     exact ZT
   ·rw [if_neg c9] at H
    have c9b0 : (a0_0 == 1) = false := beq_eq_false_iff_ne.mpr c9
    have c9b1 : (a0_0 != 1) = true := bne_iff_ne.mpr c9
    by_cases c17 : a0_0 = 2
    ·rw [if_pos c17] at H
     have c17b0 : (a0_0 == 2) = true := beq_iff_eq.mpr c17
     have c17b1 : (a0_0 != 2) = false := bne_eq_false_iff_eq.mpr c17
     clear c17
     replace H := Option.bind_eq_some_iff.mp H
     obtain ⟨t104, A180, H⟩ := H
     replace H : (if t104 = true then (some (a0_2.toList == ([] : List UInt8))) else (some false)) = some r := H
     have A18 := Y0.mk A180
     clear A180
     by_cases c19 : t104 = true
     ·subst c19
      have H1 : (some (a0_2.toList == ([] : List UInt8))) = some r := by rw [if_pos rfl] at H; exact H
      clear H
      have H := H1
      clear H1
      obtain rfl := Option.some.inj H
      obtain ⟨hcz20_0, hcz20_1, hcz20_2, hfz20_0, hfz20_1, hfz20_2⟩ := Yr BK101.out
      go_wp2_with (first | ((with_reducible refine Ya (f := 40) rfl ?_); refine Yu (some 29) rfl rfl Tryd.func40 Z7 rfl #[.string a0_1] rfl Z0 ?_; (with_reducible refine (Y1k.calls a0_1 true _ A18.out).mono ?_); rintro e w21 ⟨rfl, hb⟩; refine ⟨_, rfl, ?_⟩; have n_ := Y2f (Y9 (g := gb101) (o := .cells #[.int .i64 a0_0, .string a0_1, .string a0_2] 24 (0, 0)) QQ hb) (Y8 QB hb); clear BK101 HB; obtain ⟨BK101, HB⟩ := n_; (try clear hb); (try clear hb2); (try clear hk); (try clear hi); obtain ⟨hcz22_0, hcz22_1, hcz22_2, hfz22_0, hfz22_1, hfz22_2⟩ := Yr BK101.out))
      go_ret
      exact ZT
     ·replace c19 := Bool.eq_false_iff.mpr c19
      subst c19
      have H1 : (some false) = some r := by rw [if_neg (show ¬ (false = true) by decide)] at H; exact H
      clear H
      have H := H1
      clear H1
      obtain rfl := Option.some.inj H
      obtain ⟨hcz23_0, hcz23_1, hcz23_2, hfz23_0, hfz23_1, hfz23_2⟩ := Yr BK101.out
      go_wp2_with (first | ((with_reducible refine Ya (f := 40) rfl ?_); refine Yu (some 29) rfl rfl Tryd.func40 Z7 rfl #[.string a0_1] rfl Z0 ?_; (with_reducible refine (Y1k.calls a0_1 false _ A18.out).mono ?_); rintro e w24 ⟨rfl, hb⟩; refine ⟨_, rfl, ?_⟩; have n_ := Y2f (Y9 (g := gb101) (o := .cells #[.int .i64 a0_0, .string a0_1, .string a0_2] 24 (0, 0)) QQ hb) (Y8 QB hb); clear BK101 HB; obtain ⟨BK101, HB⟩ := n_; (try clear hb); (try clear hb2); (try clear hk); (try clear hi)))
      go_ret
      exact ZT
    ·rw [if_neg c17] at H
     have c17b0 : (a0_0 == 2) = false := beq_eq_false_iff_ne.mpr c17
     have c17b1 : (a0_0 != 2) = true := bne_iff_ne.mpr c17
     by_cases c25 : a0_0 = 3
     ·rw [if_pos c25] at H
      have c25b0 : (a0_0 == 3) = true := beq_iff_eq.mpr c25
      have c25b1 : (a0_0 != 3) = false := bne_eq_false_iff_eq.mpr c25
      clear c25
      by_cases c26 : x3_1 = true
      ·subst c26
       have H1 : (some (a0_2.toList == ([] : List UInt8))) = some r := by rw [if_pos rfl] at H; exact H
       clear H
       have H := H1
       clear H1
       obtain rfl := Option.some.inj H
       obtain ⟨hcz27_0, hcz27_1, hcz27_2, hfz27_0, hfz27_1, hfz27_2⟩ := Yr BK101.out
       go_wp2
       go_ret
       exact ZT
      ·replace c26 := Bool.eq_false_iff.mpr c26
       subst c26
       have H1 : (some false) = some r := by rw [if_neg (show ¬ (false = true) by decide)] at H; exact H
       clear H
       have H := H1
       clear H1
       obtain rfl := Option.some.inj H
       obtain ⟨hcz28_0, hcz28_1, hcz28_2, hfz28_0, hfz28_1, hfz28_2⟩ := Yr BK101.out
       go_wp2
       go_ret
       exact ZT
     ·rw [if_neg c25] at H
      have c25b0 : (a0_0 == 3) = false := beq_eq_false_iff_ne.mpr c25
      have c25b1 : (a0_0 != 3) = true := bne_iff_ne.mpr c25
      by_cases c29 : a0_0 = 4
      ·rw [if_pos c29] at H
       have c29b0 : (a0_0 == 4) = true := beq_iff_eq.mpr c29
       have c29b1 : (a0_0 != 4) = false := bne_eq_false_iff_eq.mpr c29
       clear c29
       by_cases c30 : x3_1 = true
       ·subst c30
        have H1 : ((Y1s.f a0_2).bind fun t105 => (some t105)) = some r := by rw [if_pos rfl] at H; exact H
        clear H
        have H := H1
        clear H1
        replace H := Option.bind_eq_some_iff.mp H
        obtain ⟨t105, A310, H⟩ := H
        replace H : (some t105) = some r := H
        have A31 := Y0.mk A310
        clear A310
        obtain rfl := Option.some.inj H
        obtain ⟨hcz32_0, hcz32_1, hcz32_2, hfz32_0, hfz32_1, hfz32_2⟩ := Yr BK101.out
        go_wp2_with (first | (go_at_call 41; (with_reducible refine (Y1s.calls a0_2 t105 _ ?side1 A31.out).mono ?_); (case side1 => exact Z3); rintro e w33 ⟨rfl, hb⟩; have n_ := Y2f (Y9 (g := gb101) (o := .cells #[.int .i64 a0_0, .string a0_1, .string a0_2] 24 (0, 0)) QQ hb) (Y8 QB hb); clear BK101 HB; obtain ⟨BK101, HB⟩ := n_; (try clear hb); (try clear hb2); (try clear hk); (try clear hi)))
        go_ret
        exact ZT
       ·replace c30 := Bool.eq_false_iff.mpr c30
        subst c30
        have H1 : (some false) = some r := by rw [if_neg (show ¬ (false = true) by decide)] at H; exact H
        clear H
        have H := H1
        clear H1
        obtain rfl := Option.some.inj H
        obtain ⟨hcz34_0, hcz34_1, hcz34_2, hfz34_0, hfz34_1, hfz34_2⟩ := Yr BK101.out
        go_wp2
        go_ret
        exact ZT
      ·rw [if_neg c29] at H
       have c29b0 : (a0_0 == 4) = false := beq_eq_false_iff_ne.mpr c29
       have c29b1 : (a0_0 != 4) = true := bne_iff_ne.mpr c29
       by_cases c35 : a0_0 = 5
       ·rw [if_pos c35] at H
        have c35b0 : (a0_0 == 5) = true := beq_iff_eq.mpr c35
        have c35b1 : (a0_0 != 5) = false := bne_eq_false_iff_eq.mpr c35
        clear c35
        by_cases c36 : x3_1 = true
        ·subst c36
         have H1 : ((YC.f a0_2).bind fun t106 => (some t106)) = some r := by rw [if_pos rfl] at H; exact H
         clear H
         have H := H1
         clear H1
         replace H := Option.bind_eq_some_iff.mp H
         obtain ⟨t106, A370, H⟩ := H
         replace H : (some t106) = some r := H
         have A37 := Y0.mk A370
         clear A370
         obtain rfl := Option.some.inj H
         obtain ⟨hcz38_0, hcz38_1, hcz38_2, hfz38_0, hfz38_1, hfz38_2⟩ := Yr BK101.out
         go_wp2_with (first | (go_at_call 39; (with_reducible refine (YC.calls a0_2 t106 _ ?side1 A37.out).mono ?_); (case side1 => exact Z3); rintro e w39 ⟨rfl, hb⟩; have n_ := Y2f (Y9 (g := gb101) (o := .cells #[.int .i64 a0_0, .string a0_1, .string a0_2] 24 (0, 0)) QQ hb) (Y8 QB hb); clear BK101 HB; obtain ⟨BK101, HB⟩ := n_; (try clear hb); (try clear hb2); (try clear hk); (try clear hi)))
         go_ret
         exact ZT
        ·replace c36 := Bool.eq_false_iff.mpr c36
         subst c36
         have H1 : (some false) = some r := by rw [if_neg (show ¬ (false = true) by decide)] at H; exact H
         clear H
         have H := H1
         clear H1
         obtain rfl := Option.some.inj H
         obtain ⟨hcz40_0, hcz40_1, hcz40_2, hfz40_0, hfz40_1, hfz40_2⟩ := Yr BK101.out
         go_wp2
         go_ret
         exact ZT
       ·rw [if_neg c35] at H
        have c35b0 : (a0_0 == 5) = false := beq_eq_false_iff_ne.mpr c35
        have c35b1 : (a0_0 != 5) = true := bne_iff_ne.mpr c35
        obtain rfl := Option.some.inj H
        obtain ⟨hcz41_0, hcz41_1, hcz41_2, hfz41_0, hfz41_1, hfz41_2⟩ := Yr BK101.out
        go_wp2
        go_ret
        exact ZT
def Ys.f (k : Nat)  : Option (Bool) := (YK.f k 4 (⟨#[97, 10]⟩ : ByteArray) (⟨#[101, 110]⟩ : ByteArray)).bind fun t102 => (if t102 = true then ((Yj.f 4 (⟨#[97, 10]⟩ : ByteArray) (⟨#[101, 110]⟩ : ByteArray)).bind fun t103 => (if t103.toList = ([34, 97, 92, 110, 34, 64, 101, 110] : List UInt8) then ((YC.f (⟨#[97, 58, 98]⟩ : ByteArray)).bind fun t104 => (if t104 = true then ((YC.f (⟨#[97, 32, 98]⟩ : ByteArray)).bind fun t105 => (some (!t105))) else (some false))) else (some false))) else (some false))
theorem Ys.mono : ∀ k, LeO (Ys.f k ) (Ys.f (k + 1) ) := by
 intro  k
 unfold Ys.f
 exact QM
set_option maxHeartbeats 8000000 in
set_option maxRecDepth 100000 in
theorem Ys.calls (k : Nat)  (r : Bool) (w : World) (hT : Tabs w) (h : Ys.f k  = some r) :
  Calls Tryd.prog 16 #[] w fun e w' => e = .returned (.bool r) ∧ Below w.heap.size w w' := by
 have HT := Y0.mk hT
 clear hT
 have hu24 := Tryd.underlying24
 have HB := Y0.mk (Below.refl w.heap.size w)
 have H : ((YK.f k 4 (⟨#[97, 10]⟩ : ByteArray) (⟨#[101, 110]⟩ : ByteArray)).bind fun t102 => (if t102 = true then ((Yj.f 4 (⟨#[97, 10]⟩ : ByteArray) (⟨#[101, 110]⟩ : ByteArray)).bind fun t103 => (if t103.toList = ([34, 97, 92, 110, 34, 64, 101, 110] : List UInt8) then ((YC.f (⟨#[97, 58, 98]⟩ : ByteArray)).bind fun t104 => (if t104 = true then ((YC.f (⟨#[97, 32, 98]⟩ : ByteArray)).bind fun t105 => (some (!t105))) else (some false))) else (some false))) else (some false))) = some r := h
 clear h
 replace H := Option.bind_eq_some_iff.mp H
 obtain ⟨t102, A10, H⟩ := H
 replace H : (if t102 = true then ((Yj.f 4 (⟨#[97, 10]⟩ : ByteArray) (⟨#[101, 110]⟩ : ByteArray)).bind fun t103 => (if t103.toList = ([34, 97, 92, 110, 34, 64, 101, 110] : List UInt8) then ((YC.f (⟨#[97, 58, 98]⟩ : ByteArray)).bind fun t104 => (if t104 = true then ((YC.f (⟨#[97, 32, 98]⟩ : ByteArray)).bind fun t105 => (some (!t105))) else (some false))) else (some false))) else (some false)) = some r := H
 have A1 := Y0.mk A10
 clear A10
 by_cases c2 : t102 = true
 ·subst c2
  have H1 : ((Yj.f 4 (⟨#[97, 10]⟩ : ByteArray) (⟨#[101, 110]⟩ : ByteArray)).bind fun t103 => (if t103.toList = ([34, 97, 92, 110, 34, 64, 101, 110] : List UInt8) then ((YC.f (⟨#[97, 58, 98]⟩ : ByteArray)).bind fun t104 => (if t104 = true then ((YC.f (⟨#[97, 32, 98]⟩ : ByteArray)).bind fun t105 => (some (!t105))) else (some false))) else (some false))) = some r := by rw [if_pos rfl] at H; exact H
  clear H
  have H := H1
  clear H1
  replace H := Option.bind_eq_some_iff.mp H
  obtain ⟨t103, A30, H⟩ := H
  replace H : (if t103.toList = ([34, 97, 92, 110, 34, 64, 101, 110] : List UInt8) then ((YC.f (⟨#[97, 58, 98]⟩ : ByteArray)).bind fun t104 => (if t104 = true then ((YC.f (⟨#[97, 32, 98]⟩ : ByteArray)).bind fun t105 => (some (!t105))) else (some false))) else (some false)) = some r := H
  have A3 := Y0.mk A30
  clear A30
  by_cases c4 : t103.toList = ([34, 97, 92, 110, 34, 64, 101, 110] : List UInt8)
  ·rw [if_pos c4] at H
   have c4b0 : (t103.toList == ([34, 97, 92, 110, 34, 64, 101, 110] : List UInt8)) = true := beq_iff_eq.mpr c4
   have c4b1 : (t103.toList != ([34, 97, 92, 110, 34, 64, 101, 110] : List UInt8)) = false := bne_eq_false_iff_eq.mpr c4
   clear c4
   replace H := Option.bind_eq_some_iff.mp H
   obtain ⟨t104, A50, H⟩ := H
   replace H : (if t104 = true then ((YC.f (⟨#[97, 32, 98]⟩ : ByteArray)).bind fun t105 => (some (!t105))) else (some false)) = some r := H
   have A5 := Y0.mk A50
   clear A50
   by_cases c6 : t104 = true
   ·subst c6
    have H1 : ((YC.f (⟨#[97, 32, 98]⟩ : ByteArray)).bind fun t105 => (some (!t105))) = some r := by rw [if_pos rfl] at H; exact H
    clear H
    have H := H1
    clear H1
    replace H := Option.bind_eq_some_iff.mp H
    obtain ⟨t105, A70, H⟩ := H
    replace H : (some (!t105)) = some r := H
    have A7 := Y0.mk A70
    clear A70
    obtain rfl := Option.some.inj H
    go_enter Tryd.func16, Tryd.ntmps16
    go_wp2_with (first | ((with_reducible refine Yt (N := 1) rfl ?_); refine Yp ?hg (N := 1) ?hd (cs := #[.int .i64 0, .string (⟨#[]⟩ : ByteArray), .string (⟨#[]⟩ : ByteArray)]) (t := 24) ?hr ?_; (case hd => rfl); (case hg => rfl); (case hr => exact Zb); intro gb101 hg w8 hbox hb; have n_ := Y1L (Y8 QB hb) (hbox) ((by rw [hg]; exact (Yd QB) : w.heap.size ≤ gb101)) ((by rw [hg]; exact (Yd QB) : w.heap.size ≤ gb101)); clear HB; obtain ⟨HB, BK101, GW101, GE101⟩ := n_; clear hb hbox hg; obtain ⟨hcz9_0, hcz9_1, hcz9_2, hfz9_0, hfz9_1, hfz9_2⟩ := Yr BK101.out) | ((with_reducible refine Ya (f := 15) rfl ?_); refine Yu (some 4) rfl rfl Tryd.func15 Z7 rfl #[.agg #[.int .i64 4, .string (⟨#[97, 10]⟩ : ByteArray), .string (⟨#[101, 110]⟩ : ByteArray)]] rfl Z0 ?_; (with_reducible refine (YK.calls k 4 (⟨#[97, 10]⟩ : ByteArray) (⟨#[101, 110]⟩ : ByteArray) true _ ?side1 A1.out).mono ?_); (case side1 => exact Z3); rintro e w10 ⟨rfl, hb⟩; refine ⟨_, rfl, ?_⟩; have n_ := Y2f (Y9 (g := gb101) (o := .cells #[.int .i64 4, .string (⟨#[97, 10]⟩ : ByteArray), .string (⟨#[101, 110]⟩ : ByteArray)] 24 (0, 0)) ZN hb) (Y8 QB hb); clear BK101 HB; obtain ⟨BK101, HB⟩ := n_; (try clear hb); (try clear hb2); (try clear hk); (try clear hi); obtain ⟨hcz11_0, hcz11_1, hcz11_2, hfz11_0, hfz11_1, hfz11_2⟩ := Yr BK101.out) | (go_at_call 17; (with_reducible refine (Yj.calls 4 (⟨#[97, 10]⟩ : ByteArray) (⟨#[101, 110]⟩ : ByteArray) t103 _ A3.out).mono ?_); rintro e w12 ⟨rfl, hb⟩; have n_ := Y2f (Y9 (g := gb101) (o := .cells #[.int .i64 4, .string (⟨#[97, 10]⟩ : ByteArray), .string (⟨#[101, 110]⟩ : ByteArray)] 24 (0, 0)) QQ hb) (Y8 QB hb); clear BK101 HB; obtain ⟨BK101, HB⟩ := n_; (try clear hb); (try clear hb2); (try clear hk); (try clear hi)) | (go_at_call 39; (with_reducible refine (YC.calls (⟨#[97, 58, 98]⟩ : ByteArray) true _ ?side1 A5.out).mono ?_); (case side1 => exact Z3); rintro e w13 ⟨rfl, hb⟩; have n_ := Y2f (Y9 (g := gb101) (o := .cells #[.int .i64 4, .string (⟨#[97, 10]⟩ : ByteArray), .string (⟨#[101, 110]⟩ : ByteArray)] 24 (0, 0)) QQ hb) (Y8 QB hb); clear BK101 HB; obtain ⟨BK101, HB⟩ := n_; (try clear hb); (try clear hb2); (try clear hk); (try clear hi)) | (go_at_call 39; (with_reducible refine (YC.calls (⟨#[97, 32, 98]⟩ : ByteArray) t105 _ ?side1 A7.out).mono ?_); (case side1 => exact Z3); rintro e w14 ⟨rfl, hb⟩; have n_ := Y2f (Y9 (g := gb101) (o := .cells #[.int .i64 4, .string (⟨#[97, 10]⟩ : ByteArray), .string (⟨#[101, 110]⟩ : ByteArray)] 24 (0, 0)) QQ hb) (Y8 QB hb); clear BK101 HB; obtain ⟨BK101, HB⟩ := n_; (try clear hb); (try clear hb2); (try clear hk); (try clear hi)))
    go_ret
    exact ZT
   ·replace c6 := Bool.eq_false_iff.mpr c6
    subst c6
    have H1 : (some false) = some r := by rw [if_neg (show ¬ (false = true) by decide)] at H; exact H
    clear H
    have H := H1
    clear H1
    obtain rfl := Option.some.inj H
    go_enter Tryd.func16, Tryd.ntmps16
    go_wp2_with (first | ((with_reducible refine Yt (N := 1) rfl ?_); refine Yp ?hg (N := 1) ?hd (cs := #[.int .i64 0, .string (⟨#[]⟩ : ByteArray), .string (⟨#[]⟩ : ByteArray)]) (t := 24) ?hr ?_; (case hd => rfl); (case hg => rfl); (case hr => exact Zb); intro gb101 hg w15 hbox hb; have n_ := Y1L (Y8 QB hb) (hbox) ((by rw [hg]; exact (Yd QB) : w.heap.size ≤ gb101)) ((by rw [hg]; exact (Yd QB) : w.heap.size ≤ gb101)); clear HB; obtain ⟨HB, BK101, GW101, GE101⟩ := n_; clear hb hbox hg; obtain ⟨hcz16_0, hcz16_1, hcz16_2, hfz16_0, hfz16_1, hfz16_2⟩ := Yr BK101.out) | ((with_reducible refine Ya (f := 15) rfl ?_); refine Yu (some 4) rfl rfl Tryd.func15 Z7 rfl #[.agg #[.int .i64 4, .string (⟨#[97, 10]⟩ : ByteArray), .string (⟨#[101, 110]⟩ : ByteArray)]] rfl Z0 ?_; (with_reducible refine (YK.calls k 4 (⟨#[97, 10]⟩ : ByteArray) (⟨#[101, 110]⟩ : ByteArray) true _ ?side1 A1.out).mono ?_); (case side1 => exact Z3); rintro e w17 ⟨rfl, hb⟩; refine ⟨_, rfl, ?_⟩; have n_ := Y2f (Y9 (g := gb101) (o := .cells #[.int .i64 4, .string (⟨#[97, 10]⟩ : ByteArray), .string (⟨#[101, 110]⟩ : ByteArray)] 24 (0, 0)) ZN hb) (Y8 QB hb); clear BK101 HB; obtain ⟨BK101, HB⟩ := n_; (try clear hb); (try clear hb2); (try clear hk); (try clear hi); obtain ⟨hcz18_0, hcz18_1, hcz18_2, hfz18_0, hfz18_1, hfz18_2⟩ := Yr BK101.out) | (go_at_call 17; (with_reducible refine (Yj.calls 4 (⟨#[97, 10]⟩ : ByteArray) (⟨#[101, 110]⟩ : ByteArray) t103 _ A3.out).mono ?_); rintro e w19 ⟨rfl, hb⟩; have n_ := Y2f (Y9 (g := gb101) (o := .cells #[.int .i64 4, .string (⟨#[97, 10]⟩ : ByteArray), .string (⟨#[101, 110]⟩ : ByteArray)] 24 (0, 0)) QQ hb) (Y8 QB hb); clear BK101 HB; obtain ⟨BK101, HB⟩ := n_; (try clear hb); (try clear hb2); (try clear hk); (try clear hi)) | (go_at_call 39; (with_reducible refine (YC.calls (⟨#[97, 58, 98]⟩ : ByteArray) false _ ?side1 A5.out).mono ?_); (case side1 => exact Z3); rintro e w20 ⟨rfl, hb⟩; have n_ := Y2f (Y9 (g := gb101) (o := .cells #[.int .i64 4, .string (⟨#[97, 10]⟩ : ByteArray), .string (⟨#[101, 110]⟩ : ByteArray)] 24 (0, 0)) QQ hb) (Y8 QB hb); clear BK101 HB; obtain ⟨BK101, HB⟩ := n_; (try clear hb); (try clear hb2); (try clear hk); (try clear hi)))
    go_ret
    exact ZT
  ·rw [if_neg c4] at H
   have c4b0 : (t103.toList == ([34, 97, 92, 110, 34, 64, 101, 110] : List UInt8)) = false := beq_eq_false_iff_ne.mpr c4
   have c4b1 : (t103.toList != ([34, 97, 92, 110, 34, 64, 101, 110] : List UInt8)) = true := bne_iff_ne.mpr c4
   obtain rfl := Option.some.inj H
   go_enter Tryd.func16, Tryd.ntmps16
   go_wp2_with (first | ((with_reducible refine Yt (N := 1) rfl ?_); refine Yp ?hg (N := 1) ?hd (cs := #[.int .i64 0, .string (⟨#[]⟩ : ByteArray), .string (⟨#[]⟩ : ByteArray)]) (t := 24) ?hr ?_; (case hd => rfl); (case hg => rfl); (case hr => exact Zb); intro gb101 hg w21 hbox hb; have n_ := Y1L (Y8 QB hb) (hbox) ((by rw [hg]; exact (Yd QB) : w.heap.size ≤ gb101)) ((by rw [hg]; exact (Yd QB) : w.heap.size ≤ gb101)); clear HB; obtain ⟨HB, BK101, GW101, GE101⟩ := n_; clear hb hbox hg; obtain ⟨hcz22_0, hcz22_1, hcz22_2, hfz22_0, hfz22_1, hfz22_2⟩ := Yr BK101.out) | ((with_reducible refine Ya (f := 15) rfl ?_); refine Yu (some 4) rfl rfl Tryd.func15 Z7 rfl #[.agg #[.int .i64 4, .string (⟨#[97, 10]⟩ : ByteArray), .string (⟨#[101, 110]⟩ : ByteArray)]] rfl Z0 ?_; (with_reducible refine (YK.calls k 4 (⟨#[97, 10]⟩ : ByteArray) (⟨#[101, 110]⟩ : ByteArray) true _ ?side1 A1.out).mono ?_); (case side1 => exact Z3); rintro e w23 ⟨rfl, hb⟩; refine ⟨_, rfl, ?_⟩; have n_ := Y2f (Y9 (g := gb101) (o := .cells #[.int .i64 4, .string (⟨#[97, 10]⟩ : ByteArray), .string (⟨#[101, 110]⟩ : ByteArray)] 24 (0, 0)) ZN hb) (Y8 QB hb); clear BK101 HB; obtain ⟨BK101, HB⟩ := n_; (try clear hb); (try clear hb2); (try clear hk); (try clear hi); obtain ⟨hcz24_0, hcz24_1, hcz24_2, hfz24_0, hfz24_1, hfz24_2⟩ := Yr BK101.out) | (go_at_call 17; (with_reducible refine (Yj.calls 4 (⟨#[97, 10]⟩ : ByteArray) (⟨#[101, 110]⟩ : ByteArray) t103 _ A3.out).mono ?_); rintro e w25 ⟨rfl, hb⟩; have n_ := Y2f (Y9 (g := gb101) (o := .cells #[.int .i64 4, .string (⟨#[97, 10]⟩ : ByteArray), .string (⟨#[101, 110]⟩ : ByteArray)] 24 (0, 0)) QQ hb) (Y8 QB hb); clear BK101 HB; obtain ⟨BK101, HB⟩ := n_; (try clear hb); (try clear hb2); (try clear hk); (try clear hi)))
   go_ret
   exact ZT
 ·replace c2 := Bool.eq_false_iff.mpr c2
  subst c2
  have H1 : (some false) = some r := by rw [if_neg (show ¬ (false = true) by decide)] at H; exact H
  clear H
  have H := H1
  clear H1
  obtain rfl := Option.some.inj H
  go_enter Tryd.func16, Tryd.ntmps16
  go_wp2_with (first | ((with_reducible refine Yt (N := 1) rfl ?_); refine Yp ?hg (N := 1) ?hd (cs := #[.int .i64 0, .string (⟨#[]⟩ : ByteArray), .string (⟨#[]⟩ : ByteArray)]) (t := 24) ?hr ?_; (case hd => rfl); (case hg => rfl); (case hr => exact Zb); intro gb101 hg w26 hbox hb; have n_ := Y1L (Y8 QB hb) (hbox) ((by rw [hg]; exact (Yd QB) : w.heap.size ≤ gb101)) ((by rw [hg]; exact (Yd QB) : w.heap.size ≤ gb101)); clear HB; obtain ⟨HB, BK101, GW101, GE101⟩ := n_; clear hb hbox hg; obtain ⟨hcz27_0, hcz27_1, hcz27_2, hfz27_0, hfz27_1, hfz27_2⟩ := Yr BK101.out) | ((with_reducible refine Ya (f := 15) rfl ?_); refine Yu (some 4) rfl rfl Tryd.func15 Z7 rfl #[.agg #[.int .i64 4, .string (⟨#[97, 10]⟩ : ByteArray), .string (⟨#[101, 110]⟩ : ByteArray)]] rfl Z0 ?_; (with_reducible refine (YK.calls k 4 (⟨#[97, 10]⟩ : ByteArray) (⟨#[101, 110]⟩ : ByteArray) false _ ?side1 A1.out).mono ?_); (case side1 => exact Z3); rintro e w28 ⟨rfl, hb⟩; refine ⟨_, rfl, ?_⟩; have n_ := Y2f (Y9 (g := gb101) (o := .cells #[.int .i64 4, .string (⟨#[97, 10]⟩ : ByteArray), .string (⟨#[101, 110]⟩ : ByteArray)] 24 (0, 0)) ZN hb) (Y8 QB hb); clear BK101 HB; obtain ⟨BK101, HB⟩ := n_; (try clear hb); (try clear hb2); (try clear hk); (try clear hi)))
  go_ret
  exact ZT
def Yi.l0 : Nat → List (S24) → Int → Option (Bool)
 | 0, _, _ => none
 | k + 1, x0, x3 => if x3 < (x0.length : Int) then (if 0 ≤ x3 then (if (((Y1z x0 x3).f1).size : Int) > 300 then (some true) else (if (((Y1z x0 x3).f2).size : Int) > 300 then (some true) else (Yi.l0 k x0 (wrap64 (x3 + 1))))) else (none)) else (some false)
def Yi.f (k : Nat) (l0 : List (S24)) : Option (Bool) := Yi.l0 k l0 0
set_option maxHeartbeats 8000000 in
set_option maxRecDepth 100000 in
theorem Yi.calls (k : Nat) (A0 : Option Addr) (c0 : Nat) (l0 : List (S24)) (r : Bool) (w : World) (hr0 : Kd.C k24 w A0 l0.length l0) (hc0 : l0.length ≤ c0) (h : Yi.f k l0 = some r) :
  Calls Tryd.prog 19 #[.slice A0 l0.length c0] w fun e w' => e = .returned (.bool r) ∧ YO w w' := by
 have HR0 := Y0.mk hr0
 have HC0 := Y0.mk hc0
 clear hr0 hc0
 have H : (Yi.l0 k l0 0) = some r := h
 clear h
 have H' := Y0.mk H
 clear H
 go_enter Tryd.func19, Tryd.ntmps19
 go_wp2
 go_loopg [3] k (fun kq v3 w' => ∃ (x3_1 : Int), v3 = .int .i64 x3_1 ∧ Y0 (Yi.l0 kq l0 x3_1 = some r) ∧ Y0 (kq ≤ k) ∧ YO w w')
 case atStart => exact ⟨(0), Z4, H', ⟨Nat.le_refl _⟩, Z6⟩
 case round =>
  clear H'
  try clear c1
  obtain ⟨x3_1, rfl, HA, HK1, ⟨m1, rfl⟩⟩ := hrel
  cases gk with
  | zero => exact absurd HA.out (by simp [Yi.l0])
  | succ k1 =>
   have H := HA.out
   clear HA
   simp only [Yi.l0] at H
   by_cases c2 : x3_1 < (l0.length : Int)
   ·rw [if_pos c2] at H
    have c2b0 : decide (x3_1 < (l0.length : Int)) = true := decide_eq_true c2
    clear c2
    by_cases c3 : 0 ≤ x3_1
    ·rw [if_pos c3] at H
     have c3b0 : decide (0 ≤ x3_1) = true := decide_eq_true c3
     clear c3
     by_cases c4 : (((Y1z l0 x3_1).f1).size : Int) > 300
     ·rw [if_pos c4] at H
      have c4b0 : decide (300 < (((Y1z l0 x3_1).f1).size : Int)) = true := decide_eq_true c4
      have c4b1 : decide (300 < ((Y1z l0 x3_1).f1).size) = true := decide_eq_true (by omega)
      clear c4
      obtain rfl := Option.some.inj H
      have p101 : 0 ≤ (x3_1 : Int) := of_decide_eq_true Z5
      have q101 : x3_1 < (l0.length : Int) := of_decide_eq_true Z5
      obtain ⟨ad101, e101, hx101_0, hx101_1, hx101_2⟩ := Y3I HR0.out x3_1 p101 q101
      cases e101
      replace p101 := eq_true p101
      replace q101 := eq_true q101
      go_wp2
      go_ret
      exact ZX
     ·rw [if_neg c4] at H
      have c4b0 : decide (300 < (((Y1z l0 x3_1).f1).size : Int)) = false := decide_eq_false c4
      have c4b1 : decide (300 < ((Y1z l0 x3_1).f1).size) = false := decide_eq_false (by omega)
      clear c4
      by_cases c5 : (((Y1z l0 x3_1).f2).size : Int) > 300
      ·rw [if_pos c5] at H
       have c5b0 : decide (300 < (((Y1z l0 x3_1).f2).size : Int)) = true := decide_eq_true c5
       have c5b1 : decide (300 < ((Y1z l0 x3_1).f2).size) = true := decide_eq_true (by omega)
       clear c5
       obtain rfl := Option.some.inj H
       have p101 : 0 ≤ (x3_1 : Int) := of_decide_eq_true Z5
       have q101 : x3_1 < (l0.length : Int) := of_decide_eq_true Z5
       obtain ⟨ad101, e101, hx101_0, hx101_1, hx101_2⟩ := Y3I HR0.out x3_1 p101 q101
       cases e101
       replace p101 := eq_true p101
       replace q101 := eq_true q101
       have p102 : 0 ≤ (x3_1 : Int) := of_decide_eq_true Z5
       have q102 : x3_1 < (l0.length : Int) := of_decide_eq_true Z5
       obtain ⟨ad102, e102, hx102_0, hx102_1, hx102_2⟩ := Y3I HR0.out x3_1 p102 q102
       obtain rfl : ad101 = ad102 := (by injection e102)
       replace p102 := eq_true p102
       replace q102 := eq_true q102
       go_wp2
       go_ret
       exact ZX
      ·rw [if_neg c5] at H
       have c5b0 : decide (300 < (((Y1z l0 x3_1).f2).size : Int)) = false := decide_eq_false c5
       have c5b1 : decide (300 < ((Y1z l0 x3_1).f2).size) = false := decide_eq_false (by omega)
       clear c5
       have H' := Y0.mk H
       clear H
       have p101 : 0 ≤ (x3_1 : Int) := of_decide_eq_true Z5
       have q101 : x3_1 < (l0.length : Int) := of_decide_eq_true Z5
       obtain ⟨ad101, e101, hx101_0, hx101_1, hx101_2⟩ := Y3I HR0.out x3_1 p101 q101
       cases e101
       replace p101 := eq_true p101
       replace q101 := eq_true q101
       have p102 : 0 ≤ (x3_1 : Int) := of_decide_eq_true Z5
       have q102 : x3_1 < (l0.length : Int) := of_decide_eq_true Z5
       obtain ⟨ad102, e102, hx102_0, hx102_1, hx102_2⟩ := Y3I HR0.out x3_1 p102 q102
       obtain rfl : ad101 = ad102 := (by injection e102)
       replace p102 := eq_true p102
       replace q102 := eq_true q102
       go_wp2
       go_roundg k1
       case measure => have := HK1.out; omega
       case rel => exact ⟨(wrap64 (x3_1 + 1)), Z4, H', ⟨Zv⟩, Z6⟩
    ·rw [if_neg c3] at H
     exact Zd
   ·rw [if_neg c2] at H
    have c2b0 : decide (x3_1 < (l0.length : Int)) = false := decide_eq_false c2
    clear c2
    obtain rfl := Option.some.inj H
    go_wp2
    go_ret
    exact ZX
def Yz.f (a0 : Int) : Option (Bool) := if a0 ≥ 97 then (if a0 ≤ 122 then (some true) else (if a0 ≥ 65 then (if a0 ≤ 90 then (some true) else (if a0 ≥ 48 then (some (decide (a0 ≤ 57))) else (some false))) else (if a0 ≥ 48 then (some (decide (a0 ≤ 57))) else (some false)))) else (if a0 ≥ 65 then (if a0 ≤ 90 then (some true) else (if a0 ≥ 48 then (some (decide (a0 ≤ 57))) else (some false))) else (if a0 ≥ 48 then (some (decide (a0 ≤ 57))) else (some false)))
set_option maxHeartbeats 8000000 in
set_option maxRecDepth 100000 in
theorem Yz.calls (a0 : Int) (r : Bool) (w : World) (h : Yz.f a0 = some r) :
  Calls Tryd.prog 90 #[.int .u8 a0] w fun e w' => e = .returned (.bool r) ∧ YO w w' := by
 have H : (if a0 ≥ 97 then (if a0 ≤ 122 then (some true) else (if a0 ≥ 65 then (if a0 ≤ 90 then (some true) else (if a0 ≥ 48 then (some (decide (a0 ≤ 57))) else (some false))) else (if a0 ≥ 48 then (some (decide (a0 ≤ 57))) else (some false)))) else (if a0 ≥ 65 then (if a0 ≤ 90 then (some true) else (if a0 ≥ 48 then (some (decide (a0 ≤ 57))) else (some false))) else (if a0 ≥ 48 then (some (decide (a0 ≤ 57))) else (some false)))) = some r := h
 clear h
 by_cases c2 : a0 ≥ 97
 ·rw [if_pos c2] at H
  have c2b0 : decide (97 ≤ a0) = true := decide_eq_true c2
  clear c2
  by_cases c3 : a0 ≤ 122
  ·rw [if_pos c3] at H
   have c3b0 : decide (a0 ≤ 122) = true := decide_eq_true c3
   clear c3
   obtain rfl := Option.some.inj H
   go_enter Tryd.func90, Tryd.ntmps90
   go_wp2
   go_ret
   exact ZX
  ·rw [if_neg c3] at H
   have c3b0 : decide (a0 ≤ 122) = false := decide_eq_false c3
   clear c3
   by_cases c4 : a0 ≥ 65
   ·rw [if_pos c4] at H
    have c4b0 : decide (65 ≤ a0) = true := decide_eq_true c4
    clear c4
    by_cases c5 : a0 ≤ 90
    ·rw [if_pos c5] at H
     have c5b0 : decide (a0 ≤ 90) = true := decide_eq_true c5
     clear c5
     obtain rfl := Option.some.inj H
     go_enter Tryd.func90, Tryd.ntmps90
     go_wp2
     go_ret
     exact ZX
    ·rw [if_neg c5] at H
     have c5b0 : decide (a0 ≤ 90) = false := decide_eq_false c5
     clear c5
     by_cases c6 : a0 ≥ 48
     ·rw [if_pos c6] at H
      have c6b0 : decide (48 ≤ a0) = true := decide_eq_true c6
      clear c6
      obtain rfl := Option.some.inj H
      go_enter Tryd.func90, Tryd.ntmps90
      go_wp2
      go_ret
      exact ZX
     ·rw [if_neg c6] at H
      have c6b0 : decide (48 ≤ a0) = false := decide_eq_false c6
      clear c6
      obtain rfl := Option.some.inj H
      go_enter Tryd.func90, Tryd.ntmps90
      go_wp2
      go_ret
      exact ZX
   ·rw [if_neg c4] at H
    have c4b0 : decide (65 ≤ a0) = false := decide_eq_false c4
    clear c4
    by_cases c7 : a0 ≥ 48
    ·rw [if_pos c7] at H
     have c7b0 : decide (48 ≤ a0) = true := decide_eq_true c7
     clear c7
     obtain rfl := Option.some.inj H
     go_enter Tryd.func90, Tryd.ntmps90
     go_wp2
     go_ret
     exact ZX
    ·rw [if_neg c7] at H
     have c7b0 : decide (48 ≤ a0) = false := decide_eq_false c7
     clear c7
     obtain rfl := Option.some.inj H
     go_enter Tryd.func90, Tryd.ntmps90
     go_wp2
     go_ret
     exact ZX
 ·rw [if_neg c2] at H
  have c2b0 : decide (97 ≤ a0) = false := decide_eq_false c2
  clear c2
  by_cases c8 : a0 ≥ 65
  ·rw [if_pos c8] at H
   have c8b0 : decide (65 ≤ a0) = true := decide_eq_true c8
   clear c8
   by_cases c9 : a0 ≤ 90
   ·rw [if_pos c9] at H
    have c9b0 : decide (a0 ≤ 90) = true := decide_eq_true c9
    clear c9
    obtain rfl := Option.some.inj H
    go_enter Tryd.func90, Tryd.ntmps90
    go_wp2
    go_ret
    exact ZX
   ·rw [if_neg c9] at H
    have c9b0 : decide (a0 ≤ 90) = false := decide_eq_false c9
    clear c9
    by_cases c10 : a0 ≥ 48
    ·rw [if_pos c10] at H
     have c10b0 : decide (48 ≤ a0) = true := decide_eq_true c10
     clear c10
     obtain rfl := Option.some.inj H
     go_enter Tryd.func90, Tryd.ntmps90
     go_wp2
     go_ret
     exact ZX
    ·rw [if_neg c10] at H
     have c10b0 : decide (48 ≤ a0) = false := decide_eq_false c10
     clear c10
     obtain rfl := Option.some.inj H
     go_enter Tryd.func90, Tryd.ntmps90
     go_wp2
     go_ret
     exact ZX
  ·rw [if_neg c8] at H
   have c8b0 : decide (65 ≤ a0) = false := decide_eq_false c8
   clear c8
   by_cases c11 : a0 ≥ 48
   ·rw [if_pos c11] at H
    have c11b0 : decide (48 ≤ a0) = true := decide_eq_true c11
    clear c11
    obtain rfl := Option.some.inj H
    go_enter Tryd.func90, Tryd.ntmps90
    go_wp2
    go_ret
    exact ZX
   ·rw [if_neg c11] at H
    have c11b0 : decide (48 ≤ a0) = false := decide_eq_false c11
    clear c11
    obtain rfl := Option.some.inj H
    go_enter Tryd.func90, Tryd.ntmps90
    go_wp2
    go_ret
    exact ZX
def Yl.l0 : Nat → ByteArray → Int → Option (Bool)
 | 0, _, _ => none
 | k + 1, x0, x3 => if x3 < (x0.size : Int) then (if 0 ≤ x3 then ((Yz.f (bt x0 x3)).bind fun t101 => (if t101 = true then (Yl.l0 k x0 (wrap64 (x3 + 1))) else (some false))) else (none)) else (if (x0.size : Int) ≥ 1 then (some (decide ((x0.size : Int) ≤ 8))) else (some false))
def Yl.f (k : Nat) (a0 : ByteArray) : Option (Bool) := Yl.l0 k a0 0
set_option maxHeartbeats 8000000 in
set_option maxRecDepth 100000 in
theorem Yl.calls (k : Nat) (a0 : ByteArray) (r : Bool) (w : World) (h : Yl.f k a0 = some r) :
  Calls Tryd.prog 46 #[.string a0] w fun e w' => e = .returned (.bool r) ∧ YO w w' := by
 have H : (Yl.l0 k a0 0) = some r := h
 clear h
 have H' := Y0.mk H
 clear H
 go_enter Tryd.func46, Tryd.ntmps46
 go_wp2
 go_loopg [3] k (fun kq v3 w' => ∃ (x3_1 : Int), v3 = .int .i64 x3_1 ∧ Y0 (Yl.l0 kq a0 x3_1 = some r) ∧ Y0 (kq ≤ k) ∧ YO w w')
 case atStart => exact ⟨(0), Z4, H', ⟨Nat.le_refl _⟩, Z6⟩
 case round =>
  clear H'
  obtain ⟨x3_1, rfl, HA, HK1, ⟨m1, rfl⟩⟩ := hrel
  cases gk with
  | zero => exact absurd HA.out (by simp [Yl.l0])
  | succ k1 =>
   have H := HA.out
   clear HA
   simp only [Yl.l0] at H
   by_cases c2 : x3_1 < (a0.size : Int)
   ·rw [if_pos c2] at H
    have c2b0 : decide (x3_1 < (a0.size : Int)) = true := decide_eq_true c2
    clear c2
    by_cases c3 : 0 ≤ x3_1
    ·rw [if_pos c3] at H
     have c3b0 : decide (0 ≤ x3_1) = true := decide_eq_true c3
     clear c3
     replace H := Option.bind_eq_some_iff.mp H
     obtain ⟨t101, A50, H⟩ := H
     replace H : (if t101 = true then (Yl.l0 k1 a0 (wrap64 (x3_1 + 1))) else (some false)) = some r := H
     have A5 := Y0.mk A50
     clear A50
     by_cases c6 : t101 = true
     ·subst c6
      have H1 : (Yl.l0 k1 a0 (wrap64 (x3_1 + 1))) = some r := by rw [if_pos rfl] at H; exact H
      clear H
      have H := H1
      clear H1
      have H' := Y0.mk H
      clear H
      have p4 : 0 ≤ (x3_1 : Int) := of_decide_eq_true Z5
      have q4 : x3_1 < (a0.size : Int) := of_decide_eq_true Z5
      have hx4 := YV a0 x3_1
      replace p4 := eq_true p4
      replace q4 := eq_true q4
      go_wp2_with (first | ((with_reducible refine Ya (f := 90) rfl ?_); refine Yu (some 13) rfl rfl Tryd.func90 Z7 rfl #[.int .u8 (bt a0 x3_1)] rfl Z0 ?_; (with_reducible refine (Yz.calls (bt a0 x3_1) true _ A5.out).mono ?_); rintro e w' ⟨rfl, ⟨nd, rfl⟩⟩; refine ⟨_, rfl, ?_⟩))
      go_roundg k1
      case measure => have := HK1.out; omega
      case rel => exact ⟨(wrap64 (x3_1 + 1)), Z4, H', ⟨Zv⟩, Z6⟩
     ·replace c6 := Bool.eq_false_iff.mpr c6
      subst c6
      have H1 : (some false) = some r := by rw [if_neg (show ¬ (false = true) by decide)] at H; exact H
      clear H
      have H := H1
      clear H1
      obtain rfl := Option.some.inj H
      have p4 : 0 ≤ (x3_1 : Int) := of_decide_eq_true Z5
      have q4 : x3_1 < (a0.size : Int) := of_decide_eq_true Z5
      have hx4 := YV a0 x3_1
      replace p4 := eq_true p4
      replace q4 := eq_true q4
      go_wp2_with (first | ((with_reducible refine Ya (f := 90) rfl ?_); refine Yu (some 13) rfl rfl Tryd.func90 Z7 rfl #[.int .u8 (bt a0 x3_1)] rfl Z0 ?_; (with_reducible refine (Yz.calls (bt a0 x3_1) false _ A5.out).mono ?_); rintro e w' ⟨rfl, ⟨nd, rfl⟩⟩; refine ⟨_, rfl, ?_⟩))
      go_ret
      exact ZX
    ·rw [if_neg c3] at H
     exact Zd
   ·rw [if_neg c2] at H
    have c2b0 : decide (x3_1 < (a0.size : Int)) = false := decide_eq_false c2
    clear c2
    by_cases c7 : (a0.size : Int) ≥ 1
    ·rw [if_pos c7] at H
     have c7b0 : decide (1 ≤ (a0.size : Int)) = true := decide_eq_true c7
     have c7b1 : decide (1 ≤ a0.size) = true := decide_eq_true (by omega)
     clear c7
     obtain rfl := Option.some.inj H
     go_wp2
     go_ret
     exact ZX
    ·rw [if_neg c7] at H
     have c7b0 : decide (1 ≤ (a0.size : Int)) = false := decide_eq_false c7
     have c7b1 : decide (1 ≤ a0.size) = false := decide_eq_false (by omega)
     clear c7
     obtain rfl := Option.some.inj H
     go_wp2
     go_ret
     exact ZX
mutual
def Y6.l0 : Nat → ByteArray → Int → Int → Int → Option (Bool)
 | 0, _, _, _, _ => none
 | k + 1, x0, x3, x4, x5 => if x5 < (x0.size : Int) then (if 0 ≤ x5 then (if (bt x0 x5) ≥ 97 then (if (bt x0 x5) ≥ 48 then (Y6.j1 k x0 x3 x4 x5 (decide ((bt x0 x5) ≤ 122)) (decide ((bt x0 x5) ≤ 57))) else (Y6.j1 k x0 x3 x4 x5 (decide ((bt x0 x5) ≤ 122)) false)) else (if (bt x0 x5) ≥ 48 then (Y6.j1 k x0 x3 x4 x5 false (decide ((bt x0 x5) ≤ 57))) else (Y6.j1 k x0 x3 x4 x5 false false))) else (none)) else (if x4 > 0 then (some (decide ((x0.size : Int) ≤ 16))) else (some false))
def Y6.j1 : Nat → ByteArray → Int → Int → Int → Bool → Bool → Option (Bool)
 | 0, _, _, _, _, _, _ => none
 | k + 1, x0, x3, x4, x5, x6, x7 => if 0 ≤ x5 then (if x5 < (x0.size : Int) then (if (bt x0 x5) = 45 then (Y6.j2 k x0 x3 x4 x5 x6 x7 (decide (x4 > 0))) else (Y6.j2 k x0 x3 x4 x5 x6 x7 false)) else (none)) else (none)
def Y6.j2 : Nat → ByteArray → Int → Int → Int → Bool → Bool → Bool → Option (Bool)
 | 0, _, _, _, _, _, _, _ => none
 | k + 1, x0, x3, x4, x5, x6, x7, x34 => if x34 = true then (Y6.l0 k x0 (wrap64 (x3 + 1)) 0 (wrap64 (x5 + 1))) else (if x6 = true then (Y6.j3 k x0 x3 x4 x5 true) else (if x7 = true then (Y6.j3 k x0 x3 x4 x5 (decide (x3 > 0))) else (Y6.j3 k x0 x3 x4 x5 false)))
def Y6.j3 : Nat → ByteArray → Int → Int → Int → Bool → Option (Bool)
 | 0, _, _, _, _, _ => none
 | k + 1, x0, x3, x4, x5, x45 => if x45 = true then (if (wrap64 (x4 + 1)) > 8 then (some false) else (Y6.l0 k x0 x3 (wrap64 (x4 + 1)) (wrap64 (x5 + 1)))) else (some false)
end
def Y6.f (k : Nat) (a0 : ByteArray) : Option (Bool) := Y6.l0 k a0 0 0 0
set_option maxHeartbeats 8000000 in
set_option maxRecDepth 100000 in
theorem Y6.calls (k : Nat) (a0 : ByteArray) (r : Bool) (w : World) (h : Y6.f k a0 = some r) :
  Calls Tryd.prog 47 #[.string a0] w fun e w' => e = .returned (.bool r) ∧ YO w w' := by
 have H : (Y6.l0 k a0 0 0 0) = some r := h
 clear h
 have H' := Y0.mk H
 clear H
 go_enter Tryd.func47, Tryd.ntmps47
 go_wp2
 repeat (go_quiet (fail); try go_wp2)
 go_loopg [3, 4, 5] k (fun kq v3 v4 v5 w' => ∃ (x3_1 : Int) (x4_1 : Int) (x5_1 : Int), v3 = .int .i64 x3_1 ∧ v4 = .int .i64 x4_1 ∧ v5 = .int .i64 x5_1 ∧ Y0 (Y6.l0 kq a0 x3_1 x4_1 x5_1 = some r) ∧ Y0 (kq ≤ k) ∧ YO w w')
 case atStart => exact ⟨(0), (0), (0), Z4, Z4, Z4, H', ⟨Nat.le_refl _⟩, Z6⟩
 case round =>
  clear H'
  obtain ⟨x3_1, x4_1, x5_1, rfl, rfl, rfl, HA, HK1, ⟨m1, rfl⟩⟩ := hrel
  cases gk with
  | zero => exact absurd HA.out (by simp [Y6.l0])
  | succ k1 =>
   have H := HA.out
   clear HA
   simp only [Y6.l0] at H
   by_cases c2 : x5_1 < (a0.size : Int)
   ·rw [if_pos c2] at H
    have c2b0 : decide (x5_1 < (a0.size : Int)) = true := decide_eq_true c2
    clear c2
    have HC3 := Y0.mk H
    clear H
    go_upto_region 5 with (fail)
    repeat (go_quiet (fail); go_upto_region 5 with (fail))
    go_cut [6, 7] (fun v6 v7 wc => ∃ (kq : Nat) (x6_2 : Bool) (x7_2 : Bool), v6 = .bool x6_2 ∧ v7 = .bool x7_2 ∧ Y0 (Y6.j1 kq a0 x3_1 x4_1 x5_1 x6_2 x7_2 = some r) ∧ Y0 (kq ≤ k1) ∧ YO w wc)
    case first =>
     have H := HC3.out
     clear HC3
     by_cases c4 : 0 ≤ x5_1
     ·rw [if_pos c4] at H
      have c4b0 : decide (0 ≤ x5_1) = true := decide_eq_true c4
      clear c4
      (first | rw [c4b0] | (simp only [YI, YJ]; rw [c4b0]) | skip)
      by_cases c6 : (bt a0 x5_1) ≥ 97
      ·rw [if_pos c6] at H
       have c6b0 : decide (97 ≤ (bt a0 x5_1)) = true := decide_eq_true c6
       clear c6
       by_cases c9 : (bt a0 x5_1) ≥ 48
       ·rw [if_pos c9] at H
        have c9b0 : decide (48 ≤ (bt a0 x5_1)) = true := decide_eq_true c9
        clear c9
        have H' := Y0.mk H
        clear H
        have p5 : 0 ≤ (x5_1 : Int) := of_decide_eq_true Z5
        have q5 : x5_1 < (a0.size : Int) := of_decide_eq_true Z5
        have hx5 := YV a0 x5_1
        replace p5 := eq_true p5
        replace q5 := eq_true q5
        have p7 : 0 ≤ (x5_1 : Int) := of_decide_eq_true Z5
        have q7 : x5_1 < (a0.size : Int) := of_decide_eq_true Z5
        have hx7 := YV a0 x5_1
        replace p7 := eq_true p7
        replace q7 := eq_true q7
        have p8 : 0 ≤ (x5_1 : Int) := of_decide_eq_true Z5
        have q8 : x5_1 < (a0.size : Int) := of_decide_eq_true Z5
        have hx8 := YV a0 x5_1
        replace p8 := eq_true p8
        replace q8 := eq_true q8
        have p10 : 0 ≤ (x5_1 : Int) := of_decide_eq_true Z5
        have q10 : x5_1 < (a0.size : Int) := of_decide_eq_true Z5
        have hx10 := YV a0 x5_1
        replace p10 := eq_true p10
        replace q10 := eq_true q10
        go_wp2
        repeat (go_quiet (fail); try go_wp2)
        go_meet
        case rel => exact ⟨_, (decide ((bt a0 x5_1) ≤ 122)), (decide ((bt a0 x5_1) ≤ 57)), Z4, Z4, H', ⟨Zo⟩, Z6⟩
       ·rw [if_neg c9] at H
        have c9b0 : decide (48 ≤ (bt a0 x5_1)) = false := decide_eq_false c9
        clear c9
        have H' := Y0.mk H
        clear H
        have p5 : 0 ≤ (x5_1 : Int) := of_decide_eq_true Z5
        have q5 : x5_1 < (a0.size : Int) := of_decide_eq_true Z5
        have hx5 := YV a0 x5_1
        replace p5 := eq_true p5
        replace q5 := eq_true q5
        have p7 : 0 ≤ (x5_1 : Int) := of_decide_eq_true Z5
        have q7 : x5_1 < (a0.size : Int) := of_decide_eq_true Z5
        have hx7 := YV a0 x5_1
        replace p7 := eq_true p7
        replace q7 := eq_true q7
        have p8 : 0 ≤ (x5_1 : Int) := of_decide_eq_true Z5
        have q8 : x5_1 < (a0.size : Int) := of_decide_eq_true Z5
        have hx8 := YV a0 x5_1
        replace p8 := eq_true p8
        replace q8 := eq_true q8
        go_wp2
        repeat (go_quiet (fail); try go_wp2)
        go_meet
        case rel => exact ⟨_, (decide ((bt a0 x5_1) ≤ 122)), (false), Z4, Z4, H', ⟨Zo⟩, Z6⟩
      ·rw [if_neg c6] at H
       have c6b0 : decide (97 ≤ (bt a0 x5_1)) = false := decide_eq_false c6
       clear c6
       by_cases c12 : (bt a0 x5_1) ≥ 48
       ·rw [if_pos c12] at H
        have c12b0 : decide (48 ≤ (bt a0 x5_1)) = true := decide_eq_true c12
        clear c12
        have H' := Y0.mk H
        clear H
        have p5 : 0 ≤ (x5_1 : Int) := of_decide_eq_true Z5
        have q5 : x5_1 < (a0.size : Int) := of_decide_eq_true Z5
        have hx5 := YV a0 x5_1
        replace p5 := eq_true p5
        replace q5 := eq_true q5
        have p11 : 0 ≤ (x5_1 : Int) := of_decide_eq_true Z5
        have q11 : x5_1 < (a0.size : Int) := of_decide_eq_true Z5
        have hx11 := YV a0 x5_1
        replace p11 := eq_true p11
        replace q11 := eq_true q11
        have p13 : 0 ≤ (x5_1 : Int) := of_decide_eq_true Z5
        have q13 : x5_1 < (a0.size : Int) := of_decide_eq_true Z5
        have hx13 := YV a0 x5_1
        replace p13 := eq_true p13
        replace q13 := eq_true q13
        go_wp2
        repeat (go_quiet (fail); try go_wp2)
        go_meet
        case rel => exact ⟨_, (false), (decide ((bt a0 x5_1) ≤ 57)), Z4, Z4, H', ⟨Zo⟩, Z6⟩
       ·rw [if_neg c12] at H
        have c12b0 : decide (48 ≤ (bt a0 x5_1)) = false := decide_eq_false c12
        clear c12
        have H' := Y0.mk H
        clear H
        have p5 : 0 ≤ (x5_1 : Int) := of_decide_eq_true Z5
        have q5 : x5_1 < (a0.size : Int) := of_decide_eq_true Z5
        have hx5 := YV a0 x5_1
        replace p5 := eq_true p5
        replace q5 := eq_true q5
        have p11 : 0 ≤ (x5_1 : Int) := of_decide_eq_true Z5
        have q11 : x5_1 < (a0.size : Int) := of_decide_eq_true Z5
        have hx11 := YV a0 x5_1
        replace p11 := eq_true p11
        replace q11 := eq_true q11
        go_wp2
        repeat (go_quiet (fail); try go_wp2)
        go_meet
        case rel => exact ⟨_, (false), (false), Z4, Z4, H', ⟨Zo⟩, Z6⟩
     ·rw [if_neg c4] at H
      exact Zd
    case rest =>
     clear HC3
     try clear c1
     try clear p1
     try clear q1
     try clear hx1
     try clear c2
     try clear c2b0
     try clear p2
     try clear c4
     try clear c4b0
     try clear p5
     try clear q5
     try clear hx5
     try clear c6
     try clear c6b0
     try clear p7
     try clear q7
     try clear hx7
     try clear p8
     try clear q8
     try clear hx8
     try clear c9
     try clear c9b0
     try clear p10
     try clear q10
     try clear hx10
     try clear p11
     try clear q11
     try clear hx11
     try clear c12
     try clear c12b0
     try clear p13
     try clear q13
     try clear hx13
     try clear p10
     try clear p11
     try clear p13
     try clear p5
     try clear p7
     try clear p8
     try clear q10
     try clear q11
     try clear q13
     try clear q5
     try clear q7
     try clear q8
     obtain ⟨kq, x6_2, x7_2, rfl, rfl, HA, HJ2, ⟨mc2, rfl⟩⟩ := hcut
     cases kq with
     | zero => exact absurd HA.out (by simp [Y6.j1])
     | succ kj2 =>
      have H := HA.out
      clear HA
      simp only [Y6.j1] at H
      have HC14 := Y0.mk H
      clear H
      go_upto_region 7 with (fail)
      repeat (go_quiet (fail); go_upto_region 7 with (fail))
      go_cut [34] (fun v34 wc => ∃ (kq : Nat) (x34_13 : Bool), v34 = .bool x34_13 ∧ Y0 (Y6.j2 kq a0 x3_1 x4_1 x5_1 x6_2 x7_2 x34_13 = some r) ∧ Y0 (kq ≤ kj2) ∧ YO w wc)
      case first =>
       have H := HC14.out
       clear HC14
       by_cases c15 : 0 ≤ x5_1
       ·rw [if_pos c15] at H
        have c15b0 : decide (0 ≤ x5_1) = true := decide_eq_true c15
        clear c15
        (first | rw [c15b0] | (simp only [YI, YJ]; rw [c15b0]) | skip)
        by_cases c16 : x5_1 < (a0.size : Int)
        ·rw [if_pos c16] at H
         have c16b0 : decide (x5_1 < (a0.size : Int)) = true := decide_eq_true c16
         clear c16
         by_cases c18 : (bt a0 x5_1) = 45
         ·rw [if_pos c18] at H
          have c18b0 : ((bt a0 x5_1) == 45) = true := beq_iff_eq.mpr c18
          have c18b1 : ((bt a0 x5_1) != 45) = false := bne_eq_false_iff_eq.mpr c18
          clear c18
          have H' := Y0.mk H
          clear H
          have p17 : 0 ≤ (x5_1 : Int) := of_decide_eq_true Z5
          have q17 : x5_1 < (a0.size : Int) := of_decide_eq_true Z5
          have hx17 := YV a0 x5_1
          replace p17 := eq_true p17
          replace q17 := eq_true q17
          go_wp2
          repeat (go_quiet (fail); try go_wp2)
          go_meet
          case rel => exact ⟨_, (decide (x4_1 > 0)), Z4, H', ⟨ZI⟩, Z6⟩
         ·rw [if_neg c18] at H
          have c18b0 : ((bt a0 x5_1) == 45) = false := beq_eq_false_iff_ne.mpr c18
          have c18b1 : ((bt a0 x5_1) != 45) = true := bne_iff_ne.mpr c18
          have H' := Y0.mk H
          clear H
          have p17 : 0 ≤ (x5_1 : Int) := of_decide_eq_true Z5
          have q17 : x5_1 < (a0.size : Int) := of_decide_eq_true Z5
          have hx17 := YV a0 x5_1
          replace p17 := eq_true p17
          replace q17 := eq_true q17
          go_wp2
          repeat (go_quiet (fail); try go_wp2)
          go_meet
          case rel => exact ⟨_, (false), Z4, H', ⟨ZI⟩, Z6⟩
        ·rw [if_neg c16] at H
         exact Zd
       ·rw [if_neg c15] at H
        exact Zd
      case rest =>
       clear HC14
       try clear c1
       try clear p1
       try clear q1
       try clear hx1
       try clear c2
       try clear c2b0
       try clear p2
       try clear c4
       try clear c4b0
       try clear p5
       try clear q5
       try clear hx5
       try clear c6
       try clear c6b0
       try clear p7
       try clear q7
       try clear hx7
       try clear p8
       try clear q8
       try clear hx8
       try clear c9
       try clear c9b0
       try clear p10
       try clear q10
       try clear hx10
       try clear p11
       try clear q11
       try clear hx11
       try clear c12
       try clear c12b0
       try clear p13
       try clear q13
       try clear hx13
       try clear c15
       try clear c15b0
       try clear c16
       try clear c16b0
       try clear p17
       try clear q17
       try clear hx17
       try clear c18
       try clear c18b0
       try clear c18b1
       try clear p1
       try clear p10
       try clear p11
       try clear p13
       try clear p17
       try clear p2
       try clear p5
       try clear p7
       try clear p8
       try clear q1
       try clear q10
       try clear q11
       try clear q13
       try clear q17
       try clear q5
       try clear q7
       try clear q8
       obtain ⟨kq, x34_13, rfl, HA, HJ13, ⟨mc13, rfl⟩⟩ := hcut
       cases kq with
       | zero => exact absurd HA.out (by simp [Y6.j2])
       | succ kj13 =>
        have H := HA.out
        clear HA
        simp only [Y6.j2] at H
        by_cases c19 : x34_13 = true
        ·subst c19
         have H1 : (Y6.l0 kj13 a0 (wrap64 (x3_1 + 1)) 0 (wrap64 (x5_1 + 1))) = some r := by rw [if_pos rfl] at H; exact H
         clear H
         have H := H1
         clear H1
         have H' := Y0.mk H
         clear H
         go_wp2
         repeat (go_quiet (fail); try go_wp2)
         go_roundg kj13
         case measure => have := HK1.out; have := HJ2.out; have := HJ13.out; omega
         case rel => exact ⟨(wrap64 (x3_1 + 1)), (0), (wrap64 (x5_1 + 1)), Z4, Z4, Z4, H', ⟨by have := HK1.out; have := HJ2.out; have := HJ13.out; omega⟩, Z6⟩
        ·replace c19 := Bool.eq_false_iff.mpr c19
         subst c19
         have H1 : (if x6_2 = true then (Y6.j3 kj13 a0 x3_1 x4_1 x5_1 true) else (if x7_2 = true then (Y6.j3 kj13 a0 x3_1 x4_1 x5_1 (decide (x3_1 > 0))) else (Y6.j3 kj13 a0 x3_1 x4_1 x5_1 false))) = some r := by rw [if_neg (show ¬ (false = true) by decide)] at H; exact H
         clear H
         have H := H1
         clear H1
         have HC20 := Y0.mk H
         clear H
         go_upto_region 9 with (fail)
         repeat (go_quiet (fail); go_upto_region 9 with (fail))
         go_cut [45] (fun v45 wc => ∃ (kq : Nat) (x45_19 : Bool), v45 = .bool x45_19 ∧ Y0 (Y6.j3 kq a0 x3_1 x4_1 x5_1 x45_19 = some r) ∧ Y0 (kq ≤ kj13) ∧ YO w wc)
         case first =>
          have H := HC20.out
          clear HC20
          by_cases c21 : x6_2 = true
          ·subst c21
           have H1 : (Y6.j3 kj13 a0 x3_1 x4_1 x5_1 true) = some r := by rw [if_pos rfl] at H; exact H
           clear H
           have H := H1
           clear H1
           have H' := Y0.mk H
           clear H
           go_wp2
           repeat (go_quiet (fail); try go_wp2)
           go_meet
           case rel => exact ⟨_, (true), Z4, H', ⟨Zs⟩, Z6⟩
          ·replace c21 := Bool.eq_false_iff.mpr c21
           subst c21
           have H1 : (if x7_2 = true then (Y6.j3 kj13 a0 x3_1 x4_1 x5_1 (decide (x3_1 > 0))) else (Y6.j3 kj13 a0 x3_1 x4_1 x5_1 false)) = some r := by rw [if_neg (show ¬ (false = true) by decide)] at H; exact H
           clear H
           have H := H1
           clear H1
           by_cases c22 : x7_2 = true
           ·subst c22
            have H1 : (Y6.j3 kj13 a0 x3_1 x4_1 x5_1 (decide (x3_1 > 0))) = some r := by rw [if_pos rfl] at H; exact H
            clear H
            have H := H1
            clear H1
            have H' := Y0.mk H
            clear H
            go_wp2
            repeat (go_quiet (fail); try go_wp2)
            go_meet
            case rel => exact ⟨_, (decide (x3_1 > 0)), Z4, H', ⟨Zs⟩, Z6⟩
           ·replace c22 := Bool.eq_false_iff.mpr c22
            subst c22
            have H1 : (Y6.j3 kj13 a0 x3_1 x4_1 x5_1 false) = some r := by rw [if_neg (show ¬ (false = true) by decide)] at H; exact H
            clear H
            have H := H1
            clear H1
            have H' := Y0.mk H
            clear H
            go_wp2
            repeat (go_quiet (fail); try go_wp2)
            go_meet
            case rel => exact ⟨_, (false), Z4, H', ⟨Zs⟩, Z6⟩
         case rest =>
          clear HC20
          try clear c1
          try clear p1
          try clear q1
          try clear hx1
          try clear c2
          try clear c2b0
          try clear p2
          try clear c4
          try clear c4b0
          try clear p5
          try clear q5
          try clear hx5
          try clear c6
          try clear c6b0
          try clear p6
          try clear p7
          try clear q7
          try clear hx7
          try clear p8
          try clear q8
          try clear hx8
          try clear c9
          try clear c9b0
          try clear p10
          try clear q10
          try clear hx10
          try clear p11
          try clear q11
          try clear hx11
          try clear c12
          try clear c12b0
          try clear c13
          try clear p13
          try clear q13
          try clear hx13
          try clear c15
          try clear c15b0
          try clear c16
          try clear c16b0
          try clear p17
          try clear q17
          try clear hx17
          try clear c18
          try clear c18b0
          try clear c18b1
          try clear c19
          try clear c21
          try clear c22
          try clear p1
          try clear p10
          try clear p11
          try clear p13
          try clear p17
          try clear p2
          try clear p5
          try clear p7
          try clear p8
          try clear q1
          try clear q10
          try clear q11
          try clear q13
          try clear q17
          try clear q5
          try clear q7
          try clear q8
          obtain ⟨kq, x45_19, rfl, HA, HJ19, ⟨mc19, rfl⟩⟩ := hcut
          cases kq with
          | zero => exact absurd HA.out (by simp [Y6.j3])
          | succ kj19 =>
           have H := HA.out
           clear HA
           simp only [Y6.j3] at H
           by_cases c23 : x45_19 = true
           ·subst c23
            have H1 : (if (wrap64 (x4_1 + 1)) > 8 then (some false) else (Y6.l0 kj19 a0 x3_1 (wrap64 (x4_1 + 1)) (wrap64 (x5_1 + 1)))) = some r := by rw [if_pos rfl] at H; exact H
            clear H
            have H := H1
            clear H1
            by_cases c24 : (wrap64 (x4_1 + 1)) > 8
            ·rw [if_pos c24] at H
             have c24b0 : decide (8 < (wrap64 (x4_1 + 1))) = true := decide_eq_true c24
             clear c24
             obtain rfl := Option.some.inj H
             go_wp2
             repeat (go_quiet (fail); try go_wp2)
             go_ret
             exact ZX
            ·rw [if_neg c24] at H
             have c24b0 : decide (8 < (wrap64 (x4_1 + 1))) = false := decide_eq_false c24
             clear c24
             have H' := Y0.mk H
             clear H
             go_wp2
             repeat (go_quiet (fail); try go_wp2)
             go_roundg kj19
             case measure => have := HK1.out; have := HJ2.out; have := HJ13.out; have := HJ19.out; omega
             case rel => exact ⟨(x3_1), (wrap64 (x4_1 + 1)), (wrap64 (x5_1 + 1)), Z4, Z4, Z4, H', ⟨by have := HK1.out; have := HJ2.out; have := HJ13.out; have := HJ19.out; omega⟩, Z6⟩
           ·replace c23 := Bool.eq_false_iff.mpr c23
            subst c23
            have H1 : (some false) = some r := by rw [if_neg (show ¬ (false = true) by decide)] at H; exact H
            clear H
            have H := H1
            clear H1
            obtain rfl := Option.some.inj H
            go_wp2
            repeat (go_quiet (fail); try go_wp2)
            go_ret
            exact ZX
   ·rw [if_neg c2] at H
    have c2b0 : decide (x5_1 < (a0.size : Int)) = false := decide_eq_false c2
    clear c2
    by_cases c25 : x4_1 > 0
    ·rw [if_pos c25] at H
     have c25b0 : decide (0 < x4_1) = true := decide_eq_true c25
     clear c25
     obtain rfl := Option.some.inj H
     go_wp2
     repeat (go_quiet (fail); try go_wp2)
     go_ret
     exact ZX
    ·rw [if_neg c25] at H
     have c25b0 : decide (0 < x4_1) = false := decide_eq_false c25
     clear c25
     obtain rfl := Option.some.inj H
     go_wp2
     repeat (go_quiet (fail); try go_wp2)
     go_ret
     exact ZX
def Ye.j0 : Nat → Bool → Int → ByteArray → ByteArray → Option (Bool)
 | 0, _, _, _, _ => none
 | k + 1, x3, x102000, x102001, x102002 => if x102000 = 1 then ((YE.f x102001).bind fun t103 => (if t103 = true then (some (x102002.toList == ([] : List UInt8))) else (some false))) else (if x102000 = 2 then ((Yl.f k x102001).bind fun t104 => (if t104 = true then (some (x102002.toList == ([] : List UInt8))) else (some false))) else (if x102000 = 3 then (if x3 = true then (some (x102002.toList == ([] : List UInt8))) else (some false)) else (if x102000 = 4 then (if x3 = true then ((Y6.f k x102002).bind fun t105 => (some t105)) else (some false)) else (if x102000 = 5 then (if x3 = true then ((YE.f x102002).bind fun t106 => (some t106)) else (some false)) else (some false)))))
def Ye.f (k : Nat) (a0_0 : Int) (a0_1 : ByteArray) (a0_2 : ByteArray) : Option (Bool) := (utf8_ValidString.f a0_1).bind fun t102 => (if t102 = true then (Ye.j0 k (decide ((a0_1.size : Int) ≤ 30)) a0_0 a0_1 a0_2) else (Ye.j0 k false a0_0 a0_1 a0_2))
set_option maxHeartbeats 8000000 in
set_option maxRecDepth 100000 in
theorem Ye.calls (k : Nat) (a0_0 : Int) (a0_1 : ByteArray) (a0_2 : ByteArray) (r : Bool) (w : World) (hT : Tabs w) (h : Ye.f k a0_0 a0_1 a0_2 = some r) :
  Calls Tryd.prog 20 #[.agg #[.int .i64 a0_0, .string a0_1, .string a0_2]] w fun e w' => e = .returned (.bool r) ∧ Below w.heap.size w w' := by
 have HT := Y0.mk hT
 clear hT
 have hu24 := Tryd.underlying24
 have HB := Y0.mk (Below.refl w.heap.size w)
 have H : ((utf8_ValidString.f a0_1).bind fun t102 => (if t102 = true then (Ye.j0 k (decide ((a0_1.size : Int) ≤ 30)) a0_0 a0_1 a0_2) else (Ye.j0 k false a0_0 a0_1 a0_2))) = some r := h
 clear h
 have HC2 := Y0.mk H
 clear H
 go_enter Tryd.func20, Tryd.ntmps20
 go_upto_region 1 with (first | ((with_reducible refine Yt (N := 1) rfl ?_); (try (refine YP (by rfl) ?_; dsimp only)); refine Yp ?hg (N := 1) ?hd (cs := #[.int .i64 a0_0, .string a0_1, .string a0_2]) (t := 24) ?hr ?_; (case hd => rfl); (case hg => rfl); (case hr => exact Zb); intro gb101 hg w3 hbox hb; have n_ := Y1L (Y8 QB hb) (hbox) ((by rw [hg]; exact (Yd QB) : w.heap.size ≤ gb101)) ((by rw [hg]; exact (Yd QB) : w.heap.size ≤ gb101)); clear HB; obtain ⟨HB, BK101, GW101, GE101⟩ := n_; clear hb hbox hg))
 (try simp only [Act.put, List.setIfInBounds_toArray, List.set_cons_zero, List.set_cons_succ])
 go_cut [3] (fun v3 wc => ∃ (kq : Nat) (x3_1 : Bool), v3 = .bool x3_1 ∧ Y0 (Ye.j0 kq x3_1 a0_0 a0_1 a0_2 = some r) ∧ Y0 (kq ≤ k) ∧ Y0 (wc.heap[gb101]? = some (.cells #[.int .i64 a0_0, .string a0_1, .string a0_2] 24 (0, 0))) ∧ Y0 (Below w.heap.size w wc))
 case first =>
  have H := HC2.out
  clear HC2
  replace H := Option.bind_eq_some_iff.mp H
  obtain ⟨t102, A40, H⟩ := H
  replace H : (if t102 = true then (Ye.j0 k (decide ((a0_1.size : Int) ≤ 30)) a0_0 a0_1 a0_2) else (Ye.j0 k false a0_0 a0_1 a0_2)) = some r := H
  have A4 := Y0.mk A40
  clear A40
  by_cases c5 : t102 = true
  ·subst c5
   have H1 : (Ye.j0 k (decide ((a0_1.size : Int) ≤ 30)) a0_0 a0_1 a0_2) = some r := by rw [if_pos rfl] at H; exact H
   clear H
   have H := H1
   clear H1
   have H' := Y0.mk H
   clear H
   obtain ⟨hcz6_0, hcz6_1, hcz6_2, hfz6_0, hfz6_1, hfz6_2⟩ := Yr BK101.out
   go_wp2_with (first | ((with_reducible refine Ya (f := 38) rfl ?_); refine Yu (some 6) rfl rfl Tryd.func38 Z7 rfl #[.string a0_1] rfl Z0 ?_; (with_reducible refine (utf8_ValidString.calls a0_1 true _ ?side1 A4.out).mono ?_); (case side1 => exact Z3); rintro e w7 ⟨rfl, hb⟩; refine ⟨_, rfl, ?_⟩; have n_ := Y2f (Y9 (g := gb101) (o := .cells #[.int .i64 a0_0, .string a0_1, .string a0_2] 24 (0, 0)) QQ hb) (Y8 QB hb); clear BK101 HB; obtain ⟨BK101, HB⟩ := n_; (try clear hb); (try clear hb2); (try clear hk); (try clear hi); obtain ⟨hcz8_0, hcz8_1, hcz8_2, hfz8_0, hfz8_1, hfz8_2⟩ := Yr BK101.out))
   go_meet
   case rel => exact ⟨_, (decide ((a0_1.size : Int) ≤ 30)), Z4, H', ⟨Zj⟩, ⟨Zf⟩, ⟨QB⟩⟩
  ·replace c5 := Bool.eq_false_iff.mpr c5
   subst c5
   have H1 : (Ye.j0 k false a0_0 a0_1 a0_2) = some r := by rw [if_neg (show ¬ (false = true) by decide)] at H; exact H
   clear H
   have H := H1
   clear H1
   have H' := Y0.mk H
   clear H
   obtain ⟨hcz9_0, hcz9_1, hcz9_2, hfz9_0, hfz9_1, hfz9_2⟩ := Yr BK101.out
   go_wp2_with (first | ((with_reducible refine Ya (f := 38) rfl ?_); refine Yu (some 6) rfl rfl Tryd.func38 Z7 rfl #[.string a0_1] rfl Z0 ?_; (with_reducible refine (utf8_ValidString.calls a0_1 false _ ?side1 A4.out).mono ?_); (case side1 => exact Z3); rintro e w10 ⟨rfl, hb⟩; refine ⟨_, rfl, ?_⟩; have n_ := Y2f (Y9 (g := gb101) (o := .cells #[.int .i64 a0_0, .string a0_1, .string a0_2] 24 (0, 0)) QQ hb) (Y8 QB hb); clear BK101 HB; obtain ⟨BK101, HB⟩ := n_; (try clear hb); (try clear hb2); (try clear hk); (try clear hi)))
   go_meet
   case rel => exact ⟨_, (false), Z4, H', ⟨Zj⟩, ⟨Zf⟩, ⟨QB⟩⟩
 case rest =>
  clear HC2
  try clear c2
  try clear p2
  try clear c3
  try clear c5
  try clear hcz6_0 hcz6_1 hcz6_2
  try clear hcz8_0 hcz8_1 hcz8_2
  try clear hcz9_0 hcz9_1 hcz9_2
  try clear hfz6_0
  try clear hfz6_1
  try clear hfz6_2
  try clear hfz8_0
  try clear hfz8_1
  try clear hfz8_2
  try clear hfz9_0
  try clear hfz9_1
  try clear hfz9_2
  obtain ⟨kq, x3_1, rfl, HA, HJ1, BK101, HB⟩ := hcut
  cases kq with
  | zero => exact absurd HA.out (by simp [Ye.j0])
  | succ kj1 =>
   have H := HA.out
   clear HA
   simp only [Ye.j0] at H
   by_cases c11 : a0_0 = 1
   ·rw [if_pos c11] at H
    have c11b0 : (a0_0 == 1) = true := beq_iff_eq.mpr c11
    have c11b1 : (a0_0 != 1) = false := bne_eq_false_iff_eq.mpr c11
    clear c11
    replace H := Option.bind_eq_some_iff.mp H
    obtain ⟨t103, A120, H⟩ := H
    replace H : (if t103 = true then (some (a0_2.toList == ([] : List UInt8))) else (some false)) = some r := H
    have A12 := Y0.mk A120
    clear A120
    by_cases c13 : t103 = true
    ·subst c13
     have H1 : (some (a0_2.toList == ([] : List UInt8))) = some r := by rw [if_pos rfl] at H; exact H
     clear H
     have H := H1
     clear H1
     obtain rfl := Option.some.inj H
     obtain ⟨hcz14_0, hcz14_1, hcz14_2, hfz14_0, hfz14_1, hfz14_2⟩ := Yr BK101.out
     go_wp2_with (first | ((with_reducible refine Ya (f := 45) rfl ?_); refine Yu (some 19) rfl rfl Tryd.func45 Z7 rfl #[.string a0_1] rfl Z0 ?_; (with_reducible refine (YE.calls a0_1 true _ ?side1 A12.out).mono ?_); (case side1 => exact Z3); rintro e w15 ⟨rfl, hb⟩; refine ⟨_, rfl, ?_⟩; have n_ := Y2f (Y9 (g := gb101) (o := .cells #[.int .i64 a0_0, .string a0_1, .string a0_2] 24 (0, 0)) QQ hb) (Y8 QB hb); clear BK101 HB; obtain ⟨BK101, HB⟩ := n_; (try clear hb); (try clear hb2); (try clear hk); (try clear hi); obtain ⟨hcz16_0, hcz16_1, hcz16_2, hfz16_0, hfz16_1, hfz16_2⟩ := Yr BK101.out))
     go_ret
     exact ZT
    ·replace c13 := Bool.eq_false_iff.mpr c13
     subst c13
     have H1 : (some false) = some r := by rw [if_neg (show ¬ (false = true) by decide)] at H; exact H
     clear H
     have H := H1
     clear H1
     obtain rfl := Option.some.inj H
     obtain ⟨hcz17_0, hcz17_1, hcz17_2, hfz17_0, hfz17_1, hfz17_2⟩ := Yr BK101.out
     go_wp2_with (first | ((with_reducible refine Ya (f := 45) rfl ?_); refine Yu (some 19) rfl rfl Tryd.func45 Z7 rfl #[.string a0_1] rfl Z0 ?_; (with_reducible refine (YE.calls a0_1 false _ ?side1 A12.out).mono ?_); (case side1 => exact Z3); rintro e w18 ⟨rfl, hb⟩; refine ⟨_, rfl, ?_⟩; have n_ := Y2f (Y9 (g := gb101) (o := .cells #[.int .i64 a0_0, .string a0_1, .string a0_2] 24 (0, 0)) QQ hb) (Y8 QB hb); clear BK101 HB; obtain ⟨BK101, HB⟩ := n_; (try clear hb); (try clear hb2); (try clear hk); (try clear hi)))
     go_ret
     exact ZT
   ·rw [if_neg c11] at H
    have c11b0 : (a0_0 == 1) = false := beq_eq_false_iff_ne.mpr c11
    have c11b1 : (a0_0 != 1) = true := bne_iff_ne.mpr c11
    by_cases c19 : a0_0 = 2
    ·rw [if_pos c19] at H
     have c19b0 : (a0_0 == 2) = true := beq_iff_eq.mpr c19
     have c19b1 : (a0_0 != 2) = false := bne_eq_false_iff_eq.mpr c19
     clear c19
     replace H := Option.bind_eq_some_iff.mp H
     obtain ⟨t104, A200, H⟩ := H
     replace H : (if t104 = true then (some (a0_2.toList == ([] : List UInt8))) else (some false)) = some r := H
     have A20 := Y0.mk A200
     clear A200
     by_cases c21 : t104 = true
     ·subst c21
      have H1 : (some (a0_2.toList == ([] : List UInt8))) = some r := by rw [if_pos rfl] at H; exact H
      clear H
      have H := H1
      clear H1
      obtain rfl := Option.some.inj H
      obtain ⟨hcz22_0, hcz22_1, hcz22_2, hfz22_0, hfz22_1, hfz22_2⟩ := Yr BK101.out
      go_wp2_with (first | ((with_reducible refine Ya (f := 46) rfl ?_); refine Yu (some 29) rfl rfl Tryd.func46 Z7 rfl #[.string a0_1] rfl Z0 ?_; (with_reducible refine (Yl.calls kj1 a0_1 true _ A20.out).mono ?_); rintro e w' ⟨rfl, ⟨nd, rfl⟩⟩; refine ⟨_, rfl, ?_⟩))
      go_ret
      exact ZT
     ·replace c21 := Bool.eq_false_iff.mpr c21
      subst c21
      have H1 : (some false) = some r := by rw [if_neg (show ¬ (false = true) by decide)] at H; exact H
      clear H
      have H := H1
      clear H1
      obtain rfl := Option.some.inj H
      obtain ⟨hcz23_0, hcz23_1, hcz23_2, hfz23_0, hfz23_1, hfz23_2⟩ := Yr BK101.out
      go_wp2_with (first | ((with_reducible refine Ya (f := 46) rfl ?_); refine Yu (some 29) rfl rfl Tryd.func46 Z7 rfl #[.string a0_1] rfl Z0 ?_; (with_reducible refine (Yl.calls kj1 a0_1 false _ A20.out).mono ?_); rintro e w' ⟨rfl, ⟨nd, rfl⟩⟩; refine ⟨_, rfl, ?_⟩))
      go_ret
      exact ZT
    ·rw [if_neg c19] at H
     have c19b0 : (a0_0 == 2) = false := beq_eq_false_iff_ne.mpr c19
     have c19b1 : (a0_0 != 2) = true := bne_iff_ne.mpr c19
     by_cases c24 : a0_0 = 3
     ·rw [if_pos c24] at H
      have c24b0 : (a0_0 == 3) = true := beq_iff_eq.mpr c24
      have c24b1 : (a0_0 != 3) = false := bne_eq_false_iff_eq.mpr c24
      clear c24
      by_cases c25 : x3_1 = true
      ·subst c25
       have H1 : (some (a0_2.toList == ([] : List UInt8))) = some r := by rw [if_pos rfl] at H; exact H
       clear H
       have H := H1
       clear H1
       obtain rfl := Option.some.inj H
       obtain ⟨hcz26_0, hcz26_1, hcz26_2, hfz26_0, hfz26_1, hfz26_2⟩ := Yr BK101.out
       go_wp2
       go_ret
       exact ZT
      ·replace c25 := Bool.eq_false_iff.mpr c25
       subst c25
       have H1 : (some false) = some r := by rw [if_neg (show ¬ (false = true) by decide)] at H; exact H
       clear H
       have H := H1
       clear H1
       obtain rfl := Option.some.inj H
       obtain ⟨hcz27_0, hcz27_1, hcz27_2, hfz27_0, hfz27_1, hfz27_2⟩ := Yr BK101.out
       go_wp2
       go_ret
       exact ZT
     ·rw [if_neg c24] at H
      have c24b0 : (a0_0 == 3) = false := beq_eq_false_iff_ne.mpr c24
      have c24b1 : (a0_0 != 3) = true := bne_iff_ne.mpr c24
      by_cases c28 : a0_0 = 4
      ·rw [if_pos c28] at H
       have c28b0 : (a0_0 == 4) = true := beq_iff_eq.mpr c28
       have c28b1 : (a0_0 != 4) = false := bne_eq_false_iff_eq.mpr c28
       clear c28
       by_cases c29 : x3_1 = true
       ·subst c29
        have H1 : ((Y6.f kj1 a0_2).bind fun t105 => (some t105)) = some r := by rw [if_pos rfl] at H; exact H
        clear H
        have H := H1
        clear H1
        replace H := Option.bind_eq_some_iff.mp H
        obtain ⟨t105, A300, H⟩ := H
        replace H : (some t105) = some r := H
        have A30 := Y0.mk A300
        clear A300
        obtain rfl := Option.some.inj H
        obtain ⟨hcz31_0, hcz31_1, hcz31_2, hfz31_0, hfz31_1, hfz31_2⟩ := Yr BK101.out
        go_wp2_with (first | (go_at_call 47; (with_reducible refine (Y6.calls kj1 a0_2 t105 _ A30.out).mono ?_); rintro e w' ⟨rfl, ⟨nd, rfl⟩⟩))
        go_ret
        exact ZT
       ·replace c29 := Bool.eq_false_iff.mpr c29
        subst c29
        have H1 : (some false) = some r := by rw [if_neg (show ¬ (false = true) by decide)] at H; exact H
        clear H
        have H := H1
        clear H1
        obtain rfl := Option.some.inj H
        obtain ⟨hcz32_0, hcz32_1, hcz32_2, hfz32_0, hfz32_1, hfz32_2⟩ := Yr BK101.out
        go_wp2
        go_ret
        exact ZT
      ·rw [if_neg c28] at H
       have c28b0 : (a0_0 == 4) = false := beq_eq_false_iff_ne.mpr c28
       have c28b1 : (a0_0 != 4) = true := bne_iff_ne.mpr c28
       by_cases c33 : a0_0 = 5
       ·rw [if_pos c33] at H
        have c33b0 : (a0_0 == 5) = true := beq_iff_eq.mpr c33
        have c33b1 : (a0_0 != 5) = false := bne_eq_false_iff_eq.mpr c33
        clear c33
        by_cases c34 : x3_1 = true
        ·subst c34
         have H1 : ((YE.f a0_2).bind fun t106 => (some t106)) = some r := by rw [if_pos rfl] at H; exact H
         clear H
         have H := H1
         clear H1
         replace H := Option.bind_eq_some_iff.mp H
         obtain ⟨t106, A350, H⟩ := H
         replace H : (some t106) = some r := H
         have A35 := Y0.mk A350
         clear A350
         obtain rfl := Option.some.inj H
         obtain ⟨hcz36_0, hcz36_1, hcz36_2, hfz36_0, hfz36_1, hfz36_2⟩ := Yr BK101.out
         go_wp2_with (first | (go_at_call 45; (with_reducible refine (YE.calls a0_2 t106 _ ?side1 A35.out).mono ?_); (case side1 => exact Z3); rintro e w37 ⟨rfl, hb⟩; have n_ := Y2f (Y9 (g := gb101) (o := .cells #[.int .i64 a0_0, .string a0_1, .string a0_2] 24 (0, 0)) QQ hb) (Y8 QB hb); clear BK101 HB; obtain ⟨BK101, HB⟩ := n_; (try clear hb); (try clear hb2); (try clear hk); (try clear hi)))
         go_ret
         exact ZT
        ·replace c34 := Bool.eq_false_iff.mpr c34
         subst c34
         have H1 : (some false) = some r := by rw [if_neg (show ¬ (false = true) by decide)] at H; exact H
         clear H
         have H := H1
         clear H1
         obtain rfl := Option.some.inj H
         obtain ⟨hcz38_0, hcz38_1, hcz38_2, hfz38_0, hfz38_1, hfz38_2⟩ := Yr BK101.out
         go_wp2
         go_ret
         exact ZT
       ·rw [if_neg c33] at H
        have c33b0 : (a0_0 == 5) = false := beq_eq_false_iff_ne.mpr c33
        have c33b1 : (a0_0 != 5) = true := bne_iff_ne.mpr c33
        obtain rfl := Option.some.inj H
        obtain ⟨hcz39_0, hcz39_1, hcz39_2, hfz39_0, hfz39_1, hfz39_2⟩ := Yr BK101.out
        go_wp2
        go_ret
        exact ZT
mutual
def Y5.l0 : Nat → ByteArray → ByteArray → Int → Option (ByteArray)
 | 0, _, _, _ => none
 | k + 1, x0, x6, x7 => if x7 < (x0.size : Int) then (if 0 ≤ x7 then (Y5.l1 k x0 x6 x7 (bt x0 x7) 0) else (none)) else (some x6)
def Y5.j2 : Nat → ByteArray → ByteArray → Int → Int → Int → Option (ByteArray)
 | 0, _, _, _, _, _ => none
 | k + 1, x0, x6, x7, x8, x9 => if x9 < 7 then (if x6.size + 1 ≤ 9223372036854775807 then (if 0 ≤ x9 then (if x9 ≤ (wrap64 (x9 + 1)) then (if (wrap64 (x9 + 1)) ≤ 7 then (if x6.size + 1 + (wrap64 (x9 + 1)).toNat - x9.toNat ≤ 9223372036854775807 then (Y5.l0 k x0 ((x6 ++ (⟨#[92]⟩ : ByteArray)) ++ ((⟨#[34, 92, 110, 114, 116, 98, 102]⟩ : ByteArray).extract (x9 : Int).toNat ((wrap64 (x9 + 1)) : Int).toNat)) (wrap64 (x7 + 1))) else (none)) else (none)) else (none)) else (none)) else (none)) else (if x8 < 32 then (if x6.size + 4 ≤ 9223372036854775807 then (if 0 ≤ (x8 / 16) then (if (x8 / 16) ≤ (((x8 / 16) + 1) % 256) then (if (((x8 / 16) + 1) % 256) ≤ 16 then (if x6.size + 4 + (((x8 / 16) + 1) % 256).toNat - (x8 / 16).toNat ≤ 9223372036854775807 then (if 0 ≤ (Go.bits .and .u8 x8 15) then (if (Go.bits .and .u8 x8 15) ≤ (((Go.bits .and .u8 x8 15) + 1) % 256) then (if (((Go.bits .and .u8 x8 15) + 1) % 256) ≤ 16 then (if x6.size + 4 + ((((x8 / 16) + 1) % 256).toNat - (x8 / 16).toNat) + (((Go.bits .and .u8 x8 15) + 1) % 256).toNat - (Go.bits .and .u8 x8 15).toNat ≤ 9223372036854775807 then (Y5.l0 k x0 (((x6 ++ (⟨#[92, 117, 48, 48]⟩ : ByteArray)) ++ ((⟨#[48, 49, 50, 51, 52, 53, 54, 55, 56, 57, 65, 66, 67, 68, 69, 70]⟩ : ByteArray).extract ((x8 / 16) : Int).toNat ((((x8 / 16) + 1) % 256) : Int).toNat)) ++ ((⟨#[48, 49, 50, 51, 52, 53, 54, 55, 56, 57, 65, 66, 67, 68, 69, 70]⟩ : ByteArray).extract ((Go.bits .and .u8 x8 15) : Int).toNat ((((Go.bits .and .u8 x8 15) + 1) % 256) : Int).toNat)) (wrap64 (x7 + 1))) else (none)) else (none)) else (none)) else (none)) else (none)) else (none)) else (none)) else (none)) else (none)) else (if x8 = 127 then (if x6.size + 4 ≤ 9223372036854775807 then (if 0 ≤ (x8 / 16) then (if (x8 / 16) ≤ (((x8 / 16) + 1) % 256) then (if (((x8 / 16) + 1) % 256) ≤ 16 then (if x6.size + 4 + (((x8 / 16) + 1) % 256).toNat - (x8 / 16).toNat ≤ 9223372036854775807 then (if 0 ≤ (Go.bits .and .u8 x8 15) then (if (Go.bits .and .u8 x8 15) ≤ (((Go.bits .and .u8 x8 15) + 1) % 256) then (if (((Go.bits .and .u8 x8 15) + 1) % 256) ≤ 16 then (if x6.size + 4 + ((((x8 / 16) + 1) % 256).toNat - (x8 / 16).toNat) + (((Go.bits .and .u8 x8 15) + 1) % 256).toNat - (Go.bits .and .u8 x8 15).toNat ≤ 9223372036854775807 then (Y5.l0 k x0 (((x6 ++ (⟨#[92, 117, 48, 48]⟩ : ByteArray)) ++ ((⟨#[48, 49, 50, 51, 52, 53, 54, 55, 56, 57, 65, 66, 67, 68, 69, 70]⟩ : ByteArray).extract ((x8 / 16) : Int).toNat ((((x8 / 16) + 1) % 256) : Int).toNat)) ++ ((⟨#[48, 49, 50, 51, 52, 53, 54, 55, 56, 57, 65, 66, 67, 68, 69, 70]⟩ : ByteArray).extract ((Go.bits .and .u8 x8 15) : Int).toNat ((((Go.bits .and .u8 x8 15) + 1) % 256) : Int).toNat)) (wrap64 (x7 + 1))) else (none)) else (none)) else (none)) else (none)) else (none)) else (none)) else (none)) else (none)) else (none)) else (if 0 ≤ x7 then (if x7 ≤ (wrap64 (x7 + 1)) then (if (wrap64 (x7 + 1)) ≤ (x0.size : Int) then (if x6.size + (wrap64 (x7 + 1)).toNat - x7.toNat ≤ 9223372036854775807 then (Y5.l0 k x0 (x6 ++ (x0.extract (x7 : Int).toNat ((wrap64 (x7 + 1)) : Int).toNat)) (wrap64 (x7 + 1))) else (none)) else (none)) else (none)) else (none))))
def Y5.l1 : Nat → ByteArray → ByteArray → Int → Int → Int → Option (ByteArray)
 | 0, _, _, _, _, _ => none
 | k + 1, x0, x6, x7, x8, x9 => if x9 < 7 then (if 0 ≤ x9 then (if (bt (⟨#[34, 92, 10, 13, 9, 8, 12]⟩ : ByteArray) x9) = x8 then (Y5.j2 k x0 x6 x7 x8 x9) else (Y5.l1 k x0 x6 x7 x8 (wrap64 (x9 + 1)))) else (none)) else (Y5.j2 k x0 x6 x7 x8 x9)
end
def Y5.f (k : Nat) (a0 : ByteArray) : Option (ByteArray) := Y5.l0 k a0 (⟨#[]⟩ : ByteArray) 0
set_option maxHeartbeats 8000000 in
set_option maxRecDepth 100000 in
theorem Y5.calls (k : Nat) (a0 : ByteArray) (r : ByteArray) (w : World) (h : Y5.f k a0 = some r) :
  Calls Tryd.prog 88 #[.string a0] w fun e w' => e = .returned (.string r) ∧ YO w w' := by
 have H : (Y5.l0 k a0 (⟨#[]⟩ : ByteArray) 0) = some r := h
 clear h
 have H' := Y0.mk H
 clear H
 go_enter Tryd.func88, Tryd.ntmps88
 go_wp2
 repeat (go_quiet (fail); try go_wp2)
 go_loopg [6, 7] k (fun kq v6 v7 w' => ∃ (x6_1 : ByteArray) (x7_1 : Int), v6 = .string x6_1 ∧ v7 = .int .i64 x7_1 ∧ Y0 (Y5.l0 kq a0 x6_1 x7_1 = some r) ∧ Y0 (kq ≤ k) ∧ YO w w')
 case atStart => exact ⟨((⟨#[]⟩ : ByteArray)), (0), Z4, Z4, H', ⟨Nat.le_refl _⟩, Z6⟩
 case round =>
  clear H'
  obtain ⟨x6_1, x7_1, rfl, rfl, HA, HK1, ⟨m1, rfl⟩⟩ := hrel
  cases gk with
  | zero => exact absurd HA.out (by simp [Y5.l0])
  | succ k1 =>
   have H := HA.out
   clear HA
   simp only [Y5.l0] at H
   by_cases c2 : x7_1 < (a0.size : Int)
   ·rw [if_pos c2] at H
    have c2b0 : decide (x7_1 < (a0.size : Int)) = true := decide_eq_true c2
    clear c2
    by_cases c3 : 0 ≤ x7_1
    ·rw [if_pos c3] at H
     have c3b0 : decide (0 ≤ x7_1) = true := decide_eq_true c3
     clear c3
     have HC5 := Y0.mk H
     clear H
     have p4 : 0 ≤ (x7_1 : Int) := of_decide_eq_true Z5
     have q4 : x7_1 < (a0.size : Int) := of_decide_eq_true Z5
     have hx4 := YV a0 x7_1
     replace p4 := eq_true p4
     replace q4 := eq_true q4
     go_upto_block 2 with (fail)
     repeat (go_quiet (fail); go_upto_block 2 with (fail))
     go_cut [9] (fun v9 wc => ∃ (kq : Nat) (x9_4 : Int), v9 = .int .i64 x9_4 ∧ Y0 (Y5.j2 kq a0 x6_1 x7_1 (bt a0 x7_1) x9_4 = some r) ∧ Y0 (kq ≤ k1) ∧ YO w wc)
     case first =>
      have H := HC5.out
      clear HC5
      have H' := Y0.mk H
      clear H
      go_wp2
      repeat (go_quiet (fail); try go_wp2)
      go_loopg [9] k1 (fun kq v9 w' => ∃ (x9_2 : Int), v9 = .int .i64 x9_2 ∧ Y0 (Y5.l1 kq a0 x6_1 x7_1 (bt a0 x7_1) x9_2 = some r) ∧ Y0 (kq ≤ k1) ∧ YO w w')
      case atStart => exact ⟨(0), Z4, H', ⟨Nat.le_refl _⟩, Z6⟩
      case round =>
       clear H'
       try clear c2
       try clear c2b0
       try clear p2
       try clear c3
       try clear c3b0
       try clear p4
       try clear q4
       try clear hx4
       try clear p4
       try clear q4
       obtain ⟨x9_2, rfl, HA, HK2, ⟨m2, rfl⟩⟩ := hrel
       cases gk with
       | zero => exact absurd HA.out (by simp [Y5.l1])
       | succ k2 =>
        have H := HA.out
        clear HA
        simp only [Y5.l1] at H
        by_cases c6 : x9_2 < 7
        ·rw [if_pos c6] at H
         have c6b0 : decide (x9_2 < 7) = true := decide_eq_true c6
         clear c6
         (first | rw [c6b0] | (simp only [YI, YJ]; rw [c6b0]) | skip)
         by_cases c7 : 0 ≤ x9_2
         ·rw [if_pos c7] at H
          have c7b0 : decide (0 ≤ x9_2) = true := decide_eq_true c7
          clear c7
          by_cases c9 : (bt (⟨#[34, 92, 10, 13, 9, 8, 12]⟩ : ByteArray) x9_2) = (bt a0 x7_1)
          ·rw [if_pos c9] at H
           have c9b0 : ((bt (⟨#[34, 92, 10, 13, 9, 8, 12]⟩ : ByteArray) x9_2) == (bt a0 x7_1)) = true := beq_iff_eq.mpr c9
           have c9b1 : ((bt (⟨#[34, 92, 10, 13, 9, 8, 12]⟩ : ByteArray) x9_2) != (bt a0 x7_1)) = false := bne_eq_false_iff_eq.mpr c9
           clear c9
           have H' := Y0.mk H
           clear H
           have p8 : 0 ≤ (x9_2 : Int) := of_decide_eq_true Z5
           have q8 : x9_2 < (7 : Int) := of_decide_eq_true Z5
           have hx8 := YV (⟨#[34, 92, 10, 13, 9, 8, 12]⟩ : ByteArray) x9_2
           replace p8 := eq_true p8
           replace q8 := eq_true q8
           go_wp2
           repeat (go_quiet (fail); try go_wp2)
           go_meet
           case rel => exact ⟨_, (x9_2), Z4, H', ⟨ZK⟩, Z6⟩
          ·rw [if_neg c9] at H
           have c9b0 : ((bt (⟨#[34, 92, 10, 13, 9, 8, 12]⟩ : ByteArray) x9_2) == (bt a0 x7_1)) = false := beq_eq_false_iff_ne.mpr c9
           have c9b1 : ((bt (⟨#[34, 92, 10, 13, 9, 8, 12]⟩ : ByteArray) x9_2) != (bt a0 x7_1)) = true := bne_iff_ne.mpr c9
           have H' := Y0.mk H
           clear H
           have p8 : 0 ≤ (x9_2 : Int) := of_decide_eq_true Z5
           have q8 : x9_2 < (7 : Int) := of_decide_eq_true Z5
           have hx8 := YV (⟨#[34, 92, 10, 13, 9, 8, 12]⟩ : ByteArray) x9_2
           replace p8 := eq_true p8
           replace q8 := eq_true q8
           go_wp2
           repeat (go_quiet (fail); try go_wp2)
           go_roundg k2
           case measure => have := HK1.out; have := HK2.out; omega
           case rel => exact ⟨(wrap64 (x9_2 + 1)), Z4, H', ⟨by have := HK1.out; have := HK2.out; omega⟩, Z6⟩
         ·rw [if_neg c7] at H
          exact Zd
        ·rw [if_neg c6] at H
         have c6b0 : decide (x9_2 < 7) = false := decide_eq_false c6
         clear c6
         (first | rw [c6b0] | (simp only [YI, YJ]; rw [c6b0]) | skip)
         have H' := Y0.mk H
         clear H
         go_wp2
         repeat (go_quiet (fail); try go_wp2)
         go_meet
         case rel => exact ⟨_, (x9_2), Z4, H', ⟨ZK⟩, Z6⟩
     case rest =>
      clear HC5
      try clear c2
      try clear c2b0
      try clear p2
      try clear c3
      try clear c3b0
      try clear p4
      try clear q4
      try clear hx4
      try clear c6
      try clear c6b0
      try clear p6
      try clear c7
      try clear c7b0
      try clear c8
      try clear p8
      try clear q8
      try clear hx8
      try clear c9
      try clear c9b0
      try clear c9b1
      try clear p2
      try clear p4
      try clear p8
      try clear q4
      try clear q8
      obtain ⟨kq, x9_4, rfl, HA, HJ4, ⟨mc4, rfl⟩⟩ := hcut
      cases kq with
      | zero => exact absurd HA.out (by simp [Y5.j2])
      | succ kj4 =>
       have H := HA.out
       clear HA
       simp only [Y5.j2] at H
       by_cases c10 : x9_4 < 7
       ·rw [if_pos c10] at H
        have c10b0 : decide (x9_4 < 7) = true := decide_eq_true c10
        clear c10
        by_cases c11 : x6_1.size + 1 ≤ 9223372036854775807
        ·rw [if_pos c11] at H
         have c11b0 := eq_true c11
         have c11b1 : decide (x6_1.size + 1 ≤ 9223372036854775807) = true := decide_eq_true c11
         try have c11b2 : (9223372036854775807 < x6_1.size + 1) = False := eq_false (Nat.not_lt.2 c11)
         by_cases c12 : 0 ≤ x9_4
         ·rw [if_pos c12] at H
          have c12b0 := eq_true c12
          have c12b1 : decide (0 ≤ x9_4) = true := decide_eq_true c12
          clear c12
          by_cases c13 : x9_4 ≤ (wrap64 (x9_4 + 1))
          ·rw [if_pos c13] at H
           have c13b0 := eq_true c13
           have c13b1 : decide (x9_4 ≤ (wrap64 (x9_4 + 1))) = true := decide_eq_true c13
           by_cases c14 : (wrap64 (x9_4 + 1)) ≤ 7
           ·rw [if_pos c14] at H
            have c14b0 := eq_true c14
            have c14b1 : decide ((wrap64 (x9_4 + 1)) ≤ 7) = true := decide_eq_true c14
            by_cases c15 : x6_1.size + 1 + (wrap64 (x9_4 + 1)).toNat - x9_4.toNat ≤ 9223372036854775807
            ·rw [if_pos c15] at H
             have c15b0 := eq_true c15
             have c15b1 : decide (x6_1.size + 1 + (wrap64 (x9_4 + 1)).toNat - x9_4.toNat ≤ 9223372036854775807) = true := decide_eq_true c15
             try have c15b2 : (9223372036854775807 < x6_1.size + 1 + (wrap64 (x9_4 + 1)).toNat - x9_4.toNat) = False := eq_false (Nat.not_lt.2 c15)
             have H' := Y0.mk H
             clear H
             go_wp2
             repeat (go_quiet (fail); try go_wp2)
             go_roundg kj4
             case measure => have := HK1.out; have := HJ4.out; omega
             case rel => exact ⟨((x6_1 ++ (⟨#[92]⟩ : ByteArray)) ++ ((⟨#[34, 92, 110, 114, 116, 98, 102]⟩ : ByteArray).extract (x9_4 : Int).toNat ((wrap64 (x9_4 + 1)) : Int).toNat)), (wrap64 (x7_1 + 1)), Z4, Z4, H', ⟨Zy⟩, Z6⟩
            ·rw [if_neg c15] at H
             exact Zd
           ·rw [if_neg c14] at H
            exact Zd
          ·rw [if_neg c13] at H
           exact Zd
         ·rw [if_neg c12] at H
          exact Zd
        ·rw [if_neg c11] at H
         exact Zd
       ·rw [if_neg c10] at H
        have c10b0 : decide (x9_4 < 7) = false := decide_eq_false c10
        clear c10
        by_cases c16 : (bt a0 x7_1) < 32
        ·rw [if_pos c16] at H
         have c16b0 : decide ((bt a0 x7_1) < 32) = true := decide_eq_true c16
         clear c16
         by_cases c17 : x6_1.size + 4 ≤ 9223372036854775807
         ·rw [if_pos c17] at H
          have c17b0 := eq_true c17
          have c17b1 : decide (x6_1.size + 4 ≤ 9223372036854775807) = true := decide_eq_true c17
          try have c17b2 : (9223372036854775807 < x6_1.size + 4) = False := eq_false (Nat.not_lt.2 c17)
          obtain ⟨ji18, hji18⟩ : ∃ j_ : Int, ((bt a0 x7_1) / 16) = j_ := ⟨_, rfl⟩
          replace H : (if 0 ≤ (ji18) then (if (ji18) ≤ (((ji18) + 1) % 256) then (if (((ji18) + 1) % 256) ≤ 16 then (if x6_1.size + 4 + (((ji18) + 1) % 256).toNat - (ji18).toNat ≤ 9223372036854775807 then (if 0 ≤ (Go.bits .and .u8 (bt a0 x7_1) 15) then (if (Go.bits .and .u8 (bt a0 x7_1) 15) ≤ (((Go.bits .and .u8 (bt a0 x7_1) 15) + 1) % 256) then (if (((Go.bits .and .u8 (bt a0 x7_1) 15) + 1) % 256) ≤ 16 then (if x6_1.size + 4 + ((((ji18) + 1) % 256).toNat - (ji18).toNat) + (((Go.bits .and .u8 (bt a0 x7_1) 15) + 1) % 256).toNat - (Go.bits .and .u8 (bt a0 x7_1) 15).toNat ≤ 9223372036854775807 then (Y5.l0 kj4 a0 (((x6_1 ++ (⟨#[92, 117, 48, 48]⟩ : ByteArray)) ++ ((⟨#[48, 49, 50, 51, 52, 53, 54, 55, 56, 57, 65, 66, 67, 68, 69, 70]⟩ : ByteArray).extract ((ji18) : Int).toNat ((((ji18) + 1) % 256) : Int).toNat)) ++ ((⟨#[48, 49, 50, 51, 52, 53, 54, 55, 56, 57, 65, 66, 67, 68, 69, 70]⟩ : ByteArray).extract ((Go.bits .and .u8 (bt a0 x7_1) 15) : Int).toNat ((((Go.bits .and .u8 (bt a0 x7_1) 15) + 1) % 256) : Int).toNat)) (wrap64 (x7_1 + 1))) else (none)) else (none)) else (none)) else (none)) else (none)) else (none)) else (none)) else (none)) = some r := by first | (rw [hji18] at H; exact H) | (simp only [hji18] at H ⊢; exact H)
          by_cases c19 : 0 ≤ (ji18)
          ·rw [if_pos c19] at H
           have c19b0 := eq_true c19
           have c19b1 : decide (0 ≤ (ji18)) = true := decide_eq_true c19
           clear c19
           by_cases c20 : (ji18) ≤ (((ji18) + 1) % 256)
           ·rw [if_pos c20] at H
            have c20b0 := eq_true c20
            have c20b1 : decide ((ji18) ≤ (((ji18) + 1) % 256)) = true := decide_eq_true c20
            by_cases c21 : (((ji18) + 1) % 256) ≤ 16
            ·rw [if_pos c21] at H
             have c21b0 := eq_true c21
             have c21b1 : decide ((((ji18) + 1) % 256) ≤ 16) = true := decide_eq_true c21
             by_cases c22 : x6_1.size + 4 + (((ji18) + 1) % 256).toNat - (ji18).toNat ≤ 9223372036854775807
             ·rw [if_pos c22] at H
              have c22b0 := eq_true c22
              have c22b1 : decide (x6_1.size + 4 + (((ji18) + 1) % 256).toNat - (ji18).toNat ≤ 9223372036854775807) = true := decide_eq_true c22
              try have c22b2 : (9223372036854775807 < x6_1.size + 4 + (((ji18) + 1) % 256).toNat - (ji18).toNat) = False := eq_false (Nat.not_lt.2 c22)
              by_cases c23 : 0 ≤ (Go.bits .and .u8 (bt a0 x7_1) 15)
              ·rw [if_pos c23] at H
               have c23b0 := eq_true c23
               have c23b1 : decide (0 ≤ (Go.bits .and .u8 (bt a0 x7_1) 15)) = true := decide_eq_true c23
               clear c23
               by_cases c24 : (Go.bits .and .u8 (bt a0 x7_1) 15) ≤ (((Go.bits .and .u8 (bt a0 x7_1) 15) + 1) % 256)
               ·rw [if_pos c24] at H
                have c24b0 := eq_true c24
                have c24b1 : decide ((Go.bits .and .u8 (bt a0 x7_1) 15) ≤ (((Go.bits .and .u8 (bt a0 x7_1) 15) + 1) % 256)) = true := decide_eq_true c24
                by_cases c25 : (((Go.bits .and .u8 (bt a0 x7_1) 15) + 1) % 256) ≤ 16
                ·rw [if_pos c25] at H
                 have c25b0 := eq_true c25
                 have c25b1 : decide ((((Go.bits .and .u8 (bt a0 x7_1) 15) + 1) % 256) ≤ 16) = true := decide_eq_true c25
                 by_cases c26 : x6_1.size + 4 + ((((ji18) + 1) % 256).toNat - (ji18).toNat) + (((Go.bits .and .u8 (bt a0 x7_1) 15) + 1) % 256).toNat - (Go.bits .and .u8 (bt a0 x7_1) 15).toNat ≤ 9223372036854775807
                 ·rw [if_pos c26] at H
                  have c26b0 := eq_true c26
                  have c26b1 : decide (x6_1.size + 4 + ((((ji18) + 1) % 256).toNat - (ji18).toNat) + (((Go.bits .and .u8 (bt a0 x7_1) 15) + 1) % 256).toNat - (Go.bits .and .u8 (bt a0 x7_1) 15).toNat ≤ 9223372036854775807) = true := decide_eq_true c26
                  try have c26b2 : (9223372036854775807 < x6_1.size + 4 + ((((ji18) + 1) % 256).toNat - (ji18).toNat) + (((Go.bits .and .u8 (bt a0 x7_1) 15) + 1) % 256).toNat - (Go.bits .and .u8 (bt a0 x7_1) 15).toNat) = False := eq_false (Nat.not_lt.2 c26)
                  have H' := Y0.mk H
                  clear H
                  go_wp2
                  repeat (go_quiet (fail); try go_wp2)
                  go_roundg kj4
                  case measure => have := HK1.out; have := HJ4.out; omega
                  case rel => exact ⟨(((x6_1 ++ (⟨#[92, 117, 48, 48]⟩ : ByteArray)) ++ ((⟨#[48, 49, 50, 51, 52, 53, 54, 55, 56, 57, 65, 66, 67, 68, 69, 70]⟩ : ByteArray).extract ((ji18) : Int).toNat ((((ji18) + 1) % 256) : Int).toNat)) ++ ((⟨#[48, 49, 50, 51, 52, 53, 54, 55, 56, 57, 65, 66, 67, 68, 69, 70]⟩ : ByteArray).extract ((Go.bits .and .u8 (bt a0 x7_1) 15) : Int).toNat ((((Go.bits .and .u8 (bt a0 x7_1) 15) + 1) % 256) : Int).toNat)), (wrap64 (x7_1 + 1)), (by first | rfl | (simp; done) | (simp only [← hji18] <;> (first | rfl | simp)) | (simp [*]; done)), Z4, H', ⟨Zy⟩, Z6⟩
                 ·rw [if_neg c26] at H
                  exact Zd
                ·rw [if_neg c25] at H
                 exact Zd
               ·rw [if_neg c24] at H
                exact Zd
              ·rw [if_neg c23] at H
               exact Zd
             ·rw [if_neg c22] at H
              exact Zd
            ·rw [if_neg c21] at H
             exact Zd
           ·rw [if_neg c20] at H
            exact Zd
          ·rw [if_neg c19] at H
           exact Zd
         ·rw [if_neg c17] at H
          exact Zd
        ·rw [if_neg c16] at H
         have c16b0 : decide ((bt a0 x7_1) < 32) = false := decide_eq_false c16
         clear c16
         by_cases c27 : (bt a0 x7_1) = 127
         ·rw [if_pos c27] at H
          have c27b0 : ((bt a0 x7_1) == 127) = true := beq_iff_eq.mpr c27
          have c27b1 : ((bt a0 x7_1) != 127) = false := bne_eq_false_iff_eq.mpr c27
          clear c27
          by_cases c28 : x6_1.size + 4 ≤ 9223372036854775807
          ·rw [if_pos c28] at H
           have c28b0 := eq_true c28
           have c28b1 : decide (x6_1.size + 4 ≤ 9223372036854775807) = true := decide_eq_true c28
           try have c28b2 : (9223372036854775807 < x6_1.size + 4) = False := eq_false (Nat.not_lt.2 c28)
           obtain ⟨ji29, hji29⟩ : ∃ j_ : Int, ((bt a0 x7_1) / 16) = j_ := ⟨_, rfl⟩
           replace H : (if 0 ≤ (ji29) then (if (ji29) ≤ (((ji29) + 1) % 256) then (if (((ji29) + 1) % 256) ≤ 16 then (if x6_1.size + 4 + (((ji29) + 1) % 256).toNat - (ji29).toNat ≤ 9223372036854775807 then (if 0 ≤ (Go.bits .and .u8 (bt a0 x7_1) 15) then (if (Go.bits .and .u8 (bt a0 x7_1) 15) ≤ (((Go.bits .and .u8 (bt a0 x7_1) 15) + 1) % 256) then (if (((Go.bits .and .u8 (bt a0 x7_1) 15) + 1) % 256) ≤ 16 then (if x6_1.size + 4 + ((((ji29) + 1) % 256).toNat - (ji29).toNat) + (((Go.bits .and .u8 (bt a0 x7_1) 15) + 1) % 256).toNat - (Go.bits .and .u8 (bt a0 x7_1) 15).toNat ≤ 9223372036854775807 then (Y5.l0 kj4 a0 (((x6_1 ++ (⟨#[92, 117, 48, 48]⟩ : ByteArray)) ++ ((⟨#[48, 49, 50, 51, 52, 53, 54, 55, 56, 57, 65, 66, 67, 68, 69, 70]⟩ : ByteArray).extract ((ji29) : Int).toNat ((((ji29) + 1) % 256) : Int).toNat)) ++ ((⟨#[48, 49, 50, 51, 52, 53, 54, 55, 56, 57, 65, 66, 67, 68, 69, 70]⟩ : ByteArray).extract ((Go.bits .and .u8 (bt a0 x7_1) 15) : Int).toNat ((((Go.bits .and .u8 (bt a0 x7_1) 15) + 1) % 256) : Int).toNat)) (wrap64 (x7_1 + 1))) else (none)) else (none)) else (none)) else (none)) else (none)) else (none)) else (none)) else (none)) = some r := by first | (rw [hji29] at H; exact H) | (simp only [hji29] at H ⊢; exact H)
           by_cases c30 : 0 ≤ (ji29)
           ·rw [if_pos c30] at H
            have c30b0 := eq_true c30
            have c30b1 : decide (0 ≤ (ji29)) = true := decide_eq_true c30
            clear c30
            by_cases c31 : (ji29) ≤ (((ji29) + 1) % 256)
            ·rw [if_pos c31] at H
             have c31b0 := eq_true c31
             have c31b1 : decide ((ji29) ≤ (((ji29) + 1) % 256)) = true := decide_eq_true c31
             by_cases c32 : (((ji29) + 1) % 256) ≤ 16
             ·rw [if_pos c32] at H
              have c32b0 := eq_true c32
              have c32b1 : decide ((((ji29) + 1) % 256) ≤ 16) = true := decide_eq_true c32
              by_cases c33 : x6_1.size + 4 + (((ji29) + 1) % 256).toNat - (ji29).toNat ≤ 9223372036854775807
              ·rw [if_pos c33] at H
               have c33b0 := eq_true c33
               have c33b1 : decide (x6_1.size + 4 + (((ji29) + 1) % 256).toNat - (ji29).toNat ≤ 9223372036854775807) = true := decide_eq_true c33
               try have c33b2 : (9223372036854775807 < x6_1.size + 4 + (((ji29) + 1) % 256).toNat - (ji29).toNat) = False := eq_false (Nat.not_lt.2 c33)
               by_cases c34 : 0 ≤ (Go.bits .and .u8 (bt a0 x7_1) 15)
               ·rw [if_pos c34] at H
                have c34b0 := eq_true c34
                have c34b1 : decide (0 ≤ (Go.bits .and .u8 (bt a0 x7_1) 15)) = true := decide_eq_true c34
                clear c34
                by_cases c35 : (Go.bits .and .u8 (bt a0 x7_1) 15) ≤ (((Go.bits .and .u8 (bt a0 x7_1) 15) + 1) % 256)
                ·rw [if_pos c35] at H
                 have c35b0 := eq_true c35
                 have c35b1 : decide ((Go.bits .and .u8 (bt a0 x7_1) 15) ≤ (((Go.bits .and .u8 (bt a0 x7_1) 15) + 1) % 256)) = true := decide_eq_true c35
                 by_cases c36 : (((Go.bits .and .u8 (bt a0 x7_1) 15) + 1) % 256) ≤ 16
                 ·rw [if_pos c36] at H
                  have c36b0 := eq_true c36
                  have c36b1 : decide ((((Go.bits .and .u8 (bt a0 x7_1) 15) + 1) % 256) ≤ 16) = true := decide_eq_true c36
                  by_cases c37 : x6_1.size + 4 + ((((ji29) + 1) % 256).toNat - (ji29).toNat) + (((Go.bits .and .u8 (bt a0 x7_1) 15) + 1) % 256).toNat - (Go.bits .and .u8 (bt a0 x7_1) 15).toNat ≤ 9223372036854775807
                  ·rw [if_pos c37] at H
                   have c37b0 := eq_true c37
                   have c37b1 : decide (x6_1.size + 4 + ((((ji29) + 1) % 256).toNat - (ji29).toNat) + (((Go.bits .and .u8 (bt a0 x7_1) 15) + 1) % 256).toNat - (Go.bits .and .u8 (bt a0 x7_1) 15).toNat ≤ 9223372036854775807) = true := decide_eq_true c37
                   try have c37b2 : (9223372036854775807 < x6_1.size + 4 + ((((ji29) + 1) % 256).toNat - (ji29).toNat) + (((Go.bits .and .u8 (bt a0 x7_1) 15) + 1) % 256).toNat - (Go.bits .and .u8 (bt a0 x7_1) 15).toNat) = False := eq_false (Nat.not_lt.2 c37)
                   have H' := Y0.mk H
                   clear H
                   go_wp2
                   repeat (go_quiet (fail); try go_wp2)
                   go_roundg kj4
                   case measure => have := HK1.out; have := HJ4.out; omega
                   case rel => exact ⟨(((x6_1 ++ (⟨#[92, 117, 48, 48]⟩ : ByteArray)) ++ ((⟨#[48, 49, 50, 51, 52, 53, 54, 55, 56, 57, 65, 66, 67, 68, 69, 70]⟩ : ByteArray).extract ((ji29) : Int).toNat ((((ji29) + 1) % 256) : Int).toNat)) ++ ((⟨#[48, 49, 50, 51, 52, 53, 54, 55, 56, 57, 65, 66, 67, 68, 69, 70]⟩ : ByteArray).extract ((Go.bits .and .u8 (bt a0 x7_1) 15) : Int).toNat ((((Go.bits .and .u8 (bt a0 x7_1) 15) + 1) % 256) : Int).toNat)), (wrap64 (x7_1 + 1)), (by first | rfl | (simp; done) | (simp only [← hji29] <;> (first | rfl | simp)) | (simp [*]; done)), Z4, H', ⟨Zy⟩, Z6⟩
                  ·rw [if_neg c37] at H
                   exact Zd
                 ·rw [if_neg c36] at H
                  exact Zd
                ·rw [if_neg c35] at H
                 exact Zd
               ·rw [if_neg c34] at H
                exact Zd
              ·rw [if_neg c33] at H
               exact Zd
             ·rw [if_neg c32] at H
              exact Zd
            ·rw [if_neg c31] at H
             exact Zd
           ·rw [if_neg c30] at H
            exact Zd
          ·rw [if_neg c28] at H
           exact Zd
         ·rw [if_neg c27] at H
          have c27b0 : ((bt a0 x7_1) == 127) = false := beq_eq_false_iff_ne.mpr c27
          have c27b1 : ((bt a0 x7_1) != 127) = true := bne_iff_ne.mpr c27
          by_cases c38 : 0 ≤ x7_1
          ·rw [if_pos c38] at H
           have c38b0 := eq_true c38
           have c38b1 : decide (0 ≤ x7_1) = true := decide_eq_true c38
           clear c38
           by_cases c39 : x7_1 ≤ (wrap64 (x7_1 + 1))
           ·rw [if_pos c39] at H
            have c39b0 := eq_true c39
            have c39b1 : decide (x7_1 ≤ (wrap64 (x7_1 + 1))) = true := decide_eq_true c39
            by_cases c40 : (wrap64 (x7_1 + 1)) ≤ (a0.size : Int)
            ·rw [if_pos c40] at H
             have c40b0 := eq_true c40
             have c40b1 : decide ((wrap64 (x7_1 + 1)) ≤ (a0.size : Int)) = true := decide_eq_true c40
             by_cases c41 : x6_1.size + (wrap64 (x7_1 + 1)).toNat - x7_1.toNat ≤ 9223372036854775807
             ·rw [if_pos c41] at H
              have c41b0 := eq_true c41
              have c41b1 : decide (x6_1.size + (wrap64 (x7_1 + 1)).toNat - x7_1.toNat ≤ 9223372036854775807) = true := decide_eq_true c41
              try have c41b2 : (9223372036854775807 < x6_1.size + (wrap64 (x7_1 + 1)).toNat - x7_1.toNat) = False := eq_false (Nat.not_lt.2 c41)
              have H' := Y0.mk H
              clear H
              go_wp2
              repeat (go_quiet (fail); try go_wp2)
              go_roundg kj4
              case measure => have := HK1.out; have := HJ4.out; omega
              case rel => exact ⟨(x6_1 ++ (a0.extract (x7_1 : Int).toNat ((wrap64 (x7_1 + 1)) : Int).toNat)), (wrap64 (x7_1 + 1)), Z4, Z4, H', ⟨Zy⟩, Z6⟩
             ·rw [if_neg c41] at H
              exact Zd
            ·rw [if_neg c40] at H
             exact Zd
           ·rw [if_neg c39] at H
            exact Zd
          ·rw [if_neg c38] at H
           exact Zd
    ·rw [if_neg c3] at H
     exact Zd
   ·rw [if_neg c2] at H
    have c2b0 : decide (x7_1 < (a0.size : Int)) = false := decide_eq_false c2
    clear c2
    obtain rfl := Option.some.inj H
    go_wp2
    repeat (go_quiet (fail); try go_wp2)
    go_ret
    exact ZX
def YD.f (k : Nat) (a0_0 : Int) (a0_1 : ByteArray) (a0_2 : ByteArray) : Option (ByteArray) := if a0_0 = 1 then (if 1 + a0_1.size ≤ 9223372036854775807 then (if 1 + a0_1.size + 1 ≤ 9223372036854775807 then (some (((⟨#[60]⟩ : ByteArray) ++ a0_1) ++ (⟨#[62]⟩ : ByteArray))) else (none)) else (none)) else (if a0_0 = 2 then (if 2 + a0_1.size ≤ 9223372036854775807 then (some ((⟨#[95, 58]⟩ : ByteArray) ++ a0_1)) else (none)) else ((Y5.f k a0_1).bind fun t102 => (if 1 + t102.size ≤ 9223372036854775807 then (if 1 + t102.size + 1 ≤ 9223372036854775807 then (if a0_0 = 4 then (if 1 + t102.size + 1 + 1 ≤ 9223372036854775807 then (if 1 + t102.size + 1 + 1 + a0_2.size ≤ 9223372036854775807 then (some (((((⟨#[34]⟩ : ByteArray) ++ t102) ++ (⟨#[34]⟩ : ByteArray)) ++ (⟨#[64]⟩ : ByteArray)) ++ a0_2)) else (none)) else (none)) else (if a0_0 = 5 then (if 1 + t102.size + 1 + 3 ≤ 9223372036854775807 then (if 1 + t102.size + 1 + 3 + a0_2.size ≤ 9223372036854775807 then (if 1 + t102.size + 1 + 3 + a0_2.size + 1 ≤ 9223372036854775807 then (some ((((((⟨#[34]⟩ : ByteArray) ++ t102) ++ (⟨#[34]⟩ : ByteArray)) ++ (⟨#[94, 94, 60]⟩ : ByteArray)) ++ a0_2) ++ (⟨#[62]⟩ : ByteArray))) else (none)) else (none)) else (none)) else (some (((⟨#[34]⟩ : ByteArray) ++ t102) ++ (⟨#[34]⟩ : ByteArray))))) else (none)) else (none))))
set_option maxHeartbeats 8000000 in
set_option maxRecDepth 100000 in
theorem YD.calls (k : Nat) (a0_0 : Int) (a0_1 : ByteArray) (a0_2 : ByteArray) (r : ByteArray) (w : World) (h : YD.f k a0_0 a0_1 a0_2 = some r) :
  Calls Tryd.prog 44 #[.agg #[.int .i64 a0_0, .string a0_1, .string a0_2]] w fun e w' => e = .returned (.string r) ∧ Below w.heap.size w w' := by
 have hu24 := Tryd.underlying24
 have HB := Y0.mk (Below.refl w.heap.size w)
 have H : (if a0_0 = 1 then (if 1 + a0_1.size ≤ 9223372036854775807 then (if 1 + a0_1.size + 1 ≤ 9223372036854775807 then (some (((⟨#[60]⟩ : ByteArray) ++ a0_1) ++ (⟨#[62]⟩ : ByteArray))) else (none)) else (none)) else (if a0_0 = 2 then (if 2 + a0_1.size ≤ 9223372036854775807 then (some ((⟨#[95, 58]⟩ : ByteArray) ++ a0_1)) else (none)) else ((Y5.f k a0_1).bind fun t102 => (if 1 + t102.size ≤ 9223372036854775807 then (if 1 + t102.size + 1 ≤ 9223372036854775807 then (if a0_0 = 4 then (if 1 + t102.size + 1 + 1 ≤ 9223372036854775807 then (if 1 + t102.size + 1 + 1 + a0_2.size ≤ 9223372036854775807 then (some (((((⟨#[34]⟩ : ByteArray) ++ t102) ++ (⟨#[34]⟩ : ByteArray)) ++ (⟨#[64]⟩ : ByteArray)) ++ a0_2)) else (none)) else (none)) else (if a0_0 = 5 then (if 1 + t102.size + 1 + 3 ≤ 9223372036854775807 then (if 1 + t102.size + 1 + 3 + a0_2.size ≤ 9223372036854775807 then (if 1 + t102.size + 1 + 3 + a0_2.size + 1 ≤ 9223372036854775807 then (some ((((((⟨#[34]⟩ : ByteArray) ++ t102) ++ (⟨#[34]⟩ : ByteArray)) ++ (⟨#[94, 94, 60]⟩ : ByteArray)) ++ a0_2) ++ (⟨#[62]⟩ : ByteArray))) else (none)) else (none)) else (none)) else (some (((⟨#[34]⟩ : ByteArray) ++ t102) ++ (⟨#[34]⟩ : ByteArray))))) else (none)) else (none))))) = some r := h
 clear h
 by_cases c2 : a0_0 = 1
 ·rw [if_pos c2] at H
  have c2b0 : (a0_0 == 1) = true := beq_iff_eq.mpr c2
  have c2b1 : (a0_0 != 1) = false := bne_eq_false_iff_eq.mpr c2
  clear c2
  by_cases c3 : 1 + a0_1.size ≤ 9223372036854775807
  ·rw [if_pos c3] at H
   have c3b0 := eq_true c3
   have c3b1 : decide (1 + a0_1.size ≤ 9223372036854775807) = true := decide_eq_true c3
   try have c3b2 : (9223372036854775807 < 1 + a0_1.size) = False := eq_false (Nat.not_lt.2 c3)
   by_cases c4 : 1 + a0_1.size + 1 ≤ 9223372036854775807
   ·rw [if_pos c4] at H
    have c4b0 := eq_true c4
    have c4b1 : decide (1 + a0_1.size + 1 ≤ 9223372036854775807) = true := decide_eq_true c4
    try have c4b2 : (9223372036854775807 < 1 + a0_1.size + 1) = False := eq_false (Nat.not_lt.2 c4)
    obtain rfl := Option.some.inj H
    go_enter Tryd.func44, Tryd.ntmps44
    go_wp2_with (first | ((with_reducible refine Yt (N := 1) rfl ?_); refine Yp ?hg (N := 1) ?hd (cs := #[.int .i64 a0_0, .string a0_1, .string a0_2]) (t := 24) ?hr ?_; (case hd => rfl); (case hg => rfl); (case hr => exact Zb); intro gb101 hg w5 hbox hb; have n_ := Y1L (Y8 QB hb) (hbox) ((by rw [hg]; exact (Yd QB) : w.heap.size ≤ gb101)) ((by rw [hg]; exact (Yd QB) : w.heap.size ≤ gb101)); clear HB; obtain ⟨HB, BK101, GW101, GE101⟩ := n_; clear hb hbox hg; obtain ⟨hcz6_0, hcz6_1, hcz6_2, hfz6_0, hfz6_1, hfz6_2⟩ := Yr BK101.out))
    go_ret
    exact ZT
   ·rw [if_neg c4] at H
    exact Zd
  ·rw [if_neg c3] at H
   exact Zd
 ·rw [if_neg c2] at H
  have c2b0 : (a0_0 == 1) = false := beq_eq_false_iff_ne.mpr c2
  have c2b1 : (a0_0 != 1) = true := bne_iff_ne.mpr c2
  by_cases c7 : a0_0 = 2
  ·rw [if_pos c7] at H
   have c7b0 : (a0_0 == 2) = true := beq_iff_eq.mpr c7
   have c7b1 : (a0_0 != 2) = false := bne_eq_false_iff_eq.mpr c7
   clear c7
   by_cases c8 : 2 + a0_1.size ≤ 9223372036854775807
   ·rw [if_pos c8] at H
    have c8b0 := eq_true c8
    have c8b1 : decide (2 + a0_1.size ≤ 9223372036854775807) = true := decide_eq_true c8
    try have c8b2 : (9223372036854775807 < 2 + a0_1.size) = False := eq_false (Nat.not_lt.2 c8)
    obtain rfl := Option.some.inj H
    go_enter Tryd.func44, Tryd.ntmps44
    go_wp2_with (first | ((with_reducible refine Yt (N := 1) rfl ?_); refine Yp ?hg (N := 1) ?hd (cs := #[.int .i64 a0_0, .string a0_1, .string a0_2]) (t := 24) ?hr ?_; (case hd => rfl); (case hg => rfl); (case hr => exact Zb); intro gb101 hg w9 hbox hb; have n_ := Y1L (Y8 QB hb) (hbox) ((by rw [hg]; exact (Yd QB) : w.heap.size ≤ gb101)) ((by rw [hg]; exact (Yd QB) : w.heap.size ≤ gb101)); clear HB; obtain ⟨HB, BK101, GW101, GE101⟩ := n_; clear hb hbox hg; obtain ⟨hcz10_0, hcz10_1, hcz10_2, hfz10_0, hfz10_1, hfz10_2⟩ := Yr BK101.out))
    go_ret
    exact ZT
   ·rw [if_neg c8] at H
    exact Zd
  ·rw [if_neg c7] at H
   have c7b0 : (a0_0 == 2) = false := beq_eq_false_iff_ne.mpr c7
   have c7b1 : (a0_0 != 2) = true := bne_iff_ne.mpr c7
   replace H := Option.bind_eq_some_iff.mp H
   obtain ⟨t102, A110, H⟩ := H
   replace H : (if 1 + t102.size ≤ 9223372036854775807 then (if 1 + t102.size + 1 ≤ 9223372036854775807 then (if a0_0 = 4 then (if 1 + t102.size + 1 + 1 ≤ 9223372036854775807 then (if 1 + t102.size + 1 + 1 + a0_2.size ≤ 9223372036854775807 then (some (((((⟨#[34]⟩ : ByteArray) ++ t102) ++ (⟨#[34]⟩ : ByteArray)) ++ (⟨#[64]⟩ : ByteArray)) ++ a0_2)) else (none)) else (none)) else (if a0_0 = 5 then (if 1 + t102.size + 1 + 3 ≤ 9223372036854775807 then (if 1 + t102.size + 1 + 3 + a0_2.size ≤ 9223372036854775807 then (if 1 + t102.size + 1 + 3 + a0_2.size + 1 ≤ 9223372036854775807 then (some ((((((⟨#[34]⟩ : ByteArray) ++ t102) ++ (⟨#[34]⟩ : ByteArray)) ++ (⟨#[94, 94, 60]⟩ : ByteArray)) ++ a0_2) ++ (⟨#[62]⟩ : ByteArray))) else (none)) else (none)) else (none)) else (some (((⟨#[34]⟩ : ByteArray) ++ t102) ++ (⟨#[34]⟩ : ByteArray))))) else (none)) else (none)) = some r := H
   have A11 := Y0.mk A110
   clear A110
   by_cases c12 : 1 + t102.size ≤ 9223372036854775807
   ·rw [if_pos c12] at H
    have c12b0 := eq_true c12
    have c12b1 : decide (1 + t102.size ≤ 9223372036854775807) = true := decide_eq_true c12
    try have c12b2 : (9223372036854775807 < 1 + t102.size) = False := eq_false (Nat.not_lt.2 c12)
    by_cases c13 : 1 + t102.size + 1 ≤ 9223372036854775807
    ·rw [if_pos c13] at H
     have c13b0 := eq_true c13
     have c13b1 : decide (1 + t102.size + 1 ≤ 9223372036854775807) = true := decide_eq_true c13
     try have c13b2 : (9223372036854775807 < 1 + t102.size + 1) = False := eq_false (Nat.not_lt.2 c13)
     by_cases c14 : a0_0 = 4
     ·rw [if_pos c14] at H
      have c14b0 : (a0_0 == 4) = true := beq_iff_eq.mpr c14
      have c14b1 : (a0_0 != 4) = false := bne_eq_false_iff_eq.mpr c14
      clear c14
      by_cases c15 : 1 + t102.size + 1 + 1 ≤ 9223372036854775807
      ·rw [if_pos c15] at H
       have c15b0 := eq_true c15
       have c15b1 : decide (1 + t102.size + 1 + 1 ≤ 9223372036854775807) = true := decide_eq_true c15
       try have c15b2 : (9223372036854775807 < 1 + t102.size + 1 + 1) = False := eq_false (Nat.not_lt.2 c15)
       by_cases c16 : 1 + t102.size + 1 + 1 + a0_2.size ≤ 9223372036854775807
       ·rw [if_pos c16] at H
        have c16b0 := eq_true c16
        have c16b1 : decide (1 + t102.size + 1 + 1 + a0_2.size ≤ 9223372036854775807) = true := decide_eq_true c16
        try have c16b2 : (9223372036854775807 < 1 + t102.size + 1 + 1 + a0_2.size) = False := eq_false (Nat.not_lt.2 c16)
        obtain rfl := Option.some.inj H
        go_enter Tryd.func44, Tryd.ntmps44
        go_wp2_with (first | ((with_reducible refine Yt (N := 1) rfl ?_); refine Yp ?hg (N := 1) ?hd (cs := #[.int .i64 a0_0, .string a0_1, .string a0_2]) (t := 24) ?hr ?_; (case hd => rfl); (case hg => rfl); (case hr => exact Zb); intro gb101 hg w17 hbox hb; have n_ := Y1L (Y8 QB hb) (hbox) ((by rw [hg]; exact (Yd QB) : w.heap.size ≤ gb101)) ((by rw [hg]; exact (Yd QB) : w.heap.size ≤ gb101)); clear HB; obtain ⟨HB, BK101, GW101, GE101⟩ := n_; clear hb hbox hg; obtain ⟨hcz18_0, hcz18_1, hcz18_2, hfz18_0, hfz18_1, hfz18_2⟩ := Yr BK101.out) | ((with_reducible refine Ya (f := 88) rfl ?_); refine Yu (some 19) rfl rfl Tryd.func88 Z7 rfl #[.string a0_1] rfl Z0 ?_; (with_reducible refine (Y5.calls k a0_1 t102 _ A11.out).mono ?_); rintro e w' ⟨rfl, ⟨nd, rfl⟩⟩; refine ⟨_, rfl, ?_⟩))
        go_ret
        exact ZT
       ·rw [if_neg c16] at H
        exact Zd
      ·rw [if_neg c15] at H
       exact Zd
     ·rw [if_neg c14] at H
      have c14b0 : (a0_0 == 4) = false := beq_eq_false_iff_ne.mpr c14
      have c14b1 : (a0_0 != 4) = true := bne_iff_ne.mpr c14
      by_cases c19 : a0_0 = 5
      ·rw [if_pos c19] at H
       have c19b0 : (a0_0 == 5) = true := beq_iff_eq.mpr c19
       have c19b1 : (a0_0 != 5) = false := bne_eq_false_iff_eq.mpr c19
       clear c19
       by_cases c20 : 1 + t102.size + 1 + 3 ≤ 9223372036854775807
       ·rw [if_pos c20] at H
        have c20b0 := eq_true c20
        have c20b1 : decide (1 + t102.size + 1 + 3 ≤ 9223372036854775807) = true := decide_eq_true c20
        try have c20b2 : (9223372036854775807 < 1 + t102.size + 1 + 3) = False := eq_false (Nat.not_lt.2 c20)
        by_cases c21 : 1 + t102.size + 1 + 3 + a0_2.size ≤ 9223372036854775807
        ·rw [if_pos c21] at H
         have c21b0 := eq_true c21
         have c21b1 : decide (1 + t102.size + 1 + 3 + a0_2.size ≤ 9223372036854775807) = true := decide_eq_true c21
         try have c21b2 : (9223372036854775807 < 1 + t102.size + 1 + 3 + a0_2.size) = False := eq_false (Nat.not_lt.2 c21)
         by_cases c22 : 1 + t102.size + 1 + 3 + a0_2.size + 1 ≤ 9223372036854775807
         ·rw [if_pos c22] at H
          have c22b0 := eq_true c22
          have c22b1 : decide (1 + t102.size + 1 + 3 + a0_2.size + 1 ≤ 9223372036854775807) = true := decide_eq_true c22
          try have c22b2 : (9223372036854775807 < 1 + t102.size + 1 + 3 + a0_2.size + 1) = False := eq_false (Nat.not_lt.2 c22)
          obtain rfl := Option.some.inj H
          go_enter Tryd.func44, Tryd.ntmps44
          go_wp2_with (first | ((with_reducible refine Yt (N := 1) rfl ?_); refine Yp ?hg (N := 1) ?hd (cs := #[.int .i64 a0_0, .string a0_1, .string a0_2]) (t := 24) ?hr ?_; (case hd => rfl); (case hg => rfl); (case hr => exact Zb); intro gb101 hg w23 hbox hb; have n_ := Y1L (Y8 QB hb) (hbox) ((by rw [hg]; exact (Yd QB) : w.heap.size ≤ gb101)) ((by rw [hg]; exact (Yd QB) : w.heap.size ≤ gb101)); clear HB; obtain ⟨HB, BK101, GW101, GE101⟩ := n_; clear hb hbox hg; obtain ⟨hcz24_0, hcz24_1, hcz24_2, hfz24_0, hfz24_1, hfz24_2⟩ := Yr BK101.out) | ((with_reducible refine Ya (f := 88) rfl ?_); refine Yu (some 19) rfl rfl Tryd.func88 Z7 rfl #[.string a0_1] rfl Z0 ?_; (with_reducible refine (Y5.calls k a0_1 t102 _ A11.out).mono ?_); rintro e w' ⟨rfl, ⟨nd, rfl⟩⟩; refine ⟨_, rfl, ?_⟩))
          go_ret
          exact ZT
         ·rw [if_neg c22] at H
          exact Zd
        ·rw [if_neg c21] at H
         exact Zd
       ·rw [if_neg c20] at H
        exact Zd
      ·rw [if_neg c19] at H
       have c19b0 : (a0_0 == 5) = false := beq_eq_false_iff_ne.mpr c19
       have c19b1 : (a0_0 != 5) = true := bne_iff_ne.mpr c19
       obtain rfl := Option.some.inj H
       go_enter Tryd.func44, Tryd.ntmps44
       go_wp2_with (first | ((with_reducible refine Yt (N := 1) rfl ?_); refine Yp ?hg (N := 1) ?hd (cs := #[.int .i64 a0_0, .string a0_1, .string a0_2]) (t := 24) ?hr ?_; (case hd => rfl); (case hg => rfl); (case hr => exact Zb); intro gb101 hg w25 hbox hb; have n_ := Y1L (Y8 QB hb) (hbox) ((by rw [hg]; exact (Yd QB) : w.heap.size ≤ gb101)) ((by rw [hg]; exact (Yd QB) : w.heap.size ≤ gb101)); clear HB; obtain ⟨HB, BK101, GW101, GE101⟩ := n_; clear hb hbox hg; obtain ⟨hcz26_0, hcz26_1, hcz26_2, hfz26_0, hfz26_1, hfz26_2⟩ := Yr BK101.out) | ((with_reducible refine Ya (f := 88) rfl ?_); refine Yu (some 19) rfl rfl Tryd.func88 Z7 rfl #[.string a0_1] rfl Z0 ?_; (with_reducible refine (Y5.calls k a0_1 t102 _ A11.out).mono ?_); rintro e w' ⟨rfl, ⟨nd, rfl⟩⟩; refine ⟨_, rfl, ?_⟩))
       go_ret
       exact ZT
    ·rw [if_neg c13] at H
     exact Zd
   ·rw [if_neg c12] at H
    exact Zd
def Ym (w0 W : World) (g : Nat) (f0 : ByteArray) (f1 : Bool) : Prop := W.heap[g]? = some (.cells #[.string f0, .bool f1] 67 (0, 0)) ∧ w0.heap.size ≤ g
theorem Ym.grown {w0 W : World} {g : Nat} {f0 : ByteArray} {f1 : Bool} {W1 : World} {row : Option Nat} (h : Ym w0 W g f0 f1) (hw : W.grownBy W1 row) (hne : some g ≠ row) : Ym w0 W1 g f0 f1 := by
 obtain ⟨hb, hg⟩ := h
 exact ⟨Y2K hb hw hne, hg⟩
theorem Ym.fresh {w0 W : World} {g : Nat} {f0 : ByteArray} {f1 : Bool} (h : Ym w0 W g f0 f1) : ∀ k, W.heap.size ≤ k → k ≠ g := by
 obtain ⟨hb, hg⟩ := h
 exact Kd.freshB hb
theorem Ym.kept {w0 W : World} {g : Nat} {f0 : ByteArray} {f1 : Bool} {W1 : World} {S : Nat → Prop} (h : Ym w0 W g f0 f1) (hk : Y2e W W1 S) (hne : ¬ S g) : Ym w0 W1 g f0 f1 := by
 obtain ⟨hb, hg⟩ := h
 exact ⟨Y3p hb hk hne, hg⟩
theorem Ym.below {w0 W : World} {g : Nat} {f0 : ByteArray} {f1 : Bool} {W1 : World} (h : Ym w0 W g f0 f1) (hw : Below W.heap.size W W1) : Ym w0 W1 g f0 f1 := h.grown (Y1v hw none) (by simp)
theorem Ym.alloc {w0 W : World} {g : Nat} {f0 : ByteArray} {f1 : Bool} (h : Ym w0 W g f0 f1) (o : Obj) : Ym w0 (W.alloc o) g f0 f1 := h.below (YW (Below.refl _ _) o)
theorem Ym.drewN {w0 W : World} {g : Nat} {f0 : ByteArray} {f1 : Bool} (h : Ym w0 W g f0 f1) (m : Nat) : Ym w0 (W.drewN m) g f0 f1 := h
theorem Ym.drew {w0 W : World} {g : Nat} {f0 : ByteArray} {f1 : Bool} (h : Ym w0 W g f0 f1) : Ym w0 W.drew g f0 f1 := h
theorem Ym.at_ {w0 W : World} {g : Nat} {f0 : ByteArray} {f1 : Bool} {w' : World} {m : Nat} (hq : W.drewN m = w') (h : Ym w0 W g f0 f1) : Ym w0 w' g f0 f1 := by subst hq; exact Ym.drewN h m
theorem Ym.apart {w0 W : World} {g : Nat} {f0 : ByteArray} {f1 : Bool} {α : Type} {d : Kd α} {e : Nat} {base : Nat} {ok : Nat → Prop} {v : Value} {xs : List α} (h : Ym w0 W g f0 f1) (ho : d.R e W base ok v xs) (ht : ∀ q, q ∈ e :: d.E → q ≠ 67) : d.R e W base (fun k => ok k ∧ k ≠ g) v xs := by
 obtain ⟨hb, hg⟩ := h
 exact Kd.R_types ho hb ht
theorem Ym.Y3h {w0 W : World} {g : Nat} {f0 : ByteArray} {f1 : Bool} {α : Type} {d : Kd α} {e : Nat} {base : Nat} {ok : Nat → Prop} {v : Value} {xs : List α} (h : Ym w0 W g f0 f1) (ho : d.R e W base ok v xs) (ht : e ≠ 67) : some g ≠ v.ownBlock := by
 obtain ⟨hb, hg⟩ := h
 exact Kd.R_ne ho hb ht
theorem Ym.lt {w0 W : World} {g : Nat} {f0 : ByteArray} {f1 : Bool} (h : Ym w0 W g f0 f1) : g < W.heap.size := by
 obtain ⟨hb, hg⟩ := h
 exact Yy hb
theorem Ym.ge {w0 W : World} {g : Nat} {f0 : ByteArray} {f1 : Bool} (h : Ym w0 W g f0 f1) : w0.heap.size ≤ g := by
 obtain ⟨hb, hg⟩ := h
 exact hg
theorem Ym.far {w0 W : World} {g : Nat} {f0 : ByteArray} {f1 : Bool} {p : Addr} (h : Ym w0 W g f0 f1) (hne : g ≠ p.block) (u : Value) : Ym w0 (W.setCell p u) g f0 f1 := by
 obtain ⟨hb, hg⟩ := h
 exact ⟨YQ hb hne u, hg⟩
theorem Y13 {W : World} {g : Nat} {f0 : ByteArray} {f1 : Bool} (h : W.heap[g]? = some (.cells #[.string f0, .bool f1] 67 (0, 0))) : W.cell? ⟨g, 0, none⟩ = some (.string f0) := (Y1 h 0).trans rfl
theorem Ym.set_0 {w0 W : World} {g : Nat} {f0 : ByteArray} {f1 : Bool} (h : Ym w0 W g f0 f1) (x : ByteArray) : Ym w0 (W.setCell ⟨g, 0, none⟩ (.string x)) g x f1 := by
 obtain ⟨hb, hg⟩ := h
 exact ZF
theorem Y14 {W : World} {g : Nat} {f0 : ByteArray} {f1 : Bool} (h : W.heap[g]? = some (.cells #[.string f0, .bool f1] 67 (0, 0))) : W.cell? ⟨g, 1, none⟩ = some (.bool f1) := (Y1 h 1).trans rfl
theorem Ym.set_1 {w0 W : World} {g : Nat} {f0 : ByteArray} {f1 : Bool} (h : Ym w0 W g f0 f1) (x : Bool) : Ym w0 (W.setCell ⟨g, 1, none⟩ (.bool x)) g f0 x := by
 obtain ⟨hb, hg⟩ := h
 exact ⟨by simpa using Y2L hb 1 (.bool x), hg⟩
def Y3.f (s0_0 : ByteArray) (s0_1 : Bool) (a1 : ByteArray) : Option (Bool × ByteArray × Bool) := if (s0_0.size : Int) ≥ (a1.size : Int) then (if 0 ≤ (a1.size : Int) then (if (a1.size : Int) ≤ (s0_0.size : Int) then (some (((s0_0.extract 0 ((a1.size : Int) : Int).toNat).toList == a1.toList), s0_0, s0_1)) else (none)) else (none)) else (some (false, s0_0, s0_1))
set_option maxHeartbeats 8000000 in
set_option maxRecDepth 100000 in
theorem Y3.calls (g : Nat) (s0_0 : ByteArray) (s0_1 : Bool) (a1 : ByteArray) (r1 : Bool) (r2 : ByteArray) (r3 : Bool) (w0 w : World) (hI : Ym w0 w g s0_0 s0_1) (hB : Below w0.heap.size w0 w) (h : Y3.f s0_0 s0_1 a1 = some (r1, r2, r3)) :
  Calls Tryd.prog 82 #[.pointer (some ⟨g, 0, none⟩), .string a1] w fun e w' => e = .returned (.bool r1) ∧ Ym w0 w' g r2 r3 ∧ Below w0.heap.size w0 w' ∧ Yb w w' g none := by
 have HI0 := Y0.mk hI
 have HK := Y0.mk (Yb.refl w g none)
 have HL := Y0.mk hB.size
 clear hI
 have HW0 := Y0.mk hB.size
 have HB := Y0.mk hB
 clear hB
 have H : (if (s0_0.size : Int) ≥ (a1.size : Int) then (if 0 ≤ (a1.size : Int) then (if (a1.size : Int) ≤ (s0_0.size : Int) then (some (((s0_0.extract 0 ((a1.size : Int) : Int).toNat).toList == a1.toList), s0_0, s0_1)) else (none)) else (none)) else (some (false, s0_0, s0_1))) = some (r1, r2, r3) := h
 clear h
 by_cases c3 : (s0_0.size : Int) ≥ (a1.size : Int)
 ·rw [if_pos c3] at H
  have c3b0 : decide ((a1.size : Int) ≤ (s0_0.size : Int)) = true := decide_eq_true c3
  have c3b1 : decide (a1.size ≤ s0_0.size) = true := decide_eq_true (Int.ofNat_le.mp c3)
  clear c3
  by_cases c4 : 0 ≤ (a1.size : Int)
  ·rw [if_pos c4] at H
   have c4b0 := eq_true c4
   have c4b1 : decide (0 ≤ (a1.size : Int)) = true := decide_eq_true c4
   clear c4
   by_cases c5 : (a1.size : Int) ≤ (s0_0.size : Int)
   ·rw [if_pos c5] at H
    have c5b0 := eq_true c5
    have c5b1 : decide ((a1.size : Int) ≤ (s0_0.size : Int)) = true := decide_eq_true c5
    clear c5
    simp only [Option.some.injEq, Prod.mk.injEq] at H
    obtain ⟨rfl, rfl, rfl⟩ := H
    obtain ⟨hcz6_0, hcz6_1, hfz6_0, hfz6_1⟩ := Y1e HI0.out.1
    go_enter Tryd.func82, Tryd.ntmps82
    go_wp2
    go_ret
    exact ZV
   ·rw [if_neg c5] at H
    exact Zd
  ·rw [if_neg c4] at H
   exact Zd
 ·rw [if_neg c3] at H
  have c3b0 : decide ((a1.size : Int) ≤ (s0_0.size : Int)) = false := decide_eq_false c3
  have c3b1 : decide (a1.size ≤ s0_0.size) = false := decide_eq_false (fun h => c3 (Int.ofNat_le.mpr h))
  clear c3
  simp only [Option.some.injEq, Prod.mk.injEq] at H
  obtain ⟨rfl, rfl, rfl⟩ := H
  obtain ⟨hcz7_0, hcz7_1, hfz7_0, hfz7_1⟩ := Y1e HI0.out.1
  go_enter Tryd.func82, Tryd.ntmps82
  go_wp2
  go_ret
  exact ZV
def Yf.l0 : Nat → ByteArray → Bool → Option (ByteArray × Bool)
 | 0, _, _ => none
 | k + 1, x1000, x1001 => if x1000.toList = ([] : List UInt8) then (some (x1000, x1001)) else (if 0 < (x1000.size : Int) then (if (bt x1000 0) = 32 then (if 1 ≤ (x1000.size : Int) then (Yf.l0 k (x1000.extract 1 x1000.size) x1001) else (none)) else (if (bt x1000 0) = 9 then (if 1 ≤ (x1000.size : Int) then (Yf.l0 k (x1000.extract 1 x1000.size) x1001) else (none)) else (some (x1000, x1001)))) else (none))
def Yf.f (k : Nat) (s0_0 : ByteArray) (s0_1 : Bool) : Option (ByteArray × Bool) := Yf.l0 k s0_0 s0_1
set_option maxHeartbeats 8000000 in
set_option maxRecDepth 100000 in
theorem Yf.calls (k : Nat) (g : Nat) (s0_0 : ByteArray) (s0_1 : Bool) (r1 : ByteArray) (r2 : Bool) (w0 w : World) (hI : Ym w0 w g s0_0 s0_1) (hB : Below w0.heap.size w0 w) (h : Yf.f k s0_0 s0_1 = some (r1, r2)) :
  Calls Tryd.prog 87 #[.pointer (some ⟨g, 0, none⟩)] w fun e w' => e = .returned (.tuple #[]) ∧ Ym w0 w' g r1 r2 ∧ Below w0.heap.size w0 w' ∧ Yb w w' g none := by
 have HI0 := Y0.mk hI
 have HK := Y0.mk (Yb.refl w g none)
 have HL := Y0.mk hB.size
 clear hI
 have HW0 := Y0.mk hB.size
 have HB := Y0.mk hB
 clear hB
 have H : (Yf.l0 k s0_0 s0_1) = some (r1, r2) := h
 clear h
 have H' := Y0.mk H
 clear H
 go_enter Tryd.func87, Tryd.ntmps87
 go_wp2
 go_loopg [] k (fun kq w' => ∃ (x1000_1 : ByteArray), Y0 (Yf.l0 kq x1000_1 s0_1 = some (r1, r2)) ∧ Y0 (kq ≤ k) ∧ Y0 (Ym w0 w' g x1000_1 s0_1) ∧ Y0 (Yb w w' g none) ∧ Y0 (Below w0.heap.size w0 w'))
 case atStart => exact ⟨(s0_0), H', ⟨Nat.le_refl _⟩, ⟨QI67_0⟩, ⟨QK⟩, ⟨QB⟩⟩
 case round =>
  clear H'
  obtain ⟨x1000_1, HA, HK1, HI0, HK, HB⟩ := hrel
  cases gk with
  | zero => exact absurd HA.out (by simp [Yf.l0])
  | succ k1 =>
   have H := HA.out
   clear HA
   simp only [Yf.l0] at H
   by_cases c2 : x1000_1.toList = ([] : List UInt8)
   ·rw [if_pos c2] at H
    have c2b0 : (x1000_1.toList == ([] : List UInt8)) = true := beq_iff_eq.mpr c2
    have c2b1 : (x1000_1.toList != ([] : List UInt8)) = false := bne_eq_false_iff_eq.mpr c2
    clear c2
    simp only [Option.some.injEq, Prod.mk.injEq] at H
    obtain ⟨rfl, rfl⟩ := H
    obtain ⟨hcz3_0, hcz3_1, hfz3_0, hfz3_1⟩ := Y1e HI0.out.1
    go_wp2
    first | go_end0 | ((try simp only [Exit.inBlock, Exit.then]); refine bodyPost_ret (results_none rfl _ _ _) rfl ?_)
    exact ZV
   ·rw [if_neg c2] at H
    have c2b0 : (x1000_1.toList == ([] : List UInt8)) = false := beq_eq_false_iff_ne.mpr c2
    have c2b1 : (x1000_1.toList != ([] : List UInt8)) = true := bne_iff_ne.mpr c2
    by_cases c4 : 0 < (x1000_1.size : Int)
    ·rw [if_pos c4] at H
     have c4b0 : decide (0 < (x1000_1.size : Int)) = true := decide_eq_true c4
     have c4b1 : decide (0 < x1000_1.size) = true := decide_eq_true (by omega)
     clear c4
     by_cases c6 : (bt x1000_1 0) = 32
     ·rw [if_pos c6] at H
      have c6b0 : ((bt x1000_1 0) == 32) = true := beq_iff_eq.mpr c6
      have c6b1 : ((bt x1000_1 0) != 32) = false := bne_eq_false_iff_eq.mpr c6
      clear c6
      by_cases c7 : 1 ≤ (x1000_1.size : Int)
      ·rw [if_pos c7] at H
       have c7b0 := eq_true c7
       have c7b1 : decide (1 ≤ (x1000_1.size : Int)) = true := decide_eq_true c7
       clear c7
       have H' := Y0.mk H
       clear H
       obtain ⟨hcz8_0, hcz8_1, hfz8_0, hfz8_1⟩ := Y1e HI0.out.1
       have p5 : 0 ≤ (0 : Int) := (by omega)
       have q5 : 0 < x1000_1.size := ZS
       have hx5 : ∀ h : 0 < x1000_1.size, ((x1000_1[0]'h).toNat : Int) = bt x1000_1 0 := YV x1000_1 0
       clear p5
       have qi5 : (0 < (x1000_1.size : Int)) = True := eq_true (of_decide_eq_true Z5)
       replace q5 := eq_true q5
       go_wp2
       go_roundg k1
       case measure => have := HK1.out; omega
       case rel => exact ⟨(x1000_1.extract 1 x1000_1.size), H', ⟨Zv⟩, ⟨QI67_0⟩, ⟨QK⟩, ⟨QB⟩⟩
      ·rw [if_neg c7] at H
       exact Zd
     ·rw [if_neg c6] at H
      have c6b0 : ((bt x1000_1 0) == 32) = false := beq_eq_false_iff_ne.mpr c6
      have c6b1 : ((bt x1000_1 0) != 32) = true := bne_iff_ne.mpr c6
      by_cases c10 : (bt x1000_1 0) = 9
      ·rw [if_pos c10] at H
       have c10b0 : ((bt x1000_1 0) == 9) = true := beq_iff_eq.mpr c10
       have c10b1 : ((bt x1000_1 0) != 9) = false := bne_eq_false_iff_eq.mpr c10
       clear c10
       by_cases c11 : 1 ≤ (x1000_1.size : Int)
       ·rw [if_pos c11] at H
        have c11b0 := eq_true c11
        have c11b1 : decide (1 ≤ (x1000_1.size : Int)) = true := decide_eq_true c11
        clear c11
        have H' := Y0.mk H
        clear H
        obtain ⟨hcz12_0, hcz12_1, hfz12_0, hfz12_1⟩ := Y1e HI0.out.1
        have p5 : 0 ≤ (0 : Int) := (by omega)
        have q5 : 0 < x1000_1.size := ZS
        have hx5 : ∀ h : 0 < x1000_1.size, ((x1000_1[0]'h).toNat : Int) = bt x1000_1 0 := YV x1000_1 0
        clear p5
        have qi5 : (0 < (x1000_1.size : Int)) = True := eq_true (of_decide_eq_true Z5)
        replace q5 := eq_true q5
        have p9 : 0 ≤ (0 : Int) := (by omega)
        have q9 : 0 < x1000_1.size := ZS
        have hx9 : ∀ h : 0 < x1000_1.size, ((x1000_1[0]'h).toNat : Int) = bt x1000_1 0 := YV x1000_1 0
        clear p9
        have qi9 : (0 < (x1000_1.size : Int)) = True := eq_true (of_decide_eq_true Z5)
        replace q9 := eq_true q9
        go_wp2
        go_roundg k1
        case measure => have := HK1.out; omega
        case rel => exact ⟨(x1000_1.extract 1 x1000_1.size), H', ⟨Zv⟩, ⟨QI67_0⟩, ⟨QK⟩, ⟨QB⟩⟩
       ·rw [if_neg c11] at H
        exact Zd
      ·rw [if_neg c10] at H
       have c10b0 : ((bt x1000_1 0) == 9) = false := beq_eq_false_iff_ne.mpr c10
       have c10b1 : ((bt x1000_1 0) != 9) = true := bne_iff_ne.mpr c10
       simp only [Option.some.injEq, Prod.mk.injEq] at H
       obtain ⟨rfl, rfl⟩ := H
       obtain ⟨hcz13_0, hcz13_1, hfz13_0, hfz13_1⟩ := Y1e HI0.out.1
       have p5 : 0 ≤ (0 : Int) := (by omega)
       have q5 : 0 < x1000_1.size := ZS
       have hx5 : ∀ h : 0 < x1000_1.size, ((x1000_1[0]'h).toNat : Int) = bt x1000_1 0 := YV x1000_1 0
       clear p5
       have qi5 : (0 < (x1000_1.size : Int)) = True := eq_true (of_decide_eq_true Z5)
       replace q5 := eq_true q5
       have p9 : 0 ≤ (0 : Int) := (by omega)
       have q9 : 0 < x1000_1.size := ZS
       have hx9 : ∀ h : 0 < x1000_1.size, ((x1000_1[0]'h).toNat : Int) = bt x1000_1 0 := YV x1000_1 0
       clear p9
       have qi9 : (0 < (x1000_1.size : Int)) = True := eq_true (of_decide_eq_true Z5)
       replace q9 := eq_true q9
       go_wp2
       first | go_end0 | ((try simp only [Exit.inBlock, Exit.then]); refine bodyPost_ret (results_none rfl _ _ _) rfl ?_)
       exact ZV
    ·rw [if_neg c4] at H
     exact Zd
def Yk.f (s0_0 : ByteArray) (s0_1 : Bool) : Option (ByteArray × Bool) := some ((⟨#[]⟩ : ByteArray), true)
set_option maxHeartbeats 8000000 in
set_option maxRecDepth 100000 in
theorem Yk.calls (g : Nat) (s0_0 : ByteArray) (s0_1 : Bool) (r1 : ByteArray) (r2 : Bool) (w0 w : World) (hI : Ym w0 w g s0_0 s0_1) (hB : Below w0.heap.size w0 w) (h : Yk.f s0_0 s0_1 = some (r1, r2)) :
  Calls Tryd.prog 86 #[.pointer (some ⟨g, 0, none⟩)] w fun e w' => e = .returned (.tuple #[]) ∧ Ym w0 w' g r1 r2 ∧ Below w0.heap.size w0 w' ∧ Yb w w' g none := by
 have HI0 := Y0.mk hI
 have HK := Y0.mk (Yb.refl w g none)
 have HL := Y0.mk hB.size
 clear hI
 have HW0 := Y0.mk hB.size
 have HB := Y0.mk hB
 clear hB
 have H : (some ((⟨#[]⟩ : ByteArray), true)) = some (r1, r2) := h
 clear h
 simp only [Option.some.injEq, Prod.mk.injEq] at H
 obtain ⟨rfl, rfl⟩ := H
 obtain ⟨hcz2_0, hcz2_1, hfz2_0, hfz2_1⟩ := Y1e HI0.out.1
 go_enter Tryd.func86, Tryd.ntmps86
 go_wp2
 first | go_end0 | ((try simp only [Exit.inBlock, Exit.then]); refine bodyPost_ret (results_none rfl _ _ _) rfl ?_)
 exact ZV
def Yc.l0 : Nat → Bool → Int → ByteArray → Bool → Option (ByteArray × ByteArray × Bool)
 | 0, _, _, _, _ => none
 | k + 1, x1, x5, x1000, x1001 => if x5 < (x1000.size : Int) then (if 0 ≤ x5 then ((Yz.f (bt x1000 x5)).bind fun t101 => (if t101 = true then (Yc.l0 k x1 (wrap64 (x5 + 1)) x1000 x1001) else (if x1 = true then (if (bt x1000 x5) = 45 then (Yc.l0 k x1 (wrap64 (x5 + 1)) x1000 x1001) else (if x5 ≤ (x1000.size : Int) then (some (x1000.extract 0 (x5 : Int).toNat, x1000.extract (x5 : Int).toNat x1000.size, x1001)) else (none))) else (if x5 ≤ (x1000.size : Int) then (some (x1000.extract 0 (x5 : Int).toNat, x1000.extract (x5 : Int).toNat x1000.size, x1001)) else (none))))) else (none)) else (if 0 ≤ x5 then (if x5 ≤ (x1000.size : Int) then (some (x1000.extract 0 (x5 : Int).toNat, x1000.extract (x5 : Int).toNat x1000.size, x1001)) else (none)) else (none))
def Yc.f (k : Nat) (s0_0 : ByteArray) (s0_1 : Bool) (a1 : Bool) : Option (ByteArray × ByteArray × Bool) := Yc.l0 k a1 0 s0_0 s0_1
set_option maxHeartbeats 8000000 in
set_option maxRecDepth 100000 in
theorem Yc.calls (k : Nat) (g : Nat) (s0_0 : ByteArray) (s0_1 : Bool) (a1 : Bool) (r1 : ByteArray) (r2 : ByteArray) (r3 : Bool) (w0 w : World) (hI : Ym w0 w g s0_0 s0_1) (hB : Below w0.heap.size w0 w) (h : Yc.f k s0_0 s0_1 a1 = some (r1, r2, r3)) :
  Calls Tryd.prog 84 #[.pointer (some ⟨g, 0, none⟩), .bool a1] w fun e w' => e = .returned (.string r1) ∧ Ym w0 w' g r2 r3 ∧ Below w0.heap.size w0 w' ∧ Yb w w' g none := by
 have HI0 := Y0.mk hI
 have HK := Y0.mk (Yb.refl w g none)
 have HL := Y0.mk hB.size
 clear hI
 have HW0 := Y0.mk hB.size
 have HB := Y0.mk hB
 clear hB
 have H : (Yc.l0 k a1 0 s0_0 s0_1) = some (r1, r2, r3) := h
 clear h
 have H' := Y0.mk H
 clear H
 go_enter Tryd.func84, Tryd.ntmps84
 go_wp2
 go_loopg [5] k (fun kq v5 w' => ∃ (x5_1 : Int), v5 = .int .i64 x5_1 ∧ Y0 (Yc.l0 kq a1 x5_1 s0_0 s0_1 = some (r1, r2, r3)) ∧ Y0 (kq ≤ k) ∧ Y0 (Ym w0 w' g s0_0 s0_1) ∧ Y0 (Yb w w' g none) ∧ Y0 (Below w0.heap.size w0 w'))
 case atStart => exact ⟨(0), Z4, H', ⟨Nat.le_refl _⟩, ⟨QI67_0⟩, ⟨QK⟩, ⟨QB⟩⟩
 case round =>
  clear H'
  try clear p2
  obtain ⟨x5_1, rfl, HA, HK1, HI0, HK, HB⟩ := hrel
  cases gk with
  | zero => exact absurd HA.out (by simp [Yc.l0])
  | succ k1 =>
   have H := HA.out
   clear HA
   simp only [Yc.l0] at H
   by_cases c3 : x5_1 < (s0_0.size : Int)
   ·rw [if_pos c3] at H
    have c3b0 : decide (x5_1 < (s0_0.size : Int)) = true := decide_eq_true c3
    clear c3
    by_cases c4 : 0 ≤ x5_1
    ·rw [if_pos c4] at H
     have c4b0 : decide (0 ≤ x5_1) = true := decide_eq_true c4
     clear c4
     replace H := Option.bind_eq_some_iff.mp H
     obtain ⟨t101, A60, H⟩ := H
     replace H : (if t101 = true then (Yc.l0 k1 a1 (wrap64 (x5_1 + 1)) s0_0 s0_1) else (if a1 = true then (if (bt s0_0 x5_1) = 45 then (Yc.l0 k1 a1 (wrap64 (x5_1 + 1)) s0_0 s0_1) else (if x5_1 ≤ (s0_0.size : Int) then (some (s0_0.extract 0 (x5_1 : Int).toNat, s0_0.extract (x5_1 : Int).toNat s0_0.size, s0_1)) else (none))) else (if x5_1 ≤ (s0_0.size : Int) then (some (s0_0.extract 0 (x5_1 : Int).toNat, s0_0.extract (x5_1 : Int).toNat s0_0.size, s0_1)) else (none)))) = some (r1, r2, r3) := H
     have A6 := Y0.mk A60
     clear A60
     by_cases c7 : t101 = true
     ·subst c7
      have H1 : (Yc.l0 k1 a1 (wrap64 (x5_1 + 1)) s0_0 s0_1) = some (r1, r2, r3) := by rw [if_pos rfl] at H; exact H
      clear H
      have H := H1
      clear H1
      have H' := Y0.mk H
      clear H
      obtain ⟨hcz8_0, hcz8_1, hfz8_0, hfz8_1⟩ := Y1e HI0.out.1
      have p5 : 0 ≤ (x5_1 : Int) := of_decide_eq_true Z5
      have q5 : x5_1 < (s0_0.size : Int) := of_decide_eq_true Z5
      have hx5 := YV s0_0 x5_1
      replace p5 := eq_true p5
      replace q5 := eq_true q5
      go_wp2_with (first | (go_at_call 90; (with_reducible refine (Yz.calls (bt s0_0 x5_1) true _ A6.out).mono ?_); rintro e w' ⟨rfl, ⟨nd, rfl⟩⟩))
      go_roundg k1
      case measure => have := HK1.out; omega
      case rel => exact ⟨(wrap64 (x5_1 + 1)), Z4, H', ⟨Zv⟩, ⟨QI67_0⟩, ⟨QK⟩, ⟨QB⟩⟩
     ·replace c7 := Bool.eq_false_iff.mpr c7
      subst c7
      have H1 : (if a1 = true then (if (bt s0_0 x5_1) = 45 then (Yc.l0 k1 a1 (wrap64 (x5_1 + 1)) s0_0 s0_1) else (if x5_1 ≤ (s0_0.size : Int) then (some (s0_0.extract 0 (x5_1 : Int).toNat, s0_0.extract (x5_1 : Int).toNat s0_0.size, s0_1)) else (none))) else (if x5_1 ≤ (s0_0.size : Int) then (some (s0_0.extract 0 (x5_1 : Int).toNat, s0_0.extract (x5_1 : Int).toNat s0_0.size, s0_1)) else (none))) = some (r1, r2, r3) := by rw [if_neg (show ¬ (false = true) by decide)] at H; exact H
      clear H
      have H := H1
      clear H1
      by_cases c9 : a1 = true
      ·subst c9
       have H1 : (if (bt s0_0 x5_1) = 45 then (Yc.l0 k1 true (wrap64 (x5_1 + 1)) s0_0 s0_1) else (if x5_1 ≤ (s0_0.size : Int) then (some (s0_0.extract 0 (x5_1 : Int).toNat, s0_0.extract (x5_1 : Int).toNat s0_0.size, s0_1)) else (none))) = some (r1, r2, r3) := by rw [if_pos rfl] at H; exact H
       clear H
       have H := H1
       clear H1
       by_cases c11 : (bt s0_0 x5_1) = 45
       ·rw [if_pos c11] at H
        have c11b0 : ((bt s0_0 x5_1) == 45) = true := beq_iff_eq.mpr c11
        have c11b1 : ((bt s0_0 x5_1) != 45) = false := bne_eq_false_iff_eq.mpr c11
        clear c11
        have H' := Y0.mk H
        clear H
        obtain ⟨hcz12_0, hcz12_1, hfz12_0, hfz12_1⟩ := Y1e HI0.out.1
        have p5 : 0 ≤ (x5_1 : Int) := of_decide_eq_true Z5
        have q5 : x5_1 < (s0_0.size : Int) := of_decide_eq_true Z5
        have hx5 := YV s0_0 x5_1
        replace p5 := eq_true p5
        replace q5 := eq_true q5
        go_wp2_with (first | (go_at_call 90; (with_reducible refine (Yz.calls (bt s0_0 x5_1) false _ A6.out).mono ?_); rintro e w' ⟨rfl, ⟨nd, rfl⟩⟩; have p10 : 0 ≤ (x5_1 : Int) := of_decide_eq_true Z5; have q10 : x5_1 < (s0_0.size : Int) := of_decide_eq_true Z5; have hx10 := YV s0_0 x5_1; replace p10 := eq_true p10; replace q10 := eq_true q10))
        go_roundg k1
        case measure => have := HK1.out; omega
        case rel => exact ⟨(wrap64 (x5_1 + 1)), Z4, H', ⟨Zv⟩, ⟨QI67_0⟩, ⟨QK⟩, ⟨QB⟩⟩
       ·rw [if_neg c11] at H
        have c11b0 : ((bt s0_0 x5_1) == 45) = false := beq_eq_false_iff_ne.mpr c11
        have c11b1 : ((bt s0_0 x5_1) != 45) = true := bne_iff_ne.mpr c11
        have c13b0 := eq_true (of_decide_eq_true Z5 : 0 ≤ x5_1)
        by_cases c14 : x5_1 ≤ (s0_0.size : Int)
        ·rw [if_pos c14] at H
         have c14b0 := eq_true c14
         have c14b1 : decide (x5_1 ≤ (s0_0.size : Int)) = true := decide_eq_true c14
         clear c14
         have c15b0 := eq_true (of_decide_eq_true Z5 : 0 ≤ x5_1)
         have c16b0 := eq_true (of_decide_eq_true Z5 : x5_1 ≤ (s0_0.size : Int))
         simp only [Option.some.injEq, Prod.mk.injEq] at H
         obtain ⟨rfl, rfl, rfl⟩ := H
         obtain ⟨hcz17_0, hcz17_1, hfz17_0, hfz17_1⟩ := Y1e HI0.out.1
         have p5 : 0 ≤ (x5_1 : Int) := of_decide_eq_true Z5
         have q5 : x5_1 < (s0_0.size : Int) := of_decide_eq_true Z5
         have hx5 := YV s0_0 x5_1
         replace p5 := eq_true p5
         replace q5 := eq_true q5
         go_wp2_with (first | (go_at_call 90; (with_reducible refine (Yz.calls (bt s0_0 x5_1) false _ A6.out).mono ?_); rintro e w' ⟨rfl, ⟨nd, rfl⟩⟩; (try (rw [Y3d wr]; generalize hq_ : World.drewN wr _ = wr; have n0_ : Y0 (Ym w0 wr g s0_0 s0_1) := ⟨by rw [← hq_]; exact QI67_0⟩; have n1_ : Y0 (Yb w wr g none) := ⟨by rw [← hq_]; exact QK⟩; have n2_ : Y0 (Below w0.heap.size w0 wr) := ⟨by rw [← hq_]; exact QB⟩; clear HI0 HK HB hq_; have HI0 := n0_; have HK := n1_; have HB := n2_; clear n0_ n1_ n2_)); (try (obtain ⟨HGy18, hgy18⟩ := HI0.out; have hcy18_0 := Y13 HGy18; have hfy18_0 := Yv HGy18 0; have hcy18_1 := Y14 HGy18; have hfy18_1 := Yv HGy18 1; clear HGy18 hgy18)); have p10 : 0 ≤ (x5_1 : Int) := of_decide_eq_true Z5; have q10 : x5_1 < (s0_0.size : Int) := of_decide_eq_true Z5; have hx10 := YV s0_0 x5_1; replace p10 := eq_true p10; replace q10 := eq_true q10))
         go_ret
         exact ZV
        ·rw [if_neg c14] at H
         exact Zd
      ·replace c9 := Bool.eq_false_iff.mpr c9
       subst c9
       have H1 : (if x5_1 ≤ (s0_0.size : Int) then (some (s0_0.extract 0 (x5_1 : Int).toNat, s0_0.extract (x5_1 : Int).toNat s0_0.size, s0_1)) else (none)) = some (r1, r2, r3) := by rw [if_neg (show ¬ (false = true) by decide)] at H; exact H
       clear H
       have H := H1
       clear H1
       have c19b0 := eq_true (of_decide_eq_true Z5 : 0 ≤ x5_1)
       by_cases c20 : x5_1 ≤ (s0_0.size : Int)
       ·rw [if_pos c20] at H
        have c20b0 := eq_true c20
        have c20b1 : decide (x5_1 ≤ (s0_0.size : Int)) = true := decide_eq_true c20
        clear c20
        have c21b0 := eq_true (of_decide_eq_true Z5 : 0 ≤ x5_1)
        have c22b0 := eq_true (of_decide_eq_true Z5 : x5_1 ≤ (s0_0.size : Int))
        simp only [Option.some.injEq, Prod.mk.injEq] at H
        obtain ⟨rfl, rfl, rfl⟩ := H
        obtain ⟨hcz23_0, hcz23_1, hfz23_0, hfz23_1⟩ := Y1e HI0.out.1
        have p5 : 0 ≤ (x5_1 : Int) := of_decide_eq_true Z5
        have q5 : x5_1 < (s0_0.size : Int) := of_decide_eq_true Z5
        have hx5 := YV s0_0 x5_1
        replace p5 := eq_true p5
        replace q5 := eq_true q5
        go_wp2_with (first | (go_at_call 90; (with_reducible refine (Yz.calls (bt s0_0 x5_1) false _ A6.out).mono ?_); rintro e w' ⟨rfl, ⟨nd, rfl⟩⟩; (try (rw [Y3d wr]; generalize hq_ : World.drewN wr _ = wr; have n0_ : Y0 (Ym w0 wr g s0_0 s0_1) := ⟨by rw [← hq_]; exact QI67_0⟩; have n1_ : Y0 (Yb w wr g none) := ⟨by rw [← hq_]; exact QK⟩; have n2_ : Y0 (Below w0.heap.size w0 wr) := ⟨by rw [← hq_]; exact QB⟩; clear HI0 HK HB hq_; have HI0 := n0_; have HK := n1_; have HB := n2_; clear n0_ n1_ n2_)); (try (obtain ⟨HGy24, hgy24⟩ := HI0.out; have hcy24_0 := Y13 HGy24; have hfy24_0 := Yv HGy24 0; have hcy24_1 := Y14 HGy24; have hfy24_1 := Yv HGy24 1; clear HGy24 hgy24))))
        go_ret
        exact ZV
       ·rw [if_neg c20] at H
        exact Zd
    ·rw [if_neg c4] at H
     exact Zd
   ·rw [if_neg c3] at H
    have c3b0 : decide (x5_1 < (s0_0.size : Int)) = false := decide_eq_false c3
    clear c3
    by_cases c25 : 0 ≤ x5_1
    ·rw [if_pos c25] at H
     have c25b0 := eq_true c25
     have c25b1 : decide (0 ≤ x5_1) = true := decide_eq_true c25
     clear c25
     by_cases c26 : x5_1 ≤ (s0_0.size : Int)
     ·rw [if_pos c26] at H
      have c26b0 := eq_true c26
      have c26b1 : decide (x5_1 ≤ (s0_0.size : Int)) = true := decide_eq_true c26
      clear c26
      have c27b0 := eq_true (of_decide_eq_true Z5 : 0 ≤ x5_1)
      have c28b0 := eq_true (of_decide_eq_true Z5 : x5_1 ≤ (s0_0.size : Int))
      simp only [Option.some.injEq, Prod.mk.injEq] at H
      obtain ⟨rfl, rfl, rfl⟩ := H
      obtain ⟨hcz29_0, hcz29_1, hfz29_0, hfz29_1⟩ := Y1e HI0.out.1
      go_wp2
      go_ret
      exact ZV
     ·rw [if_neg c26] at H
      exact Zd
    ·rw [if_neg c25] at H
     exact Zd
def Y7.l0 : Nat → Int → Bool → ByteArray → Int → ByteArray → Bool → Option (ByteArray × ByteArray × Bool)
 | 0, _, _, _, _, _, _ => none
 | k + 1, x1, x2, x7, x8, x1000, x1001 => if x8 < (x1000.size : Int) then (if 0 ≤ x8 then (if (bt x1000 x8) = x1 then (if 0 ≤ (wrap64 (x8 + 1)) then (if (wrap64 (x8 + 1)) ≤ (x1000.size : Int) then (some (x7, x1000.extract ((wrap64 (x8 + 1)) : Int).toNat x1000.size, x1001)) else (none)) else (none)) else (if (bt x1000 x8) = 92 then (if 0 ≤ (wrap64 (x8 + 1)) then (if (wrap64 (x8 + 1)) ≤ (x1000.size : Int) then ((YB.f (x1000.extract ((wrap64 (x8 + 1)) : Int).toNat x1000.size) x2).bind fun bt103 => (if bt103.2 = 0 then ((Yk.f x1000 x1001).bind fun bt105 => (some ((⟨#[]⟩ : ByteArray), bt105.1, bt105.2))) else (if x7.size + bt103.1.size ≤ 9223372036854775807 then (Y7.l0 k x1 x2 (x7 ++ bt103.1) (wrap64 ((wrap64 (x8 + bt103.2)) + 1)) x1000 x1001) else (none)))) else (none)) else (none)) else (if (bt x1000 x8) = 10 then ((Yk.f x1000 x1001).bind fun bt107 => (some ((⟨#[]⟩ : ByteArray), bt107.1, bt107.2))) else (if (bt x1000 x8) = 13 then ((Yk.f x1000 x1001).bind fun bt109 => (some ((⟨#[]⟩ : ByteArray), bt109.1, bt109.2))) else (if x8 ≤ (wrap64 (x8 + 1)) then (if (wrap64 (x8 + 1)) ≤ (x1000.size : Int) then (if x7.size + (wrap64 (x8 + 1)).toNat - x8.toNat ≤ 9223372036854775807 then (Y7.l0 k x1 x2 (x7 ++ (x1000.extract (x8 : Int).toNat ((wrap64 (x8 + 1)) : Int).toNat)) (wrap64 (x8 + 1)) x1000 x1001) else (none)) else (none)) else (none)))))) else (none)) else ((Yk.f x1000 x1001).bind fun bt101 => (some ((⟨#[]⟩ : ByteArray), bt101.1, bt101.2)))
def Y7.f (k : Nat) (s0_0 : ByteArray) (s0_1 : Bool) (a1 : Int) (a2 : Bool) : Option (ByteArray × ByteArray × Bool) := Y7.l0 k a1 a2 (⟨#[]⟩ : ByteArray) 0 s0_0 s0_1
set_option maxHeartbeats 8000000 in
set_option maxRecDepth 100000 in
theorem Y7.calls (k : Nat) (g : Nat) (s0_0 : ByteArray) (s0_1 : Bool) (a1 : Int) (a2 : Bool) (r1 : ByteArray) (r2 : ByteArray) (r3 : Bool) (w0 w : World) (hI : Ym w0 w g s0_0 s0_1) (hB : Below w0.heap.size w0 w) (h : Y7.f k s0_0 s0_1 a1 a2 = some (r1, r2, r3)) :
  Calls Tryd.prog 83 #[.pointer (some ⟨g, 0, none⟩), .int .u8 a1, .bool a2] w fun e w' => e = .returned (.string r1) ∧ Ym w0 w' g r2 r3 ∧ Below w0.heap.size w0 w' ∧ Yb w w' g none := by
 have HI0 := Y0.mk hI
 have HK := Y0.mk (Yb.refl w g none)
 have HL := Y0.mk hB.size
 clear hI
 have HW0 := Y0.mk hB.size
 have HB := Y0.mk hB
 clear hB
 have H : (Y7.l0 k a1 a2 (⟨#[]⟩ : ByteArray) 0 s0_0 s0_1) = some (r1, r2, r3) := h
 clear h
 have H' := Y0.mk H
 clear H
 go_enter Tryd.func83, Tryd.ntmps83
 go_wp2
 go_loopg [7, 8] k (fun kq v7 v8 w' => ∃ (x7_1 : ByteArray) (x8_1 : Int) (x1000_1 : ByteArray) (x1001_1 : Bool), v7 = .string x7_1 ∧ v8 = .int .i64 x8_1 ∧ Y0 (Y7.l0 kq a1 a2 x7_1 x8_1 x1000_1 x1001_1 = some (r1, r2, r3)) ∧ Y0 (kq ≤ k) ∧ Y0 (Ym w0 w' g x1000_1 x1001_1) ∧ Y0 (Yb w w' g none) ∧ Y0 (Below w0.heap.size w0 w'))
 case atStart => exact ⟨((⟨#[]⟩ : ByteArray)), (0), (s0_0), (s0_1), Z4, Z4, H', ⟨Nat.le_refl _⟩, ⟨QI67_0⟩, ⟨QK⟩, ⟨QB⟩⟩
 case round =>
  clear H'
  try clear p2
  obtain ⟨x7_1, x8_1, x1000_1, x1001_1, rfl, rfl, HA, HK1, HI0, HK, HB⟩ := hrel
  cases gk with
  | zero => exact absurd HA.out (by simp [Y7.l0])
  | succ k1 =>
   have H := HA.out
   clear HA
   simp only [Y7.l0] at H
   by_cases c4 : x8_1 < (x1000_1.size : Int)
   ·rw [if_pos c4] at H
    have c4b0 : decide (x8_1 < (x1000_1.size : Int)) = true := decide_eq_true c4
    clear c4
    by_cases c5 : 0 ≤ x8_1
    ·rw [if_pos c5] at H
     have c5b0 : decide (0 ≤ x8_1) = true := decide_eq_true c5
     clear c5
     by_cases c7 : (bt x1000_1 x8_1) = a1
     ·rw [if_pos c7] at H
      have c7b0 : ((bt x1000_1 x8_1) == a1) = true := beq_iff_eq.mpr c7
      have c7b1 : ((bt x1000_1 x8_1) != a1) = false := bne_eq_false_iff_eq.mpr c7
      clear c7
      obtain ⟨ji8, hji8⟩ : ∃ j_ : Int, (wrap64 (x8_1 + 1)) = j_ := ⟨_, rfl⟩
      replace H : (if 0 ≤ (ji8) then (if (ji8) ≤ (x1000_1.size : Int) then (some (x7_1, x1000_1.extract ((ji8) : Int).toNat x1000_1.size, x1001_1)) else (none)) else (none)) = some (r1, r2, r3) := by first | (rw [hji8] at H; exact H) | (simp only [hji8] at H ⊢; exact H)
      have hji8w : (IntKind.i64.wrap (x8_1 + 1)) = ji8 := (YI _).trans hji8
      by_cases c9 : 0 ≤ (ji8)
      ·rw [if_pos c9] at H
       have c9b0 := eq_true c9
       have c9b1 : decide (0 ≤ (ji8)) = true := decide_eq_true c9
       clear c9
       by_cases c10 : (ji8) ≤ (x1000_1.size : Int)
       ·rw [if_pos c10] at H
        have c10b0 := eq_true c10
        have c10b1 : decide ((ji8) ≤ (x1000_1.size : Int)) = true := decide_eq_true c10
        clear c10
        simp only [Option.some.injEq, Prod.mk.injEq] at H
        obtain ⟨rfl, rfl, rfl⟩ := H
        obtain ⟨hcz11_0, hcz11_1, hfz11_0, hfz11_1⟩ := Y1e HI0.out.1
        have p6 : 0 ≤ (x8_1 : Int) := of_decide_eq_true Z5
        have q6 : x8_1 < (x1000_1.size : Int) := of_decide_eq_true Z5
        have hx6 := YV x1000_1 x8_1
        replace p6 := eq_true p6
        replace q6 := eq_true q6
        go_wp2
        go_ret
        exact ⟨by first | rfl | (simp [Y1x, Y1y] <;> rfl) | (simp only [← hji8]; first | rfl | (simp [Y1x, Y1y] <;> rfl)) | (simp [*, Y1x, Y1y] <;> rfl), QI67_0, QB, QK⟩
       ·rw [if_neg c10] at H
        exact Zd
      ·rw [if_neg c9] at H
       exact Zd
     ·rw [if_neg c7] at H
      have c7b0 : ((bt x1000_1 x8_1) == a1) = false := beq_eq_false_iff_ne.mpr c7
      have c7b1 : ((bt x1000_1 x8_1) != a1) = true := bne_iff_ne.mpr c7
      by_cases c12 : (bt x1000_1 x8_1) = 92
      ·rw [if_pos c12] at H
       have c12b0 : ((bt x1000_1 x8_1) == 92) = true := beq_iff_eq.mpr c12
       have c12b1 : ((bt x1000_1 x8_1) != 92) = false := bne_eq_false_iff_eq.mpr c12
       clear c12
       obtain ⟨ji13, hji13⟩ : ∃ j_ : Int, (wrap64 (x8_1 + 1)) = j_ := ⟨_, rfl⟩
       replace H : (if 0 ≤ (ji13) then (if (ji13) ≤ (x1000_1.size : Int) then ((YB.f (x1000_1.extract ((ji13) : Int).toNat x1000_1.size) a2).bind fun bt103 => (if bt103.2 = 0 then ((Yk.f x1000_1 x1001_1).bind fun bt105 => (some ((⟨#[]⟩ : ByteArray), bt105.1, bt105.2))) else (if x7_1.size + bt103.1.size ≤ 9223372036854775807 then (Y7.l0 k1 a1 a2 (x7_1 ++ bt103.1) (wrap64 ((wrap64 (x8_1 + bt103.2)) + 1)) x1000_1 x1001_1) else (none)))) else (none)) else (none)) = some (r1, r2, r3) := by first | (rw [hji13] at H; exact H) | (simp only [hji13] at H ⊢; exact H)
       have hji13w : (IntKind.i64.wrap (x8_1 + 1)) = ji13 := (YI _).trans hji13
       by_cases c14 : 0 ≤ (ji13)
       ·rw [if_pos c14] at H
        have c14b0 := eq_true c14
        have c14b1 : decide (0 ≤ (ji13)) = true := decide_eq_true c14
        clear c14
        by_cases c15 : (ji13) ≤ (x1000_1.size : Int)
        ·rw [if_pos c15] at H
         have c15b0 := eq_true c15
         have c15b1 : decide ((ji13) ≤ (x1000_1.size : Int)) = true := decide_eq_true c15
         clear c15
         replace H := Option.bind_eq_some_iff.mp H
         obtain ⟨⟨t103, t104⟩, A160, H⟩ := H
         replace H : (if t104 = 0 then ((Yk.f x1000_1 x1001_1).bind fun bt105 => (some ((⟨#[]⟩ : ByteArray), bt105.1, bt105.2))) else (if x7_1.size + t103.size ≤ 9223372036854775807 then (Y7.l0 k1 a1 a2 (x7_1 ++ t103) (wrap64 ((wrap64 (x8_1 + t104)) + 1)) x1000_1 x1001_1) else (none))) = some (r1, r2, r3) := H
         have A16 := Y0.mk A160
         clear A160
         by_cases c17 : t104 = 0
         ·rw [if_pos c17] at H
          have c17b0 : (t104 == 0) = true := beq_iff_eq.mpr c17
          have c17b1 : (t104 != 0) = false := bne_eq_false_iff_eq.mpr c17
          clear c17
          replace H := Option.bind_eq_some_iff.mp H
          obtain ⟨⟨t105, t106⟩, A180, H⟩ := H
          replace H : (some ((⟨#[]⟩ : ByteArray), t105, t106)) = some (r1, r2, r3) := H
          have A18 := Y0.mk A180
          clear A180
          simp only [Option.some.injEq, Prod.mk.injEq] at H
          obtain ⟨rfl, rfl, rfl⟩ := H
          obtain ⟨hcz19_0, hcz19_1, hfz19_0, hfz19_1⟩ := Y1e HI0.out.1
          have p6 : 0 ≤ (x8_1 : Int) := of_decide_eq_true Z5
          have q6 : x8_1 < (x1000_1.size : Int) := of_decide_eq_true Z5
          have hx6 := YV x1000_1 x8_1
          replace p6 := eq_true p6
          replace q6 := eq_true q6
          go_wp2_with (first | ((with_reducible refine Ya (f := 109) rfl ?_); refine Yu (some 64) rfl rfl Tryd.func109 Z7 rfl #[.string (x1000_1.extract ((ji13) : Int).toNat x1000_1.size), .bool a2] rfl Zt ?_; (with_reducible refine (YB.calls (x1000_1.extract ((ji13) : Int).toNat x1000_1.size) a2 t103 t104 _ A16.out).mono ?_); rintro e w20 ⟨rfl, hb⟩; refine ⟨_, rfl, ?_⟩; have n_ := Y1X (Ym.below QI67_0 hb) (Yb.trans QK (Yb.of_below hb g none) (.inl rfl)) (Y8 QB hb); clear HI0 HK HB; obtain ⟨HI0, HK, HB⟩ := n_; (try clear hb); (try clear hb2); (try clear hk); (try clear hi)) | ((with_reducible refine Ya (f := 86) rfl ?_); refine Yu (some 70) rfl rfl Tryd.func86 Z7 rfl #[.pointer (some ⟨g, 0, none⟩)] rfl Z0 ?_; (with_reducible refine (Yk.calls g x1000_1 x1001_1 t105 t106 w0 _ ?side1 ?side2 A18.out).mono ?_); (case side1 => exact ZA); (case side2 => exact QB); rintro e w21 ⟨rfl, hi, hb, hk⟩; refine ⟨_, rfl, ?_⟩; have n_ := Y1X (Yb.trans QK hk (.inl rfl)) (hb) (hi); clear HK HB HI0; obtain ⟨HK, HB, HI0⟩ := n_; (try clear hb); (try clear hb2); (try clear hk); (try clear hi)))
          go_ret
          exact ⟨by first | rfl | (simp [Y1x, Y1y] <;> rfl) | (simp only [← hji13]; first | rfl | (simp [Y1x, Y1y] <;> rfl)) | (simp [*, Y1x, Y1y] <;> rfl), QI67_0, QB, QK⟩
         ·rw [if_neg c17] at H
          have c17b0 : (t104 == 0) = false := beq_eq_false_iff_ne.mpr c17
          have c17b1 : (t104 != 0) = true := bne_iff_ne.mpr c17
          by_cases c22 : x7_1.size + t103.size ≤ 9223372036854775807
          ·rw [if_pos c22] at H
           have c22b0 := eq_true c22
           have c22b1 : decide (x7_1.size + t103.size ≤ 9223372036854775807) = true := decide_eq_true c22
           try have c22b2 : (9223372036854775807 < x7_1.size + t103.size) = False := eq_false (Nat.not_lt.2 c22)
           have H' := Y0.mk H
           clear H
           obtain ⟨hcz23_0, hcz23_1, hfz23_0, hfz23_1⟩ := Y1e HI0.out.1
           have p6 : 0 ≤ (x8_1 : Int) := of_decide_eq_true Z5
           have q6 : x8_1 < (x1000_1.size : Int) := of_decide_eq_true Z5
           have hx6 := YV x1000_1 x8_1
           replace p6 := eq_true p6
           replace q6 := eq_true q6
           go_wp2_with (first | ((with_reducible refine Ya (f := 109) rfl ?_); refine Yu (some 64) rfl rfl Tryd.func109 Z7 rfl #[.string (x1000_1.extract ((ji13) : Int).toNat x1000_1.size), .bool a2] rfl Zt ?_; (with_reducible refine (YB.calls (x1000_1.extract ((ji13) : Int).toNat x1000_1.size) a2 t103 t104 _ A16.out).mono ?_); rintro e w24 ⟨rfl, hb⟩; refine ⟨_, rfl, ?_⟩; have n_ := Y1X (Ym.below QI67_0 hb) (Yb.trans QK (Yb.of_below hb g none) (.inl rfl)) (Y8 QB hb); clear HI0 HK HB; obtain ⟨HI0, HK, HB⟩ := n_; (try clear hb); (try clear hb2); (try clear hk); (try clear hi)))
           go_roundg k1
           case measure => have := HK1.out; omega
           case rel => exact ⟨(x7_1 ++ t103), (wrap64 ((wrap64 (x8_1 + t104)) + 1)), (x1000_1), (x1001_1), Z4, Z4, H', ⟨Zv⟩, ⟨QI67_0⟩, ⟨QK⟩, ⟨QB⟩⟩
          ·rw [if_neg c22] at H
           exact Zd
        ·rw [if_neg c15] at H
         exact Zd
       ·rw [if_neg c14] at H
        exact Zd
      ·rw [if_neg c12] at H
       have c12b0 : ((bt x1000_1 x8_1) == 92) = false := beq_eq_false_iff_ne.mpr c12
       have c12b1 : ((bt x1000_1 x8_1) != 92) = true := bne_iff_ne.mpr c12
       by_cases c25 : (bt x1000_1 x8_1) = 10
       ·rw [if_pos c25] at H
        have c25b0 : ((bt x1000_1 x8_1) == 10) = true := beq_iff_eq.mpr c25
        have c25b1 : ((bt x1000_1 x8_1) != 10) = false := bne_eq_false_iff_eq.mpr c25
        clear c25
        replace H := Option.bind_eq_some_iff.mp H
        obtain ⟨⟨t107, t108⟩, A260, H⟩ := H
        replace H : (some ((⟨#[]⟩ : ByteArray), t107, t108)) = some (r1, r2, r3) := H
        have A26 := Y0.mk A260
        clear A260
        simp only [Option.some.injEq, Prod.mk.injEq] at H
        obtain ⟨rfl, rfl, rfl⟩ := H
        obtain ⟨hcz27_0, hcz27_1, hfz27_0, hfz27_1⟩ := Y1e HI0.out.1
        have p6 : 0 ≤ (x8_1 : Int) := of_decide_eq_true Z5
        have q6 : x8_1 < (x1000_1.size : Int) := of_decide_eq_true Z5
        have hx6 := YV x1000_1 x8_1
        replace p6 := eq_true p6
        replace q6 := eq_true q6
        go_wp2_with (first | ((with_reducible refine Ya (f := 86) rfl ?_); refine Yu (some 85) rfl rfl Tryd.func86 Z7 rfl #[.pointer (some ⟨g, 0, none⟩)] rfl Z0 ?_; (with_reducible refine (Yk.calls g x1000_1 x1001_1 t107 t108 w0 _ ?side1 ?side2 A26.out).mono ?_); (case side1 => exact ZA); (case side2 => exact QB); rintro e w28 ⟨rfl, hi, hb, hk⟩; refine ⟨_, rfl, ?_⟩; have n_ := Y1X (Yb.trans QK hk (.inl rfl)) (hb) (hi); clear HK HB HI0; obtain ⟨HK, HB, HI0⟩ := n_; (try clear hb); (try clear hb2); (try clear hk); (try clear hi)))
        go_ret
        exact ZV
       ·rw [if_neg c25] at H
        have c25b0 : ((bt x1000_1 x8_1) == 10) = false := beq_eq_false_iff_ne.mpr c25
        have c25b1 : ((bt x1000_1 x8_1) != 10) = true := bne_iff_ne.mpr c25
        by_cases c29 : (bt x1000_1 x8_1) = 13
        ·rw [if_pos c29] at H
         have c29b0 : ((bt x1000_1 x8_1) == 13) = true := beq_iff_eq.mpr c29
         have c29b1 : ((bt x1000_1 x8_1) != 13) = false := bne_eq_false_iff_eq.mpr c29
         clear c29
         replace H := Option.bind_eq_some_iff.mp H
         obtain ⟨⟨t109, t110⟩, A300, H⟩ := H
         replace H : (some ((⟨#[]⟩ : ByteArray), t109, t110)) = some (r1, r2, r3) := H
         have A30 := Y0.mk A300
         clear A300
         simp only [Option.some.injEq, Prod.mk.injEq] at H
         obtain ⟨rfl, rfl, rfl⟩ := H
         obtain ⟨hcz31_0, hcz31_1, hfz31_0, hfz31_1⟩ := Y1e HI0.out.1
         have p6 : 0 ≤ (x8_1 : Int) := of_decide_eq_true Z5
         have q6 : x8_1 < (x1000_1.size : Int) := of_decide_eq_true Z5
         have hx6 := YV x1000_1 x8_1
         replace p6 := eq_true p6
         replace q6 := eq_true q6
         go_wp2_with (first | ((with_reducible refine Ya (f := 86) rfl ?_); refine Yu (some 85) rfl rfl Tryd.func86 Z7 rfl #[.pointer (some ⟨g, 0, none⟩)] rfl Z0 ?_; (with_reducible refine (Yk.calls g x1000_1 x1001_1 t109 t110 w0 _ ?side1 ?side2 A30.out).mono ?_); (case side1 => exact ZA); (case side2 => exact QB); rintro e w32 ⟨rfl, hi, hb, hk⟩; refine ⟨_, rfl, ?_⟩; have n_ := Y1X (Yb.trans QK hk (.inl rfl)) (hb) (hi); clear HK HB HI0; obtain ⟨HK, HB, HI0⟩ := n_; (try clear hb); (try clear hb2); (try clear hk); (try clear hi)))
         go_ret
         exact ZV
        ·rw [if_neg c29] at H
         have c29b0 : ((bt x1000_1 x8_1) == 13) = false := beq_eq_false_iff_ne.mpr c29
         have c29b1 : ((bt x1000_1 x8_1) != 13) = true := bne_iff_ne.mpr c29
         have c33b0 := eq_true (of_decide_eq_true Z5 : 0 ≤ x8_1)
         by_cases c34 : x8_1 ≤ (wrap64 (x8_1 + 1))
         ·rw [if_pos c34] at H
          have c34b0 := eq_true c34
          have c34b1 : decide (x8_1 ≤ (wrap64 (x8_1 + 1))) = true := decide_eq_true c34
          by_cases c35 : (wrap64 (x8_1 + 1)) ≤ (x1000_1.size : Int)
          ·rw [if_pos c35] at H
           have c35b0 := eq_true c35
           have c35b1 : decide ((wrap64 (x8_1 + 1)) ≤ (x1000_1.size : Int)) = true := decide_eq_true c35
           by_cases c36 : x7_1.size + (wrap64 (x8_1 + 1)).toNat - x8_1.toNat ≤ 9223372036854775807
           ·rw [if_pos c36] at H
            have c36b0 := eq_true c36
            have c36b1 : decide (x7_1.size + (wrap64 (x8_1 + 1)).toNat - x8_1.toNat ≤ 9223372036854775807) = true := decide_eq_true c36
            try have c36b2 : (9223372036854775807 < x7_1.size + (wrap64 (x8_1 + 1)).toNat - x8_1.toNat) = False := eq_false (Nat.not_lt.2 c36)
            have H' := Y0.mk H
            clear H
            obtain ⟨hcz37_0, hcz37_1, hfz37_0, hfz37_1⟩ := Y1e HI0.out.1
            have p6 : 0 ≤ (x8_1 : Int) := of_decide_eq_true Z5
            have q6 : x8_1 < (x1000_1.size : Int) := of_decide_eq_true Z5
            have hx6 := YV x1000_1 x8_1
            replace p6 := eq_true p6
            replace q6 := eq_true q6
            go_wp2
            go_roundg k1
            case measure => have := HK1.out; omega
            case rel => exact ⟨(x7_1 ++ (x1000_1.extract (x8_1 : Int).toNat ((wrap64 (x8_1 + 1)) : Int).toNat)), (wrap64 (x8_1 + 1)), (x1000_1), (x1001_1), Z4, Z4, H', ⟨Zv⟩, ⟨QI67_0⟩, ⟨QK⟩, ⟨QB⟩⟩
           ·rw [if_neg c36] at H
            exact Zd
          ·rw [if_neg c35] at H
           exact Zd
         ·rw [if_neg c34] at H
          exact Zd
    ·rw [if_neg c5] at H
     exact Zd
   ·rw [if_neg c4] at H
    have c4b0 : decide (x8_1 < (x1000_1.size : Int)) = false := decide_eq_false c4
    clear c4
    replace H := Option.bind_eq_some_iff.mp H
    obtain ⟨⟨t101, t102⟩, A380, H⟩ := H
    replace H : (some ((⟨#[]⟩ : ByteArray), t101, t102)) = some (r1, r2, r3) := H
    have A38 := Y0.mk A380
    clear A380
    simp only [Option.some.injEq, Prod.mk.injEq] at H
    obtain ⟨rfl, rfl, rfl⟩ := H
    obtain ⟨hcz39_0, hcz39_1, hfz39_0, hfz39_1⟩ := Y1e HI0.out.1
    go_wp2_with (first | ((with_reducible refine Ya (f := 86) rfl ?_); refine Yu (some 87) rfl rfl Tryd.func86 Z7 rfl #[.pointer (some ⟨g, 0, none⟩)] rfl Z0 ?_; (with_reducible refine (Yk.calls g x1000_1 x1001_1 t101 t102 w0 _ ?side1 ?side2 A38.out).mono ?_); (case side1 => exact ZA); (case side2 => exact QB); rintro e w40 ⟨rfl, hi, hb, hk⟩; refine ⟨_, rfl, ?_⟩; have n_ := Y1X (Yb.trans QK hk (.inl rfl)) (hb) (hi); clear HK HB HI0; obtain ⟨HK, HB, HI0⟩ := n_; (try clear hb); (try clear hb2); (try clear hk); (try clear hi)))
    go_ret
    exact ZV
def Yh.f (k : Nat) (s0_0 : ByteArray) (s0_1 : Bool) : Option (Int × ByteArray × ByteArray × ByteArray × Bool) := (Y7.f k s0_0 s0_1 34 true).bind fun bt102 => ((Y3.f bt102.2.1 bt102.2.2 (⟨#[64]⟩ : ByteArray)).bind fun bt106 => (if bt106.1 = true then (if 1 ≤ (bt106.2.1.size : Int) then ((Yc.f k (bt106.2.1.extract 1 bt106.2.1.size) bt106.2.2 true).bind fun bt109 => ((YA.f bt109.1).bind fun t112 => (some (4, bt102.1, t112, bt109.2.1, bt109.2.2)))) else (none)) else ((Y3.f bt106.2.1 bt106.2.2 (⟨#[94, 94, 60]⟩ : ByteArray)).bind fun bt113 => (if bt113.1 = true then (if 3 ≤ (bt113.2.1.size : Int) then ((Y7.f k (bt113.2.1.extract 3 bt113.2.1.size) bt113.2.2 62 false).bind fun bt116 => (some (5, bt102.1, bt116.1, bt116.2.1, bt116.2.2))) else (none)) else (some (3, bt102.1, (⟨#[]⟩ : ByteArray), bt113.2.1, bt113.2.2))))))
set_option maxHeartbeats 8000000 in
set_option maxRecDepth 100000 in
theorem Yh.calls (k : Nat) (g : Nat) (s0_0 : ByteArray) (s0_1 : Bool) (r1 : Int) (r2 : ByteArray) (r3 : ByteArray) (r4 : ByteArray) (r5 : Bool) (w0 w : World) (hI : Ym w0 w g s0_0 s0_1) (hB : Below w0.heap.size w0 w) (h : Yh.f k s0_0 s0_1 = some (r1, r2, r3, r4, r5)) :
  Calls Tryd.prog 85 #[.pointer (some ⟨g, 0, none⟩)] w fun e w' => e = .returned (.agg #[.int .i64 r1, .string r2, .string r3]) ∧ Ym w0 w' g r4 r5 ∧ Below w0.heap.size w0 w' ∧ Yb w w' g none := by
 have hu24 := Tryd.underlying24
 have HI0 := Y0.mk hI
 have HK := Y0.mk (Yb.refl w g none)
 have HL := Y0.mk hB.size
 clear hI
 have HW0 := Y0.mk hB.size
 have HB := Y0.mk hB
 clear hB
 have H : ((Y7.f k s0_0 s0_1 34 true).bind fun bt102 => ((Y3.f bt102.2.1 bt102.2.2 (⟨#[64]⟩ : ByteArray)).bind fun bt106 => (if bt106.1 = true then (if 1 ≤ (bt106.2.1.size : Int) then ((Yc.f k (bt106.2.1.extract 1 bt106.2.1.size) bt106.2.2 true).bind fun bt109 => ((YA.f bt109.1).bind fun t112 => (some (4, bt102.1, t112, bt109.2.1, bt109.2.2)))) else (none)) else ((Y3.f bt106.2.1 bt106.2.2 (⟨#[94, 94, 60]⟩ : ByteArray)).bind fun bt113 => (if bt113.1 = true then (if 3 ≤ (bt113.2.1.size : Int) then ((Y7.f k (bt113.2.1.extract 3 bt113.2.1.size) bt113.2.2 62 false).bind fun bt116 => (some (5, bt102.1, bt116.1, bt116.2.1, bt116.2.2))) else (none)) else (some (3, bt102.1, (⟨#[]⟩ : ByteArray), bt113.2.1, bt113.2.2))))))) = some (r1, r2, r3, r4, r5) := h
 clear h
 replace H := Option.bind_eq_some_iff.mp H
 obtain ⟨⟨t102, t103, t104⟩, A20, H⟩ := H
 replace H : ((Y3.f t103 t104 (⟨#[64]⟩ : ByteArray)).bind fun bt106 => (if bt106.1 = true then (if 1 ≤ (bt106.2.1.size : Int) then ((Yc.f k (bt106.2.1.extract 1 bt106.2.1.size) bt106.2.2 true).bind fun bt109 => ((YA.f bt109.1).bind fun t112 => (some (4, t102, t112, bt109.2.1, bt109.2.2)))) else (none)) else ((Y3.f bt106.2.1 bt106.2.2 (⟨#[94, 94, 60]⟩ : ByteArray)).bind fun bt113 => (if bt113.1 = true then (if 3 ≤ (bt113.2.1.size : Int) then ((Y7.f k (bt113.2.1.extract 3 bt113.2.1.size) bt113.2.2 62 false).bind fun bt116 => (some (5, t102, bt116.1, bt116.2.1, bt116.2.2))) else (none)) else (some (3, t102, (⟨#[]⟩ : ByteArray), bt113.2.1, bt113.2.2)))))) = some (r1, r2, r3, r4, r5) := H
 have A2 := Y0.mk A20
 clear A20
 replace H := Option.bind_eq_some_iff.mp H
 obtain ⟨⟨t106, t107, t108⟩, A30, H⟩ := H
 replace H : (if t106 = true then (if 1 ≤ (t107.size : Int) then ((Yc.f k (t107.extract 1 t107.size) t108 true).bind fun bt109 => ((YA.f bt109.1).bind fun t112 => (some (4, t102, t112, bt109.2.1, bt109.2.2)))) else (none)) else ((Y3.f t107 t108 (⟨#[94, 94, 60]⟩ : ByteArray)).bind fun bt113 => (if bt113.1 = true then (if 3 ≤ (bt113.2.1.size : Int) then ((Y7.f k (bt113.2.1.extract 3 bt113.2.1.size) bt113.2.2 62 false).bind fun bt116 => (some (5, t102, bt116.1, bt116.2.1, bt116.2.2))) else (none)) else (some (3, t102, (⟨#[]⟩ : ByteArray), bt113.2.1, bt113.2.2))))) = some (r1, r2, r3, r4, r5) := H
 have A3 := Y0.mk A30
 clear A30
 by_cases c4 : t106 = true
 ·subst c4
  have H1 : (if 1 ≤ (t107.size : Int) then ((Yc.f k (t107.extract 1 t107.size) t108 true).bind fun bt109 => ((YA.f bt109.1).bind fun t112 => (some (4, t102, t112, bt109.2.1, bt109.2.2)))) else (none)) = some (r1, r2, r3, r4, r5) := by rw [if_pos rfl] at H; exact H
  clear H
  have H := H1
  clear H1
  by_cases c5 : 1 ≤ (t107.size : Int)
  ·rw [if_pos c5] at H
   have c5b0 := eq_true c5
   have c5b1 : decide (1 ≤ (t107.size : Int)) = true := decide_eq_true c5
   clear c5
   replace H := Option.bind_eq_some_iff.mp H
   obtain ⟨⟨t109, t110, t111⟩, A60, H⟩ := H
   replace H : ((YA.f t109).bind fun t112 => (some (4, t102, t112, t110, t111))) = some (r1, r2, r3, r4, r5) := H
   have A6 := Y0.mk A60
   clear A60
   replace H := Option.bind_eq_some_iff.mp H
   obtain ⟨t112, A70, H⟩ := H
   replace H : (some (4, t102, t112, t110, t111)) = some (r1, r2, r3, r4, r5) := H
   have A7 := Y0.mk A70
   clear A70
   simp only [Option.some.injEq, Prod.mk.injEq] at H
   obtain ⟨rfl, rfl, rfl, rfl, rfl⟩ := H
   go_enter Tryd.func85, Tryd.ntmps85
   go_wp2_with (first | ((with_reducible refine Yt (N := 2) rfl ?_); refine Yp ?hg (N := 2) ?hd (cs := #[.int .i64 0, .string (⟨#[]⟩ : ByteArray), .string (⟨#[]⟩ : ByteArray)]) (t := 24) ?hr ?_; (case hd => rfl); (case hg => rfl); (case hr => exact Zb); intro gb101 hg w8 hbox hb; have n_ := put8 (Ym.below QI67_0 hb) (Yb.trans QK (Yb.of_below hb g none) (.inl rfl)) (Y8 QB hb) (hbox) ((by rw [hg]; exact (YN (w := w) (g := g) (row := none) QK) : w.heap.size ≤ gb101)) ((Nat.le_trans HW0.out (by rw [hg]; exact (YN (w := w) (g := g) (row := none) QK) : w.heap.size ≤ gb101) : w0.heap.size ≤ gb101)) ((by rw [hg]; exact Nat.ne_of_lt (Ym.lt (show Ym w0 _ g s0_0 s0_1 from QI67_0)) : g ≠ gb101)) ((by rw [hg]; exact Nat.ne_of_gt (Ym.lt (show Ym w0 _ g s0_0 s0_1 from QI67_0)) : gb101 ≠ g)); clear HI0 HK HB; obtain ⟨HI0, HK, HB, BK101, GW101, GE101, NB0_101, NB101_0⟩ := n_; clear hb hbox hg) | ((with_reducible refine Ya (f := 83) rfl ?_); refine Yu (some 5) rfl rfl Tryd.func83 Z7 rfl #[.pointer (some ⟨g, 0, none⟩), .int .u8 34, .bool true] rfl Z0 ?_; (with_reducible refine (Y7.calls k g s0_0 s0_1 34 true t102 t103 t104 w0 _ ?side1 ?side2 A2.out).mono ?_); (case side1 => exact ZA); (case side2 => exact QB); rintro e w9 ⟨rfl, hi, hb, hk⟩; refine ⟨_, rfl, ?_⟩; have n_ := Y1L (Yb.blk hk (g' := gb101) (o := .cells #[.int .i64 0, .string (⟨#[]⟩ : ByteArray), .string (⟨#[]⟩ : ByteArray)] 24 (0, 0)) QQ NB101_0.out (by simp)) (Yb.trans QK hk (.inl rfl)) (hb) (hi); clear BK101 HK HB HI0; obtain ⟨BK101, HK, HB, HI0⟩ := n_; (try clear hb); (try clear hb2); (try clear hk); (try clear hi)) | ((with_reducible refine Yt (N := 3) rfl ?_); refine Yp ?hg (N := 3) ?hd (cs := #[.int .i64 0, .string (⟨#[]⟩ : ByteArray), .string (⟨#[]⟩ : ByteArray)]) (t := 24) ?hr ?_; (case hd => rfl); (case hg => rfl); (case hr => exact Zb); intro gb105 hg w10 hbox hb; have n0_ := Y0.mk (Ym.below QI67_0 hb); have n1_ := Y0.mk (Y9 (g := gb101) (o := .cells #[.int .i64 0, .string (⟨#[]⟩ : ByteArray), .string (⟨#[]⟩ : ByteArray)] 24 (0, 0)) QQ hb); have n2_ := Y0.mk (Yb.trans QK (Yb.of_below hb g none) (.inl rfl)); have n3_ := Y0.mk (Y8 QB hb); have n4_ := Y0.mk (hbox); have n5_ := Y0.mk ((by rw [hg]; exact (YN (w := w) (g := g) (row := none) QK) : w.heap.size ≤ gb105)); have n6_ := Y0.mk ((Nat.le_trans HW0.out (by rw [hg]; exact (YN (w := w) (g := g) (row := none) QK) : w.heap.size ≤ gb105) : w0.heap.size ≤ gb105)); have n7_ := Y0.mk ((by rw [hg]; exact Nat.ne_of_lt (Yy (g := gb101) (o := .cells #[.int .i64 0, .string (⟨#[]⟩ : ByteArray), .string (⟨#[]⟩ : ByteArray)] 24 (0, 0)) QQ) : gb101 ≠ gb105)); have n8_ := Y0.mk ((by rw [hg]; exact Nat.ne_of_gt (Yy (g := gb101) (o := .cells #[.int .i64 0, .string (⟨#[]⟩ : ByteArray), .string (⟨#[]⟩ : ByteArray)] 24 (0, 0)) QQ) : gb105 ≠ gb101)); have n9_ := Y0.mk ((by rw [hg]; exact Nat.ne_of_lt (Ym.lt (show Ym w0 _ g t103 t104 from QI67_0)) : g ≠ gb105)); have n10_ := Y0.mk ((by rw [hg]; exact Nat.ne_of_gt (Ym.lt (show Ym w0 _ g t103 t104 from QI67_0)) : gb105 ≠ g)); clear HI0 BK101 HK HB; have HI0 := n0_; have BK101 := n1_; have HK := n2_; have HB := n3_; have BK105 := n4_; have GW105 := n5_; have GE105 := n6_; have NB101_105 := n7_; have NB105_101 := n8_; have NB0_105 := n9_; have NB105_0 := n10_; clear n0_ n1_ n2_ n3_ n4_ n5_ n6_ n7_ n8_ n9_ n10_ hb hbox hg; have hnb11 := NB105_101.out; have hnc11 := NB101_105.out; have hnb12 := NB105_0.out; have hnc12 := NB0_105.out; obtain ⟨hcz13_0, hcz13_1, hcz13_2, hfz13_0, hfz13_1, hfz13_2⟩ := Yr BK105.out) | ((with_reducible refine Ya (f := 82) rfl ?_); refine Yu (some 9) rfl rfl Tryd.func82 Z7 rfl #[.pointer (some ⟨g, 0, none⟩), .string (⟨#[64]⟩ : ByteArray)] rfl Z0 ?_; (with_reducible refine (Y3.calls g t103 t104 (⟨#[64]⟩ : ByteArray) true t107 t108 w0 _ ?side1 ?side2 A3.out).mono ?_); (case side1 => exact ZA); (case side2 => exact QB); rintro e w14 ⟨rfl, hi, hb, hk⟩; refine ⟨_, rfl, ?_⟩; have n_ := Y2G (Yb.blk hk (g' := gb101) (o := .cells #[.int .i64 0, .string (⟨#[]⟩ : ByteArray), .string (⟨#[]⟩ : ByteArray)] 24 (0, 0)) ZU NB101_0.out (by simp)) (Yb.blk hk (g' := gb105) (o := .cells #[.int .i64 3, .string t102, .string (⟨#[]⟩ : ByteArray)] 24 (0, 0)) ZO NB105_0.out (by simp)) (Yb.trans QK hk (.inl rfl)) (hb) (hi); clear BK101 BK105 HK HB HI0; obtain ⟨BK101, BK105, HK, HB, HI0⟩ := n_; (try clear hb); (try clear hb2); (try clear hk); (try clear hi); obtain ⟨HGz15, hgz15⟩ := HI0.out; have hcz15_0 := Y13 HGz15; have hcz15_1 := Y14 HGz15; have hfz15_0 := Yv HGz15 0; have hfz15_1 := Yv HGz15 1; clear HGz15 hgz15) | ((with_reducible refine Ya (f := 84) rfl ?_); refine Yu (some 19) rfl rfl Tryd.func84 Z7 rfl #[.pointer (some ⟨g, 0, none⟩), .bool true] rfl Z0 ?_; (with_reducible refine (Yc.calls k g (t107.extract 1 t107.size) t108 true t109 t110 t111 w0 _ ?side1 ?side2 A6.out).mono ?_); (case side1 => exact ZA); (case side2 => exact QB); rintro e w16 ⟨rfl, hi, hb, hk⟩; refine ⟨_, rfl, ?_⟩; have n_ := Y2G (Yb.blk hk (g' := gb101) (o := .cells #[.int .i64 0, .string (⟨#[]⟩ : ByteArray), .string (⟨#[]⟩ : ByteArray)] 24 (0, 0)) Zi NB101_0.out (by simp)) (Yb.blk hk (g' := gb105) (o := .cells #[.int .i64 3, .string t102, .string (⟨#[]⟩ : ByteArray)] 24 (0, 0)) Zw NB105_0.out (by simp)) (Yb.trans QK hk (.inl rfl)) (hb) (hi); clear BK101 BK105 HK HB HI0; obtain ⟨BK101, BK105, HK, HB, HI0⟩ := n_; (try clear hb); (try clear hb2); (try clear hk); (try clear hi)) | ((with_reducible refine Ya (f := 110) rfl ?_); refine Yu (some 20) rfl rfl Tryd.func110 Z7 rfl #[.string t109] rfl Z0 ?_; (with_reducible refine (YA.calls t109 t112 _ A7.out).mono ?_); rintro e w17 ⟨rfl, hb⟩; refine ⟨_, rfl, ?_⟩; have n_ := Y2G (Ym.below QI67_0 hb) (Y9 (g := gb101) (o := .cells #[.int .i64 0, .string (⟨#[]⟩ : ByteArray), .string (⟨#[]⟩ : ByteArray)] 24 (0, 0)) QQ hb) (Y9 (g := gb105) (o := .cells #[.int .i64 3, .string t102, .string (⟨#[]⟩ : ByteArray)] 24 (0, 0)) QQ hb) (Yb.trans QK (Yb.of_below hb g none) (.inl rfl)) (Y8 QB hb); clear HI0 BK101 BK105 HK HB; obtain ⟨HI0, BK101, BK105, HK, HB⟩ := n_; (try clear hb); (try clear hb2); (try clear hk); (try clear hi); obtain ⟨hcz18_0, hcz18_1, hcz18_2, hfz18_0, hfz18_1, hfz18_2⟩ := Yr BK105.out; have hnb19 := NB101_0.out; have hnc19 := NB0_101.out; obtain ⟨hcz20_0, hcz20_1, hcz20_2, hfz20_0, hfz20_1, hfz20_2⟩ := Yr BK101.out))
   refine bodyPost_ret (results_cell_row rfl _ _ gb101 24 #[.int .i64 4, .string t102, .string t112] (0, 0) _ rfl (by (with_reducible repeat (first | refine Yo ?_ _ | refine Yg ?_ | refine Yn ?_ _)); exact YM (cs := #[.int .i64 4, .string t102, .string (⟨#[]⟩ : ByteArray)]) (by (with_reducible repeat (first | refine Yo ?_ _ | refine Yg ?_ | refine Yn ?_ _)); exact YM (cs := #[.int .i64 4, .string (⟨#[]⟩ : ByteArray), .string (⟨#[]⟩ : ByteArray)]) ZW 1 _ rfl) 2 _ rfl) Tryd.underlying24 rfl Z7) rfl ?_
   exact ZV
  ·rw [if_neg c5] at H
   exact Zd
 ·replace c4 := Bool.eq_false_iff.mpr c4
  subst c4
  have H1 : ((Y3.f t107 t108 (⟨#[94, 94, 60]⟩ : ByteArray)).bind fun bt113 => (if bt113.1 = true then (if 3 ≤ (bt113.2.1.size : Int) then ((Y7.f k (bt113.2.1.extract 3 bt113.2.1.size) bt113.2.2 62 false).bind fun bt116 => (some (5, t102, bt116.1, bt116.2.1, bt116.2.2))) else (none)) else (some (3, t102, (⟨#[]⟩ : ByteArray), bt113.2.1, bt113.2.2)))) = some (r1, r2, r3, r4, r5) := by rw [if_neg (show ¬ (false = true) by decide)] at H; exact H
  clear H
  have H := H1
  clear H1
  replace H := Option.bind_eq_some_iff.mp H
  obtain ⟨⟨t113, t114, t115⟩, A210, H⟩ := H
  replace H : (if t113 = true then (if 3 ≤ (t114.size : Int) then ((Y7.f k (t114.extract 3 t114.size) t115 62 false).bind fun bt116 => (some (5, t102, bt116.1, bt116.2.1, bt116.2.2))) else (none)) else (some (3, t102, (⟨#[]⟩ : ByteArray), t114, t115))) = some (r1, r2, r3, r4, r5) := H
  have A21 := Y0.mk A210
  clear A210
  by_cases c22 : t113 = true
  ·subst c22
   have H1 : (if 3 ≤ (t114.size : Int) then ((Y7.f k (t114.extract 3 t114.size) t115 62 false).bind fun bt116 => (some (5, t102, bt116.1, bt116.2.1, bt116.2.2))) else (none)) = some (r1, r2, r3, r4, r5) := by rw [if_pos rfl] at H; exact H
   clear H
   have H := H1
   clear H1
   by_cases c23 : 3 ≤ (t114.size : Int)
   ·rw [if_pos c23] at H
    have c23b0 := eq_true c23
    have c23b1 : decide (3 ≤ (t114.size : Int)) = true := decide_eq_true c23
    clear c23
    replace H := Option.bind_eq_some_iff.mp H
    obtain ⟨⟨t116, t117, t118⟩, A240, H⟩ := H
    replace H : (some (5, t102, t116, t117, t118)) = some (r1, r2, r3, r4, r5) := H
    have A24 := Y0.mk A240
    clear A240
    simp only [Option.some.injEq, Prod.mk.injEq] at H
    obtain ⟨rfl, rfl, rfl, rfl, rfl⟩ := H
    go_enter Tryd.func85, Tryd.ntmps85
    go_wp2_with (first | ((with_reducible refine Yt (N := 2) rfl ?_); refine Yp ?hg (N := 2) ?hd (cs := #[.int .i64 0, .string (⟨#[]⟩ : ByteArray), .string (⟨#[]⟩ : ByteArray)]) (t := 24) ?hr ?_; (case hd => rfl); (case hg => rfl); (case hr => exact Zb); intro gb101 hg w25 hbox hb; have n_ := put8 (Ym.below QI67_0 hb) (Yb.trans QK (Yb.of_below hb g none) (.inl rfl)) (Y8 QB hb) (hbox) ((by rw [hg]; exact (YN (w := w) (g := g) (row := none) QK) : w.heap.size ≤ gb101)) ((Nat.le_trans HW0.out (by rw [hg]; exact (YN (w := w) (g := g) (row := none) QK) : w.heap.size ≤ gb101) : w0.heap.size ≤ gb101)) ((by rw [hg]; exact Nat.ne_of_lt (Ym.lt (show Ym w0 _ g s0_0 s0_1 from QI67_0)) : g ≠ gb101)) ((by rw [hg]; exact Nat.ne_of_gt (Ym.lt (show Ym w0 _ g s0_0 s0_1 from QI67_0)) : gb101 ≠ g)); clear HI0 HK HB; obtain ⟨HI0, HK, HB, BK101, GW101, GE101, NB0_101, NB101_0⟩ := n_; clear hb hbox hg) | ((with_reducible refine Ya (f := 83) rfl ?_); refine Yu (some 5) rfl rfl Tryd.func83 Z7 rfl #[.pointer (some ⟨g, 0, none⟩), .int .u8 34, .bool true] rfl Z0 ?_; (with_reducible refine (Y7.calls k g s0_0 s0_1 34 true t102 t103 t104 w0 _ ?side1 ?side2 A2.out).mono ?_); (case side1 => exact ZA); (case side2 => exact QB); rintro e w26 ⟨rfl, hi, hb, hk⟩; refine ⟨_, rfl, ?_⟩; have n_ := Y1L (Yb.blk hk (g' := gb101) (o := .cells #[.int .i64 0, .string (⟨#[]⟩ : ByteArray), .string (⟨#[]⟩ : ByteArray)] 24 (0, 0)) QQ NB101_0.out (by simp)) (Yb.trans QK hk (.inl rfl)) (hb) (hi); clear BK101 HK HB HI0; obtain ⟨BK101, HK, HB, HI0⟩ := n_; (try clear hb); (try clear hb2); (try clear hk); (try clear hi)) | ((with_reducible refine Yt (N := 3) rfl ?_); refine Yp ?hg (N := 3) ?hd (cs := #[.int .i64 0, .string (⟨#[]⟩ : ByteArray), .string (⟨#[]⟩ : ByteArray)]) (t := 24) ?hr ?_; (case hd => rfl); (case hg => rfl); (case hr => exact Zb); intro gb105 hg w27 hbox hb; have n0_ := Y0.mk (Ym.below QI67_0 hb); have n1_ := Y0.mk (Y9 (g := gb101) (o := .cells #[.int .i64 0, .string (⟨#[]⟩ : ByteArray), .string (⟨#[]⟩ : ByteArray)] 24 (0, 0)) QQ hb); have n2_ := Y0.mk (Yb.trans QK (Yb.of_below hb g none) (.inl rfl)); have n3_ := Y0.mk (Y8 QB hb); have n4_ := Y0.mk (hbox); have n5_ := Y0.mk ((by rw [hg]; exact (YN (w := w) (g := g) (row := none) QK) : w.heap.size ≤ gb105)); have n6_ := Y0.mk ((Nat.le_trans HW0.out (by rw [hg]; exact (YN (w := w) (g := g) (row := none) QK) : w.heap.size ≤ gb105) : w0.heap.size ≤ gb105)); have n7_ := Y0.mk ((by rw [hg]; exact Nat.ne_of_lt (Yy (g := gb101) (o := .cells #[.int .i64 0, .string (⟨#[]⟩ : ByteArray), .string (⟨#[]⟩ : ByteArray)] 24 (0, 0)) QQ) : gb101 ≠ gb105)); have n8_ := Y0.mk ((by rw [hg]; exact Nat.ne_of_gt (Yy (g := gb101) (o := .cells #[.int .i64 0, .string (⟨#[]⟩ : ByteArray), .string (⟨#[]⟩ : ByteArray)] 24 (0, 0)) QQ) : gb105 ≠ gb101)); have n9_ := Y0.mk ((by rw [hg]; exact Nat.ne_of_lt (Ym.lt (show Ym w0 _ g t103 t104 from QI67_0)) : g ≠ gb105)); have n10_ := Y0.mk ((by rw [hg]; exact Nat.ne_of_gt (Ym.lt (show Ym w0 _ g t103 t104 from QI67_0)) : gb105 ≠ g)); clear HI0 BK101 HK HB; have HI0 := n0_; have BK101 := n1_; have HK := n2_; have HB := n3_; have BK105 := n4_; have GW105 := n5_; have GE105 := n6_; have NB101_105 := n7_; have NB105_101 := n8_; have NB0_105 := n9_; have NB105_0 := n10_; clear n0_ n1_ n2_ n3_ n4_ n5_ n6_ n7_ n8_ n9_ n10_ hb hbox hg; have hnb28 := NB105_101.out; have hnc28 := NB101_105.out; have hnb29 := NB105_0.out; have hnc29 := NB0_105.out; obtain ⟨hcz30_0, hcz30_1, hcz30_2, hfz30_0, hfz30_1, hfz30_2⟩ := Yr BK105.out) | ((with_reducible refine Ya (f := 82) rfl ?_); refine Yu (some 9) rfl rfl Tryd.func82 Z7 rfl #[.pointer (some ⟨g, 0, none⟩), .string (⟨#[64]⟩ : ByteArray)] rfl Z0 ?_; (with_reducible refine (Y3.calls g t103 t104 (⟨#[64]⟩ : ByteArray) false t107 t108 w0 _ ?side1 ?side2 A3.out).mono ?_); (case side1 => exact ZA); (case side2 => exact QB); rintro e w31 ⟨rfl, hi, hb, hk⟩; refine ⟨_, rfl, ?_⟩; have n_ := Y2G (Yb.blk hk (g' := gb101) (o := .cells #[.int .i64 0, .string (⟨#[]⟩ : ByteArray), .string (⟨#[]⟩ : ByteArray)] 24 (0, 0)) ZU NB101_0.out (by simp)) (Yb.blk hk (g' := gb105) (o := .cells #[.int .i64 3, .string t102, .string (⟨#[]⟩ : ByteArray)] 24 (0, 0)) ZO NB105_0.out (by simp)) (Yb.trans QK hk (.inl rfl)) (hb) (hi); clear BK101 BK105 HK HB HI0; obtain ⟨BK101, BK105, HK, HB, HI0⟩ := n_; (try clear hb); (try clear hb2); (try clear hk); (try clear hi)) | ((with_reducible refine Ya (f := 82) rfl ?_); refine Yu (some 25) rfl rfl Tryd.func82 Z7 rfl #[.pointer (some ⟨g, 0, none⟩), .string (⟨#[94, 94, 60]⟩ : ByteArray)] rfl Z0 ?_; (with_reducible refine (Y3.calls g t107 t108 (⟨#[94, 94, 60]⟩ : ByteArray) true t114 t115 w0 _ ?side1 ?side2 A21.out).mono ?_); (case side1 => exact ZA); (case side2 => exact QB); rintro e w32 ⟨rfl, hi, hb, hk⟩; refine ⟨_, rfl, ?_⟩; have n_ := Y2G (Yb.blk hk (g' := gb101) (o := .cells #[.int .i64 0, .string (⟨#[]⟩ : ByteArray), .string (⟨#[]⟩ : ByteArray)] 24 (0, 0)) QQ NB101_0.out (by simp)) (Yb.blk hk (g' := gb105) (o := .cells #[.int .i64 3, .string t102, .string (⟨#[]⟩ : ByteArray)] 24 (0, 0)) QQ NB105_0.out (by simp)) (Yb.trans QK hk (.inl rfl)) (hb) (hi); clear BK101 BK105 HK HB HI0; obtain ⟨BK101, BK105, HK, HB, HI0⟩ := n_; (try clear hb); (try clear hb2); (try clear hk); (try clear hi); obtain ⟨HGz33, hgz33⟩ := HI0.out; have hcz33_0 := Y13 HGz33; have hcz33_1 := Y14 HGz33; have hfz33_0 := Yv HGz33 0; have hfz33_1 := Yv HGz33 1; clear HGz33 hgz33) | ((with_reducible refine Ya (f := 83) rfl ?_); refine Yu (some 35) rfl rfl Tryd.func83 Z7 rfl #[.pointer (some ⟨g, 0, none⟩), .int .u8 62, .bool false] rfl Z0 ?_; (with_reducible refine (Y7.calls k g (t114.extract 3 t114.size) t115 62 false t116 t117 t118 w0 _ ?side1 ?side2 A24.out).mono ?_); (case side1 => exact ZA); (case side2 => exact QB); rintro e w34 ⟨rfl, hi, hb, hk⟩; refine ⟨_, rfl, ?_⟩; have n_ := Y2G (Yb.blk hk (g' := gb101) (o := .cells #[.int .i64 0, .string (⟨#[]⟩ : ByteArray), .string (⟨#[]⟩ : ByteArray)] 24 (0, 0)) Zi NB101_0.out (by simp)) (Yb.blk hk (g' := gb105) (o := .cells #[.int .i64 3, .string t102, .string (⟨#[]⟩ : ByteArray)] 24 (0, 0)) Zw NB105_0.out (by simp)) (Yb.trans QK hk (.inl rfl)) (hb) (hi); clear BK101 BK105 HK HB HI0; obtain ⟨BK101, BK105, HK, HB, HI0⟩ := n_; (try clear hb); (try clear hb2); (try clear hk); (try clear hi); obtain ⟨hcz35_0, hcz35_1, hcz35_2, hfz35_0, hfz35_1, hfz35_2⟩ := Yr BK105.out; have hnb36 := NB101_0.out; have hnc36 := NB0_101.out; obtain ⟨hcz37_0, hcz37_1, hcz37_2, hfz37_0, hfz37_1, hfz37_2⟩ := Yr BK101.out))
    refine bodyPost_ret (results_cell_row rfl _ _ gb101 24 #[.int .i64 5, .string t102, .string t116] (0, 0) _ rfl (by (with_reducible repeat (first | refine Yo ?_ _ | refine Yg ?_ | refine Yn ?_ _)); exact YM (cs := #[.int .i64 5, .string t102, .string (⟨#[]⟩ : ByteArray)]) (by (with_reducible repeat (first | refine Yo ?_ _ | refine Yg ?_ | refine Yn ?_ _)); exact YM (cs := #[.int .i64 5, .string (⟨#[]⟩ : ByteArray), .string (⟨#[]⟩ : ByteArray)]) ZW 1 _ rfl) 2 _ rfl) Tryd.underlying24 rfl Z7) rfl ?_
    exact ZV
   ·rw [if_neg c23] at H
    exact Zd
  ·replace c22 := Bool.eq_false_iff.mpr c22
   subst c22
   have H1 : (some (3, t102, (⟨#[]⟩ : ByteArray), t114, t115)) = some (r1, r2, r3, r4, r5) := by rw [if_neg (show ¬ (false = true) by decide)] at H; exact H
   clear H
   have H := H1
   clear H1
   simp only [Option.some.injEq, Prod.mk.injEq] at H
   obtain ⟨rfl, rfl, rfl, rfl, rfl⟩ := H
   go_enter Tryd.func85, Tryd.ntmps85
   go_wp2_with (first | ((with_reducible refine Yt (N := 2) rfl ?_); refine Yp ?hg (N := 2) ?hd (cs := #[.int .i64 0, .string (⟨#[]⟩ : ByteArray), .string (⟨#[]⟩ : ByteArray)]) (t := 24) ?hr ?_; (case hd => rfl); (case hg => rfl); (case hr => exact Zb); intro gb101 hg w38 hbox hb; have n_ := put8 (Ym.below QI67_0 hb) (Yb.trans QK (Yb.of_below hb g none) (.inl rfl)) (Y8 QB hb) (hbox) ((by rw [hg]; exact (YN (w := w) (g := g) (row := none) QK) : w.heap.size ≤ gb101)) ((Nat.le_trans HW0.out (by rw [hg]; exact (YN (w := w) (g := g) (row := none) QK) : w.heap.size ≤ gb101) : w0.heap.size ≤ gb101)) ((by rw [hg]; exact Nat.ne_of_lt (Ym.lt (show Ym w0 _ g s0_0 s0_1 from QI67_0)) : g ≠ gb101)) ((by rw [hg]; exact Nat.ne_of_gt (Ym.lt (show Ym w0 _ g s0_0 s0_1 from QI67_0)) : gb101 ≠ g)); clear HI0 HK HB; obtain ⟨HI0, HK, HB, BK101, GW101, GE101, NB0_101, NB101_0⟩ := n_; clear hb hbox hg) | ((with_reducible refine Ya (f := 83) rfl ?_); refine Yu (some 5) rfl rfl Tryd.func83 Z7 rfl #[.pointer (some ⟨g, 0, none⟩), .int .u8 34, .bool true] rfl Z0 ?_; (with_reducible refine (Y7.calls k g s0_0 s0_1 34 true t102 t103 t104 w0 _ ?side1 ?side2 A2.out).mono ?_); (case side1 => exact ZA); (case side2 => exact QB); rintro e w39 ⟨rfl, hi, hb, hk⟩; refine ⟨_, rfl, ?_⟩; have n_ := Y1L (Yb.blk hk (g' := gb101) (o := .cells #[.int .i64 0, .string (⟨#[]⟩ : ByteArray), .string (⟨#[]⟩ : ByteArray)] 24 (0, 0)) QQ NB101_0.out (by simp)) (Yb.trans QK hk (.inl rfl)) (hb) (hi); clear BK101 HK HB HI0; obtain ⟨BK101, HK, HB, HI0⟩ := n_; (try clear hb); (try clear hb2); (try clear hk); (try clear hi)) | ((with_reducible refine Yt (N := 3) rfl ?_); refine Yp ?hg (N := 3) ?hd (cs := #[.int .i64 0, .string (⟨#[]⟩ : ByteArray), .string (⟨#[]⟩ : ByteArray)]) (t := 24) ?hr ?_; (case hd => rfl); (case hg => rfl); (case hr => exact Zb); intro gb105 hg w40 hbox hb; have n0_ := Y0.mk (Ym.below QI67_0 hb); have n1_ := Y0.mk (Y9 (g := gb101) (o := .cells #[.int .i64 0, .string (⟨#[]⟩ : ByteArray), .string (⟨#[]⟩ : ByteArray)] 24 (0, 0)) QQ hb); have n2_ := Y0.mk (Yb.trans QK (Yb.of_below hb g none) (.inl rfl)); have n3_ := Y0.mk (Y8 QB hb); have n4_ := Y0.mk (hbox); have n5_ := Y0.mk ((by rw [hg]; exact (YN (w := w) (g := g) (row := none) QK) : w.heap.size ≤ gb105)); have n6_ := Y0.mk ((Nat.le_trans HW0.out (by rw [hg]; exact (YN (w := w) (g := g) (row := none) QK) : w.heap.size ≤ gb105) : w0.heap.size ≤ gb105)); have n7_ := Y0.mk ((by rw [hg]; exact Nat.ne_of_lt (Yy (g := gb101) (o := .cells #[.int .i64 0, .string (⟨#[]⟩ : ByteArray), .string (⟨#[]⟩ : ByteArray)] 24 (0, 0)) QQ) : gb101 ≠ gb105)); have n8_ := Y0.mk ((by rw [hg]; exact Nat.ne_of_gt (Yy (g := gb101) (o := .cells #[.int .i64 0, .string (⟨#[]⟩ : ByteArray), .string (⟨#[]⟩ : ByteArray)] 24 (0, 0)) QQ) : gb105 ≠ gb101)); have n9_ := Y0.mk ((by rw [hg]; exact Nat.ne_of_lt (Ym.lt (show Ym w0 _ g t103 t104 from QI67_0)) : g ≠ gb105)); have n10_ := Y0.mk ((by rw [hg]; exact Nat.ne_of_gt (Ym.lt (show Ym w0 _ g t103 t104 from QI67_0)) : gb105 ≠ g)); clear HI0 BK101 HK HB; have HI0 := n0_; have BK101 := n1_; have HK := n2_; have HB := n3_; have BK105 := n4_; have GW105 := n5_; have GE105 := n6_; have NB101_105 := n7_; have NB105_101 := n8_; have NB0_105 := n9_; have NB105_0 := n10_; clear n0_ n1_ n2_ n3_ n4_ n5_ n6_ n7_ n8_ n9_ n10_ hb hbox hg; have hnb41 := NB105_101.out; have hnc41 := NB101_105.out; have hnb42 := NB105_0.out; have hnc42 := NB0_105.out; obtain ⟨hcz43_0, hcz43_1, hcz43_2, hfz43_0, hfz43_1, hfz43_2⟩ := Yr BK105.out) | ((with_reducible refine Ya (f := 82) rfl ?_); refine Yu (some 9) rfl rfl Tryd.func82 Z7 rfl #[.pointer (some ⟨g, 0, none⟩), .string (⟨#[64]⟩ : ByteArray)] rfl Z0 ?_; (with_reducible refine (Y3.calls g t103 t104 (⟨#[64]⟩ : ByteArray) false t107 t108 w0 _ ?side1 ?side2 A3.out).mono ?_); (case side1 => exact ZA); (case side2 => exact QB); rintro e w44 ⟨rfl, hi, hb, hk⟩; refine ⟨_, rfl, ?_⟩; have n_ := Y2G (Yb.blk hk (g' := gb101) (o := .cells #[.int .i64 0, .string (⟨#[]⟩ : ByteArray), .string (⟨#[]⟩ : ByteArray)] 24 (0, 0)) ZU NB101_0.out (by simp)) (Yb.blk hk (g' := gb105) (o := .cells #[.int .i64 3, .string t102, .string (⟨#[]⟩ : ByteArray)] 24 (0, 0)) ZO NB105_0.out (by simp)) (Yb.trans QK hk (.inl rfl)) (hb) (hi); clear BK101 BK105 HK HB HI0; obtain ⟨BK101, BK105, HK, HB, HI0⟩ := n_; (try clear hb); (try clear hb2); (try clear hk); (try clear hi)) | ((with_reducible refine Ya (f := 82) rfl ?_); refine Yu (some 25) rfl rfl Tryd.func82 Z7 rfl #[.pointer (some ⟨g, 0, none⟩), .string (⟨#[94, 94, 60]⟩ : ByteArray)] rfl Z0 ?_; (with_reducible refine (Y3.calls g t107 t108 (⟨#[94, 94, 60]⟩ : ByteArray) false t114 t115 w0 _ ?side1 ?side2 A21.out).mono ?_); (case side1 => exact ZA); (case side2 => exact QB); rintro e w45 ⟨rfl, hi, hb, hk⟩; refine ⟨_, rfl, ?_⟩; have n_ := Y2G (Yb.blk hk (g' := gb101) (o := .cells #[.int .i64 0, .string (⟨#[]⟩ : ByteArray), .string (⟨#[]⟩ : ByteArray)] 24 (0, 0)) QQ NB101_0.out (by simp)) (Yb.blk hk (g' := gb105) (o := .cells #[.int .i64 3, .string t102, .string (⟨#[]⟩ : ByteArray)] 24 (0, 0)) QQ NB105_0.out (by simp)) (Yb.trans QK hk (.inl rfl)) (hb) (hi); clear BK101 BK105 HK HB HI0; obtain ⟨BK101, BK105, HK, HB, HI0⟩ := n_; (try clear hb); (try clear hb2); (try clear hk); (try clear hi); obtain ⟨hcz46_0, hcz46_1, hcz46_2, hfz46_0, hfz46_1, hfz46_2⟩ := Yr BK105.out; have hnb47 := NB101_0.out; have hnc47 := NB0_101.out; obtain ⟨hcz48_0, hcz48_1, hcz48_2, hfz48_0, hfz48_1, hfz48_2⟩ := Yr BK101.out))
   refine bodyPost_ret (results_cell_row rfl _ _ gb101 24 #[.int .i64 3, .string t102, .string (⟨#[]⟩ : ByteArray)] (0, 0) _ rfl ZO Tryd.underlying24 rfl Z7) rfl ?_
   exact ZV
mutual
def Y2.j0 : Nat → ByteArray → Bool → Int → ByteArray → ByteArray → Option (Int × ByteArray × ByteArray × ByteArray × Bool)
 | 0, _, _, _, _, _ => none
 | k + 1, x1000, x1001, x103000, x103001, x103002 => if x1001 = true then (Y2.j1 k false x1000 x1001 x103000 x103001 x103002) else ((Ye.f k x103000 x103001 x103002).bind fun t123 => (Y2.j1 k (!t123) x1000 x1001 x103000 x103001 x103002))
def Y2.j1 : Nat → Bool → ByteArray → Bool → Int → ByteArray → ByteArray → Option (Int × ByteArray × ByteArray × ByteArray × Bool)
 | 0, _, _, _, _, _, _ => none
 | k + 1, x55, x1000, x1001, x103000, x103001, x103002 => if x55 = true then ((Yk.f x1000 x1001).bind fun bt124 => ((Yf.f k bt124.1 bt124.2).bind fun bt126 => (some (x103000, x103001, x103002, bt126.1, bt126.2)))) else ((Yf.f k x1000 x1001).bind fun bt128 => (some (x103000, x103001, x103002, bt128.1, bt128.2)))
end
def Y2.f (k : Nat) (s0_0 : ByteArray) (s0_1 : Bool) : Option (Int × ByteArray × ByteArray × ByteArray × Bool) := (Y3.f s0_0 s0_1 (⟨#[60]⟩ : ByteArray)).bind fun bt103 => (if bt103.1 = true then (if 1 ≤ (bt103.2.1.size : Int) then ((Y7.f k (bt103.2.1.extract 1 bt103.2.1.size) bt103.2.2 62 false).bind fun bt106 => (Y2.j0 k bt106.2.1 bt106.2.2 1 bt106.1 (⟨#[]⟩ : ByteArray))) else (none)) else ((Y3.f bt103.2.1 bt103.2.2 (⟨#[95, 58]⟩ : ByteArray)).bind fun bt109 => (if bt109.1 = true then (if 2 ≤ (bt109.2.1.size : Int) then ((Yc.f k (bt109.2.1.extract 2 bt109.2.1.size) bt109.2.2 false).bind fun bt112 => (Y2.j0 k bt112.2.1 bt112.2.2 2 bt112.1 (⟨#[]⟩ : ByteArray))) else (none)) else ((Y3.f bt109.2.1 bt109.2.2 (⟨#[34]⟩ : ByteArray)).bind fun bt115 => (if bt115.1 = true then (if 1 ≤ (bt115.2.1.size : Int) then ((Yh.f k (bt115.2.1.extract 1 bt115.2.1.size) bt115.2.2).bind fun bt118 => (Y2.j0 k bt118.2.2.2.1 bt118.2.2.2.2 bt118.1 bt118.2.1 bt118.2.2.1)) else (none)) else (Y2.j0 k bt115.2.1 bt115.2.2 0 (⟨#[]⟩ : ByteArray) (⟨#[]⟩ : ByteArray)))))))
end Go.Proofs.YtbpbfboaofkpaaaDoor.Print
end
