/- Proofs for this claim: printed by our driver and joined by pack.py; the last text holds the statement. -/
import Derived.Test.YtbpbfboaofkpaaaDoorQbQ1
section
namespace Go.Proofs.YtbpbfboaofkpaaaDoor.Print
open Go.RowKit Go.Shelf Go.Proofs.YtbpbfboaofkpaaaDoorW.PrintWords
set_option linter.unusedVariables false
set_option linter.unusedSimpArgs false
theorem YN.calls (a0 : ByteArray) (r : Bool) (w : World) (hT : Tabs w) (h : YN.f a0 = some r) :
  Calls Tryd.prog 39 #[.string a0] w fun e w' => e = .returned (.bool r) ∧ Below w.heap.size w w' := by
 unfold YN.f at h
 by_cases hs : sizeOk a0 = true
 ·rw [if_pos hs] at h
  obtain rfl := Option.some.inj h
  have hz : a0.size ≤ 9223372036854775807 := of_decide_eq_true hs
  clear h hs
  unfold iriB
  rcases Nat.eq_zero_or_pos a0.size with h0 | h0
  ·obtain rfl := ba_empty h0
   clear h0 hT
   show Calls _ _ _ w fun e w' => e = .returned (.bool false) ∧ _
   go_enter Tryd.func39, Tryd.ntmps39
   go_wp2
   go_ret
   exact Z1H
  ·have n1 := ba_ne h0
   have n2 : (a0.toList == []) = false := beq_eq_false_iff_ne.mpr n1
   have n3 : (a0.toList != []) = true := bne_iff_ne.mpr n1
   have n4 : a0.toList.isEmpty = false := by cases e : a0.toList <;> simp_all
   rw [decide_eq_true h0, Bool.true_and]
   by_cases h60 : a0.size ≤ 60
   ·have m1 : decide ((a0.size : Int) ≤ 60) = true := decide_eq_true (by omega)
    have m2 : decide (a0.size ≤ 60) = true := decide_eq_true h60
    rw [decide_eq_true h60, Bool.true_and]
    have c1 := fun W (hb : Below w.heap.size w W) => Any.utf8_ValidString Tryd.lays196 a0 W hz (Y1K hT hb).u8
    have c2 := fun W => Y2D 71 (enters_of Tryd.func71 Z7 rfl) #[] Y1w a0 W (Y3n W)
    generalize Lib.validD a0.data.toList = b1 at c1 ⊢
    generalize Y2m Y1w a0 = b2 at c2 ⊢
    have C1 := Lib.hid c1
    have C2 := Lib.hid c2
    clear c1 c2 hT h0 h60 n1
    cases b1
    ·show Calls _ _ _ w fun e w' => e = .returned (.bool false) ∧ _
     go_enter Tryd.func39, Tryd.ntmps39
     go_wp2_with (go_at_call 38; refine (C1.out _ (Below.refl _ _)).mono ?_; rintro e w1 ⟨rfl, hb1⟩)
     go_ret
     exact ⟨rfl, hb1⟩
    ·show Calls _ _ _ w fun e w' => e = .returned (.bool b2) ∧ _
     go_enter Tryd.func39, Tryd.ntmps39
     go_wp2_with (first | (go_at_call 38; refine (C1.out _ (Below.refl _ _)).mono ?_; rintro e w1 ⟨rfl, hb1⟩) | (go_at_call 70; refine (C2.out _).mono ?_; rintro e w2 ⟨rfl, hb2⟩))
     go_ret
     exact ⟨rfl, hb1.trans (hb2.mono hb1.size)⟩
   ·have m1 : decide ((a0.size : Int) ≤ 60) = false := decide_eq_false (by omega)
    have m2 : decide (a0.size ≤ 60) = false := decide_eq_false h60
    rw [decide_eq_false h60, Bool.false_and]
    rw [Bool.false_and]
    clear hT h0 h60 n1
    go_enter Tryd.func39, Tryd.ntmps39
    go_wp2
    go_ret
    exact Z1H
 ·rw [if_neg hs] at h; cases h
def strings_Cut.f (a0 a1 : ByteArray) : Option (ByteArray × ByteArray × Bool) := if langOk a0 then some (⟨(Lib.cut a0.data.toList a1.data.toList).1.toArray⟩, ⟨(Lib.cut a0.data.toList a1.data.toList).2.1.toArray⟩, (Lib.cut a0.data.toList a1.data.toList).2.2) else none
theorem strings_Cut.calls (a0 a1 : ByteArray) (r1 r2 : ByteArray) (r3 : Bool) (w : World) (hT : Tabs w) (h : strings_Cut.f a0 a1 = some (r1, r2, r3)) :
  Calls Tryd.prog 145 #[.string a0, .string a1] w fun e w' => e = .returned (.tuple #[.string r1, .string r2, .bool r3]) ∧ Y1J w w' := by
 unfold strings_Cut.f at h
 by_cases hs : langOk a0 = true
 ·rw [if_pos hs] at h
  obtain ⟨m, hm⟩ := hT.ml
  have e := Option.some.inj h
  simp only [Prod.mk.injEq] at e
  obtain ⟨rfl, rfl, rfl⟩ := e
  exact (Tryd.strings_Cut a0 a1 m w (of_decide_eq_true hs) hm).mono fun _ _ ⟨he, hw⟩ => ⟨he, ⟨hw⟩⟩
 ·rw [if_neg hs] at h; cases h
end Go.Proofs.YtbpbfboaofkpaaaDoor.Print
end
section
namespace Go.Proofs.YtbpbfboaofkpaaaDoor.Print
open Go.RowKit Go.Proofs.YtbpbfboaofkpaaaDoorW.PrintWords Go.Proofs.YtbpbfboaofkpaaaDoorW.PrintLast Go.Proofs.YtbpbfboaofkpaaaDoorW.PrintMore
attribute [local go_sem] max2_int min2_int max_two min_two max_three min_three max_four min_four
set_option linter.unusedVariables false
set_option linter.unusedSimpArgs false
def YE.f (k : Nat) (s0_0 : ByteArray) (s0_1 : Int) (s0_2 : Int) (s0_3 : Int) : Option (ByteArray × ByteArray × Int × Int × Int) := (Yd.f k s0_0 s0_1 s0_2 s0_3).bind fun bt101 => (if bt101.1 = 60 then (if 0 ≤ (wrap64 (bt101.2.2.1 + 1)) then (if (wrap64 (bt101.2.2.1 + 1)) ≤ (bt101.2.1.size : Int) then ((strings_Cut.f (bt101.2.1.extract ((wrap64 (bt101.2.2.1 + 1)) : Int).toNat bt101.2.1.size) (⟨#[62]⟩ : ByteArray)).bind fun bt118 => (if bt118.2.2 = true then ((YN.f bt118.1).bind fun t121 => (if t121 = true then (some (bt118.1, bt101.2.1, wrap64 (bt101.2.2.1 + (wrap64 ((bt118.1.size : Int) + 2))), bt101.2.2.2.1, bt101.2.2.2.2)) else ((Yc.f bt101.2.1 bt101.2.2.1 bt101.2.2.2.1 bt101.2.2.2.2 bt101.2.2.1 2).bind fun bt122 => (some ((⟨#[]⟩ : ByteArray), bt122.2.2.2.2.1, bt122.2.2.2.2.2.1, bt122.2.2.2.2.2.2.1, bt122.2.2.2.2.2.2.2))))) else ((Yc.f bt101.2.1 bt101.2.2.1 bt101.2.2.2.1 bt101.2.2.2.2 bt101.2.2.1 2).bind fun bt134 => (some ((⟨#[]⟩ : ByteArray), bt134.2.2.2.2.1, bt134.2.2.2.2.2.1, bt134.2.2.2.2.2.2.1, bt134.2.2.2.2.2.2.2))))) else (none)) else (none)) else ((Yc.f bt101.2.1 bt101.2.2.1 bt101.2.2.2.1 bt101.2.2.2.2 bt101.2.2.1 2).bind fun bt106 => (some ((⟨#[]⟩ : ByteArray), bt106.2.2.2.2.1, bt106.2.2.2.2.2.1, bt106.2.2.2.2.2.2.1, bt106.2.2.2.2.2.2.2))))
set_option maxHeartbeats 8000000 in
set_option maxRecDepth 100000 in
theorem YE.calls (k : Nat) (g : Nat) (s0_0 : ByteArray) (s0_1 : Int) (s0_2 : Int) (s0_3 : Int) (r1 : ByteArray) (r2 : ByteArray) (r3 : Int) (r4 : Int) (r5 : Int) (w0 w : World) (hI : Yf w0 w g s0_0 s0_1 s0_2 s0_3) (hB : Below w0.heap.size w0 w) (hT : Tabs w0) (h : YE.f k s0_0 s0_1 s0_2 s0_3 = some (r1, r2, r3, r4, r5)) :
  Calls Tryd.prog 140 #[.pointer (some ⟨g, 0, none⟩)] w fun e w' => e = .returned (.string r1) ∧ Yf w0 w' g r2 r3 r4 r5 ∧ Below w0.heap.size w0 w' ∧ Y3 w w' g none := by
 have HT := Y0.mk hT
 clear hT
 have HI0 := Y0.mk hI
 have HK := Y0.mk (Y3.refl w g none)
 have HL := Y0.mk hB.size
 clear hI
 have HW0 := Y0.mk hB.size
 have HB := Y0.mk hB
 clear hB
 have H : ((Yd.f k s0_0 s0_1 s0_2 s0_3).bind fun bt101 => (if bt101.1 = 60 then (if 0 ≤ (wrap64 (bt101.2.2.1 + 1)) then (if (wrap64 (bt101.2.2.1 + 1)) ≤ (bt101.2.1.size : Int) then ((strings_Cut.f (bt101.2.1.extract ((wrap64 (bt101.2.2.1 + 1)) : Int).toNat bt101.2.1.size) (⟨#[62]⟩ : ByteArray)).bind fun bt118 => (if bt118.2.2 = true then ((YN.f bt118.1).bind fun t121 => (if t121 = true then (some (bt118.1, bt101.2.1, wrap64 (bt101.2.2.1 + (wrap64 ((bt118.1.size : Int) + 2))), bt101.2.2.2.1, bt101.2.2.2.2)) else ((Yc.f bt101.2.1 bt101.2.2.1 bt101.2.2.2.1 bt101.2.2.2.2 bt101.2.2.1 2).bind fun bt122 => (some ((⟨#[]⟩ : ByteArray), bt122.2.2.2.2.1, bt122.2.2.2.2.2.1, bt122.2.2.2.2.2.2.1, bt122.2.2.2.2.2.2.2))))) else ((Yc.f bt101.2.1 bt101.2.2.1 bt101.2.2.2.1 bt101.2.2.2.2 bt101.2.2.1 2).bind fun bt134 => (some ((⟨#[]⟩ : ByteArray), bt134.2.2.2.2.1, bt134.2.2.2.2.2.1, bt134.2.2.2.2.2.2.1, bt134.2.2.2.2.2.2.2))))) else (none)) else (none)) else ((Yc.f bt101.2.1 bt101.2.2.1 bt101.2.2.2.1 bt101.2.2.2.2 bt101.2.2.1 2).bind fun bt106 => (some ((⟨#[]⟩ : ByteArray), bt106.2.2.2.2.1, bt106.2.2.2.2.2.1, bt106.2.2.2.2.2.2.1, bt106.2.2.2.2.2.2.2))))) = some (r1, r2, r3, r4, r5) := h
 clear h
 replace H := Option.bind_eq_some_iff.mp H
 obtain ⟨⟨t101, t102, t103, t104, t105⟩, A20, H⟩ := H
 replace H : (if t101 = 60 then (if 0 ≤ (wrap64 (t103 + 1)) then (if (wrap64 (t103 + 1)) ≤ (t102.size : Int) then ((strings_Cut.f (t102.extract ((wrap64 (t103 + 1)) : Int).toNat t102.size) (⟨#[62]⟩ : ByteArray)).bind fun bt118 => (if bt118.2.2 = true then ((YN.f bt118.1).bind fun t121 => (if t121 = true then (some (bt118.1, t102, wrap64 (t103 + (wrap64 ((bt118.1.size : Int) + 2))), t104, t105)) else ((Yc.f t102 t103 t104 t105 t103 2).bind fun bt122 => (some ((⟨#[]⟩ : ByteArray), bt122.2.2.2.2.1, bt122.2.2.2.2.2.1, bt122.2.2.2.2.2.2.1, bt122.2.2.2.2.2.2.2))))) else ((Yc.f t102 t103 t104 t105 t103 2).bind fun bt134 => (some ((⟨#[]⟩ : ByteArray), bt134.2.2.2.2.1, bt134.2.2.2.2.2.1, bt134.2.2.2.2.2.2.1, bt134.2.2.2.2.2.2.2))))) else (none)) else (none)) else ((Yc.f t102 t103 t104 t105 t103 2).bind fun bt106 => (some ((⟨#[]⟩ : ByteArray), bt106.2.2.2.2.1, bt106.2.2.2.2.2.1, bt106.2.2.2.2.2.2.1, bt106.2.2.2.2.2.2.2)))) = some (r1, r2, r3, r4, r5) := H
 have A2 := Y0.mk A20
 clear A20
 by_cases c3 : t101 = 60
 ·rw [if_pos c3] at H
  have c3b0 : (t101 == 60) = true := beq_iff_eq.mpr c3
  have c3b1 : (t101 != 60) = false := bne_eq_false_iff_eq.mpr c3
  clear c3
  obtain ⟨ji4, hji4⟩ : ∃ j_ : Int, (wrap64 (t103 + 1)) = j_ := ⟨_, rfl⟩
  replace H : (if 0 ≤ (ji4) then (if (ji4) ≤ (t102.size : Int) then ((strings_Cut.f (t102.extract ((ji4) : Int).toNat t102.size) (⟨#[62]⟩ : ByteArray)).bind fun bt118 => (if bt118.2.2 = true then ((YN.f bt118.1).bind fun t121 => (if t121 = true then (some (bt118.1, t102, wrap64 (t103 + (wrap64 ((bt118.1.size : Int) + 2))), t104, t105)) else ((Yc.f t102 t103 t104 t105 t103 2).bind fun bt122 => (some ((⟨#[]⟩ : ByteArray), bt122.2.2.2.2.1, bt122.2.2.2.2.2.1, bt122.2.2.2.2.2.2.1, bt122.2.2.2.2.2.2.2))))) else ((Yc.f t102 t103 t104 t105 t103 2).bind fun bt134 => (some ((⟨#[]⟩ : ByteArray), bt134.2.2.2.2.1, bt134.2.2.2.2.2.1, bt134.2.2.2.2.2.2.1, bt134.2.2.2.2.2.2.2))))) else (none)) else (none)) = some (r1, r2, r3, r4, r5) := by first | (rw [hji4] at H; exact H) | (simp only [hji4] at H ⊢; exact H)
  (try rw [hji4] at A2)
  have hji4w : (IntKind.i64.wrap (t103 + 1)) = ji4 := (Y13 _).trans hji4
  by_cases c5 : 0 ≤ (ji4)
  ·rw [if_pos c5] at H
   have c5b0 := eq_true c5
   have c5b1 : decide (0 ≤ (ji4)) = true := decide_eq_true c5
   clear c5
   by_cases c6 : (ji4) ≤ (t102.size : Int)
   ·rw [if_pos c6] at H
    have c6b0 := eq_true c6
    have c6b1 : decide ((ji4) ≤ (t102.size : Int)) = true := decide_eq_true c6
    clear c6
    replace H := Option.bind_eq_some_iff.mp H
    obtain ⟨⟨t118, t119, t120⟩, A70, H⟩ := H
    replace H : (if t120 = true then ((YN.f t118).bind fun t121 => (if t121 = true then (some (t118, t102, wrap64 (t103 + (wrap64 ((t118.size : Int) + 2))), t104, t105)) else ((Yc.f t102 t103 t104 t105 t103 2).bind fun bt122 => (some ((⟨#[]⟩ : ByteArray), bt122.2.2.2.2.1, bt122.2.2.2.2.2.1, bt122.2.2.2.2.2.2.1, bt122.2.2.2.2.2.2.2))))) else ((Yc.f t102 t103 t104 t105 t103 2).bind fun bt134 => (some ((⟨#[]⟩ : ByteArray), bt134.2.2.2.2.1, bt134.2.2.2.2.2.1, bt134.2.2.2.2.2.2.1, bt134.2.2.2.2.2.2.2)))) = some (r1, r2, r3, r4, r5) := H
    have A7 := Y0.mk A70
    clear A70
    by_cases c8 : t120 = true
    ·subst c8
     have H1 : ((YN.f t118).bind fun t121 => (if t121 = true then (some (t118, t102, wrap64 (t103 + (wrap64 ((t118.size : Int) + 2))), t104, t105)) else ((Yc.f t102 t103 t104 t105 t103 2).bind fun bt122 => (some ((⟨#[]⟩ : ByteArray), bt122.2.2.2.2.1, bt122.2.2.2.2.2.1, bt122.2.2.2.2.2.2.1, bt122.2.2.2.2.2.2.2))))) = some (r1, r2, r3, r4, r5) := by rw [if_pos rfl] at H; exact H
     clear H
     have H := H1
     clear H1
     replace H := Option.bind_eq_some_iff.mp H
     obtain ⟨t121, A90, H⟩ := H
     replace H : (if t121 = true then (some (t118, t102, wrap64 (t103 + (wrap64 ((t118.size : Int) + 2))), t104, t105)) else ((Yc.f t102 t103 t104 t105 t103 2).bind fun bt122 => (some ((⟨#[]⟩ : ByteArray), bt122.2.2.2.2.1, bt122.2.2.2.2.2.1, bt122.2.2.2.2.2.2.1, bt122.2.2.2.2.2.2.2)))) = some (r1, r2, r3, r4, r5) := H
     have A9 := Y0.mk A90
     clear A90
     by_cases c10 : t121 = true
     ·subst c10
      have H1 : (some (t118, t102, wrap64 (t103 + (wrap64 ((t118.size : Int) + 2))), t104, t105)) = some (r1, r2, r3, r4, r5) := by rw [if_pos rfl] at H; exact H
      clear H
      have H := H1
      clear H1
      simp only [Option.some.injEq, Prod.mk.injEq] at H
      obtain ⟨rfl, rfl, rfl, rfl, rfl⟩ := H
      go_enter Tryd.func140, Tryd.ntmps140
      go_wp2_with (first | (go_at_call 53; (with_reducible refine (Yd.calls k g s0_0 s0_1 s0_2 s0_3 t101 t102 t103 t104 t105 w0 _ ?side1 ?side2 A2.out).mono ?_); (case side1 => exact Z1r); (case side2 => exact QB); rintro e w11 ⟨rfl, hi, hb, hk⟩; have n_ := Y1P (Y3.trans QK hk (.inl rfl)) (hb) (hi); clear HK HB HI0; obtain ⟨HK, HB, HI0⟩ := n_; (try clear hb); (try clear hb2); (try clear hk); (try clear hi); obtain ⟨HGz12, hgz12⟩ := HI0.out; have hcz12_0 := Yz HGz12; have hcz12_1 := YA HGz12; have hcz12_2 := YB HGz12; have hcz12_3 := YC HGz12; have hfz12_0 := Y4 HGz12 0; have hfz12_1 := Y4 HGz12 1; have hfz12_2 := Y4 HGz12 2; have hfz12_3 := Y4 HGz12 3; clear HGz12 hgz12) | (go_at_call 145; (with_reducible refine (strings_Cut.calls (t102.extract ((ji4) : Int).toNat t102.size) (⟨#[62]⟩ : ByteArray) t118 t119 true _ ?side1 A7.out).mono ?_); (case side1 => exact Z3); rintro e w' ⟨rfl, ⟨nd, rfl⟩⟩; (try first | exact ⟨rfl, _, World.drewN_drewN _ _ _⟩ | exact ⟨rfl, _, Eq.trans (World.drewN_drewN _ _ _) (congrArg (World.drewN _) (Nat.add_assoc _ _ _))⟩)) | (go_at_call 39; (with_reducible refine (YN.calls t118 true _ ?side1 A9.out).mono ?_); (case side1 => exact Z3); rintro e w13 ⟨rfl, hb⟩; have n_ := Y1P (Yf.below QI75_0 hb) (Y3.trans QK (Y3.of_below hb g none) (.inl rfl)) (Y6 QB hb); clear HI0 HK HB; obtain ⟨HI0, HK, HB⟩ := n_; (try clear hb); (try clear hb2); (try clear hk); (try clear hi); obtain ⟨HGz14, hgz14⟩ := HI0.out; have hcz14_0 := Yz HGz14; have hcz14_1 := YA HGz14; have hcz14_2 := YB HGz14; have hcz14_3 := YC HGz14; have hfz14_0 := Y4 HGz14 0; have hfz14_1 := Y4 HGz14 1; have hfz14_2 := Y4 HGz14 2; have hfz14_3 := Y4 HGz14 3; clear HGz14 hgz14))
      repeat (go_quiet (first | (go_at_call 53; (with_reducible refine (Yd.calls k g s0_0 s0_1 s0_2 s0_3 t101 t102 t103 t104 t105 w0 _ ?side1 ?side2 A2.out).mono ?_); (case side1 => exact Z1r); (case side2 => exact QB); rintro e w11 ⟨rfl, hi, hb, hk⟩; have n_ := Y1P (Y3.trans QK hk (.inl rfl)) (hb) (hi); clear HK HB HI0; obtain ⟨HK, HB, HI0⟩ := n_; (try clear hb); (try clear hb2); (try clear hk); (try clear hi); obtain ⟨HGz12, hgz12⟩ := HI0.out; have hcz12_0 := Yz HGz12; have hcz12_1 := YA HGz12; have hcz12_2 := YB HGz12; have hcz12_3 := YC HGz12; have hfz12_0 := Y4 HGz12 0; have hfz12_1 := Y4 HGz12 1; have hfz12_2 := Y4 HGz12 2; have hfz12_3 := Y4 HGz12 3; clear HGz12 hgz12) | (go_at_call 145; (with_reducible refine (strings_Cut.calls (t102.extract ((ji4) : Int).toNat t102.size) (⟨#[62]⟩ : ByteArray) t118 t119 true _ ?side1 A7.out).mono ?_); (case side1 => exact Z3); rintro e w' ⟨rfl, ⟨nd, rfl⟩⟩; (try first | exact ⟨rfl, _, World.drewN_drewN _ _ _⟩ | exact ⟨rfl, _, Eq.trans (World.drewN_drewN _ _ _) (congrArg (World.drewN _) (Nat.add_assoc _ _ _))⟩)) | (go_at_call 39; (with_reducible refine (YN.calls t118 true _ ?side1 A9.out).mono ?_); (case side1 => exact Z3); rintro e w13 ⟨rfl, hb⟩; have n_ := Y1P (Yf.below QI75_0 hb) (Y3.trans QK (Y3.of_below hb g none) (.inl rfl)) (Y6 QB hb); clear HI0 HK HB; obtain ⟨HI0, HK, HB⟩ := n_; (try clear hb); (try clear hb2); (try clear hk); (try clear hi); obtain ⟨HGz14, hgz14⟩ := HI0.out; have hcz14_0 := Yz HGz14; have hcz14_1 := YA HGz14; have hcz14_2 := YB HGz14; have hcz14_3 := YC HGz14; have hfz14_0 := Y4 HGz14 0; have hfz14_1 := Y4 HGz14 1; have hfz14_2 := Y4 HGz14 2; have hfz14_3 := Y4 HGz14 3; clear HGz14 hgz14)); try go_wp2_with (first | (go_at_call 53; (with_reducible refine (Yd.calls k g s0_0 s0_1 s0_2 s0_3 t101 t102 t103 t104 t105 w0 _ ?side1 ?side2 A2.out).mono ?_); (case side1 => exact Z1r); (case side2 => exact QB); rintro e w11 ⟨rfl, hi, hb, hk⟩; have n_ := Y1P (Y3.trans QK hk (.inl rfl)) (hb) (hi); clear HK HB HI0; obtain ⟨HK, HB, HI0⟩ := n_; (try clear hb); (try clear hb2); (try clear hk); (try clear hi); obtain ⟨HGz12, hgz12⟩ := HI0.out; have hcz12_0 := Yz HGz12; have hcz12_1 := YA HGz12; have hcz12_2 := YB HGz12; have hcz12_3 := YC HGz12; have hfz12_0 := Y4 HGz12 0; have hfz12_1 := Y4 HGz12 1; have hfz12_2 := Y4 HGz12 2; have hfz12_3 := Y4 HGz12 3; clear HGz12 hgz12) | (go_at_call 145; (with_reducible refine (strings_Cut.calls (t102.extract ((ji4) : Int).toNat t102.size) (⟨#[62]⟩ : ByteArray) t118 t119 true _ ?side1 A7.out).mono ?_); (case side1 => exact Z3); rintro e w' ⟨rfl, ⟨nd, rfl⟩⟩; (try first | exact ⟨rfl, _, World.drewN_drewN _ _ _⟩ | exact ⟨rfl, _, Eq.trans (World.drewN_drewN _ _ _) (congrArg (World.drewN _) (Nat.add_assoc _ _ _))⟩)) | (go_at_call 39; (with_reducible refine (YN.calls t118 true _ ?side1 A9.out).mono ?_); (case side1 => exact Z3); rintro e w13 ⟨rfl, hb⟩; have n_ := Y1P (Yf.below QI75_0 hb) (Y3.trans QK (Y3.of_below hb g none) (.inl rfl)) (Y6 QB hb); clear HI0 HK HB; obtain ⟨HI0, HK, HB⟩ := n_; (try clear hb); (try clear hb2); (try clear hk); (try clear hi); obtain ⟨HGz14, hgz14⟩ := HI0.out; have hcz14_0 := Yz HGz14; have hcz14_1 := YA HGz14; have hcz14_2 := YB HGz14; have hcz14_3 := YC HGz14; have hfz14_0 := Y4 HGz14 0; have hfz14_1 := Y4 HGz14 1; have hfz14_2 := Y4 HGz14 2; have hfz14_3 := Y4 HGz14 3; clear HGz14 hgz14)))
      go_ret
      exact Z1g
     ·replace c10 := Bool.eq_false_iff.mpr c10
      subst c10
      have H1 : ((Yc.f t102 t103 t104 t105 t103 2).bind fun bt122 => (some ((⟨#[]⟩ : ByteArray), bt122.2.2.2.2.1, bt122.2.2.2.2.2.1, bt122.2.2.2.2.2.2.1, bt122.2.2.2.2.2.2.2))) = some (r1, r2, r3, r4, r5) := by rw [if_neg (show ¬ (false = true) by decide)] at H; exact H
      clear H
      have H := H1
      clear H1
      replace H := Option.bind_eq_some_iff.mp H
      obtain ⟨⟨t122, t123, t124, t127, t130, t131, t132, t133⟩, A150, H⟩ := H
      replace H : (some ((⟨#[]⟩ : ByteArray), t130, t131, t132, t133)) = some (r1, r2, r3, r4, r5) := H
      have A15 := Y0.mk A150
      clear A150
      simp only [Option.some.injEq, Prod.mk.injEq] at H
      obtain ⟨rfl, rfl, rfl, rfl, rfl⟩ := H
      go_enter Tryd.func140, Tryd.ntmps140
      go_wp2_with (first | (go_at_call 53; (with_reducible refine (Yd.calls k g s0_0 s0_1 s0_2 s0_3 t101 t102 t103 t104 t105 w0 _ ?side1 ?side2 A2.out).mono ?_); (case side1 => exact Z1r); (case side2 => exact QB); rintro e w16 ⟨rfl, hi, hb, hk⟩; have n_ := Y1P (Y3.trans QK hk (.inl rfl)) (hb) (hi); clear HK HB HI0; obtain ⟨HK, HB, HI0⟩ := n_; (try clear hb); (try clear hb2); (try clear hk); (try clear hi); obtain ⟨HGz17, hgz17⟩ := HI0.out; have hcz17_0 := Yz HGz17; have hcz17_1 := YA HGz17; have hcz17_2 := YB HGz17; have hcz17_3 := YC HGz17; have hfz17_0 := Y4 HGz17 0; have hfz17_1 := Y4 HGz17 1; have hfz17_2 := Y4 HGz17 2; have hfz17_3 := Y4 HGz17 3; clear HGz17 hgz17) | (go_at_call 145; (with_reducible refine (strings_Cut.calls (t102.extract ((ji4) : Int).toNat t102.size) (⟨#[62]⟩ : ByteArray) t118 t119 true _ ?side1 A7.out).mono ?_); (case side1 => exact Z3); rintro e w' ⟨rfl, ⟨nd, rfl⟩⟩; (try first | exact ⟨rfl, _, World.drewN_drewN _ _ _⟩ | exact ⟨rfl, _, Eq.trans (World.drewN_drewN _ _ _) (congrArg (World.drewN _) (Nat.add_assoc _ _ _))⟩)) | (go_at_call 39; (with_reducible refine (YN.calls t118 false _ ?side1 A9.out).mono ?_); (case side1 => exact Z3); rintro e w18 ⟨rfl, hb⟩; have n_ := Y1P (Yf.below QI75_0 hb) (Y3.trans QK (Y3.of_below hb g none) (.inl rfl)) (Y6 QB hb); clear HI0 HK HB; obtain ⟨HI0, HK, HB⟩ := n_; (try clear hb); (try clear hb2); (try clear hk); (try clear hi); obtain ⟨HGz19, hgz19⟩ := HI0.out; have hcz19_0 := Yz HGz19; have hcz19_1 := YA HGz19; have hcz19_2 := YB HGz19; have hcz19_3 := YC HGz19; have hfz19_0 := Y4 HGz19 0; have hfz19_1 := Y4 HGz19 1; have hfz19_2 := Y4 HGz19 2; have hfz19_3 := Y4 HGz19 3; clear HGz19 hgz19) | (go_at_call 54; (with_reducible refine (Yc.calls g t102 t103 t104 t105 t103 2 t122 t123 t124 t127 t130 t131 t132 t133 w0 _ ?side1 ?side2 A15.out).mono ?_); (case side1 => exact Z1r); (case side2 => exact QB); rintro e w20 ⟨v125, v128, rfl, ho0, ho1, hi, hb, hk⟩; have n_ := Y3p (Kd.R_lower (Kd.R_mono (ok' := fun k_ => True) ho0 (fun _ hk_ => trivial)) (Yb (w := w) (g := g) (row := none) QK)) (Kd.N_lower (Kd.N_mono (ok' := fun k_ => some k_ ≠ (v125 : Value).ownBlock ∧ k_ ≠ g) ho1 (fun k_ hk_ => ⟨hk_.2, (Yf.fresh QI75_0 k_ hk_.1)⟩)) (Yb (w := w) (g := g) (row := none) QK)) (Y3.trans QK hk (.inl rfl)) (hb) (hi); clear HK HB HI0; obtain ⟨HO126, HO129, HK, HB, HI0⟩ := n_; (try clear hb); (try clear hb2); (try clear hk); (try clear hi); (try clear ho0); (try clear ho1)))
      repeat (go_quiet (first | (go_at_call 53; (with_reducible refine (Yd.calls k g s0_0 s0_1 s0_2 s0_3 t101 t102 t103 t104 t105 w0 _ ?side1 ?side2 A2.out).mono ?_); (case side1 => exact Z1r); (case side2 => exact QB); rintro e w16 ⟨rfl, hi, hb, hk⟩; have n_ := Y1P (Y3.trans QK hk (.inl rfl)) (hb) (hi); clear HK HB HI0; obtain ⟨HK, HB, HI0⟩ := n_; (try clear hb); (try clear hb2); (try clear hk); (try clear hi); obtain ⟨HGz17, hgz17⟩ := HI0.out; have hcz17_0 := Yz HGz17; have hcz17_1 := YA HGz17; have hcz17_2 := YB HGz17; have hcz17_3 := YC HGz17; have hfz17_0 := Y4 HGz17 0; have hfz17_1 := Y4 HGz17 1; have hfz17_2 := Y4 HGz17 2; have hfz17_3 := Y4 HGz17 3; clear HGz17 hgz17) | (go_at_call 145; (with_reducible refine (strings_Cut.calls (t102.extract ((ji4) : Int).toNat t102.size) (⟨#[62]⟩ : ByteArray) t118 t119 true _ ?side1 A7.out).mono ?_); (case side1 => exact Z3); rintro e w' ⟨rfl, ⟨nd, rfl⟩⟩; (try first | exact ⟨rfl, _, World.drewN_drewN _ _ _⟩ | exact ⟨rfl, _, Eq.trans (World.drewN_drewN _ _ _) (congrArg (World.drewN _) (Nat.add_assoc _ _ _))⟩)) | (go_at_call 39; (with_reducible refine (YN.calls t118 false _ ?side1 A9.out).mono ?_); (case side1 => exact Z3); rintro e w18 ⟨rfl, hb⟩; have n_ := Y1P (Yf.below QI75_0 hb) (Y3.trans QK (Y3.of_below hb g none) (.inl rfl)) (Y6 QB hb); clear HI0 HK HB; obtain ⟨HI0, HK, HB⟩ := n_; (try clear hb); (try clear hb2); (try clear hk); (try clear hi); obtain ⟨HGz19, hgz19⟩ := HI0.out; have hcz19_0 := Yz HGz19; have hcz19_1 := YA HGz19; have hcz19_2 := YB HGz19; have hcz19_3 := YC HGz19; have hfz19_0 := Y4 HGz19 0; have hfz19_1 := Y4 HGz19 1; have hfz19_2 := Y4 HGz19 2; have hfz19_3 := Y4 HGz19 3; clear HGz19 hgz19) | (go_at_call 54; (with_reducible refine (Yc.calls g t102 t103 t104 t105 t103 2 t122 t123 t124 t127 t130 t131 t132 t133 w0 _ ?side1 ?side2 A15.out).mono ?_); (case side1 => exact Z1r); (case side2 => exact QB); rintro e w20 ⟨v125, v128, rfl, ho0, ho1, hi, hb, hk⟩; have n_ := Y3p (Kd.R_lower (Kd.R_mono (ok' := fun k_ => True) ho0 (fun _ hk_ => trivial)) (Yb (w := w) (g := g) (row := none) QK)) (Kd.N_lower (Kd.N_mono (ok' := fun k_ => some k_ ≠ (v125 : Value).ownBlock ∧ k_ ≠ g) ho1 (fun k_ hk_ => ⟨hk_.2, (Yf.fresh QI75_0 k_ hk_.1)⟩)) (Yb (w := w) (g := g) (row := none) QK)) (Y3.trans QK hk (.inl rfl)) (hb) (hi); clear HK HB HI0; obtain ⟨HO126, HO129, HK, HB, HI0⟩ := n_; (try clear hb); (try clear hb2); (try clear hk); (try clear hi); (try clear ho0); (try clear ho1))); try go_wp2_with (first | (go_at_call 53; (with_reducible refine (Yd.calls k g s0_0 s0_1 s0_2 s0_3 t101 t102 t103 t104 t105 w0 _ ?side1 ?side2 A2.out).mono ?_); (case side1 => exact Z1r); (case side2 => exact QB); rintro e w16 ⟨rfl, hi, hb, hk⟩; have n_ := Y1P (Y3.trans QK hk (.inl rfl)) (hb) (hi); clear HK HB HI0; obtain ⟨HK, HB, HI0⟩ := n_; (try clear hb); (try clear hb2); (try clear hk); (try clear hi); obtain ⟨HGz17, hgz17⟩ := HI0.out; have hcz17_0 := Yz HGz17; have hcz17_1 := YA HGz17; have hcz17_2 := YB HGz17; have hcz17_3 := YC HGz17; have hfz17_0 := Y4 HGz17 0; have hfz17_1 := Y4 HGz17 1; have hfz17_2 := Y4 HGz17 2; have hfz17_3 := Y4 HGz17 3; clear HGz17 hgz17) | (go_at_call 145; (with_reducible refine (strings_Cut.calls (t102.extract ((ji4) : Int).toNat t102.size) (⟨#[62]⟩ : ByteArray) t118 t119 true _ ?side1 A7.out).mono ?_); (case side1 => exact Z3); rintro e w' ⟨rfl, ⟨nd, rfl⟩⟩; (try first | exact ⟨rfl, _, World.drewN_drewN _ _ _⟩ | exact ⟨rfl, _, Eq.trans (World.drewN_drewN _ _ _) (congrArg (World.drewN _) (Nat.add_assoc _ _ _))⟩)) | (go_at_call 39; (with_reducible refine (YN.calls t118 false _ ?side1 A9.out).mono ?_); (case side1 => exact Z3); rintro e w18 ⟨rfl, hb⟩; have n_ := Y1P (Yf.below QI75_0 hb) (Y3.trans QK (Y3.of_below hb g none) (.inl rfl)) (Y6 QB hb); clear HI0 HK HB; obtain ⟨HI0, HK, HB⟩ := n_; (try clear hb); (try clear hb2); (try clear hk); (try clear hi); obtain ⟨HGz19, hgz19⟩ := HI0.out; have hcz19_0 := Yz HGz19; have hcz19_1 := YA HGz19; have hcz19_2 := YB HGz19; have hcz19_3 := YC HGz19; have hfz19_0 := Y4 HGz19 0; have hfz19_1 := Y4 HGz19 1; have hfz19_2 := Y4 HGz19 2; have hfz19_3 := Y4 HGz19 3; clear HGz19 hgz19) | (go_at_call 54; (with_reducible refine (Yc.calls g t102 t103 t104 t105 t103 2 t122 t123 t124 t127 t130 t131 t132 t133 w0 _ ?side1 ?side2 A15.out).mono ?_); (case side1 => exact Z1r); (case side2 => exact QB); rintro e w20 ⟨v125, v128, rfl, ho0, ho1, hi, hb, hk⟩; have n_ := Y3p (Kd.R_lower (Kd.R_mono (ok' := fun k_ => True) ho0 (fun _ hk_ => trivial)) (Yb (w := w) (g := g) (row := none) QK)) (Kd.N_lower (Kd.N_mono (ok' := fun k_ => some k_ ≠ (v125 : Value).ownBlock ∧ k_ ≠ g) ho1 (fun k_ hk_ => ⟨hk_.2, (Yf.fresh QI75_0 k_ hk_.1)⟩)) (Yb (w := w) (g := g) (row := none) QK)) (Y3.trans QK hk (.inl rfl)) (hb) (hi); clear HK HB HI0; obtain ⟨HO126, HO129, HK, HB, HI0⟩ := n_; (try clear hb); (try clear hb2); (try clear hk); (try clear hi); (try clear ho0); (try clear ho1))))
      go_ret
      exact Z1g
    ·replace c8 := Bool.eq_false_iff.mpr c8
     subst c8
     have H1 : ((Yc.f t102 t103 t104 t105 t103 2).bind fun bt134 => (some ((⟨#[]⟩ : ByteArray), bt134.2.2.2.2.1, bt134.2.2.2.2.2.1, bt134.2.2.2.2.2.2.1, bt134.2.2.2.2.2.2.2))) = some (r1, r2, r3, r4, r5) := by rw [if_neg (show ¬ (false = true) by decide)] at H; exact H
     clear H
     have H := H1
     clear H1
     replace H := Option.bind_eq_some_iff.mp H
     obtain ⟨⟨t134, t135, t136, t139, t142, t143, t144, t145⟩, A210, H⟩ := H
     replace H : (some ((⟨#[]⟩ : ByteArray), t142, t143, t144, t145)) = some (r1, r2, r3, r4, r5) := H
     have A21 := Y0.mk A210
     clear A210
     simp only [Option.some.injEq, Prod.mk.injEq] at H
     obtain ⟨rfl, rfl, rfl, rfl, rfl⟩ := H
     go_enter Tryd.func140, Tryd.ntmps140
     go_wp2_with (first | (go_at_call 53; (with_reducible refine (Yd.calls k g s0_0 s0_1 s0_2 s0_3 t101 t102 t103 t104 t105 w0 _ ?side1 ?side2 A2.out).mono ?_); (case side1 => exact Z1r); (case side2 => exact QB); rintro e w22 ⟨rfl, hi, hb, hk⟩; have n_ := Y1P (Y3.trans QK hk (.inl rfl)) (hb) (hi); clear HK HB HI0; obtain ⟨HK, HB, HI0⟩ := n_; (try clear hb); (try clear hb2); (try clear hk); (try clear hi); obtain ⟨HGz23, hgz23⟩ := HI0.out; have hcz23_0 := Yz HGz23; have hcz23_1 := YA HGz23; have hcz23_2 := YB HGz23; have hcz23_3 := YC HGz23; have hfz23_0 := Y4 HGz23 0; have hfz23_1 := Y4 HGz23 1; have hfz23_2 := Y4 HGz23 2; have hfz23_3 := Y4 HGz23 3; clear HGz23 hgz23) | (go_at_call 145; (with_reducible refine (strings_Cut.calls (t102.extract ((ji4) : Int).toNat t102.size) (⟨#[62]⟩ : ByteArray) t118 t119 false _ ?side1 A7.out).mono ?_); (case side1 => exact Z3); rintro e w' ⟨rfl, ⟨nd, rfl⟩⟩; (try first | exact ⟨rfl, _, World.drewN_drewN _ _ _⟩ | exact ⟨rfl, _, Eq.trans (World.drewN_drewN _ _ _) (congrArg (World.drewN _) (Nat.add_assoc _ _ _))⟩)) | (go_at_call 54; (with_reducible refine (Yc.calls g t102 t103 t104 t105 t103 2 t134 t135 t136 t139 t142 t143 t144 t145 w0 _ ?side1 ?side2 A21.out).mono ?_); (case side1 => exact Z1r); (case side2 => exact QB); rintro e w24 ⟨v137, v140, rfl, ho0, ho1, hi, hb, hk⟩; have n_ := Y3p (Kd.R_lower (Kd.R_mono (ok' := fun k_ => True) ho0 (fun _ hk_ => trivial)) (Yb (w := w) (g := g) (row := none) QK)) (Kd.N_lower (Kd.N_mono (ok' := fun k_ => some k_ ≠ (v137 : Value).ownBlock ∧ k_ ≠ g) ho1 (fun k_ hk_ => ⟨hk_.2, (Yf.fresh QI75_0 k_ hk_.1)⟩)) (Yb (w := w) (g := g) (row := none) QK)) (Y3.trans QK hk (.inl rfl)) (hb) (hi); clear HK HB HI0; obtain ⟨HO138, HO141, HK, HB, HI0⟩ := n_; (try clear hb); (try clear hb2); (try clear hk); (try clear hi); (try clear ho0); (try clear ho1)))
     repeat (go_quiet (first | (go_at_call 53; (with_reducible refine (Yd.calls k g s0_0 s0_1 s0_2 s0_3 t101 t102 t103 t104 t105 w0 _ ?side1 ?side2 A2.out).mono ?_); (case side1 => exact Z1r); (case side2 => exact QB); rintro e w22 ⟨rfl, hi, hb, hk⟩; have n_ := Y1P (Y3.trans QK hk (.inl rfl)) (hb) (hi); clear HK HB HI0; obtain ⟨HK, HB, HI0⟩ := n_; (try clear hb); (try clear hb2); (try clear hk); (try clear hi); obtain ⟨HGz23, hgz23⟩ := HI0.out; have hcz23_0 := Yz HGz23; have hcz23_1 := YA HGz23; have hcz23_2 := YB HGz23; have hcz23_3 := YC HGz23; have hfz23_0 := Y4 HGz23 0; have hfz23_1 := Y4 HGz23 1; have hfz23_2 := Y4 HGz23 2; have hfz23_3 := Y4 HGz23 3; clear HGz23 hgz23) | (go_at_call 145; (with_reducible refine (strings_Cut.calls (t102.extract ((ji4) : Int).toNat t102.size) (⟨#[62]⟩ : ByteArray) t118 t119 false _ ?side1 A7.out).mono ?_); (case side1 => exact Z3); rintro e w' ⟨rfl, ⟨nd, rfl⟩⟩; (try first | exact ⟨rfl, _, World.drewN_drewN _ _ _⟩ | exact ⟨rfl, _, Eq.trans (World.drewN_drewN _ _ _) (congrArg (World.drewN _) (Nat.add_assoc _ _ _))⟩)) | (go_at_call 54; (with_reducible refine (Yc.calls g t102 t103 t104 t105 t103 2 t134 t135 t136 t139 t142 t143 t144 t145 w0 _ ?side1 ?side2 A21.out).mono ?_); (case side1 => exact Z1r); (case side2 => exact QB); rintro e w24 ⟨v137, v140, rfl, ho0, ho1, hi, hb, hk⟩; have n_ := Y3p (Kd.R_lower (Kd.R_mono (ok' := fun k_ => True) ho0 (fun _ hk_ => trivial)) (Yb (w := w) (g := g) (row := none) QK)) (Kd.N_lower (Kd.N_mono (ok' := fun k_ => some k_ ≠ (v137 : Value).ownBlock ∧ k_ ≠ g) ho1 (fun k_ hk_ => ⟨hk_.2, (Yf.fresh QI75_0 k_ hk_.1)⟩)) (Yb (w := w) (g := g) (row := none) QK)) (Y3.trans QK hk (.inl rfl)) (hb) (hi); clear HK HB HI0; obtain ⟨HO138, HO141, HK, HB, HI0⟩ := n_; (try clear hb); (try clear hb2); (try clear hk); (try clear hi); (try clear ho0); (try clear ho1))); try go_wp2_with (first | (go_at_call 53; (with_reducible refine (Yd.calls k g s0_0 s0_1 s0_2 s0_3 t101 t102 t103 t104 t105 w0 _ ?side1 ?side2 A2.out).mono ?_); (case side1 => exact Z1r); (case side2 => exact QB); rintro e w22 ⟨rfl, hi, hb, hk⟩; have n_ := Y1P (Y3.trans QK hk (.inl rfl)) (hb) (hi); clear HK HB HI0; obtain ⟨HK, HB, HI0⟩ := n_; (try clear hb); (try clear hb2); (try clear hk); (try clear hi); obtain ⟨HGz23, hgz23⟩ := HI0.out; have hcz23_0 := Yz HGz23; have hcz23_1 := YA HGz23; have hcz23_2 := YB HGz23; have hcz23_3 := YC HGz23; have hfz23_0 := Y4 HGz23 0; have hfz23_1 := Y4 HGz23 1; have hfz23_2 := Y4 HGz23 2; have hfz23_3 := Y4 HGz23 3; clear HGz23 hgz23) | (go_at_call 145; (with_reducible refine (strings_Cut.calls (t102.extract ((ji4) : Int).toNat t102.size) (⟨#[62]⟩ : ByteArray) t118 t119 false _ ?side1 A7.out).mono ?_); (case side1 => exact Z3); rintro e w' ⟨rfl, ⟨nd, rfl⟩⟩; (try first | exact ⟨rfl, _, World.drewN_drewN _ _ _⟩ | exact ⟨rfl, _, Eq.trans (World.drewN_drewN _ _ _) (congrArg (World.drewN _) (Nat.add_assoc _ _ _))⟩)) | (go_at_call 54; (with_reducible refine (Yc.calls g t102 t103 t104 t105 t103 2 t134 t135 t136 t139 t142 t143 t144 t145 w0 _ ?side1 ?side2 A21.out).mono ?_); (case side1 => exact Z1r); (case side2 => exact QB); rintro e w24 ⟨v137, v140, rfl, ho0, ho1, hi, hb, hk⟩; have n_ := Y3p (Kd.R_lower (Kd.R_mono (ok' := fun k_ => True) ho0 (fun _ hk_ => trivial)) (Yb (w := w) (g := g) (row := none) QK)) (Kd.N_lower (Kd.N_mono (ok' := fun k_ => some k_ ≠ (v137 : Value).ownBlock ∧ k_ ≠ g) ho1 (fun k_ hk_ => ⟨hk_.2, (Yf.fresh QI75_0 k_ hk_.1)⟩)) (Yb (w := w) (g := g) (row := none) QK)) (Y3.trans QK hk (.inl rfl)) (hb) (hi); clear HK HB HI0; obtain ⟨HO138, HO141, HK, HB, HI0⟩ := n_; (try clear hb); (try clear hb2); (try clear hk); (try clear hi); (try clear ho0); (try clear ho1))))
     go_ret
     exact Z1g
   ·rw [if_neg c6] at H
    exact ZH
  ·rw [if_neg c5] at H
   exact ZH
 ·rw [if_neg c3] at H
  have c3b0 : (t101 == 60) = false := beq_eq_false_iff_ne.mpr c3
  have c3b1 : (t101 != 60) = true := bne_iff_ne.mpr c3
  replace H := Option.bind_eq_some_iff.mp H
  obtain ⟨⟨t106, t107, t108, t111, t114, t115, t116, t117⟩, A250, H⟩ := H
  replace H : (some ((⟨#[]⟩ : ByteArray), t114, t115, t116, t117)) = some (r1, r2, r3, r4, r5) := H
  have A25 := Y0.mk A250
  clear A250
  simp only [Option.some.injEq, Prod.mk.injEq] at H
  obtain ⟨rfl, rfl, rfl, rfl, rfl⟩ := H
  go_enter Tryd.func140, Tryd.ntmps140
  go_wp2_with (first | (go_at_call 53; (with_reducible refine (Yd.calls k g s0_0 s0_1 s0_2 s0_3 t101 t102 t103 t104 t105 w0 _ ?side1 ?side2 A2.out).mono ?_); (case side1 => exact Z1r); (case side2 => exact QB); rintro e w26 ⟨rfl, hi, hb, hk⟩; have n_ := Y1P (Y3.trans QK hk (.inl rfl)) (hb) (hi); clear HK HB HI0; obtain ⟨HK, HB, HI0⟩ := n_; (try clear hb); (try clear hb2); (try clear hk); (try clear hi); obtain ⟨HGz27, hgz27⟩ := HI0.out; have hcz27_0 := Yz HGz27; have hcz27_1 := YA HGz27; have hcz27_2 := YB HGz27; have hcz27_3 := YC HGz27; have hfz27_0 := Y4 HGz27 0; have hfz27_1 := Y4 HGz27 1; have hfz27_2 := Y4 HGz27 2; have hfz27_3 := Y4 HGz27 3; clear HGz27 hgz27) | (go_at_call 54; (with_reducible refine (Yc.calls g t102 t103 t104 t105 t103 2 t106 t107 t108 t111 t114 t115 t116 t117 w0 _ ?side1 ?side2 A25.out).mono ?_); (case side1 => exact Z1r); (case side2 => exact QB); rintro e w28 ⟨v109, v112, rfl, ho0, ho1, hi, hb, hk⟩; have n_ := Y3p (Kd.R_lower (Kd.R_mono (ok' := fun k_ => True) ho0 (fun _ hk_ => trivial)) (Yb (w := w) (g := g) (row := none) QK)) (Kd.N_lower (Kd.N_mono (ok' := fun k_ => some k_ ≠ (v109 : Value).ownBlock ∧ k_ ≠ g) ho1 (fun k_ hk_ => ⟨hk_.2, (Yf.fresh QI75_0 k_ hk_.1)⟩)) (Yb (w := w) (g := g) (row := none) QK)) (Y3.trans QK hk (.inl rfl)) (hb) (hi); clear HK HB HI0; obtain ⟨HO110, HO113, HK, HB, HI0⟩ := n_; (try clear hb); (try clear hb2); (try clear hk); (try clear hi); (try clear ho0); (try clear ho1)))
  repeat (go_quiet (first | (go_at_call 53; (with_reducible refine (Yd.calls k g s0_0 s0_1 s0_2 s0_3 t101 t102 t103 t104 t105 w0 _ ?side1 ?side2 A2.out).mono ?_); (case side1 => exact Z1r); (case side2 => exact QB); rintro e w26 ⟨rfl, hi, hb, hk⟩; have n_ := Y1P (Y3.trans QK hk (.inl rfl)) (hb) (hi); clear HK HB HI0; obtain ⟨HK, HB, HI0⟩ := n_; (try clear hb); (try clear hb2); (try clear hk); (try clear hi); obtain ⟨HGz27, hgz27⟩ := HI0.out; have hcz27_0 := Yz HGz27; have hcz27_1 := YA HGz27; have hcz27_2 := YB HGz27; have hcz27_3 := YC HGz27; have hfz27_0 := Y4 HGz27 0; have hfz27_1 := Y4 HGz27 1; have hfz27_2 := Y4 HGz27 2; have hfz27_3 := Y4 HGz27 3; clear HGz27 hgz27) | (go_at_call 54; (with_reducible refine (Yc.calls g t102 t103 t104 t105 t103 2 t106 t107 t108 t111 t114 t115 t116 t117 w0 _ ?side1 ?side2 A25.out).mono ?_); (case side1 => exact Z1r); (case side2 => exact QB); rintro e w28 ⟨v109, v112, rfl, ho0, ho1, hi, hb, hk⟩; have n_ := Y3p (Kd.R_lower (Kd.R_mono (ok' := fun k_ => True) ho0 (fun _ hk_ => trivial)) (Yb (w := w) (g := g) (row := none) QK)) (Kd.N_lower (Kd.N_mono (ok' := fun k_ => some k_ ≠ (v109 : Value).ownBlock ∧ k_ ≠ g) ho1 (fun k_ hk_ => ⟨hk_.2, (Yf.fresh QI75_0 k_ hk_.1)⟩)) (Yb (w := w) (g := g) (row := none) QK)) (Y3.trans QK hk (.inl rfl)) (hb) (hi); clear HK HB HI0; obtain ⟨HO110, HO113, HK, HB, HI0⟩ := n_; (try clear hb); (try clear hb2); (try clear hk); (try clear hi); (try clear ho0); (try clear ho1))); try go_wp2_with (first | (go_at_call 53; (with_reducible refine (Yd.calls k g s0_0 s0_1 s0_2 s0_3 t101 t102 t103 t104 t105 w0 _ ?side1 ?side2 A2.out).mono ?_); (case side1 => exact Z1r); (case side2 => exact QB); rintro e w26 ⟨rfl, hi, hb, hk⟩; have n_ := Y1P (Y3.trans QK hk (.inl rfl)) (hb) (hi); clear HK HB HI0; obtain ⟨HK, HB, HI0⟩ := n_; (try clear hb); (try clear hb2); (try clear hk); (try clear hi); obtain ⟨HGz27, hgz27⟩ := HI0.out; have hcz27_0 := Yz HGz27; have hcz27_1 := YA HGz27; have hcz27_2 := YB HGz27; have hcz27_3 := YC HGz27; have hfz27_0 := Y4 HGz27 0; have hfz27_1 := Y4 HGz27 1; have hfz27_2 := Y4 HGz27 2; have hfz27_3 := Y4 HGz27 3; clear HGz27 hgz27) | (go_at_call 54; (with_reducible refine (Yc.calls g t102 t103 t104 t105 t103 2 t106 t107 t108 t111 t114 t115 t116 t117 w0 _ ?side1 ?side2 A25.out).mono ?_); (case side1 => exact Z1r); (case side2 => exact QB); rintro e w28 ⟨v109, v112, rfl, ho0, ho1, hi, hb, hk⟩; have n_ := Y3p (Kd.R_lower (Kd.R_mono (ok' := fun k_ => True) ho0 (fun _ hk_ => trivial)) (Yb (w := w) (g := g) (row := none) QK)) (Kd.N_lower (Kd.N_mono (ok' := fun k_ => some k_ ≠ (v109 : Value).ownBlock ∧ k_ ≠ g) ho1 (fun k_ hk_ => ⟨hk_.2, (Yf.fresh QI75_0 k_ hk_.1)⟩)) (Yb (w := w) (g := g) (row := none) QK)) (Y3.trans QK hk (.inl rfl)) (hb) (hi); clear HK HB HI0; obtain ⟨HO110, HO113, HK, HB, HI0⟩ := n_; (try clear hb); (try clear hb2); (try clear hk); (try clear hi); (try clear ho0); (try clear ho1))))
  go_ret
  exact Z1V
def YH.f (k : Nat) (s0_0 : ByteArray) (s0_1 : Int) (s0_2 : Int) (s0_3 : Int) (a1 : Int) : Option (Bool × ByteArray × Int × Int × Int) := (Yd.f k s0_0 s0_1 s0_2 s0_3).bind fun bt101 => (if bt101.1 = a1 then (some (true, bt101.2.1, wrap64 (bt101.2.2.1 + 1), bt101.2.2.2.1, bt101.2.2.2.2)) else (some (false, bt101.2.1, bt101.2.2.1, bt101.2.2.2.1, bt101.2.2.2.2)))
set_option maxHeartbeats 8000000 in
set_option maxRecDepth 100000 in
theorem YH.calls (k : Nat) (g : Nat) (s0_0 : ByteArray) (s0_1 : Int) (s0_2 : Int) (s0_3 : Int) (a1 : Int) (r1 : Bool) (r2 : ByteArray) (r3 : Int) (r4 : Int) (r5 : Int) (w0 w : World) (hI : Yf w0 w g s0_0 s0_1 s0_2 s0_3) (hB : Below w0.heap.size w0 w) (h : YH.f k s0_0 s0_1 s0_2 s0_3 a1 = some (r1, r2, r3, r4, r5)) :
  Calls Tryd.prog 95 #[.pointer (some ⟨g, 0, none⟩), .int .u8 a1] w fun e w' => e = .returned (.bool r1) ∧ Yf w0 w' g r2 r3 r4 r5 ∧ Below w0.heap.size w0 w' ∧ Y3 w w' g none := by
 have HI0 := Y0.mk hI
 have HK := Y0.mk (Y3.refl w g none)
 have HL := Y0.mk hB.size
 clear hI
 have HW0 := Y0.mk hB.size
 have HB := Y0.mk hB
 clear hB
 have H : ((Yd.f k s0_0 s0_1 s0_2 s0_3).bind fun bt101 => (if bt101.1 = a1 then (some (true, bt101.2.1, wrap64 (bt101.2.2.1 + 1), bt101.2.2.2.1, bt101.2.2.2.2)) else (some (false, bt101.2.1, bt101.2.2.1, bt101.2.2.2.1, bt101.2.2.2.2)))) = some (r1, r2, r3, r4, r5) := h
 clear h
 replace H := Option.bind_eq_some_iff.mp H
 obtain ⟨⟨t101, t102, t103, t104, t105⟩, A30, H⟩ := H
 replace H : (if t101 = a1 then (some (true, t102, wrap64 (t103 + 1), t104, t105)) else (some (false, t102, t103, t104, t105))) = some (r1, r2, r3, r4, r5) := H
 have A3 := Y0.mk A30
 clear A30
 by_cases c4 : t101 = a1
 ·rw [if_pos c4] at H
  have c4b0 : (t101 == a1) = true := beq_iff_eq.mpr c4
  have c4b1 : (t101 != a1) = false := bne_eq_false_iff_eq.mpr c4
  clear c4
  simp only [Option.some.injEq, Prod.mk.injEq] at H
  obtain ⟨rfl, rfl, rfl, rfl, rfl⟩ := H
  go_enter Tryd.func95, Tryd.ntmps95
  go_wp2_with (first | ((with_reducible refine Yh (f := 53) rfl ?_); refine Yy (some 6) rfl rfl Tryd.func53 Z7 rfl #[.pointer (some ⟨g, 0, none⟩)] rfl Z0 ?_; (with_reducible refine (Yd.calls k g s0_0 s0_1 s0_2 s0_3 t101 t102 t103 t104 t105 w0 _ ?side1 ?side2 A3.out).mono ?_); (case side1 => exact Z1r); (case side2 => exact QB); rintro e w5 ⟨rfl, hi, hb, hk⟩; refine ⟨_, rfl, ?_⟩; have n_ := Y1P (Y3.trans QK hk (.inl rfl)) (hb) (hi); clear HK HB HI0; obtain ⟨HK, HB, HI0⟩ := n_; (try clear hb); (try clear hb2); (try clear hk); (try clear hi); obtain ⟨HGz6, hgz6⟩ := HI0.out; have hcz6_0 := Yz HGz6; have hcz6_1 := YA HGz6; have hcz6_2 := YB HGz6; have hcz6_3 := YC HGz6; have hfz6_0 := Y4 HGz6 0; have hfz6_1 := Y4 HGz6 1; have hfz6_2 := Y4 HGz6 2; have hfz6_3 := Y4 HGz6 3; clear HGz6 hgz6))
  go_ret
  exact Z1V
 ·rw [if_neg c4] at H
  have c4b0 : (t101 == a1) = false := beq_eq_false_iff_ne.mpr c4
  have c4b1 : (t101 != a1) = true := bne_iff_ne.mpr c4
  simp only [Option.some.injEq, Prod.mk.injEq] at H
  obtain ⟨rfl, rfl, rfl, rfl, rfl⟩ := H
  go_enter Tryd.func95, Tryd.ntmps95
  go_wp2_with (first | ((with_reducible refine Yh (f := 53) rfl ?_); refine Yy (some 6) rfl rfl Tryd.func53 Z7 rfl #[.pointer (some ⟨g, 0, none⟩)] rfl Z0 ?_; (with_reducible refine (Yd.calls k g s0_0 s0_1 s0_2 s0_3 t101 t102 t103 t104 t105 w0 _ ?side1 ?side2 A3.out).mono ?_); (case side1 => exact Z1r); (case side2 => exact QB); rintro e w7 ⟨rfl, hi, hb, hk⟩; refine ⟨_, rfl, ?_⟩; have n_ := Y1P (Y3.trans QK hk (.inl rfl)) (hb) (hi); clear HK HB HI0; obtain ⟨HK, HB, HI0⟩ := n_; (try clear hb); (try clear hb2); (try clear hk); (try clear hi)))
  go_ret
  exact Z1V
def YI.f (k : Nat) (s0_0 : ByteArray) (s0_1 : Int) (s0_2 : Int) (s0_3 : Int) (a1 : Int) : Option (ByteArray × Int × Int × Int) := (YH.f k s0_0 s0_1 s0_2 s0_3 a1).bind fun bt101 => (if bt101.1 = true then (some (bt101.2.1, bt101.2.2.1, bt101.2.2.2.1, bt101.2.2.2.2)) else ((Yc.f bt101.2.1 bt101.2.2.1 bt101.2.2.2.1 bt101.2.2.2.2 bt101.2.2.1 2).bind fun bt106 => (some (bt106.2.2.2.2.1, bt106.2.2.2.2.2.1, bt106.2.2.2.2.2.2.1, bt106.2.2.2.2.2.2.2))))
set_option maxHeartbeats 8000000 in
set_option maxRecDepth 100000 in
theorem YI.calls (k : Nat) (g : Nat) (s0_0 : ByteArray) (s0_1 : Int) (s0_2 : Int) (s0_3 : Int) (a1 : Int) (r1 : ByteArray) (r2 : Int) (r3 : Int) (r4 : Int) (w0 w : World) (hI : Yf w0 w g s0_0 s0_1 s0_2 s0_3) (hB : Below w0.heap.size w0 w) (h : YI.f k s0_0 s0_1 s0_2 s0_3 a1 = some (r1, r2, r3, r4)) :
  Calls Tryd.prog 142 #[.pointer (some ⟨g, 0, none⟩), .int .u8 a1] w fun e w' => e = .returned (.tuple #[]) ∧ Yf w0 w' g r1 r2 r3 r4 ∧ Below w0.heap.size w0 w' ∧ Y3 w w' g none := by
 have HI0 := Y0.mk hI
 have HK := Y0.mk (Y3.refl w g none)
 have HL := Y0.mk hB.size
 clear hI
 have HW0 := Y0.mk hB.size
 have HB := Y0.mk hB
 clear hB
 have H : ((YH.f k s0_0 s0_1 s0_2 s0_3 a1).bind fun bt101 => (if bt101.1 = true then (some (bt101.2.1, bt101.2.2.1, bt101.2.2.2.1, bt101.2.2.2.2)) else ((Yc.f bt101.2.1 bt101.2.2.1 bt101.2.2.2.1 bt101.2.2.2.2 bt101.2.2.1 2).bind fun bt106 => (some (bt106.2.2.2.2.1, bt106.2.2.2.2.2.1, bt106.2.2.2.2.2.2.1, bt106.2.2.2.2.2.2.2))))) = some (r1, r2, r3, r4) := h
 clear h
 replace H := Option.bind_eq_some_iff.mp H
 obtain ⟨⟨t101, t102, t103, t104, t105⟩, A30, H⟩ := H
 replace H : (if t101 = true then (some (t102, t103, t104, t105)) else ((Yc.f t102 t103 t104 t105 t103 2).bind fun bt106 => (some (bt106.2.2.2.2.1, bt106.2.2.2.2.2.1, bt106.2.2.2.2.2.2.1, bt106.2.2.2.2.2.2.2)))) = some (r1, r2, r3, r4) := H
 have A3 := Y0.mk A30
 clear A30
 by_cases c4 : t101 = true
 ·subst c4
  have H1 : (some (t102, t103, t104, t105)) = some (r1, r2, r3, r4) := by rw [if_pos rfl] at H; exact H
  clear H
  have H := H1
  clear H1
  simp only [Option.some.injEq, Prod.mk.injEq] at H
  obtain ⟨rfl, rfl, rfl, rfl⟩ := H
  go_enter Tryd.func142, Tryd.ntmps142
  go_wp2_with (first | ((with_reducible refine Yh (f := 95) rfl ?_); refine Yy (some 6) rfl rfl Tryd.func95 Z7 rfl #[.pointer (some ⟨g, 0, none⟩), .int .u8 a1] rfl Z0 ?_; (with_reducible refine (YH.calls k g s0_0 s0_1 s0_2 s0_3 a1 true t102 t103 t104 t105 w0 _ ?side1 ?side2 A3.out).mono ?_); (case side1 => exact Z1r); (case side2 => exact QB); rintro e w5 ⟨rfl, hi, hb, hk⟩; refine ⟨_, rfl, ?_⟩; have n_ := Y1P (Y3.trans QK hk (.inl rfl)) (hb) (hi); clear HK HB HI0; obtain ⟨HK, HB, HI0⟩ := n_; (try clear hb); (try clear hb2); (try clear hk); (try clear hi)))
  first | go_end0 | ((try simp only [Exit.inBlock, Exit.then]); refine bodyPost_ret (results_none rfl _ _ _) rfl ?_)
  exact Z1V
 ·replace c4 := Bool.eq_false_iff.mpr c4
  subst c4
  have H1 : ((Yc.f t102 t103 t104 t105 t103 2).bind fun bt106 => (some (bt106.2.2.2.2.1, bt106.2.2.2.2.2.1, bt106.2.2.2.2.2.2.1, bt106.2.2.2.2.2.2.2))) = some (r1, r2, r3, r4) := by rw [if_neg (show ¬ (false = true) by decide)] at H; exact H
  clear H
  have H := H1
  clear H1
  replace H := Option.bind_eq_some_iff.mp H
  obtain ⟨⟨t106, t107, t108, t111, t114, t115, t116, t117⟩, A60, H⟩ := H
  replace H : (some (t114, t115, t116, t117)) = some (r1, r2, r3, r4) := H
  have A6 := Y0.mk A60
  clear A60
  simp only [Option.some.injEq, Prod.mk.injEq] at H
  obtain ⟨rfl, rfl, rfl, rfl⟩ := H
  go_enter Tryd.func142, Tryd.ntmps142
  go_wp2_with (first | ((with_reducible refine Yh (f := 95) rfl ?_); refine Yy (some 6) rfl rfl Tryd.func95 Z7 rfl #[.pointer (some ⟨g, 0, none⟩), .int .u8 a1] rfl Z0 ?_; (with_reducible refine (YH.calls k g s0_0 s0_1 s0_2 s0_3 a1 false t102 t103 t104 t105 w0 _ ?side1 ?side2 A3.out).mono ?_); (case side1 => exact Z1r); (case side2 => exact QB); rintro e w7 ⟨rfl, hi, hb, hk⟩; refine ⟨_, rfl, ?_⟩; have n_ := Y1P (Y3.trans QK hk (.inl rfl)) (hb) (hi); clear HK HB HI0; obtain ⟨HK, HB, HI0⟩ := n_; (try clear hb); (try clear hb2); (try clear hk); (try clear hi); obtain ⟨HGz8, hgz8⟩ := HI0.out; have hcz8_0 := Yz HGz8; have hcz8_1 := YA HGz8; have hcz8_2 := YB HGz8; have hcz8_3 := YC HGz8; have hfz8_0 := Y4 HGz8 0; have hfz8_1 := Y4 HGz8 1; have hfz8_2 := Y4 HGz8 2; have hfz8_3 := Y4 HGz8 3; clear HGz8 hgz8) | ((with_reducible refine Yh (f := 54) rfl ?_); refine Yy (some 13) rfl rfl Tryd.func54 Z7 rfl #[.pointer (some ⟨g, 0, none⟩), .int .i64 t103, .int .i64 2] rfl Z0 ?_; (with_reducible refine (Yc.calls g t102 t103 t104 t105 t103 2 t106 t107 t108 t111 t114 t115 t116 t117 w0 _ ?side1 ?side2 A6.out).mono ?_); (case side1 => exact Z1r); (case side2 => exact QB); rintro e w9 ⟨v109, v112, rfl, ho0, ho1, hi, hb, hk⟩; refine ⟨_, rfl, ?_⟩; have n_ := Y3p (Kd.R_lower (Kd.R_mono (ok' := fun k_ => True) ho0 (fun _ hk_ => trivial)) (Yb (w := w) (g := g) (row := none) QK)) (Kd.N_lower (Kd.N_mono (ok' := fun k_ => some k_ ≠ (v109 : Value).ownBlock ∧ k_ ≠ g) ho1 (fun k_ hk_ => ⟨hk_.2, (Yf.fresh QI75_0 k_ hk_.1)⟩)) (Yb (w := w) (g := g) (row := none) QK)) (Y3.trans QK hk (.inl rfl)) (hb) (hi); clear HK HB HI0; obtain ⟨HO110, HO113, HK, HB, HI0⟩ := n_; (try clear hb); (try clear hb2); (try clear hk); (try clear hi); (try clear ho0); (try clear ho1)))
  first | go_end0 | ((try simp only [Exit.inBlock, Exit.then]); refine bodyPost_ret (results_none rfl _ _ _) rfl ?_)
  exact Z1V
mutual
def Yg.j0 : Nat → Bool → ByteArray → Int → Int → Int → Int → Option (Int × ByteArray × List ByteArray × (List (S37)) × ByteArray × Int × Int × Int)
 | 0, _, _, _, _, _, _ => none
 | k + 1, x26, x1000, x1001, x1002, x1003, x103000 => if x26 = true then ((YE.f k x1000 x1001 x1002 x1003).bind fun bt103 => (some (x103000, (⟨#[]⟩ : ByteArray), (([bt103.1] : List ByteArray)), ([] : List (S37)), bt103.2.1, bt103.2.2.1, bt103.2.2.2.1, bt103.2.2.2.2))) else ((YE.f k x1000 (wrap64 (x1001 + 1)) x1002 x1003).bind fun bt111 => (Yg.l0 k bt111.2.1 bt111.2.2.1 bt111.2.2.2.1 bt111.2.2.2.2 x103000 (([bt111.1] : List ByteArray))))
def Yg.l0 : Nat → ByteArray → Int → Int → Int → Int → List ByteArray → Option (Int × ByteArray × List ByteArray × (List (S37)) × ByteArray × Int × Int × Int)
 | 0, _, _, _, _, _, _ => none
 | k + 1, x1000, x1001, x1002, x1003, x103000, x103002 => (YH.f k x1000 x1001 x1002 x1003 124).bind fun bt119 => (if bt119.1 = true then ((YE.f k bt119.2.1 bt119.2.2.1 bt119.2.2.2.1 bt119.2.2.2.2).bind fun bt124 => (if x103002.length < 8796093022208 then (Yg.l0 k bt124.2.1 bt124.2.2.1 bt124.2.2.2.1 bt124.2.2.2.2 x103000 (x103002 ++ [bt124.1])) else (none))) else ((YI.f k bt119.2.1 bt119.2.2.1 bt119.2.2.2.1 bt119.2.2.2.2 41).bind fun bt132 => (some (x103000, (⟨#[]⟩ : ByteArray), x103002, ([] : List (S37)), bt132.1, bt132.2.1, bt132.2.2.1, bt132.2.2.2))))
end
def Yg.f (k : Nat) (s0_0 : ByteArray) (s0_1 : Int) (s0_2 : Int) (s0_3 : Int) : Option (Int × ByteArray × List ByteArray × (List (S37)) × ByteArray × Int × Int × Int) := if s0_1 ≥ (s0_0.size : Int) then (Yg.j0 k true s0_0 s0_1 s0_2 s0_3 8) else (if 0 ≤ s0_1 then (if s0_1 < (s0_0.size : Int) then (Yg.j0 k ((bt s0_0 s0_1) != 40) s0_0 s0_1 s0_2 s0_3 8) else (none)) else (none))
def Yg.T2 : Bool × List (List Nat × List Nat) := (true, [([], []), ([0], [0]), ([1], [1]), ([2], [2]), ([], []), ([4], [4]), ([5], [5]), ([6], [6]), ([7], [7]), ([3, 8], [3, 8]), ([9], [9]), ([10], [10]), ([11, 10], [10, 11]), ([12, 10], [10, 12]), ([13, 10], [10, 13]), ([10], [10]), ([15, 10], [10, 15]), ([16, 10], [10, 16]), ([17, 10], [10, 17]), ([14, 18, 10], [10, 14, 18]), ([19, 10], [10, 19]), ([10, 20], [10, 20])])
def Yg.B2 : List Nat := [0, 1, 3, 7, 0, 16, 48, 112, 240, 511, 1023, 2047, 4095, 8191, 16383, 2047, 34815, 100351, 231423, 524287, 1048575, 2097151]
theorem Yg.tab2 : Y2g .any (Y39 Tryd.f141 2) = Yg.T2 := by kernel_rfl
theorem Yg.bits2 : Y1H Yg.T2.2 Yg.B2 = true := by kernel_rfl
def Yg.T8 : Bool × List (List Nat × List Nat) := (true, [([], []), ([0], [0]), ([], []), ([2], [2]), ([3], [3]), ([1, 4, 3], [1, 4]), ([0, 1, 2, 3, 4, 5], []), ([6, 5, 5, 0, 1, 2, 3, 4, 5], [5, 6])])
def Yg.B8 : List Nat := [0, 1, 0, 4, 12, 31, 63, 127]
theorem Yg.tab8 : Y2g .any (Y39 Tryd.f141 8) = Yg.T8 := by kernel_rfl
theorem Yg.bits8 : Y1H Yg.T8.2 Yg.B8 = true := by kernel_rfl
set_option maxHeartbeats 8000000 in
set_option maxRecDepth 100000 in
theorem Yg.calls (k : Nat) (g : Nat) (s0_0 : ByteArray) (s0_1 : Int) (s0_2 : Int) (s0_3 : Int) (r1 : Int) (r2 : ByteArray) (r3 : List ByteArray) (r4 : List (S37)) (r5 : ByteArray) (r6 : Int) (r7 : Int) (r8 : Int) (w0 w : World) (hI : Yf w0 w g s0_0 s0_1 s0_2 s0_3) (hB : Below w0.heap.size w0 w) (hT : Tabs w0) (h : Yg.f k s0_0 s0_1 s0_2 s0_3 = some (r1, r2, r3, r4, r5, r6, r7, r8)) :
  Calls Tryd.prog 141 #[.pointer (some ⟨g, 0, none⟩)] w fun e w' => ∃ v2_ v3_ : Value, e = .returned (.agg #[.int .i64 r1, .string r2, v2_, v3_]) ∧ Kd.R Kd.string 9 w' w.heap.size (fun _ => True) v2_ r3 ∧ Kd.R k37 37 w' w.heap.size (fun k_ => some k_ ≠ (v2_ : Value).ownBlock) v3_ r4 ∧ Yf w0 w' g r5 r6 r7 r8 ∧ Below w0.heap.size w0 w' ∧ Y3 w w' g none := by
 have HT := Y0.mk hT
 clear hT
 have hu37 := Tryd.underlying37
 have HI0 := Y0.mk hI
 have HK := Y0.mk (Y3.refl w g none)
 have HL := Y0.mk hB.size
 clear hI
 have HW0 := Y0.mk hB.size
 have HB := Y0.mk hB
 clear hB
 have H : (if s0_1 ≥ (s0_0.size : Int) then (Yg.j0 k true s0_0 s0_1 s0_2 s0_3 8) else (if 0 ≤ s0_1 then (if s0_1 < (s0_0.size : Int) then (Yg.j0 k ((bt s0_0 s0_1) != 40) s0_0 s0_1 s0_2 s0_3 8) else (none)) else (none))) = some (r1, r2, r3, r4, r5, r6, r7, r8) := h
 clear h
 have HC2 := Y0.mk H
 clear H
 go_enter Tryd.func141, Tryd.ntmps141
 go_upto_region 2 with (first | ((with_reducible refine Ym (N := 2) rfl ?_); refine Yn ?hg (N := 2) ?hd (cs := #[.int .i64 0, .string (⟨#[]⟩ : ByteArray), .slice none 0 0, .slice none 0 0]) (t := 37) ?hr ?_; (case hd => rfl); (case hg => rfl); (case hr => exact Za); intro gb101 hg w3 hbox hb; have n_ := Y2C (Yf.below QI75_0 hb) (Y3.trans QK (Y3.of_below hb g none) (.inl rfl)) (Y6 QB hb) (hbox) ((by rw [hg]; exact (Yb (w := w) (g := g) (row := none) QK) : w.heap.size ≤ gb101)) ((Nat.le_trans HW0.out (by rw [hg]; exact (Yb (w := w) (g := g) (row := none) QK) : w.heap.size ≤ gb101) : w0.heap.size ≤ gb101)) ((by rw [hg]; exact Nat.ne_of_lt (Yf.lt (show Yf w0 _ g s0_0 s0_1 s0_2 s0_3 from QI75_0)) : g ≠ gb101)) ((by rw [hg]; exact Nat.ne_of_gt (Yf.lt (show Yf w0 _ g s0_0 s0_1 s0_2 s0_3 from QI75_0)) : gb101 ≠ g)); clear HI0 HK HB; obtain ⟨HI0, HK, HB, BK101, GW101, GE101, NB0_101, NB101_0⟩ := n_; clear hb hbox hg) | ((with_reducible refine Ym (N := 3) rfl ?_); refine Yn ?hg (N := 3) ?hd (cs := #[.int .i64 0, .string (⟨#[]⟩ : ByteArray), .slice none 0 0, .slice none 0 0]) (t := 37) ?hr ?_; (case hd => rfl); (case hg => rfl); (case hr => exact Za); intro gb102 hg w4 hbox hb; have n0_ := Y0.mk (Yf.below QI75_0 hb); have n1_ := Y0.mk (Yi (g := gb101) (o := .cells #[.int .i64 0, .string (⟨#[]⟩ : ByteArray), .slice none 0 0, .slice none 0 0] 37 (0, 0)) QQ hb); have n2_ := Y0.mk (Y3.trans QK (Y3.of_below hb g none) (.inl rfl)); have n3_ := Y0.mk (Y6 QB hb); have n4_ := Y0.mk (hbox); have n5_ := Y0.mk ((by rw [hg]; exact (Yb (w := w) (g := g) (row := none) QK) : w.heap.size ≤ gb102)); have n6_ := Y0.mk ((Nat.le_trans HW0.out (by rw [hg]; exact (Yb (w := w) (g := g) (row := none) QK) : w.heap.size ≤ gb102) : w0.heap.size ≤ gb102)); have n7_ := Y0.mk ((by rw [hg]; exact Nat.ne_of_lt (YO (g := gb101) (o := .cells #[.int .i64 0, .string (⟨#[]⟩ : ByteArray), .slice none 0 0, .slice none 0 0] 37 (0, 0)) QQ) : gb101 ≠ gb102)); have n8_ := Y0.mk ((by rw [hg]; exact Nat.ne_of_gt (YO (g := gb101) (o := .cells #[.int .i64 0, .string (⟨#[]⟩ : ByteArray), .slice none 0 0, .slice none 0 0] 37 (0, 0)) QQ) : gb102 ≠ gb101)); have n9_ := Y0.mk ((by rw [hg]; exact Nat.ne_of_lt (Yf.lt (show Yf w0 _ g s0_0 s0_1 s0_2 s0_3 from QI75_0)) : g ≠ gb102)); have n10_ := Y0.mk ((by rw [hg]; exact Nat.ne_of_gt (Yf.lt (show Yf w0 _ g s0_0 s0_1 s0_2 s0_3 from QI75_0)) : gb102 ≠ g)); clear HI0 BK101 HK HB; have HI0 := n0_; have BK101 := n1_; have HK := n2_; have HB := n3_; have BK102 := n4_; have GW102 := n5_; have GE102 := n6_; have NB101_102 := n7_; have NB102_101 := n8_; have NB0_102 := n9_; have NB102_0 := n10_; clear n0_ n1_ n2_ n3_ n4_ n5_ n6_ n7_ n8_ n9_ n10_ hb hbox hg; have hnb5 := NB102_101.out; have hnc5 := NB101_102.out; have hnb6 := NB102_0.out; have hnc6 := NB0_102.out; obtain ⟨hcz7_0, hcz7_1, hcz7_2, hcz7_3, hfz7_0, hfz7_1, hfz7_2, hfz7_3⟩ := Yt BK102.out))
 (try simp only [Act.put, List.setIfInBounds_toArray, List.set_cons_zero, List.set_cons_succ])
 go_cut [26] (fun v26 wc => ∃ (kq : Nat) (x26_1 : Bool), v26 = .bool x26_1 ∧ Y0 (Yg.j0 kq x26_1 s0_0 s0_1 s0_2 s0_3 8 = some (r1, r2, r3, r4, r5, r6, r7, r8)) ∧ Y0 (kq ≤ k) ∧ Y0 (wc.heap[gb101]? = some (.cells #[.int .i64 0, .string (⟨#[]⟩ : ByteArray), (.slice none 0 0), (.slice none 0 0)] 37 (0, 0))) ∧ Y0 (wc.heap[gb102]? = some (.cells #[.int .i64 8, .string (⟨#[]⟩ : ByteArray), (.slice none 0 0), (.slice none 0 0)] 37 (0, 0))) ∧ Y0 (Yf w0 wc g s0_0 s0_1 s0_2 s0_3) ∧ Y0 (Y3 w wc g none) ∧ Y0 (Below w0.heap.size w0 wc))
 case first =>
  have H := HC2.out
  clear HC2
  by_cases c8 : s0_1 ≥ (s0_0.size : Int)
  ·rw [if_pos c8] at H
   have c8b0 : decide ((s0_0.size : Int) ≤ s0_1) = true := decide_eq_true c8
   clear c8
   (first | rw [c8b0] | (simp only [Y13, Y15]; rw [c8b0]) | skip)
   have H' := Y0.mk H
   clear H
   try go_wp2
   have n0_ : Y0 (((((w4.setCell ⟨gb102, 0, none⟩ (.int .i64 8)).setCell ⟨gb102, 1, none⟩ (.string (⟨#[]⟩ : ByteArray))).setCell ⟨gb102, 2, none⟩ (.slice none 0 0)).setCell ⟨gb102, 3, none⟩ (.slice none 0 0)).heap[gb101]? = some (.cells #[.int .i64 0, .string (⟨#[]⟩ : ByteArray), .slice none 0 0, .slice none 0 0] 37 (0, 0))) := ⟨ZK⟩
   have n1_ : Y0 (((((w4.setCell ⟨gb102, 0, none⟩ (.int .i64 8)).setCell ⟨gb102, 1, none⟩ (.string (⟨#[]⟩ : ByteArray))).setCell ⟨gb102, 2, none⟩ (.slice none 0 0)).setCell ⟨gb102, 3, none⟩ (.slice none 0 0)).heap[gb102]? = some (.cells #[.int .i64 8, .string (⟨#[]⟩ : ByteArray), .slice none 0 0, .slice none 0 0] 37 (0, 0))) := ⟨Z22⟩
   have n2_ : Y0 (Yf w0 ((((w4.setCell ⟨gb102, 0, none⟩ (.int .i64 8)).setCell ⟨gb102, 1, none⟩ (.string (⟨#[]⟩ : ByteArray))).setCell ⟨gb102, 2, none⟩ (.slice none 0 0)).setCell ⟨gb102, 3, none⟩ (.slice none 0 0)) g s0_0 s0_1 s0_2 s0_3) := ⟨QI75_0⟩
   have n3_ : Y0 (Y3 w ((((w4.setCell ⟨gb102, 0, none⟩ (.int .i64 8)).setCell ⟨gb102, 1, none⟩ (.string (⟨#[]⟩ : ByteArray))).setCell ⟨gb102, 2, none⟩ (.slice none 0 0)).setCell ⟨gb102, 3, none⟩ (.slice none 0 0)) g none) := ⟨QK⟩
   have n4_ : Y0 (Below w0.heap.size w0 ((((w4.setCell ⟨gb102, 0, none⟩ (.int .i64 8)).setCell ⟨gb102, 1, none⟩ (.string (⟨#[]⟩ : ByteArray))).setCell ⟨gb102, 2, none⟩ (.slice none 0 0)).setCell ⟨gb102, 3, none⟩ (.slice none 0 0))) := ⟨QB⟩
   (try clear BK101)
   (try clear BK102)
   (try clear HI0)
   (try clear HK)
   (try clear HB)
   generalize ((((w4.setCell ⟨gb102, 0, none⟩ (.int .i64 8)).setCell ⟨gb102, 1, none⟩ (.string (⟨#[]⟩ : ByteArray))).setCell ⟨gb102, 2, none⟩ (.slice none 0 0)).setCell ⟨gb102, 3, none⟩ (.slice none 0 0)) = w9 at n0_ n1_ n2_ n3_ n4_ ⊢
   have BK101 := n0_
   have BK102 := n1_
   have HI0 := n2_
   have HK := n3_
   have HB := n4_
   clear n0_ n1_ n2_ n3_ n4_
   have n_ := Y3p (Y8 BK101.out) (Y8 BK102.out) (Yf.drew HI0.out) (Y1Q HK.out) (YF HB.out)
   clear BK101
   clear BK102
   clear HI0
   clear HK
   clear HB
   obtain ⟨BK101, BK102, HI0, HK, HB⟩ := n_
   refine Y1q (n := 22) (S := fun w' => w'.cell? ⟨g, 0, none⟩ = some (.string s0_0) ∧ w'.cell? ⟨g, 1, none⟩ = some (.int .i64 s0_1) ∧ w'.cell? ⟨g, 2, none⟩ = some (.int .i64 s0_2) ∧ w'.cell? ⟨g, 3, none⟩ = some (.int .i64 s0_3)) (ds := []) bz22_0 Z7 rfl rfl ⟨Yz HI0.out.1, YA HI0.out.1, YB HI0.out.1, YC HI0.out.1⟩ (fun hHeld => ?_); refine YT Yg.tab2 Yg.bits2 (fun HT_ HW_ => ?_)
   generalize w9.drew = w10 at BK101 BK102 HI0 HK HB hHeld ⊢
   refine pY 0 5 bz22_1 ?_
   refine pY 1 6 bz22_3 ?_
   refine pY 2 7 bz22_7 ?_
   refine pY 4 9 bz22_17 ?_
   refine pY 5 10 bz22_37 ?_
   refine pY 6 11 bz22_77 ?_
   refine pT 3 8 bz22_7f ?_
   refine pT 7 12 bz22_ff ?_
   refine pY 8 13 Y3E ?_
   refine pY 9 14 Y3F ?_
   refine pY 10 15 Y3G ?_
   refine pU 11 16 Y3H ?_
   refine pU 12 17 Y33 ?_
   refine pU 13 18 Y34 ?_
   refine pU 14 19 bz22_7fff ?_
   refine pU 15 20 bz22_ffff ?_
   refine pU 16 21 Y3Q ?_
   refine pU 17 22 Y2I ?_
   refine pU 18 23 Y2J ?_
   refine pU 19 24 Y2K ?_
   refine pU 20 25 Y2w ?_
   refine pY 21 26 Y2x ?_
   refine Y1L (Y1f HT_.out Z7) ?_
   try go_wp2
   go_meet
   case rel => exact ⟨_, (true), Ze, H', ⟨Z1e⟩, ⟨Zd⟩, ⟨Zl⟩, ⟨QI75_0⟩, ⟨QK⟩, ⟨QB⟩⟩
  ·rw [if_neg c8] at H
   have c8b0 : decide ((s0_0.size : Int) ≤ s0_1) = false := decide_eq_false c8
   clear c8
   (first | rw [c8b0] | (simp only [Y13, Y15]; rw [c8b0]) | skip)
   by_cases c11 : 0 ≤ s0_1
   ·rw [if_pos c11] at H
    have c11b0 : decide (0 ≤ s0_1) = true := decide_eq_true c11
    clear c11
    by_cases c12 : s0_1 < (s0_0.size : Int)
    ·rw [if_pos c12] at H
     have c12b0 : decide (s0_1 < (s0_0.size : Int)) = true := decide_eq_true c12
     clear c12
     have H' := Y0.mk H
     clear H
     try go_wp2
     have n0_ : Y0 (((((w4.setCell ⟨gb102, 0, none⟩ (.int .i64 8)).setCell ⟨gb102, 1, none⟩ (.string (⟨#[]⟩ : ByteArray))).setCell ⟨gb102, 2, none⟩ (.slice none 0 0)).setCell ⟨gb102, 3, none⟩ (.slice none 0 0)).heap[gb101]? = some (.cells #[.int .i64 0, .string (⟨#[]⟩ : ByteArray), .slice none 0 0, .slice none 0 0] 37 (0, 0))) := ⟨ZK⟩
     have n1_ : Y0 (((((w4.setCell ⟨gb102, 0, none⟩ (.int .i64 8)).setCell ⟨gb102, 1, none⟩ (.string (⟨#[]⟩ : ByteArray))).setCell ⟨gb102, 2, none⟩ (.slice none 0 0)).setCell ⟨gb102, 3, none⟩ (.slice none 0 0)).heap[gb102]? = some (.cells #[.int .i64 8, .string (⟨#[]⟩ : ByteArray), .slice none 0 0, .slice none 0 0] 37 (0, 0))) := ⟨Z22⟩
     have n2_ : Y0 (Yf w0 ((((w4.setCell ⟨gb102, 0, none⟩ (.int .i64 8)).setCell ⟨gb102, 1, none⟩ (.string (⟨#[]⟩ : ByteArray))).setCell ⟨gb102, 2, none⟩ (.slice none 0 0)).setCell ⟨gb102, 3, none⟩ (.slice none 0 0)) g s0_0 s0_1 s0_2 s0_3) := ⟨QI75_0⟩
     have n3_ : Y0 (Y3 w ((((w4.setCell ⟨gb102, 0, none⟩ (.int .i64 8)).setCell ⟨gb102, 1, none⟩ (.string (⟨#[]⟩ : ByteArray))).setCell ⟨gb102, 2, none⟩ (.slice none 0 0)).setCell ⟨gb102, 3, none⟩ (.slice none 0 0)) g none) := ⟨QK⟩
     have n4_ : Y0 (Below w0.heap.size w0 ((((w4.setCell ⟨gb102, 0, none⟩ (.int .i64 8)).setCell ⟨gb102, 1, none⟩ (.string (⟨#[]⟩ : ByteArray))).setCell ⟨gb102, 2, none⟩ (.slice none 0 0)).setCell ⟨gb102, 3, none⟩ (.slice none 0 0))) := ⟨QB⟩
     (try clear BK101)
     (try clear BK102)
     (try clear HI0)
     (try clear HK)
     (try clear HB)
     generalize ((((w4.setCell ⟨gb102, 0, none⟩ (.int .i64 8)).setCell ⟨gb102, 1, none⟩ (.string (⟨#[]⟩ : ByteArray))).setCell ⟨gb102, 2, none⟩ (.slice none 0 0)).setCell ⟨gb102, 3, none⟩ (.slice none 0 0)) = w14 at n0_ n1_ n2_ n3_ n4_ ⊢
     have BK101 := n0_
     have BK102 := n1_
     have HI0 := n2_
     have HK := n3_
     have HB := n4_
     clear n0_ n1_ n2_ n3_ n4_
     have n_ := Y3p (Y8 BK101.out) (Y8 BK102.out) (Yf.drew HI0.out) (Y1Q HK.out) (YF HB.out)
     clear BK101
     clear BK102
     clear HI0
     clear HK
     clear HB
     obtain ⟨BK101, BK102, HI0, HK, HB⟩ := n_
     have p13 : 0 ≤ (s0_1 : Int) := of_decide_eq_true Z8
     have q13 : s0_1 < (s0_0.size : Int) := of_decide_eq_true Z8
     have hx13 := bt_at s0_0 s0_1
     replace p13 := eq_true p13
     replace q13 := eq_true q13
     refine Y1q (n := 22) (S := fun w' => w'.cell? ⟨g, 0, none⟩ = some (.string s0_0) ∧ w'.cell? ⟨g, 1, none⟩ = some (.int .i64 s0_1) ∧ w'.cell? ⟨g, 2, none⟩ = some (.int .i64 s0_2) ∧ w'.cell? ⟨g, 3, none⟩ = some (.int .i64 s0_3)) (ds := []) bz22_0 Z7 rfl rfl ⟨Yz HI0.out.1, YA HI0.out.1, YB HI0.out.1, YC HI0.out.1⟩ (fun hHeld => ?_); refine YT Yg.tab2 Yg.bits2 (fun HT_ HW_ => ?_)
     generalize w14.drew = w15 at BK101 BK102 HI0 HK HB hHeld ⊢
     refine pY 0 5 bz22_1 ?_
     refine pY 1 6 bz22_3 ?_
     refine pY 2 7 bz22_7 ?_
     refine pY 4 9 bz22_17 ?_
     refine pY 5 10 bz22_37 ?_
     refine pY 6 11 bz22_77 ?_
     refine pT 3 8 bz22_7f ?_
     refine pT 7 12 bz22_ff ?_
     refine pY 8 13 Y3E ?_
     refine pY 9 14 Y3F ?_
     refine pY 10 15 Y3G ?_
     refine pY 11 16 Y3H ?_
     refine pY 12 17 Y33 ?_
     refine pY 13 18 Y34 ?_
     refine pY 15 20 bz22_bfff ?_
     refine pY 16 21 Y3P ?_
     refine pY 17 22 Y3R ?_
     refine pT 14 19 Y2I ?_
     refine pT 18 23 Y2J ?_
     refine pT 19 24 Y2K ?_
     refine pY 20 25 Y2w ?_
     refine pY 21 26 Y2x ?_
     refine Y1L (Y1f HT_.out Z7) ?_
     try go_wp2
     go_meet
     case rel => exact ⟨_, (((bt s0_0 s0_1) != 40)), Ze, H', ⟨Z1e⟩, ⟨Zd⟩, ⟨Zl⟩, ⟨QI75_0⟩, ⟨QK⟩, ⟨QB⟩⟩
    ·rw [if_neg c12] at H
     exact ZH
   ·rw [if_neg c11] at H
    exact ZH
 case rest =>
  clear HC2
  try clear c1
  try clear p1
  try clear q1
  try clear hx1
  try clear p2
  try clear c5
  try clear c6
  try clear c8
  try clear c8b0
  try clear c11
  try clear c11b0
  try clear c12
  try clear c12b0
  try clear p13
  try clear q13
  try clear hx13
  try clear c14
  try clear hcz7_0 hcz7_1 hcz7_2 hcz7_3 hfz7_0 hfz7_1 hfz7_2 hfz7_3
  try clear p13
  try clear q13
  obtain ⟨kq, x26_1, rfl, HA, HJ1, BK101, BK102, HI0, HK, HB⟩ := hcut
  cases kq with
  | zero => exact absurd HA.out (by simp [Yg.j0])
  | succ kj1 =>
   have H := HA.out
   clear HA
   simp only [Yg.j0] at H
   by_cases c16 : x26_1 = true
   ·subst c16
    have H1 : ((YE.f kj1 s0_0 s0_1 s0_2 s0_3).bind fun bt103 => (some (8, (⟨#[]⟩ : ByteArray), (([bt103.1] : List ByteArray)), ([] : List (S37)), bt103.2.1, bt103.2.2.1, bt103.2.2.2.1, bt103.2.2.2.2))) = some (r1, r2, r3, r4, r5, r6, r7, r8) := by rw [if_pos rfl] at H; exact H
    clear H
    have H := H1
    clear H1
    replace H := Option.bind_eq_some_iff.mp H
    obtain ⟨⟨t103, t104, t105, t106, t107⟩, A170, H⟩ := H
    replace H : (some (8, (⟨#[]⟩ : ByteArray), (([t103] : List ByteArray)), ([] : List (S37)), t104, t105, t106, t107)) = some (r1, r2, r3, r4, r5, r6, r7, r8) := H
    have A17 := Y0.mk A170
    clear A170
    obtain ⟨y108, hy108⟩ : ∃ y_ : List ByteArray, y_ = (([t103] : List ByteArray)) := ⟨_, rfl⟩
    replace H : (some (8, (⟨#[]⟩ : ByteArray), y108, ([] : List (S37)), t104, t105, t106, t107)) = some (r1, r2, r3, r4, r5, r6, r7, r8) := by first | (rw [hy108]; with_reducible exact H) | (have H2_ := (Option.bind_some _ _).symm.trans H; rw [hy108]; with_reducible exact H2_) | (have H2_ := (Option.bind_some _ _).symm.trans H; with_reducible exact H2_) | with_reducible exact H | (rw [hy108]; exact H) | exact H
    have Ny108 := Y0.mk hy108
    clear hy108
    simp only [Option.some.injEq, Prod.mk.injEq] at H
    obtain ⟨rfl, rfl, rfl, rfl, rfl, rfl, rfl, rfl⟩ := H
    go_wp2_with (first | ((with_reducible refine Yh (f := 140) rfl ?_); refine Yy (some 28) rfl rfl Tryd.func140 Z7 rfl #[.pointer (some ⟨g, 0, none⟩)] rfl Z0 ?_; (with_reducible refine (YE.calls kj1 g s0_0 s0_1 s0_2 s0_3 t103 t104 t105 t106 t107 w0 _ ?side1 ?side2 ?side3 A17.out).mono ?_); (case side1 => exact Z1r); (case side2 => exact QB); (case side3 => exact HT.out); rintro e w18 ⟨rfl, hi, hb, hk⟩; refine ⟨_, rfl, ?_⟩; have n_ := Y3p (Y3.blk hk (g' := gb101) (o := .cells #[.int .i64 0, .string (⟨#[]⟩ : ByteArray), .slice none 0 0, .slice none 0 0] 37 (0, 0)) QQ NB101_0.out (by simp)) (Y3.blk hk (g' := gb102) (o := .cells #[.int .i64 8, .string (⟨#[]⟩ : ByteArray), .slice none 0 0, .slice none 0 0] 37 (0, 0)) QQ NB102_0.out (by simp)) (Y3.trans QK hk (.inl rfl)) (hb) (hi); clear BK101 BK102 HK HB HI0; obtain ⟨BK101, BK102, HK, HB, HI0⟩ := n_; (try clear hb); (try clear hb2); (try clear hk); (try clear hi)) | ((with_reducible refine Ym (N := 29) rfl ?_); refine Kd.R_lit Kd.string _ 9 ?hg (N := 29) ?hd (xs := ([t103] : List ByteArray)) (inner := [.string t103]) (ok := fun _ => True) (okp := fun _ => True) ?hr ?hp (fun _ hk => hk) trivial (Below.refl _ _) (Nat.le_refl _) (by simp) ?_; (case hd => rfl); (case hg => rfl); (case hr => exact Za); (case hp => exact (Y1a.one (show Kd.M Kd.string _ _ _ t103 [.string t103] from rfl) (Y1a.none _ _))); intro v109 w19 ho20 hb hg_ hnew_; clear hg_ hnew_; (first | rw [← Ny108.out] at ho20 | (simp only [Int.reduceToNat] at ho20; rw [← Ny108.out] at ho20)); have n_ := Y2T (Kd.R_lower ho20 (Yb (w := w) (g := g) (row := none) QK)) (Yi (g := gb101) (o := .cells #[.int .i64 0, .string (⟨#[]⟩ : ByteArray), .slice none 0 0, .slice none 0 0] 37 (0, 0)) QQ hb) (Yi (g := gb102) (o := .cells #[.int .i64 8, .string (⟨#[]⟩ : ByteArray), .slice none 0 0, .slice none 0 0] 37 (0, 0)) QQ hb) (Yf.below QI75_0 hb) (Y3.trans QK (Y3.of_below hb g none) (.inl rfl)) (Y6 QB hb); clear BK101 BK102 HI0 HK HB; obtain ⟨HO110, BK101, BK102, HI0, HK, HB⟩ := n_; clear hb ho20; obtain ⟨Ao21, co21, eo21⟩ := Kd.R_slice HO110.out; subst eo21; have hnb22 := NB102_101.out; have hnc22 := NB101_102.out; have hnb23 := NB102_0.out; have hnc23 := NB0_102.out; obtain ⟨hcz24_0, hcz24_1, hcz24_2, hcz24_3, hfz24_0, hfz24_1, hfz24_2, hfz24_3⟩ := Yt BK102.out; have hnb25 := NB101_0.out; have hnc25 := NB0_101.out; obtain ⟨hcz26_0, hcz26_1, hcz26_2, hcz26_3, hfz26_0, hfz26_1, hfz26_2, hfz26_3⟩ := Yt BK101.out))
    refine bodyPost_ret (results_cell_row rfl _ _ gb101 37 #[.int .i64 8, .string (⟨#[]⟩ : ByteArray), .slice Ao21 y108.length co21, .slice none 0 0] (0, 0) _ rfl (by (with_reducible repeat (first | refine Y9 ?_ _ | refine Y8 ?_ | refine Y7 ?_ _)); exact Yo (cs := #[.int .i64 8, .string (⟨#[]⟩ : ByteArray), .slice Ao21 y108.length co21, .slice none 0 0]) (by (with_reducible repeat (first | refine Y9 ?_ _ | refine Y8 ?_ | refine Y7 ?_ _)); exact Yo (cs := #[.int .i64 8, .string (⟨#[]⟩ : ByteArray), .slice none 0 0, .slice none 0 0]) (by (with_reducible repeat (first | refine Y9 ?_ _ | refine Y8 ?_ | refine Y7 ?_ _)); exact Yo (cs := #[.int .i64 8, .string (⟨#[]⟩ : ByteArray), .slice none 0 0, .slice none 0 0]) (by (with_reducible repeat (first | refine Y9 ?_ _ | refine Y8 ?_ | refine Y7 ?_ _)); exact Yo (cs := #[.int .i64 0, .string (⟨#[]⟩ : ByteArray), .slice none 0 0, .slice none 0 0]) Z1T 0 _ rfl) 1 _ rfl) 2 _ rfl) 3 _ rfl) Tryd.underlying37 rfl Z7) rfl ?_
    exact ⟨_, _, Z2, by (with_reducible repeat (first | apply Kd.R_alloc | apply Kd.R_drewN | apply Kd.R_drew)); exact Kd.R_mono (Kd.R_far (p := ⟨gb101, 3, none⟩) (Kd.R_far (p := ⟨gb101, 2, none⟩) (Kd.R_far (p := ⟨gb101, 1, none⟩) (Kd.R_far (p := ⟨gb101, 0, none⟩) (Kd.R_far (p := ⟨gb102, 2, none⟩) (Kd.R_types (Kd.R_types HO110.out BK102.out (by decide)) BK101.out (by decide)) (fun _ hk => hk.1.2) (.slice Ao21 y108.length co21)) (fun _ hk => hk.2) (.int .i64 8)) (fun _ hk => hk.2) (.string (⟨#[]⟩ : ByteArray))) (fun _ hk => hk.2) (.slice Ao21 y108.length co21)) (fun _ hk => hk.2) (.slice none 0 0)) (fun _ hk => trivial), Zb, QI75_0, QB, QK⟩
   ·replace c16 := Bool.eq_false_iff.mpr c16
    subst c16
    have H1 : ((YE.f kj1 s0_0 (wrap64 (s0_1 + 1)) s0_2 s0_3).bind fun bt111 => (Yg.l0 kj1 bt111.2.1 bt111.2.2.1 bt111.2.2.2.1 bt111.2.2.2.2 8 (([bt111.1] : List ByteArray)))) = some (r1, r2, r3, r4, r5, r6, r7, r8) := by rw [if_neg (show ¬ (false = true) by decide)] at H; exact H
    clear H
    have H := H1
    clear H1
    replace H := Option.bind_eq_some_iff.mp H
    obtain ⟨⟨t111, t112, t113, t114, t115⟩, A270, H⟩ := H
    replace H : (Yg.l0 kj1 t112 t113 t114 t115 8 (([t111] : List ByteArray))) = some (r1, r2, r3, r4, r5, r6, r7, r8) := H
    have A27 := Y0.mk A270
    clear A270
    obtain ⟨y116, hy116⟩ : ∃ y_ : List ByteArray, y_ = (([t111] : List ByteArray)) := ⟨_, rfl⟩
    replace H : (Yg.l0 kj1 t112 t113 t114 t115 8 y116) = some (r1, r2, r3, r4, r5, r6, r7, r8) := by first | (rw [hy116]; with_reducible exact H) | (have H2_ := (Option.bind_some _ _).symm.trans H; rw [hy116]; with_reducible exact H2_) | (have H2_ := (Option.bind_some _ _).symm.trans H; with_reducible exact H2_) | with_reducible exact H | (rw [hy116]; exact H) | exact H
    have Ny116 := Y0.mk hy116
    clear hy116
    have H' := Y0.mk H
    clear H
    obtain ⟨hcz28_0, hcz28_1, hcz28_2, hcz28_3, hfz28_0, hfz28_1, hfz28_2, hfz28_3⟩ := Yt HI0.out.1
    go_wp2_with (first | ((with_reducible refine Yh (f := 140) rfl ?_); refine Yy (some 40) rfl rfl Tryd.func140 Z7 rfl #[.pointer (some ⟨g, 0, none⟩)] rfl Z0 ?_; (with_reducible refine (YE.calls kj1 g s0_0 (wrap64 (s0_1 + 1)) s0_2 s0_3 t111 t112 t113 t114 t115 w0 _ ?side1 ?side2 ?side3 A27.out).mono ?_); (case side1 => exact Z1r); (case side2 => exact QB); (case side3 => exact HT.out); rintro e w29 ⟨rfl, hi, hb, hk⟩; refine ⟨_, rfl, ?_⟩; have n_ := Y3p (Y3.blk hk (g' := gb101) (o := .cells #[.int .i64 0, .string (⟨#[]⟩ : ByteArray), .slice none 0 0, .slice none 0 0] 37 (0, 0)) Z1A NB101_0.out (by simp)) (Y3.blk hk (g' := gb102) (o := .cells #[.int .i64 8, .string (⟨#[]⟩ : ByteArray), .slice none 0 0, .slice none 0 0] 37 (0, 0)) (by (with_reducible repeat (first | refine Y9 ?_ _ | refine Y8 ?_ | refine Y7 ?_ _)); exact YK QQ NB102_0.out _) NB102_0.out (by simp)) (Y3.trans QK hk (.inl rfl)) (hb) (hi); clear BK101 BK102 HK HB HI0; obtain ⟨BK101, BK102, HK, HB, HI0⟩ := n_; (try clear hb); (try clear hb2); (try clear hk); (try clear hi)) | ((with_reducible refine Ym (N := 41) rfl ?_); refine Kd.R_lit Kd.string _ 9 ?hg (N := 41) ?hd (xs := ([t111] : List ByteArray)) (inner := [.string t111]) (ok := fun _ => True) (okp := fun _ => True) ?hr ?hp (fun _ hk => hk) trivial (Below.refl _ _) (Nat.le_refl _) (by simp) ?_; (case hd => rfl); (case hg => rfl); (case hr => exact Za); (case hp => exact (Y1a.one (show Kd.M Kd.string _ _ _ t111 [.string t111] from rfl) (Y1a.none _ _))); intro v117 w30 ho31 hb hg_ hnew_; clear hg_ hnew_; (first | rw [← Ny116.out] at ho31 | (simp only [Int.reduceToNat] at ho31; rw [← Ny116.out] at ho31)); have n_ := Y2T (Kd.R_lower ho31 (Yb (w := w) (g := g) (row := none) QK)) (Yi (g := gb101) (o := .cells #[.int .i64 0, .string (⟨#[]⟩ : ByteArray), .slice none 0 0, .slice none 0 0] 37 (0, 0)) QQ hb) (Yi (g := gb102) (o := .cells #[.int .i64 8, .string (⟨#[]⟩ : ByteArray), .slice none 0 0, .slice none 0 0] 37 (0, 0)) QQ hb) (Yf.below QI75_0 hb) (Y3.trans QK (Y3.of_below hb g none) (.inl rfl)) (Y6 QB hb); clear BK101 BK102 HI0 HK HB; obtain ⟨HO118, BK101, BK102, HI0, HK, HB⟩ := n_; clear hb ho31; obtain ⟨Ao32, co32, eo32⟩ := Kd.R_slice HO118.out; subst eo32; have hnb33 := NB102_101.out; have hnc33 := NB101_102.out; have hnb34 := NB102_0.out; have hnc34 := NB0_102.out; obtain ⟨hcz35_0, hcz35_1, hcz35_2, hcz35_3, hfz35_0, hfz35_1, hfz35_2, hfz35_3⟩ := Yt BK102.out))
    go_loopg [] kj1 (fun kq w' => ∃ (x1000_2 : ByteArray) (x1001_2 : Int) (x1002_2 : Int) (x1003_2 : Int) (x103002_2 : List ByteArray) (u103002 : Value), Y0 (Yg.l0 kq x1000_2 x1001_2 x1002_2 x1003_2 8 x103002_2 = some (r1, r2, r3, r4, r5, r6, r7, r8)) ∧ Y0 (kq ≤ kj1) ∧ Y0 (Kd.R Kd.string 9 w' w.heap.size (fun _ => True) u103002 x103002_2) ∧ Y0 (w'.heap[gb101]? = some (.cells #[.int .i64 0, .string (⟨#[]⟩ : ByteArray), (.slice none 0 0), (.slice none 0 0)] 37 (0, 0))) ∧ Y0 (w'.heap[gb102]? = some (.cells #[.int .i64 8, .string (⟨#[]⟩ : ByteArray), u103002, (.slice none 0 0)] 37 (0, 0))) ∧ Y0 (Yf w0 w' g x1000_2 x1001_2 x1002_2 x1003_2) ∧ Y0 (Y3 w w' g none) ∧ Y0 (Below w0.heap.size w0 w'))
    case atStart => exact ⟨(t112), (t113), (t114), (t115), (y116), (.slice Ao32 y116.length co32), H', ⟨Nat.le_refl _⟩, ⟨by (with_reducible repeat (first | apply Kd.R_alloc | apply Kd.R_drewN | apply Kd.R_drew)); exact Kd.R_mono (Kd.R_far (p := ⟨gb102, 2, none⟩) (Kd.R_types HO118.out BK102.out (by decide)) (fun _ hk => hk.2) (.slice Ao32 y116.length co32)) (fun _ hk => trivial)⟩, ⟨Z1T⟩, ⟨by (with_reducible repeat (first | refine Y9 ?_ _ | refine Y8 ?_ | refine Y7 ?_ _)); exact Yo (cs := #[.int .i64 8, .string (⟨#[]⟩ : ByteArray), .slice none 0 0, .slice none 0 0]) QQ 2 _ rfl⟩, ⟨QI75_0⟩, ⟨QK⟩, ⟨QB⟩⟩
    case round =>
     clear H'
     try clear c1
     try clear p1
     try clear q1
     try clear hx1
     try clear c2
     try clear p2
     try clear c3
     try clear c5
     try clear c6
     try clear p6
     try clear c8
     try clear c8b0
     try clear c11
     try clear c11b0
     try clear c12
     try clear c12b0
     try clear p13
     try clear q13
     try clear hx13
     try clear c14
     try clear c16
     try clear c22
     try clear c23
     try clear c25
     try clear c33
     try clear c34
     try clear hcz24_0 hcz24_1 hcz24_2 hcz24_3
     try clear hcz26_0 hcz26_1 hcz26_2 hcz26_3
     try clear hcz28_0 hcz28_1 hcz28_2 hcz28_3
     try clear hcz35_0 hcz35_1 hcz35_2 hcz35_3
     try clear hcz7_0 hcz7_1 hcz7_2 hcz7_3
     try clear hfz24_0
     try clear hfz24_1
     try clear hfz24_2
     try clear hfz24_3
     try clear hfz26_0
     try clear hfz26_1
     try clear hfz26_2
     try clear hfz26_3
     try clear hfz28_0
     try clear hfz28_1
     try clear hfz28_2
     try clear hfz28_3
     try clear hfz35_0
     try clear hfz35_1
     try clear hfz35_2
     try clear hfz35_3
     try clear hfz7_0
     try clear hfz7_1
     try clear hfz7_2
     try clear hfz7_3
     try clear p1
     try clear p13
     try clear p2
     try clear q1
     try clear q13
     obtain ⟨x1000_2, x1001_2, x1002_2, x1003_2, x103002_2, u103002, HA, HK2, HO_103002, BK101, BK102, HI0, HK, HB⟩ := hrel
     cases gk with
     | zero => exact absurd HA.out (by simp [Yg.l0])
     | succ k2 =>
      have H := HA.out
      clear HA
      simp only [Yg.l0] at H
      replace H := Option.bind_eq_some_iff.mp H
      obtain ⟨⟨t119, t120, t121, t122, t123⟩, A360, H⟩ := H
      replace H : (if t119 = true then ((YE.f k2 t120 t121 t122 t123).bind fun bt124 => (if x103002_2.length < 8796093022208 then (Yg.l0 k2 bt124.2.1 bt124.2.2.1 bt124.2.2.2.1 bt124.2.2.2.2 8 (x103002_2 ++ [bt124.1])) else (none))) else ((YI.f k2 t120 t121 t122 t123 41).bind fun bt132 => (some (8, (⟨#[]⟩ : ByteArray), x103002_2, ([] : List (S37)), bt132.1, bt132.2.1, bt132.2.2.1, bt132.2.2.2)))) = some (r1, r2, r3, r4, r5, r6, r7, r8) := H
      have A36 := Y0.mk A360
      clear A360
      by_cases c37 : t119 = true
      ·subst c37
       have H1 : ((YE.f k2 t120 t121 t122 t123).bind fun bt124 => (if x103002_2.length < 8796093022208 then (Yg.l0 k2 bt124.2.1 bt124.2.2.1 bt124.2.2.2.1 bt124.2.2.2.2 8 (x103002_2 ++ [bt124.1])) else (none))) = some (r1, r2, r3, r4, r5, r6, r7, r8) := by rw [if_pos rfl] at H; exact H
       clear H
       have H := H1
       clear H1
       replace H := Option.bind_eq_some_iff.mp H
       obtain ⟨⟨t124, t125, t126, t127, t128⟩, A380, H⟩ := H
       replace H : (if x103002_2.length < 8796093022208 then (Yg.l0 k2 t125 t126 t127 t128 8 (x103002_2 ++ [t124])) else (none)) = some (r1, r2, r3, r4, r5, r6, r7, r8) := H
       have A38 := Y0.mk A380
       clear A380
       by_cases c39 : x103002_2.length < 8796093022208
       ·rw [if_pos c39] at H
        have LMc39 := Y0.mk c39
        clear c39
        obtain ⟨y129, hy129⟩ : ∃ y_ : List ByteArray, y_ = (x103002_2 ++ [t124]) := ⟨_, rfl⟩
        replace H : (Yg.l0 k2 t125 t126 t127 t128 8 y129) = some (r1, r2, r3, r4, r5, r6, r7, r8) := by first | (rw [hy129]; with_reducible exact H) | (have H2_ := (Option.bind_some _ _).symm.trans H; rw [hy129]; with_reducible exact H2_) | (have H2_ := (Option.bind_some _ _).symm.trans H; with_reducible exact H2_) | with_reducible exact H | (rw [hy129]; exact H) | exact H
        have Ny129 := Y0.mk hy129
        clear hy129
        have H' := Y0.mk H
        clear H
        try go_wp2_with (first | ((with_reducible refine Yh (f := 95) rfl ?_); refine Yy (some 44) rfl rfl Tryd.func95 Z7 rfl #[.pointer (some ⟨g, 0, none⟩), .int .u8 124] rfl Z0 ?_; (with_reducible refine (YH.calls k2 g x1000_2 x1001_2 x1002_2 x1003_2 124 true t120 t121 t122 t123 w0 _ ?side1 ?side2 A36.out).mono ?_); (case side1 => exact Z1r); (case side2 => exact QB); rintro e w40 ⟨rfl, hi, hb, hk⟩; refine ⟨_, rfl, ?_⟩; have n_ := Y2T (Kd.R_mono (Kd.R_keep (Yf.apart (show Yf w0 _ g x1000_2 x1001_2 x1002_2 x1003_2 from QI75_0) Z1b (by decide)) hk (fun _ h => h.2)) (fun _ h => h.1)) (Y3.blk hk (g' := gb101) (o := .cells #[.int .i64 0, .string (⟨#[]⟩ : ByteArray), .slice none 0 0, .slice none 0 0] 37 (0, 0)) QQ NB101_0.out (by simp)) (Y3.blk hk (g' := gb102) (o := .cells #[.int .i64 8, .string (⟨#[]⟩ : ByteArray), u103002, .slice none 0 0] 37 (0, 0)) QQ NB102_0.out (by simp)) (Y3.trans QK hk (.inl rfl)) (hb) (hi); clear HO_103002 BK101 BK102 HK HB HI0; obtain ⟨HO_103002, BK101, BK102, HK, HB, HI0⟩ := n_; (try clear hb); (try clear hb2); (try clear hk); (try clear hi)))
        have n_ := Y2T (Kd.R_drew HO_103002.out) (Y8 BK101.out) (Y8 BK102.out) (Yf.drew HI0.out) (Y1Q HK.out) (YF HB.out)
        clear HO_103002
        clear BK101
        clear BK102
        clear HI0
        clear HK
        clear HB
        obtain ⟨HO_103002, BK101, BK102, HI0, HK, HB⟩ := n_
        refine Y1q (n := 8) (S := fun w' => w'.cell? ⟨gb102, 0, none⟩ = some (.int .i64 8) ∧ w'.cell? ⟨gb102, 1, none⟩ = some (.string (⟨#[]⟩ : ByteArray)) ∧ w'.cell? ⟨gb102, 2, none⟩ = some (u103002) ∧ w'.cell? ⟨gb102, 3, none⟩ = some (.slice none 0 0)) (ds := [7]) bz8_0 Z7 rfl rfl ⟨(Y1 BK102.out 0).trans rfl, (Y1 BK102.out 1).trans rfl, (Y1 BK102.out 2).trans rfl, (Y1 BK102.out 3).trans rfl⟩ (fun hHeld => ?_); refine YT Yg.tab8 Yg.bits8 (fun HT_ HW_ => ?_)
        generalize w40.drew = w41 at HO_103002 BK101 BK102 HI0 HK HB hHeld ⊢
        refine pY 0 45 bz8_1 ?_
        refine pY 2 47 bz8_5 ?_
        refine pT 1 46 bz8_7 ?_
        refine Y28 (i := 3) (N := some 48) bz8_f rfl rfl (Y1g HT_.out Z7) (by decide) (fun K hK => ?_)
        refine Y1G Tryd.func140 Z7 rfl #[.pointer (some ⟨g, 0, none⟩)] (by rfl) rfl rfl Z0 ?_
        with_reducible refine (YE.calls k2 g t120 t121 t122 t123 t124 t125 t126 t127 t128 w0 _ ?side1 ?side2 ?side3 A38.out).mono ?_
        (case side1 => exact Z1r)
        (case side2 => exact QB)
        (case side3 => exact HT.out)
        rintro e w42 ⟨rfl, hi, hb, hk⟩
        refine ⟨_, rfl, ?_⟩
        have n_ := Y2T (Kd.R_mono (Kd.R_keep (Yf.apart (show Yf w0 _ g t120 t121 t122 t123 from QI75_0) Z1b (by decide)) hk (fun _ h => h.2)) (fun _ h => h.1)) (Y3.blk hk (g' := gb101) (o := .cells #[.int .i64 0, .string (⟨#[]⟩ : ByteArray), .slice none 0 0, .slice none 0 0] 37 (0, 0)) QQ NB101_0.out (by simp)) (Y3.blk hk (g' := gb102) (o := .cells #[.int .i64 8, .string (⟨#[]⟩ : ByteArray), u103002, .slice none 0 0] 37 (0, 0)) QQ NB102_0.out (by simp)) (Y3.trans QK hk (.inl rfl)) (hb) (hi)
        clear HO_103002
        clear BK101
        clear BK102
        clear HK
        clear HB
        clear HI0
        obtain ⟨HO_103002, BK101, BK102, HK, HB, HI0⟩ := n_
        (try clear hb)
        (try clear hb2)
        (try clear hk)
        (try clear hi)
        refine hK.out _ _ ⟨(Y1 BK102.out 0).trans rfl, (Y1 BK102.out 1).trans rfl, (Y1 BK102.out 2).trans rfl, (Y1 BK102.out 3).trans rfl⟩ (fun hHeld => ?_)
        clear hK K
        refine Y1z (a' := ?_) ?_ ?_
        rotate_left
        ·show Act.put _ (some 48) _ = _
         simp only [Act.put, List.setIfInBounds_toArray, List.set_cons_zero, List.set_cons_succ, Y13, Y15]
         rfl
        refine Y28 (i := 4) (N := some 49) bz8_1f rfl rfl (Y1g HT_.out Z7) (by decide) (fun K hK => ?_)
        refine value_ (w1 := ?_) (v := ?_) (by rfl) rfl ?_ ?_
        rotate_left 2
        ·go_simp
         constructor
         ·rfl
         ·rfl
        refine hK.out _ _ ⟨(Y1 (Y7 BK102.out _) 0).trans rfl, (Y1 (Y7 BK102.out _) 1).trans rfl, (Y1 (Y7 BK102.out _) 2).trans rfl, (Y1 (Y7 BK102.out _) 3).trans rfl⟩ (fun hHeld => ?_)
        clear hK K
        refine Y1z (a' := ?_) ?_ ?_
        rotate_left
        ·show Act.put _ (some 49) _ = _
         simp only [Act.put, List.setIfInBounds_toArray, List.set_cons_zero, List.set_cons_succ, Y13, Y15]
         rfl
        refine Y28 (i := 5) (N := some 50) bz8_3f rfl rfl (Y1g HT_.out Z7) (by decide) (fun K hK => ?_)
        refine Kd.R_append_step Kd.string w.heap.size (by rfl) (.tmp 46) (.tmp 49) 34 9 (.string ⟨#[]⟩) 16 rfl Tryd.underlying34 info9 rfl (by decide) (by omega) u103002 x103002_2 t124 [.string t124] (fun _ => True) (fun _ => False) rfl rfl ?aP (fun _ hk => hk.elim) ?aF ?aO (Below.refl _ _) ?aS ?aL ?_
        (case aP => exact rfl)
        (case aF => exact (fun _ _ => trivial))
        (case aO => exact Z1b)
        (case aS => exact (Yb (w := w) (g := g) (row := none) QK))
        (case aL => have := LMc39.out; omega)
        intro v130 w43 ho hb hg hat
        rw [← Ny129.out] at ho
        have n_ := Y2T (Y2u (g := gb101) (o := .cells #[.int .i64 0, .string (⟨#[]⟩ : ByteArray), .slice none 0 0, .slice none 0 0] 37 (0, 0)) QQ hg (Kd.R_ne HO_103002.out BK101.out (by decide))) (Y2u (g := gb102) (o := .cells #[.int .i64 8, .string (⟨#[]⟩ : ByteArray), u103002, .slice none 0 0] 37 (0, 0)) QQ hg (Kd.R_ne HO_103002.out BK102.out (by decide))) (Yf.grown QI75_0 hg (Yf.Y3K HI0.out HO_103002.out (by decide))) (Y31 QB HL.out hb) (Y3.trans QK (Y3.of_grown hg g) (Kd.R_base2 HO_103002.out)) (ho)
        clear BK101
        clear BK102
        clear HI0
        clear HB
        clear HK
        clear HO_103002
        obtain ⟨BK101, BK102, HI0, HB, HK, HO131⟩ := n_
        clear ho hb hg hat
        obtain ⟨Ao44, co44, eo44⟩ := Kd.R_slice HO131.out
        (first | subst eo44 | (injection eo44 with f1_ f2_ f3_; have f4_ := f1_.symm; have f5_ := f3_.symm; clear f1_ f2_ f3_; subst f4_; subst f5_))
        refine hK.out _ _ ⟨(Y1 BK102.out 0).trans rfl, (Y1 BK102.out 1).trans rfl, (Y1 BK102.out 2).trans rfl, (Y1 BK102.out 3).trans rfl⟩ (fun hHeld => ?_)
        clear hK K
        refine Y1z (a' := ?_) ?_ ?_
        rotate_left
        ·show Act.put _ (some 50) _ = _
         simp only [Act.put, List.setIfInBounds_toArray, List.set_cons_zero, List.set_cons_succ, Y13, Y15]
         rfl
        refine pY 6 51 bz8_7f ?_
        refine last_ (i := 7) (N := none) bz8_ff rfl rfl (Y1g HT_.out Z7) (by decide) (fun K hK => ?_)
        have hs45 : w43.cell? ⟨gb102, 2, none⟩ = some (u103002) := (Y1 BK102.out 2).trans rfl
        have hfs45 := Y4 BK102.out 2
        have hns45_0 := NB101_102.out
        have hms45_0 := NB102_101.out
        refine skip_ (w1 := ?_) (by rfl) rfl ?_ ?_
        rotate_left
        ·go_simp
         rfl
        refine hK.out _ _ ?_
        clear hK K
        refine Y1L (Y1f HT_.out Z7) ?_
        try go_wp2
        go_roundg k2
        case measure => have := HJ1.out; have := HK2.out; omega
        case rel => exact ⟨(t125), (t126), (t127), (t128), (y129), (.slice Ao44 y129.length co44), H', ⟨by have := HJ1.out; have := HK2.out; omega⟩, ⟨by (with_reducible repeat (first | apply Kd.R_alloc | apply Kd.R_drewN | apply Kd.R_drew)); exact Kd.R_mono (Kd.R_far (p := ⟨gb102, 2, none⟩) (Kd.R_types HO131.out BK102.out (by decide)) (fun _ hk => hk.2) (.slice Ao44 y129.length co44)) (fun _ hk => trivial)⟩, ⟨Z1T⟩, ⟨by (with_reducible repeat (first | refine Y9 ?_ _ | refine Y8 ?_ | refine Y7 ?_ _)); exact Yo (cs := #[.int .i64 8, .string (⟨#[]⟩ : ByteArray), u103002, .slice none 0 0]) QQ 2 _ rfl⟩, ⟨QI75_0⟩, ⟨QK⟩, ⟨QB⟩⟩
       ·rw [if_neg c39] at H
        exact ZH
      ·replace c37 := Bool.eq_false_iff.mpr c37
       subst c37
       have H1 : ((YI.f k2 t120 t121 t122 t123 41).bind fun bt132 => (some (8, (⟨#[]⟩ : ByteArray), x103002_2, ([] : List (S37)), bt132.1, bt132.2.1, bt132.2.2.1, bt132.2.2.2))) = some (r1, r2, r3, r4, r5, r6, r7, r8) := by rw [if_neg (show ¬ (false = true) by decide)] at H; exact H
       clear H
       have H := H1
       clear H1
       replace H := Option.bind_eq_some_iff.mp H
       obtain ⟨⟨t132, t133, t134, t135⟩, A460, H⟩ := H
       replace H : (some (8, (⟨#[]⟩ : ByteArray), x103002_2, ([] : List (S37)), t132, t133, t134, t135)) = some (r1, r2, r3, r4, r5, r6, r7, r8) := H
       have A46 := Y0.mk A460
       clear A460
       simp only [Option.some.injEq, Prod.mk.injEq] at H
       obtain ⟨rfl, rfl, rfl, rfl, rfl, rfl, rfl, rfl⟩ := H
       go_wp2_with (first | ((with_reducible refine Yh (f := 95) rfl ?_); refine Yy (some 44) rfl rfl Tryd.func95 Z7 rfl #[.pointer (some ⟨g, 0, none⟩), .int .u8 124] rfl Z0 ?_; (with_reducible refine (YH.calls k2 g x1000_2 x1001_2 x1002_2 x1003_2 124 false t120 t121 t122 t123 w0 _ ?side1 ?side2 A36.out).mono ?_); (case side1 => exact Z1r); (case side2 => exact QB); rintro e w47 ⟨rfl, hi, hb, hk⟩; refine ⟨_, rfl, ?_⟩; have n_ := Y2T (Kd.R_mono (Kd.R_keep (Yf.apart (show Yf w0 _ g x1000_2 x1001_2 x1002_2 x1003_2 from QI75_0) Z1b (by decide)) hk (fun _ h => h.2)) (fun _ h => h.1)) (Y3.blk hk (g' := gb101) (o := .cells #[.int .i64 0, .string (⟨#[]⟩ : ByteArray), .slice none 0 0, .slice none 0 0] 37 (0, 0)) QQ NB101_0.out (by simp)) (Y3.blk hk (g' := gb102) (o := .cells #[.int .i64 8, .string (⟨#[]⟩ : ByteArray), u103002, .slice none 0 0] 37 (0, 0)) QQ NB102_0.out (by simp)) (Y3.trans QK hk (.inl rfl)) (hb) (hi); clear HO_103002 BK101 BK102 HK HB HI0; obtain ⟨HO_103002, BK101, BK102, HK, HB, HI0⟩ := n_; (try clear hb); (try clear hb2); (try clear hk); (try clear hi)) | ((with_reducible refine Yh (f := 142) rfl ?_); refine Yy (some 53) rfl rfl Tryd.func142 Z7 rfl #[.pointer (some ⟨g, 0, none⟩), .int .u8 41] rfl Z0 ?_; (with_reducible refine (YI.calls k2 g t120 t121 t122 t123 41 t132 t133 t134 t135 w0 _ ?side1 ?side2 A46.out).mono ?_); (case side1 => exact Z1r); (case side2 => exact QB); rintro e w48 ⟨rfl, hi, hb, hk⟩; refine ⟨_, rfl, ?_⟩; have n_ := Y2T (Kd.R_mono (Kd.R_keep (Yf.apart (show Yf w0 _ g t120 t121 t122 t123 from QI75_0) Z1b (by decide)) hk (fun _ h => h.2)) (fun _ h => h.1)) (Y3.blk hk (g' := gb101) (o := .cells #[.int .i64 0, .string (⟨#[]⟩ : ByteArray), .slice none 0 0, .slice none 0 0] 37 (0, 0)) QQ NB101_0.out (by simp)) (Y3.blk hk (g' := gb102) (o := .cells #[.int .i64 8, .string (⟨#[]⟩ : ByteArray), u103002, .slice none 0 0] 37 (0, 0)) QQ NB102_0.out (by simp)) (Y3.trans QK hk (.inl rfl)) (hb) (hi); clear HO_103002 BK101 BK102 HK HB HI0; obtain ⟨HO_103002, BK101, BK102, HK, HB, HI0⟩ := n_; (try clear hb); (try clear hb2); (try clear hk); (try clear hi); have hnb49 := NB102_101.out; have hnc49 := NB101_102.out; have hnb50 := NB102_0.out; have hnc50 := NB0_102.out; obtain ⟨hcz51_0, hcz51_1, hcz51_2, hcz51_3, hfz51_0, hfz51_1, hfz51_2, hfz51_3⟩ := Yt BK102.out; have hnb52 := NB101_0.out; have hnc52 := NB0_101.out; obtain ⟨hcz53_0, hcz53_1, hcz53_2, hcz53_3, hfz53_0, hfz53_1, hfz53_2, hfz53_3⟩ := Yt BK101.out; obtain ⟨Ao54, co54, eo54⟩ := Kd.R_slice HO_103002.out; subst eo54))
       refine bodyPost_ret (results_cell_row rfl _ _ gb101 37 #[.int .i64 8, .string (⟨#[]⟩ : ByteArray), .slice Ao54 x103002_2.length co54, .slice none 0 0] (0, 0) _ rfl (by (with_reducible repeat (first | refine Y9 ?_ _ | refine Y8 ?_ | refine Y7 ?_ _)); exact Yo (cs := #[.int .i64 8, .string (⟨#[]⟩ : ByteArray), .slice Ao54 x103002_2.length co54, .slice none 0 0]) Z1P 3 _ rfl) Tryd.underlying37 rfl Z7) rfl ?_
       exact ⟨_, _, Z2, by (with_reducible repeat (first | apply Kd.R_alloc | apply Kd.R_drewN | apply Kd.R_drew)); exact Kd.R_mono (Kd.R_far (p := ⟨gb101, 3, none⟩) (Kd.R_far (p := ⟨gb101, 2, none⟩) (Kd.R_far (p := ⟨gb101, 1, none⟩) (Kd.R_far (p := ⟨gb101, 0, none⟩) (Kd.R_types HO_103002.out BK101.out (by decide)) (fun _ hk => hk.2) (.int .i64 8)) (fun _ hk => hk.2) (.string (⟨#[]⟩ : ByteArray))) (fun _ hk => hk.2) (.slice Ao54 x103002_2.length co54)) (fun _ hk => hk.2) (.slice none 0 0)) (fun _ hk => trivial), Zb, QI75_0, QB, QK⟩
mutual
def Yj.l0 : Nat → Int → ByteArray → Int → Int → Int → Int → ByteArray → List ByteArray → List (S37) → Option (Int × ByteArray × List ByteArray × (List (S37)) × ByteArray × Int × Int × Int)
 | 0, _, _, _, _, _, _, _, _, _ => none
 | k + 1, x1, x1000, x1001, x1002, x1003, x115000, x115001, x115002, x115003 => (YH.f k x1000 x1001 x1002 x1003 124).bind fun bt115 => (if bt115.1 = true then ((Yq.f k bt115.2.1 bt115.2.2.1 bt115.2.2.2.1 bt115.2.2.2.2 x1).bind fun bt120 => (Yj.l0 k x1 bt120.2.2.2.2.1 bt120.2.2.2.2.2.1 bt120.2.2.2.2.2.2.1 bt120.2.2.2.2.2.2.2 4 (⟨#[]⟩ : ByteArray) ([] : List ByteArray) (([(⟨x115000, x115001, x115002, x115003⟩ : S37), (⟨bt120.1, bt120.2.1, bt120.2.2.1, bt120.2.2.2.1⟩ : S37)] : List (S37))))) else (some (x115000, x115001, x115002, x115003, bt115.2.1, bt115.2.2.1, bt115.2.2.2.1, bt115.2.2.2.2)))
def Yj.f : Nat → ByteArray → Int → Int → Int → Int → Option (Int × ByteArray × List ByteArray × (List (S37)) × ByteArray × Int × Int × Int)
 | 0, _, _, _, _, _ => none
 | k + 1, s0_0, s0_1, s0_2, s0_3, a1 => (Yq.f k s0_0 s0_1 s0_2 s0_3 a1).bind fun bt102 => (Yj.l0 k a1 bt102.2.2.2.2.1 bt102.2.2.2.2.2.1 bt102.2.2.2.2.2.2.1 bt102.2.2.2.2.2.2.2 bt102.1 bt102.2.1 bt102.2.2.1 bt102.2.2.2.1)
def Yq.l0 : Nat → Int → ByteArray → Int → Int → Int → Int → ByteArray → List ByteArray → List (S37) → Option (Int × ByteArray × List ByteArray × (List (S37)) × ByteArray × Int × Int × Int)
 | 0, _, _, _, _, _, _, _, _, _ => none
 | k + 1, x1, x1000, x1001, x1002, x1003, x149000, x149001, x149002, x149003 => (YH.f k x1000 x1001 x1002 x1003 47).bind fun bt149 => (if bt149.1 = true then ((Ye.f k bt149.2.1 bt149.2.2.1 bt149.2.2.2.1 bt149.2.2.2.2 x1).bind fun bt154 => (Yq.l0 k x1 bt154.2.2.2.2.1 bt154.2.2.2.2.2.1 bt154.2.2.2.2.2.2.1 bt154.2.2.2.2.2.2.2 3 (⟨#[]⟩ : ByteArray) ([] : List ByteArray) (([(⟨x149000, x149001, x149002, x149003⟩ : S37), (⟨bt154.1, bt154.2.1, bt154.2.2.1, bt154.2.2.2.1⟩ : S37)] : List (S37))))) else (some (x149000, x149001, x149002, x149003, bt149.2.1, bt149.2.2.1, bt149.2.2.2.1, bt149.2.2.2.2)))
def Yq.f : Nat → ByteArray → Int → Int → Int → Int → Option (Int × ByteArray × List ByteArray × (List (S37)) × ByteArray × Int × Int × Int)
 | 0, _, _, _, _, _ => none
 | k + 1, s0_0, s0_1, s0_2, s0_3, a1 => (Ye.f k s0_0 s0_1 s0_2 s0_3 a1).bind fun bt136 => (Yq.l0 k a1 bt136.2.2.2.2.1 bt136.2.2.2.2.2.1 bt136.2.2.2.2.2.2.1 bt136.2.2.2.2.2.2.2 bt136.1 bt136.2.1 bt136.2.2.1 bt136.2.2.2.1)
def Ye.l0 : Nat → ByteArray → Int → Int → Int → Int → ByteArray → List ByteArray → List (S37) → Option (Int × ByteArray × List ByteArray × (List (S37)) × ByteArray × Int × Int × Int)
 | 0, _, _, _, _, _, _, _, _ => none
 | k + 1, x1000, x1001, x1002, x1003, x183000, x183001, x183002, x183003 => (Yd.f k x1000 x1001 x1002 x1003).bind fun bt183 => (if bt183.1 = 42 then (Ye.j1 k 5 bt183.2.1 (wrap64 (bt183.2.2.1 + 1)) bt183.2.2.2.1 bt183.2.2.2.2 x183000 x183001 x183002 x183003) else (if bt183.1 = 43 then (Ye.j2 k 6 bt183.2.1 (wrap64 (bt183.2.2.1 + 1)) bt183.2.2.2.1 bt183.2.2.2.2 x183000 x183001 x183002 x183003) else (if bt183.1 = 63 then (Ye.j3 k 7 bt183.2.1 (wrap64 (bt183.2.2.1 + 1)) bt183.2.2.2.1 bt183.2.2.2.2 x183000 x183001 x183002 x183003) else (some (x183000, x183001, x183002, x183003, bt183.2.1, bt183.2.2.1, bt183.2.2.2.1, bt183.2.2.2.2)))))
def Ye.j1 : Nat → Int → ByteArray → Int → Int → Int → Int → ByteArray → List ByteArray → List (S37) → Option (Int × ByteArray × List ByteArray × (List (S37)) × ByteArray × Int × Int × Int)
 | 0, _, _, _, _, _, _, _, _, _ => none
 | k + 1, x6, x1000, x1001, x1002, x1003, x183000, x183001, x183002, x183003 => Ye.l0 k x1000 x1001 x1002 x1003 x6 (⟨#[]⟩ : ByteArray) ([] : List ByteArray) (([(⟨x183000, x183001, x183002, x183003⟩ : S37)] : List (S37)))
def Ye.j2 : Nat → Int → ByteArray → Int → Int → Int → Int → ByteArray → List ByteArray → List (S37) → Option (Int × ByteArray × List ByteArray × (List (S37)) × ByteArray × Int × Int × Int)
 | 0, _, _, _, _, _, _, _, _, _ => none
 | k + 1, x6, x1000, x1001, x1002, x1003, x183000, x183001, x183002, x183003 => Ye.l0 k x1000 x1001 x1002 x1003 x6 (⟨#[]⟩ : ByteArray) ([] : List ByteArray) (([(⟨x183000, x183001, x183002, x183003⟩ : S37)] : List (S37)))
def Ye.j3 : Nat → Int → ByteArray → Int → Int → Int → Int → ByteArray → List ByteArray → List (S37) → Option (Int × ByteArray × List ByteArray × (List (S37)) × ByteArray × Int × Int × Int)
 | 0, _, _, _, _, _, _, _, _, _ => none
 | k + 1, x6, x1000, x1001, x1002, x1003, x183000, x183001, x183002, x183003 => Ye.l0 k x1000 x1001 x1002 x1003 x6 (⟨#[]⟩ : ByteArray) ([] : List ByteArray) (([(⟨x183000, x183001, x183002, x183003⟩ : S37)] : List (S37)))
def Ye.f : Nat → ByteArray → Int → Int → Int → Int → Option (Int × ByteArray × List ByteArray × (List (S37)) × ByteArray × Int × Int × Int)
 | 0, _, _, _, _, _ => none
 | k + 1, s0_0, s0_1, s0_2, s0_3, a1 => (Yv.f k s0_0 s0_1 s0_2 s0_3 a1).bind fun bt170 => (Ye.l0 k bt170.2.2.2.2.1 bt170.2.2.2.2.2.1 bt170.2.2.2.2.2.2.1 bt170.2.2.2.2.2.2.2 bt170.1 bt170.2.1 bt170.2.2.1 bt170.2.2.2.1)
def Yv.f : Nat → ByteArray → Int → Int → Int → Int → Option (Int × ByteArray × List ByteArray × (List (S37)) × ByteArray × Int × Int × Int)
 | 0, _, _, _, _, _ => none
 | k + 1, s0_0, s0_1, s0_2, s0_3, a1 => (Yd.f k s0_0 s0_1 s0_2 s0_3).bind fun bt198 => (if bt198.1 = 94 then (if a1 ≥ 5 then ((Yc.f bt198.2.1 bt198.2.2.1 bt198.2.2.2.1 bt198.2.2.2.2 bt198.2.2.1 3).bind fun bt215 => (some (bt215.1, bt215.2.1, bt215.2.2.1, bt215.2.2.2.1, bt215.2.2.2.2.1, bt215.2.2.2.2.2.1, bt215.2.2.2.2.2.2.1, bt215.2.2.2.2.2.2.2))) else ((Yv.f k bt198.2.1 (wrap64 (bt198.2.2.1 + 1)) bt198.2.2.2.1 bt198.2.2.2.2 (wrap64 (a1 + 1))).bind fun bt227 => (some (2, (⟨#[]⟩ : ByteArray), ([] : List ByteArray), (([(⟨bt227.1, bt227.2.1, bt227.2.2.1, bt227.2.2.2.1⟩ : S37)] : List (S37))), bt227.2.2.2.2.1, bt227.2.2.2.2.2.1, bt227.2.2.2.2.2.2.1, bt227.2.2.2.2.2.2.2)))) else ((Yx.f k bt198.2.1 bt198.2.2.1 bt198.2.2.2.1 bt198.2.2.2.2 a1).bind fun bt203 => (some (bt203.1, bt203.2.1, bt203.2.2.1, bt203.2.2.2.1, bt203.2.2.2.2.1, bt203.2.2.2.2.2.1, bt203.2.2.2.2.2.2.1, bt203.2.2.2.2.2.2.2))))
def Yx.f : Nat → ByteArray → Int → Int → Int → Int → Option (Int × ByteArray × List ByteArray × (List (S37)) × ByteArray × Int × Int × Int)
 | 0, _, _, _, _, _ => none
 | k + 1, s0_0, s0_1, s0_2, s0_3, a1 => (Yd.f k s0_0 s0_1 s0_2 s0_3).bind fun bt243 => (if bt243.1 = 60 then ((YE.f k bt243.2.1 bt243.2.2.1 bt243.2.2.2.1 bt243.2.2.2.2).bind fun bt248 => (some (1, bt248.1, ([] : List ByteArray), ([] : List (S37)), bt248.2.1, bt248.2.2.1, bt248.2.2.2.1, bt248.2.2.2.2))) else (if bt243.1 = 33 then ((Yg.f k bt243.2.1 (wrap64 (bt243.2.2.1 + 1)) bt243.2.2.2.1 bt243.2.2.2.2).bind fun bt253 => (some (bt253.1, bt253.2.1, bt253.2.2.1, bt253.2.2.2.1, bt253.2.2.2.2.1, bt253.2.2.2.2.2.1, bt253.2.2.2.2.2.2.1, bt253.2.2.2.2.2.2.2))) else (if bt243.1 = 40 then (if a1 ≥ 5 then ((Yc.f bt243.2.1 bt243.2.2.1 bt243.2.2.2.1 bt243.2.2.2.2 bt243.2.2.1 3).bind fun bt265 => (some (bt265.1, bt265.2.1, bt265.2.2.1, bt265.2.2.2.1, bt265.2.2.2.2.1, bt265.2.2.2.2.2.1, bt265.2.2.2.2.2.2.1, bt265.2.2.2.2.2.2.2))) else ((Yj.f k bt243.2.1 (wrap64 (bt243.2.2.1 + 1)) bt243.2.2.2.1 bt243.2.2.2.2 (wrap64 (a1 + 1))).bind fun bt277 => ((YI.f k bt277.2.2.2.2.1 bt277.2.2.2.2.2.1 bt277.2.2.2.2.2.2.1 bt277.2.2.2.2.2.2.2 41).bind fun bt290 => (some (bt277.1, bt277.2.1, bt277.2.2.1, bt277.2.2.2.1, bt290.1, bt290.2.1, bt290.2.2.1, bt290.2.2.2))))) else ((Yc.f bt243.2.1 bt243.2.2.1 bt243.2.2.2.1 bt243.2.2.2.2 bt243.2.2.1 2).bind fun bt294 => (some (bt294.1, bt294.2.1, bt294.2.2.1, bt294.2.2.2.1, bt294.2.2.2.2.1, bt294.2.2.2.2.2.1, bt294.2.2.2.2.2.2.1, bt294.2.2.2.2.2.2.2))))))
end
abbrev Yj.Spec (k : Nat) : Prop := ∀ (g : Nat) (s0_0 : ByteArray) (s0_1 : Int) (s0_2 : Int) (s0_3 : Int) (a1 : Int) (r1 : Int) (r2 : ByteArray) (r3 : List ByteArray) (r4 : List (S37)) (r5 : ByteArray) (r6 : Int) (r7 : Int) (r8 : Int) (w0 w : World) (hI : Yf w0 w g s0_0 s0_1 s0_2 s0_3) (hB : Below w0.heap.size w0 w) (hT : Tabs w0) (h : Yj.f k s0_0 s0_1 s0_2 s0_3 a1 = some (r1, r2, r3, r4, r5, r6, r7, r8)),
  Calls Tryd.prog 52 #[.pointer (some ⟨g, 0, none⟩), .int .i64 a1] w fun e w' => ∃ v2_ v3_ : Value, e = .returned (.agg #[.int .i64 r1, .string r2, v2_, v3_]) ∧ Kd.R Kd.string 9 w' w.heap.size (fun k_ => (w.heap.size ≤ k_)) v2_ r3 ∧ Kd.N k37 37 w' w.heap.size (fun k_ => (w.heap.size ≤ k_) ∧ some k_ ≠ (v2_ : Value).ownBlock) v3_ r4 ∧ Yf w0 w' g r5 r6 r7 r8 ∧ Below w0.heap.size w0 w' ∧ Y3 w w' g none
abbrev Yq.Spec (k : Nat) : Prop := ∀ (g : Nat) (s0_0 : ByteArray) (s0_1 : Int) (s0_2 : Int) (s0_3 : Int) (a1 : Int) (r1 : Int) (r2 : ByteArray) (r3 : List ByteArray) (r4 : List (S37)) (r5 : ByteArray) (r6 : Int) (r7 : Int) (r8 : Int) (w0 w : World) (hI : Yf w0 w g s0_0 s0_1 s0_2 s0_3) (hB : Below w0.heap.size w0 w) (hT : Tabs w0) (h : Yq.f k s0_0 s0_1 s0_2 s0_3 a1 = some (r1, r2, r3, r4, r5, r6, r7, r8)),
  Calls Tryd.prog 94 #[.pointer (some ⟨g, 0, none⟩), .int .i64 a1] w fun e w' => ∃ v2_ v3_ : Value, e = .returned (.agg #[.int .i64 r1, .string r2, v2_, v3_]) ∧ Kd.R Kd.string 9 w' w.heap.size (fun k_ => (w.heap.size ≤ k_)) v2_ r3 ∧ Kd.N k37 37 w' w.heap.size (fun k_ => (w.heap.size ≤ k_) ∧ some k_ ≠ (v2_ : Value).ownBlock) v3_ r4 ∧ Yf w0 w' g r5 r6 r7 r8 ∧ Below w0.heap.size w0 w' ∧ Y3 w w' g none
abbrev Ye.Spec (k : Nat) : Prop := ∀ (g : Nat) (s0_0 : ByteArray) (s0_1 : Int) (s0_2 : Int) (s0_3 : Int) (a1 : Int) (r1 : Int) (r2 : ByteArray) (r3 : List ByteArray) (r4 : List (S37)) (r5 : ByteArray) (r6 : Int) (r7 : Int) (r8 : Int) (w0 w : World) (hI : Yf w0 w g s0_0 s0_1 s0_2 s0_3) (hB : Below w0.heap.size w0 w) (hT : Tabs w0) (h : Ye.f k s0_0 s0_1 s0_2 s0_3 a1 = some (r1, r2, r3, r4, r5, r6, r7, r8)),
  Calls Tryd.prog 112 #[.pointer (some ⟨g, 0, none⟩), .int .i64 a1] w fun e w' => ∃ v2_ v3_ : Value, e = .returned (.agg #[.int .i64 r1, .string r2, v2_, v3_]) ∧ Kd.R Kd.string 9 w' w.heap.size (fun k_ => (w.heap.size ≤ k_)) v2_ r3 ∧ Kd.N k37 37 w' w.heap.size (fun k_ => (w.heap.size ≤ k_) ∧ some k_ ≠ (v2_ : Value).ownBlock) v3_ r4 ∧ Yf w0 w' g r5 r6 r7 r8 ∧ Below w0.heap.size w0 w' ∧ Y3 w w' g none
abbrev Yv.Spec (k : Nat) : Prop := ∀ (g : Nat) (s0_0 : ByteArray) (s0_1 : Int) (s0_2 : Int) (s0_3 : Int) (a1 : Int) (r1 : Int) (r2 : ByteArray) (r3 : List ByteArray) (r4 : List (S37)) (r5 : ByteArray) (r6 : Int) (r7 : Int) (r8 : Int) (w0 w : World) (hI : Yf w0 w g s0_0 s0_1 s0_2 s0_3) (hB : Below w0.heap.size w0 w) (hT : Tabs w0) (h : Yv.f k s0_0 s0_1 s0_2 s0_3 a1 = some (r1, r2, r3, r4, r5, r6, r7, r8)),
  Calls Tryd.prog 123 #[.pointer (some ⟨g, 0, none⟩), .int .i64 a1] w fun e w' => ∃ v2_ v3_ : Value, e = .returned (.agg #[.int .i64 r1, .string r2, v2_, v3_]) ∧ Kd.R Kd.string 9 w' w.heap.size (fun k_ => (w.heap.size ≤ k_)) v2_ r3 ∧ Kd.N k37 37 w' w.heap.size (fun k_ => (w.heap.size ≤ k_) ∧ some k_ ≠ (v2_ : Value).ownBlock) v3_ r4 ∧ Yf w0 w' g r5 r6 r7 r8 ∧ Below w0.heap.size w0 w' ∧ Y3 w w' g none
abbrev Yx.Spec (k : Nat) : Prop := ∀ (g : Nat) (s0_0 : ByteArray) (s0_1 : Int) (s0_2 : Int) (s0_3 : Int) (a1 : Int) (r1 : Int) (r2 : ByteArray) (r3 : List ByteArray) (r4 : List (S37)) (r5 : ByteArray) (r6 : Int) (r7 : Int) (r8 : Int) (w0 w : World) (hI : Yf w0 w g s0_0 s0_1 s0_2 s0_3) (hB : Below w0.heap.size w0 w) (hT : Tabs w0) (h : Yx.f k s0_0 s0_1 s0_2 s0_3 a1 = some (r1, r2, r3, r4, r5, r6, r7, r8)),
  Calls Tryd.prog 134 #[.pointer (some ⟨g, 0, none⟩), .int .i64 a1] w fun e w' => ∃ v2_ v3_ : Value, e = .returned (.agg #[.int .i64 r1, .string r2, v2_, v3_]) ∧ Kd.R Kd.string 9 w' w.heap.size (fun k_ => (w.heap.size ≤ k_)) v2_ r3 ∧ Kd.N k37 37 w' w.heap.size (fun k_ => (w.heap.size ≤ k_) ∧ some k_ ≠ (v2_ : Value).ownBlock) v3_ r4 ∧ Yf w0 w' g r5 r6 r7 r8 ∧ Below w0.heap.size w0 w' ∧ Y3 w w' g none
set_option maxHeartbeats 8000000 in
set_option maxRecDepth 100000 in
theorem Yj.Y2N (k : Nat) (ih : ∀ j_ < k, Yj.Spec j_ ∧ Yq.Spec j_ ∧ Ye.Spec j_ ∧ Yv.Spec j_ ∧ Yx.Spec j_) : ∀ (g : Nat) (s0_0 : ByteArray) (s0_1 : Int) (s0_2 : Int) (s0_3 : Int) (a1 : Int) (r1 : Int) (r2 : ByteArray) (r3 : List ByteArray) (r4 : List (S37)) (r5 : ByteArray) (r6 : Int) (r7 : Int) (r8 : Int) (w0 w : World) (hI : Yf w0 w g s0_0 s0_1 s0_2 s0_3) (hB : Below w0.heap.size w0 w) (hT : Tabs w0) (h : Yj.f k s0_0 s0_1 s0_2 s0_3 a1 = some (r1, r2, r3, r4, r5, r6, r7, r8)),
  Calls Tryd.prog 52 #[.pointer (some ⟨g, 0, none⟩), .int .i64 a1] w fun e w' => ∃ v2_ v3_ : Value, e = .returned (.agg #[.int .i64 r1, .string r2, v2_, v3_]) ∧ Kd.R Kd.string 9 w' w.heap.size (fun k_ => (w.heap.size ≤ k_)) v2_ r3 ∧ Kd.N k37 37 w' w.heap.size (fun k_ => (w.heap.size ≤ k_) ∧ some k_ ≠ (v2_ : Value).ownBlock) v3_ r4 ∧ Yf w0 w' g r5 r6 r7 r8 ∧ Below w0.heap.size w0 w' ∧ Y3 w w' g none := by
 intro g s0_0 s0_1 s0_2 s0_3 a1 r1 r2 r3 r4 r5 r6 r7 r8 w0 w hI hB hT h
 cases k with
 | zero => exact absurd h (by simp [Yj.f])
 | succ k =>
 simp only [Yj.f] at h
 have HT := Y0.mk hT
 clear hT
 have hu37 := Tryd.underlying37
 have HI0 := Y0.mk hI
 have HK := Y0.mk (Y3.refl w g none)
 have HL := Y0.mk hB.size
 clear hI
 have HW0 := Y0.mk hB.size
 have HB := Y0.mk hB
 clear hB
 have H : ((Yq.f k s0_0 s0_1 s0_2 s0_3 a1).bind fun bt102 => (Yj.l0 k a1 bt102.2.2.2.2.1 bt102.2.2.2.2.2.1 bt102.2.2.2.2.2.2.1 bt102.2.2.2.2.2.2.2 bt102.1 bt102.2.1 bt102.2.2.1 bt102.2.2.2.1)) = some (r1, r2, r3, r4, r5, r6, r7, r8) := h
 clear h
 replace H := Option.bind_eq_some_iff.mp H
 obtain ⟨⟨t102, t103, t104, t107, t110, t111, t112, t113⟩, A30, H⟩ := H
 replace H : (Yj.l0 k a1 t110 t111 t112 t113 t102 t103 t104 t107) = some (r1, r2, r3, r4, r5, r6, r7, r8) := H
 have A3 := Y0.mk A30
 clear A30
 have H' := Y0.mk H
 clear H
 go_enter Tryd.func52, Tryd.ntmps52
 go_wp2_with (first | ((with_reducible refine Ym (N := 4) rfl ?_); refine Yn ?hg (N := 4) ?hd (cs := #[.int .i64 0, .string (⟨#[]⟩ : ByteArray), .slice none 0 0, .slice none 0 0]) (t := 37) ?hr ?_; (case hd => rfl); (case hg => rfl); (case hr => exact Za); intro gb101 hg w4 hbox hb; have n_ := Y2C (Yf.below QI75_0 hb) (Y3.trans QK (Y3.of_below hb g none) (.inl rfl)) (Y6 QB hb) (hbox) ((by rw [hg]; exact (Yb (w := w) (g := g) (row := none) QK) : w.heap.size ≤ gb101)) ((Nat.le_trans HW0.out (by rw [hg]; exact (Yb (w := w) (g := g) (row := none) QK) : w.heap.size ≤ gb101) : w0.heap.size ≤ gb101)) ((by rw [hg]; exact Nat.ne_of_lt (Yf.lt (show Yf w0 _ g s0_0 s0_1 s0_2 s0_3 from QI75_0)) : g ≠ gb101)) ((by rw [hg]; exact Nat.ne_of_gt (Yf.lt (show Yf w0 _ g s0_0 s0_1 s0_2 s0_3 from QI75_0)) : gb101 ≠ g)); clear HI0 HK HB; obtain ⟨HI0, HK, HB, BK101, GW101, GE101, NB0_101, NB101_0⟩ := n_; clear hb hbox hg) | ((with_reducible refine Yh (f := 94) rfl ?_); refine Yy (some 8) rfl rfl Tryd.func94 Z7 rfl #[.pointer (some ⟨g, 0, none⟩), .int .i64 a1] rfl Z0 ?_; (with_reducible refine ((ih k (by omega)).2.1 g s0_0 s0_1 s0_2 s0_3 a1 t102 t103 t104 t107 t110 t111 t112 t113 w0 _ ?side1 ?side2 ?side3 A3.out).mono ?_); (case side1 => exact Z1r); (case side2 => exact QB); (case side3 => exact HT.out); rintro e w5 ⟨v105, v108, rfl, ho0, ho1, hi, hb, hk⟩; refine ⟨_, rfl, ?_⟩; have n0_ := Y0.mk (Y3.blk hk (g' := gb101) (o := .cells #[.int .i64 0, .string (⟨#[]⟩ : ByteArray), .slice none 0 0, .slice none 0 0] 37 (0, 0)) QQ NB101_0.out (by simp)); have n1_ := Y0.mk (Kd.R_lower (Kd.R_newM (M := fun k_ => (w.heap.size ≤ k_)) (Kd.R_mono (ok' := fun k_ => True) ho0 (fun _ hk_ => trivial)) (Yb (w := w) (g := g) (row := none) QK) (fun k_ h_ => h_)) (Yb (w := w) (g := g) (row := none) QK)); have n2_ := Y0.mk (Kd.N_lower (Kd.N_mono (ok' := fun k_ => (w.heap.size ≤ k_) ∧ some k_ ≠ (v105 : Value).ownBlock ∧ k_ ≠ gb101 ∧ k_ ≠ g) ho1 (fun k_ hk_ => ⟨(Nat.le_trans (Yb (w := w) (g := g) (row := none) QK) hk_.1), hk_.2, (Kd.freshB (g := gb101) (o := .cells #[.int .i64 0, .string (⟨#[]⟩ : ByteArray), .slice none 0 0, .slice none 0 0] 37 (0, 0)) QQ k_ hk_.1), (Yf.fresh QI75_0 k_ hk_.1)⟩)) (Yb (w := w) (g := g) (row := none) QK)); have n3_ := Y0.mk (Y3.trans QK hk (.inl rfl)); have n4_ := Y0.mk (hb); have n5_ := Y0.mk (hi); clear BK101 HK HB HI0; have BK101 := n0_; have HO106 := n1_; have HO109 := n2_; have HK := n3_; have HB := n4_; have HI0 := n5_; clear n0_ n1_ n2_ n3_ n4_ n5_; (try clear hb); (try clear hb2); (try clear hk); (try clear hi); (try clear ho0); (try clear ho1)) | ((with_reducible refine Ym (N := 5) rfl ?_); refine Yn ?hg (N := 5) ?hd (cs := #[.int .i64 0, .string (⟨#[]⟩ : ByteArray), .slice none 0 0, .slice none 0 0]) (t := 37) ?hr ?_; (case hd => rfl); (case hg => rfl); (case hr => exact Za); intro gb114 hg w6 hbox hb; have n0_ := Y0.mk (Kd.R_below (by (with_reducible repeat (first | apply Kd.R_alloc | apply Kd.R_drewN | apply Kd.R_drew)); exact HO106.out) hb); have n1_ := Y0.mk (Kd.N_below (Kd.N_elderB (by (with_reducible repeat (first | apply Kd.N_alloc | apply Kd.N_drewN | apply Kd.N_drew)); exact HO109.out) gb114 (Nat.le_of_eq hg.symm)) hb); have n2_ := Y0.mk (Yf.below QI75_0 hb); have n3_ := Y0.mk (Yi (g := gb101) (o := .cells #[.int .i64 0, .string (⟨#[]⟩ : ByteArray), .slice none 0 0, .slice none 0 0] 37 (0, 0)) QQ hb); have n4_ := Y0.mk (Y3.trans QK (Y3.of_below hb g none) (.inl rfl)); have n5_ := Y0.mk (Y6 QB hb); have n6_ := Y0.mk (hbox); have n7_ := Y0.mk ((by rw [hg]; exact (Yb (w := w) (g := g) (row := none) QK) : w.heap.size ≤ gb114)); have n8_ := Y0.mk ((Nat.le_trans HW0.out (by rw [hg]; exact (Yb (w := w) (g := g) (row := none) QK) : w.heap.size ≤ gb114) : w0.heap.size ≤ gb114)); have n9_ := Y0.mk ((by rw [hg]; exact Nat.ne_of_lt (YO (g := gb101) (o := .cells #[.int .i64 0, .string (⟨#[]⟩ : ByteArray), .slice none 0 0, .slice none 0 0] 37 (0, 0)) QQ) : gb101 ≠ gb114)); have n10_ := Y0.mk ((by rw [hg]; exact Nat.ne_of_gt (YO (g := gb101) (o := .cells #[.int .i64 0, .string (⟨#[]⟩ : ByteArray), .slice none 0 0, .slice none 0 0] 37 (0, 0)) QQ) : gb114 ≠ gb101)); have n11_ := Y0.mk ((by rw [hg]; exact Nat.ne_of_lt (Yf.lt (show Yf w0 _ g t110 t111 t112 t113 from QI75_0)) : g ≠ gb114)); have n12_ := Y0.mk ((by rw [hg]; exact Nat.ne_of_gt (Yf.lt (show Yf w0 _ g t110 t111 t112 t113 from QI75_0)) : gb114 ≠ g)); clear HO106 HO109 HI0 BK101 HK HB; have HO106 := n0_; have HO109 := n1_; have HI0 := n2_; have BK101 := n3_; have HK := n4_; have HB := n5_; have BK114 := n6_; have GW114 := n7_; have GE114 := n8_; have NB101_114 := n9_; have NB114_101 := n10_; have NB0_114 := n11_; have NB114_0 := n12_; clear n0_ n1_ n2_ n3_ n4_ n5_ n6_ n7_ n8_ n9_ n10_ n11_ n12_ hb hbox hg; have hnb7 := NB114_101.out; have hnc7 := NB101_114.out; have hnb8 := NB114_0.out; have hnc8 := NB0_114.out; obtain ⟨hcz9_0, hcz9_1, hcz9_2, hcz9_3, hfz9_0, hfz9_1, hfz9_2, hfz9_3⟩ := Yt BK114.out; obtain ⟨Ao10, co10, eo10⟩ := Kd.R_slice HO106.out; subst eo10; obtain ⟨Ao11, co11, eo11⟩ := Kd.N_slice HO109.out; subst eo11))
 go_loopg [] k (fun kq w' => ∃ (x1000_1 : ByteArray) (x1001_1 : Int) (x1002_1 : Int) (x1003_1 : Int) (x115000_1 : Int) (x115001_1 : ByteArray) (x115002_1 : List ByteArray) (x115003_1 : List (S37)) (u115002 : Value) (u115003 : Value), Y0 (Yj.l0 kq a1 x1000_1 x1001_1 x1002_1 x1003_1 x115000_1 x115001_1 x115002_1 x115003_1 = some (r1, r2, r3, r4, r5, r6, r7, r8)) ∧ Y0 (kq ≤ k) ∧ Y0 (Kd.R Kd.string 9 w' w.heap.size (fun k_ => (w.heap.size ≤ k_)) u115002 x115002_1) ∧ Y0 (Kd.N k37 37 w' w.heap.size (fun k_ => (w.heap.size ≤ k_) ∧ some k_ ≠ (u115002 : Value).ownBlock ∧ k_ ≠ gb101 ∧ k_ ≠ gb114 ∧ k_ ≠ g) u115003 x115003_1) ∧ Y0 (w'.heap[gb101]? = some (.cells #[.int .i64 0, .string (⟨#[]⟩ : ByteArray), (.slice none 0 0), (.slice none 0 0)] 37 (0, 0))) ∧ Y0 (w'.heap[gb114]? = some (.cells #[.int .i64 x115000_1, .string x115001_1, u115002, u115003] 37 (0, 0))) ∧ Y0 (Yf w0 w' g x1000_1 x1001_1 x1002_1 x1003_1) ∧ Y0 (Y3 w w' g none) ∧ Y0 (Below w0.heap.size w0 w'))
 case atStart => exact ⟨(t110), (t111), (t112), (t113), (t102), (t103), (t104), (t107), (.slice Ao10 t104.length co10), (.slice Ao11 t107.length co11), H', ⟨Nat.le_refl _⟩, ⟨by (with_reducible repeat (first | apply Kd.R_alloc | apply Kd.R_drewN | apply Kd.R_drew)); exact Kd.R_mono (Kd.R_far (p := ⟨gb114, 3, none⟩) (Kd.R_far (p := ⟨gb114, 2, none⟩) (Kd.R_far (p := ⟨gb114, 1, none⟩) (Kd.R_far (p := ⟨gb114, 0, none⟩) (Kd.R_types HO106.out BK114.out (by decide)) (fun _ hk => hk.2) (.int .i64 t102)) (fun _ hk => hk.2) (.string t103)) (fun _ hk => hk.2) (.slice Ao10 t104.length co10)) (fun _ hk => hk.2) (.slice Ao11 t107.length co11)) (fun _ hk => hk.1.1)⟩, ⟨by (with_reducible repeat (first | apply Kd.N_alloc | apply Kd.N_drewN | apply Kd.N_drew)); exact Kd.N_mono (Kd.N_far (p := ⟨gb114, 3, none⟩) (Kd.N_far (p := ⟨gb114, 2, none⟩) (Kd.N_far (p := ⟨gb114, 1, none⟩) (Kd.N_far (p := ⟨gb114, 0, none⟩) (Kd.N_mono HO109.out (fun k_ hk => (⟨hk, hk.2⟩ : _ ∧ k_ ≠ gb114))) (fun _ hk => hk.2) (.int .i64 t102)) (fun _ hk => hk.2) (.string t103)) (fun _ hk => hk.2) (.slice Ao10 t104.length co10)) (fun _ hk => hk.2) (.slice Ao11 t107.length co11)) (fun _ hk => ⟨hk.1.1.1, ⟨hk.1.1.2.1, ⟨hk.1.1.2.2.1, ⟨hk.1.2, hk.1.1.2.2.2⟩⟩⟩⟩)⟩, ⟨ZL⟩, ⟨by (with_reducible repeat (first | refine Y9 ?_ _ | refine Y8 ?_ | refine Y7 ?_ _)); exact Yo (cs := #[.int .i64 t102, .string t103, .slice Ao10 t104.length co10, .slice none 0 0]) (by (with_reducible repeat (first | refine Y9 ?_ _ | refine Y8 ?_ | refine Y7 ?_ _)); exact Yo (cs := #[.int .i64 t102, .string t103, .slice none 0 0, .slice none 0 0]) (by (with_reducible repeat (first | refine Y9 ?_ _ | refine Y8 ?_ | refine Y7 ?_ _)); exact Yo (cs := #[.int .i64 t102, .string (⟨#[]⟩ : ByteArray), .slice none 0 0, .slice none 0 0]) Z1 1 _ rfl) 2 _ rfl) 3 _ rfl⟩, ⟨QI75_0⟩, ⟨QK⟩, ⟨QB⟩⟩
 case round =>
  clear H'
  try clear p2
  try clear c5
  try clear c7
  try clear c8
  try clear c9
  try clear hcz9_0 hcz9_1 hcz9_2 hcz9_3 hfz9_0 hfz9_1 hfz9_2 hfz9_3
  obtain ⟨x1000_1, x1001_1, x1002_1, x1003_1, x115000_1, x115001_1, x115002_1, x115003_1, u115002, u115003, HA, HK1, HO_115002, HO_115003, BK101, BK114, HI0, HK, HB⟩ := hrel
  cases gk with
  | zero => exact absurd HA.out (by simp [Yj.l0])
  | succ k1 =>
   have H := HA.out
   clear HA
   simp only [Yj.l0] at H
   replace H := Option.bind_eq_some_iff.mp H
   obtain ⟨⟨t115, t116, t117, t118, t119⟩, A120, H⟩ := H
   replace H : (if t115 = true then ((Yq.f k1 t116 t117 t118 t119 a1).bind fun bt120 => (Yj.l0 k1 a1 bt120.2.2.2.2.1 bt120.2.2.2.2.2.1 bt120.2.2.2.2.2.2.1 bt120.2.2.2.2.2.2.2 4 (⟨#[]⟩ : ByteArray) ([] : List ByteArray) (([(⟨x115000_1, x115001_1, x115002_1, x115003_1⟩ : S37), (⟨bt120.1, bt120.2.1, bt120.2.2.1, bt120.2.2.2.1⟩ : S37)] : List (S37))))) else (some (x115000_1, x115001_1, x115002_1, x115003_1, t116, t117, t118, t119))) = some (r1, r2, r3, r4, r5, r6, r7, r8) := H
   have A12 := Y0.mk A120
   clear A120
   by_cases c13 : t115 = true
   ·subst c13
    have H1 : ((Yq.f k1 t116 t117 t118 t119 a1).bind fun bt120 => (Yj.l0 k1 a1 bt120.2.2.2.2.1 bt120.2.2.2.2.2.1 bt120.2.2.2.2.2.2.1 bt120.2.2.2.2.2.2.2 4 (⟨#[]⟩ : ByteArray) ([] : List ByteArray) (([(⟨x115000_1, x115001_1, x115002_1, x115003_1⟩ : S37), (⟨bt120.1, bt120.2.1, bt120.2.2.1, bt120.2.2.2.1⟩ : S37)] : List (S37))))) = some (r1, r2, r3, r4, r5, r6, r7, r8) := by rw [if_pos rfl] at H; exact H
    clear H
    have H := H1
    clear H1
    replace H := Option.bind_eq_some_iff.mp H
    obtain ⟨⟨t120, t121, t122, t125, t128, t129, t130, t131⟩, A140, H⟩ := H
    replace H : (Yj.l0 k1 a1 t128 t129 t130 t131 4 (⟨#[]⟩ : ByteArray) ([] : List ByteArray) (([(⟨x115000_1, x115001_1, x115002_1, x115003_1⟩ : S37), (⟨t120, t121, t122, t125⟩ : S37)] : List (S37)))) = some (r1, r2, r3, r4, r5, r6, r7, r8) := H
    have A14 := Y0.mk A140
    clear A140
    obtain ⟨y132, hy132⟩ : ∃ y_ : List (S37), y_ = (([(⟨x115000_1, x115001_1, x115002_1, x115003_1⟩ : S37), (⟨t120, t121, t122, t125⟩ : S37)] : List (S37))) := ⟨_, rfl⟩
    replace H : (Yj.l0 k1 a1 t128 t129 t130 t131 4 (⟨#[]⟩ : ByteArray) ([] : List ByteArray) y132) = some (r1, r2, r3, r4, r5, r6, r7, r8) := by first | (rw [hy132]; with_reducible exact H) | (have H2_ := (Option.bind_some _ _).symm.trans H; rw [hy132]; with_reducible exact H2_) | (have H2_ := (Option.bind_some _ _).symm.trans H; with_reducible exact H2_) | with_reducible exact H | (rw [hy132]; exact H) | exact H
    have Ny132 := Y0.mk hy132
    clear hy132
    have H' := Y0.mk H
    clear H
    try go_wp2_with (first | ((with_reducible refine Yh (f := 95) rfl ?_); refine Yy (some 10) rfl rfl Tryd.func95 Z7 rfl #[.pointer (some ⟨g, 0, none⟩), .int .u8 124] rfl Z0 ?_; (with_reducible refine (YH.calls k1 g x1000_1 x1001_1 x1002_1 x1003_1 124 true t116 t117 t118 t119 w0 _ ?side1 ?side2 A12.out).mono ?_); (case side1 => exact Z1r); (case side2 => exact QB); rintro e w15 ⟨rfl, hi, hb, hk⟩; refine ⟨_, rfl, ?_⟩; have n0_ := Y0.mk (Kd.R_mono (Kd.R_keep (Yf.apart (show Yf w0 _ g x1000_1 x1001_1 x1002_1 x1003_1 from QI75_0) Z1c (by decide)) hk (fun _ h => h.2)) (fun _ h => h.1)); have n1_ := Y0.mk (Kd.N_mono (Kd.N_keep (Kd.N_mono (ok := fun k_ => (((w.heap.size ≤ k_)) ∧ (some k_ ≠ (u115002 : Value).ownBlock ∧ (k_ ≠ gb101 ∧ (k_ ≠ gb114 ∧ k_ ≠ g))))) Z1i (fun k_ hk_ => (⟨hk_, hk_.2.2.2.2⟩ : _ ∧ k_ ≠ g))) hk (fun _ h => h.2)) (fun _ h => h.1)); have n2_ := Y0.mk (Y3.blk hk (g' := gb101) (o := .cells #[.int .i64 0, .string (⟨#[]⟩ : ByteArray), .slice none 0 0, .slice none 0 0] 37 (0, 0)) QQ NB101_0.out (by simp)); have n3_ := Y0.mk (Y3.blk hk (g' := gb114) (o := .cells #[.int .i64 x115000_1, .string x115001_1, u115002, u115003] 37 (0, 0)) QQ NB114_0.out (by simp)); have n4_ := Y0.mk (Y3.trans QK hk (.inl rfl)); have n5_ := Y0.mk (hb); have n6_ := Y0.mk (hi); clear HO_115002 HO_115003 BK101 BK114 HK HB HI0; have HO_115002 := n0_; have HO_115003 := n1_; have BK101 := n2_; have BK114 := n3_; have HK := n4_; have HB := n5_; have HI0 := n6_; clear n0_ n1_ n2_ n3_ n4_ n5_ n6_; (try clear hb); (try clear hb2); (try clear hk); (try clear hi)))
    have n_ := put7 (Kd.R_drew HO_115002.out) (Kd.N_drew HO_115003.out) (Y8 BK101.out) (Y8 BK114.out) (Yf.drew HI0.out) (Y1Q HK.out) (YF HB.out)
    clear HO_115002
    clear HO_115003
    clear BK101
    clear BK114
    clear HI0
    clear HK
    clear HB
    obtain ⟨HO_115002, HO_115003, BK101, BK114, HI0, HK, HB⟩ := n_
    refine Y1q (n := 7) (S := fun w' => w'.cell? ⟨gb114, 0, none⟩ = some (.int .i64 x115000_1) ∧ w'.cell? ⟨gb114, 1, none⟩ = some (.string x115001_1) ∧ w'.cell? ⟨gb114, 2, none⟩ = some (u115002) ∧ w'.cell? ⟨gb114, 3, none⟩ = some (u115003)) (ds := [6]) bz7_0 Z7 rfl rfl ⟨(Y1 BK114.out 0).trans rfl, (Y1 BK114.out 1).trans rfl, (Y1 BK114.out 2).trans rfl, (Y1 BK114.out 3).trans rfl⟩ (fun hHeld => ?_)
    generalize w15.drew = w16 at HO_115002 HO_115003 BK101 BK114 HI0 HK HB hHeld ⊢
    refine Y3a (i := 1) (N := some 12) (v := ?_) (a' := ?_) bz7_2 rfl rfl Z7 (fun _ _ _ h => h) (Or.inl ⟨by rfl, ?_⟩) ?_ ?_
    rotate_left
    ·intro w'
     go_simp
     with_reducible rfl
    rotate_left
    ·simp only [Act.put, List.setIfInBounds_toArray, List.set_cons_zero, List.set_cons_succ, Y13, Y15]
     rfl
    refine Y3a (i := 2) (N := some 13) (v := ?_) (a' := ?_) bz7_6 rfl rfl Z7 (fun _ _ _ h => h) (Or.inl ⟨by rfl, ?_⟩) ?_ ?_
    rotate_left
    ·intro w'
     go_simp
     with_reducible rfl
    rotate_left
    ·simp only [Act.put, List.setIfInBounds_toArray, List.set_cons_zero, List.set_cons_succ, Y13, Y15]
     rfl
    refine take_ (i := 0) (N := some 11) (v := ?_) (a' := ?_) bz7_7 rfl rfl Z7 (fun _ _ _ h => h) (Or.inl ⟨by rfl, ?_⟩) hHeld ?_ ?_
    rotate_left
    ·rintro w' ⟨s0, s1, s2, s3⟩
     go_simp
     with_reducible rfl
    rotate_left
    ·simp only [Act.put, List.setIfInBounds_toArray, List.set_cons_zero, List.set_cons_succ, Y13, Y15]
     rfl
    refine Y28 (i := 3) (N := some 14) bz7_f rfl rfl Z7 (by decide) (fun K hK => ?_)
    refine Y1G Tryd.func94 Z7 rfl #[.pointer (some ⟨g, 0, none⟩), .int .i64 a1] (by rfl) rfl rfl Z0 ?_
    with_reducible refine ((ih k1 Z1q).2.1 g t116 t117 t118 t119 a1 t120 t121 t122 t125 t128 t129 t130 t131 w0 _ ?side1 ?side2 ?side3 A14.out).mono ?_
    (case side1 => exact Z1r)
    (case side2 => exact QB)
    (case side3 => exact HT.out)
    rintro e w17 ⟨v123, v126, rfl, ho0, ho1, hi, hb, hk⟩
    refine ⟨_, rfl, ?_⟩
    have n0_ := Y0.mk (Kd.R_mono (Kd.R_told (Kd.R_oldK (Yf.apart (show Yf w0 _ g t116 t117 t118 t119 from QI75_0) Z1c (by decide)) hk) (Kd.R_base ho0)) (fun _ h_ => h_.1))
    have n1_ := Y0.mk (Kd.N_mono (Kd.N_told (Kd.N_told (Kd.N_oldK (Kd.N_mono (ok := fun k_ => (((w.heap.size ≤ k_)) ∧ (some k_ ≠ (u115002 : Value).ownBlock ∧ (k_ ≠ gb101 ∧ (k_ ≠ gb114 ∧ k_ ≠ g))))) Z1i (fun k_ hk_ => (⟨hk_, hk_.2.2.2.2⟩ : _ ∧ k_ ≠ g))) hk) (Kd.R_base ho0)) (Kd.N_base ho1)) (fun _ h_ => h_.1))
    have n2_ := Y0.mk (Y3.blk hk (g' := gb101) (o := .cells #[.int .i64 0, .string (⟨#[]⟩ : ByteArray), .slice none 0 0, .slice none 0 0] 37 (0, 0)) QQ NB101_0.out (by simp))
    have n3_ := Y0.mk (Y3.blk hk (g' := gb114) (o := .cells #[.int .i64 x115000_1, .string x115001_1, u115002, u115003] 37 (0, 0)) QQ NB114_0.out (by simp))
    have n4_ := Y0.mk (Kd.R_lower (Kd.R_new' (Kd.R_newM (M := fun k_ => (w.heap.size ≤ k_)) (Kd.R_mono (ok' := fun k_ => True) ho0 (fun _ hk_ => trivial)) (Yb (w := w) (g := g) (row := none) QK) (fun k_ h_ => h_)) (Kd.R_lt Z1c)) (Yb (w := w) (g := g) (row := none) QK))
    have n5_ := Y0.mk (Kd.N_lower (Kd.N_mono (ok' := fun k_ => (w.heap.size ≤ k_) ∧ some k_ ≠ (v123 : Value).ownBlock ∧ some k_ ≠ (u115002 : Value).ownBlock ∧ some k_ ≠ (u115003 : Value).ownBlock ∧ k_ ≠ gb101 ∧ k_ ≠ gb114 ∧ k_ ≠ g) ho1 (fun k_ hk_ => ⟨(Nat.le_trans (Yb (w := w) (g := g) (row := none) QK) hk_.1), hk_.2, (Kd.fresh' (Kd.R_lt Z1c) k_ hk_.1), (Kd.fresh' (Kd.N_lt Z1i) k_ hk_.1), (Kd.freshB (g := gb101) (o := .cells #[.int .i64 0, .string (⟨#[]⟩ : ByteArray), .slice none 0 0, .slice none 0 0] 37 (0, 0)) QQ k_ hk_.1), (Kd.freshB (g := gb114) (o := .cells #[.int .i64 x115000_1, .string x115001_1, u115002, u115003] 37 (0, 0)) QQ k_ hk_.1), (Yf.fresh QI75_0 k_ hk_.1)⟩)) (Yb (w := w) (g := g) (row := none) QK))
    have n6_ := Y0.mk (Y3.trans QK hk (.inl rfl))
    have n7_ := Y0.mk (hb)
    have n8_ := Y0.mk (hi)
    clear HO_115002
    clear HO_115003
    clear BK101
    clear BK114
    clear HK
    clear HB
    clear HI0
    have HO_115002 := n0_
    have HO_115003 := n1_
    have BK101 := n2_
    have BK114 := n3_
    have HO124 := n4_
    have HO127 := n5_
    have HK := n6_
    have HB := n7_
    have HI0 := n8_
    clear n0_ n1_ n2_ n3_ n4_ n5_ n6_ n7_ n8_
    (try clear hb)
    (try clear hb2)
    (try clear hk)
    (try clear hi)
    (try clear ho0)
    (try clear ho1)
    obtain ⟨Ao18, co18, eo18⟩ := Kd.R_slice HO_115002.out
    (first | subst eo18 | (injection eo18 with f1_ f2_ f3_; have f4_ := f1_.symm; have f5_ := f3_.symm; clear f1_ f2_ f3_; subst f4_; subst f5_))
    obtain ⟨Ao19, co19, eo19⟩ := Kd.N_slice HO_115003.out
    (first | subst eo19 | (injection eo19 with f1_ f2_ f3_; have f4_ := f1_.symm; have f5_ := f3_.symm; clear f1_ f2_ f3_; subst f4_; subst f5_))
    obtain ⟨Ao20, co20, eo20⟩ := Kd.R_slice HO124.out
    (first | subst eo20 | (injection eo20 with f1_ f2_ f3_; have f4_ := f1_.symm; have f5_ := f3_.symm; clear f1_ f2_ f3_; subst f4_; subst f5_))
    obtain ⟨Ao21, co21, eo21⟩ := Kd.N_slice HO127.out
    (first | subst eo21 | (injection eo21 with f1_ f2_ f3_; have f4_ := f1_.symm; have f5_ := f3_.symm; clear f1_ f2_ f3_; subst f4_; subst f5_))
    refine hK.out _ _ ⟨(Y1 BK114.out 0).trans rfl, (Y1 BK114.out 1).trans rfl, (Y1 BK114.out 2).trans rfl, (Y1 BK114.out 3).trans rfl⟩ (fun hHeld => ?_)
    clear hK K
    refine Y1z (a' := ?_) ?_ ?_
    rotate_left
    ·show Act.put _ (some 14) _ = _
     simp only [Act.put, List.setIfInBounds_toArray, List.set_cons_zero, List.set_cons_succ, Y13, Y15]
     rfl
    refine Y28 (i := 4) (N := some 15) bz7_1f rfl rfl Z7 (by decide) (fun K hK => ?_)
    refine Kd.N_lit_step k37 _ 37 ?hg (N' := 15) ?hd (xs := ([(⟨x115000_1, x115001_1, x115002_1, x115003_1⟩ : S37), (⟨t120, t121, t122, t125⟩ : S37)] : List (S37))) (inner := [.int .i64 x115000_1, .string x115001_1, .slice Ao18 x115002_1.length co18, .slice Ao19 x115003_1.length co19, .int .i64 t120, .string t121, .slice Ao20 t122.length co20, .slice Ao21 t125.length co21]) (ok := (fun k_ => (w.heap.size ≤ k_) ∧ k_ ≠ gb101 ∧ k_ ≠ gb114 ∧ k_ ≠ g)) (okp := (fun k_ => (w.heap.size ≤ k_) ∧ k_ ≠ gb101 ∧ k_ ≠ gb114 ∧ k_ ≠ g)) ?hr ?hp (fun _ hk => hk) ((show ∀ k_, w17.heap.size ≤ k_ → (fun k_ => (w.heap.size ≤ k_) ∧ k_ ≠ gb101 ∧ k_ ≠ gb114 ∧ k_ ≠ g) k_ from fun k_ hk => ⟨(Nat.le_trans (Yb (w := w) (g := g) (row := none) QK) hk), Kd.freshB (g := gb101) (o := .cells #[.int .i64 0, .string (⟨#[]⟩ : ByteArray), .slice none 0 0, .slice none 0 0] 37 (0, 0)) QQ k_ hk, Kd.freshB (g := gb114) (o := .cells #[.int .i64 x115000_1, .string x115001_1, .slice Ao18 x115002_1.length co18, .slice Ao19 x115003_1.length co19] 37 (0, 0)) QQ k_ hk, Yf.fresh QI75_0 k_ hk⟩) _ (Nat.le_refl _)) (Below.refl _ _) (Nat.le_refl _) (by simp) ?_; (case hd => rfl); (case hg => rfl); (case hr => exact Za); (case hp => exact (Y1a.c4 (show Kd.FK k37 _ _ (⟨x115000_1, x115001_1, x115002_1, x115003_1⟩ : S37) [.int .i64 x115000_1, .string x115001_1, .slice Ao18 x115002_1.length co18, .slice Ao19 x115003_1.length co19] from (Y1Y _ _ (⟨x115000_1, x115001_1, x115002_1, x115003_1⟩ : S37) (Kd.R_reads' (Kd.R_mono (ok' := (fun k_ => (w.heap.size ≤ k_) ∧ k_ ≠ gb101 ∧ k_ ≠ gb114 ∧ k_ ≠ g)) (Yf.apart HI0.out (Kd.R_types (Kd.R_types (HO_115002.out) BK101.out (by decide)) BK114.out (by decide)) (by decide)) (fun k_ hk => ⟨hk.1.1.1.1, ⟨hk.1.1.2, ⟨hk.1.2, hk.2⟩⟩⟩))).2.1 (Kd.R_F (Kd.R_mono (ok' := (fun k_ => (w.heap.size ≤ k_) ∧ k_ ≠ gb101 ∧ k_ ≠ gb114 ∧ k_ ≠ g)) (Yf.apart HI0.out (Kd.R_types (Kd.R_types (HO_115002.out) BK101.out (by decide)) BK114.out (by decide)) (by decide)) (fun k_ hk => ⟨hk.1.1.1.1, ⟨hk.1.1.2, ⟨hk.1.2, hk.2⟩⟩⟩))) (Kd.N_reads' (Kd.N_mono (ok' := (fun k_ => (w.heap.size ≤ k_) ∧ k_ ≠ gb101 ∧ k_ ≠ gb114 ∧ k_ ≠ g)) (HO_115003.out) (fun k_ hk => ⟨hk.1.1.1, ⟨hk.1.1.2.2.1, ⟨hk.1.1.2.2.2.1, hk.1.1.2.2.2.2⟩⟩⟩))).2.1 (Kd.N_F (Kd.N_mono (ok' := (fun k_ => (w.heap.size ≤ k_) ∧ k_ ≠ gb101 ∧ k_ ≠ gb114 ∧ k_ ≠ g)) (HO_115003.out) (fun k_ hk => ⟨hk.1.1.1, ⟨hk.1.1.2.2.1, ⟨hk.1.1.2.2.2.1, hk.1.1.2.2.2.2⟩⟩⟩))))) (Y1a.c4 (show Kd.FK k37 _ _ (⟨t120, t121, t122, t125⟩ : S37) [.int .i64 t120, .string t121, .slice Ao20 t122.length co20, .slice Ao21 t125.length co21] from (Y1Y _ _ (⟨t120, t121, t122, t125⟩ : S37) (Kd.R_reads' (Kd.R_mono (ok' := (fun k_ => (w.heap.size ≤ k_) ∧ k_ ≠ gb101 ∧ k_ ≠ gb114 ∧ k_ ≠ g)) (Yf.apart HI0.out (Kd.R_types (Kd.R_types (HO124.out) BK101.out (by decide)) BK114.out (by decide)) (by decide)) (fun k_ hk => ⟨hk.1.1.1.1.1, ⟨hk.1.1.2, ⟨hk.1.2, hk.2⟩⟩⟩))).2.1 (Kd.R_F (Kd.R_mono (ok' := (fun k_ => (w.heap.size ≤ k_) ∧ k_ ≠ gb101 ∧ k_ ≠ gb114 ∧ k_ ≠ g)) (Yf.apart HI0.out (Kd.R_types (Kd.R_types (HO124.out) BK101.out (by decide)) BK114.out (by decide)) (by decide)) (fun k_ hk => ⟨hk.1.1.1.1.1, ⟨hk.1.1.2, ⟨hk.1.2, hk.2⟩⟩⟩))) (Kd.N_reads' (Kd.N_mono (ok' := (fun k_ => (w.heap.size ≤ k_) ∧ k_ ≠ gb101 ∧ k_ ≠ gb114 ∧ k_ ≠ g)) (HO127.out) (fun k_ hk => ⟨hk.1, ⟨hk.2.2.2.2.1, ⟨hk.2.2.2.2.2.1, hk.2.2.2.2.2.2⟩⟩⟩))).2.1 (Kd.N_F (Kd.N_mono (ok' := (fun k_ => (w.heap.size ≤ k_) ∧ k_ ≠ gb101 ∧ k_ ≠ gb114 ∧ k_ ≠ g)) (HO127.out) (fun k_ hk => ⟨hk.1, ⟨hk.2.2.2.2.1, ⟨hk.2.2.2.2.2.1, hk.2.2.2.2.2.2⟩⟩⟩))))) (Y1a.none _ _))))
    intro v133 w22 ho23 hb hg_ hnew_
    clear hg_ hnew_
    (first | rw [← Ny132.out] at ho23 | (simp only [Int.reduceToNat] at ho23; rw [← Ny132.out] at ho23))
    have n_ := Y2T (Kd.N_lower ho23 (Yb (w := w) (g := g) (row := none) QK)) (Yi (g := gb101) (o := .cells #[.int .i64 0, .string (⟨#[]⟩ : ByteArray), .slice none 0 0, .slice none 0 0] 37 (0, 0)) QQ hb) (Yi (g := gb114) (o := .cells #[.int .i64 x115000_1, .string x115001_1, .slice Ao18 x115002_1.length co18, .slice Ao19 x115003_1.length co19] 37 (0, 0)) QQ hb) (Yf.below QI75_0 hb) (Y3.trans QK (Y3.of_below hb g none) (.inl rfl)) (Y6 QB hb)
    clear BK101
    clear BK114
    clear HI0
    clear HK
    clear HB
    clear HO124
    clear HO127
    clear HO_115002
    clear HO_115003
    obtain ⟨HO134, BK101, BK114, HI0, HK, HB⟩ := n_
    clear hb ho23
    obtain ⟨Ao24, co24, eo24⟩ := Kd.N_slice HO134.out
    (first | subst eo24 | (injection eo24 with f1_ f2_ f3_; have f4_ := f1_.symm; have f5_ := f3_.symm; clear f1_ f2_ f3_; subst f4_; subst f5_))
    refine hK.out _ _ ⟨(Y1 BK114.out 0).trans rfl, (Y1 BK114.out 1).trans rfl, (Y1 BK114.out 2).trans rfl, (Y1 BK114.out 3).trans rfl⟩ (fun hHeld => ?_)
    clear hK K
    refine Y1z (a' := ?_) ?_ ?_
    rotate_left
    ·show Act.put _ (some 15) _ = _
     simp only [Act.put, List.setIfInBounds_toArray, List.set_cons_zero, List.set_cons_succ, Y13, Y15]
     rfl
    refine Y3a (i := 5) (N := some 16) (v := ?_) (a' := ?_) bz7_3f rfl rfl Z7 (fun _ _ _ h => h) (Or.inl ⟨by rfl, ?_⟩) ?_ ?_
    rotate_left
    ·intro w'
     go_simp
     with_reducible rfl
    rotate_left
    ·simp only [Act.put, List.setIfInBounds_toArray, List.set_cons_zero, List.set_cons_succ, Y13, Y15]
     rfl
    refine last_ (i := 6) (N := none) bz7_7f rfl rfl Z7 (by decide) (fun K hK => ?_)
    have hs25 : w22.cell? ⟨gb114, 0, none⟩ = some (.int .i64 x115000_1) := (Y1 BK114.out 0).trans rfl
    have hfs25 := Y4 BK114.out 0
    have hns25_0 := NB101_114.out
    have hms25_0 := NB114_101.out
    have hs26 : w22.cell? ⟨gb114, 1, none⟩ = some (.string x115001_1) := (Y1 BK114.out 1).trans rfl
    have hfs26 := Y4 BK114.out 1
    have hns26_0 := NB101_114.out
    have hms26_0 := NB114_101.out
    have hs27 : w22.cell? ⟨gb114, 2, none⟩ = some (.slice Ao18 x115002_1.length co18) := (Y1 BK114.out 2).trans rfl
    have hfs27 := Y4 BK114.out 2
    have hns27_0 := NB101_114.out
    have hms27_0 := NB114_101.out
    have hs28 : w22.cell? ⟨gb114, 3, none⟩ = some (.slice Ao19 x115003_1.length co19) := (Y1 BK114.out 3).trans rfl
    have hfs28 := Y4 BK114.out 3
    have hns28_0 := NB101_114.out
    have hms28_0 := NB114_101.out
    refine skip_ (w1 := ?_) (by rfl) rfl ?_ ?_
    rotate_left
    ·go_simp
     rfl
    refine hK.out _ _ ?_
    clear hK K
    refine Y1L Z7 ?_
    try go_wp2
    go_roundg k1
    case measure => have := HK1.out; omega
    case rel => exact ⟨(t128), (t129), (t130), (t131), (4), ((⟨#[]⟩ : ByteArray)), (([] : List ByteArray)), (y132), (.slice none 0 0), (.slice Ao24 y132.length co24), H', ⟨Z1q⟩, ⟨Zb⟩, ⟨by (with_reducible repeat (first | apply Kd.N_alloc | apply Kd.N_drewN | apply Kd.N_drew)); exact Kd.N_mono (Kd.N_far (p := ⟨gb114, 3, none⟩) (Kd.N_far (p := ⟨gb114, 2, none⟩) (Kd.N_far (p := ⟨gb114, 1, none⟩) (Kd.N_far (p := ⟨gb114, 0, none⟩) (Kd.N_mono HO134.out (fun k_ hk => (⟨hk, hk.2.2.1⟩ : _ ∧ k_ ≠ gb114))) (fun _ hk => hk.2) (.int .i64 4)) (fun _ hk => hk.2) (.string (⟨#[]⟩ : ByteArray))) (fun _ hk => hk.2) (.slice none 0 0)) (fun _ hk => hk.2) (.slice Ao24 y132.length co24)) (fun _ hk => ⟨hk.1.1, ⟨Z1t, ⟨hk.1.2.1, ⟨hk.1.2.2.1, hk.1.2.2.2⟩⟩⟩⟩)⟩, ⟨ZL⟩, ⟨by (with_reducible repeat (first | refine Y9 ?_ _ | refine Y8 ?_ | refine Y7 ?_ _)); exact Yo (cs := #[.int .i64 4, .string (⟨#[]⟩ : ByteArray), .slice none 0 0, .slice Ao19 x115003_1.length co19]) (by (with_reducible repeat (first | refine Y9 ?_ _ | refine Y8 ?_ | refine Y7 ?_ _)); exact Yo (cs := #[.int .i64 4, .string (⟨#[]⟩ : ByteArray), .slice Ao18 x115002_1.length co18, .slice Ao19 x115003_1.length co19]) (by (with_reducible repeat (first | refine Y9 ?_ _ | refine Y8 ?_ | refine Y7 ?_ _)); exact Yo (cs := #[.int .i64 4, .string x115001_1, .slice Ao18 x115002_1.length co18, .slice Ao19 x115003_1.length co19]) (by (with_reducible repeat (first | refine Y9 ?_ _ | refine Y8 ?_ | refine Y7 ?_ _)); exact Yo (cs := #[.int .i64 x115000_1, .string x115001_1, .slice Ao18 x115002_1.length co18, .slice Ao19 x115003_1.length co19]) QQ 0 _ rfl) 1 _ rfl) 2 _ rfl) 3 _ rfl⟩, ⟨QI75_0⟩, ⟨QK⟩, ⟨QB⟩⟩
   ·replace c13 := Bool.eq_false_iff.mpr c13
    subst c13
    have H1 : (some (x115000_1, x115001_1, x115002_1, x115003_1, t116, t117, t118, t119)) = some (r1, r2, r3, r4, r5, r6, r7, r8) := by rw [if_neg (show ¬ (false = true) by decide)] at H; exact H
    clear H
    have H := H1
    clear H1
    simp only [Option.some.injEq, Prod.mk.injEq] at H
    obtain ⟨rfl, rfl, rfl, rfl, rfl, rfl, rfl, rfl⟩ := H
    go_wp2_with (first | ((with_reducible refine Yh (f := 95) rfl ?_); refine Yy (some 10) rfl rfl Tryd.func95 Z7 rfl #[.pointer (some ⟨g, 0, none⟩), .int .u8 124] rfl Z0 ?_; (with_reducible refine (YH.calls k1 g x1000_1 x1001_1 x1002_1 x1003_1 124 false t116 t117 t118 t119 w0 _ ?side1 ?side2 A12.out).mono ?_); (case side1 => exact Z1r); (case side2 => exact QB); rintro e w29 ⟨rfl, hi, hb, hk⟩; refine ⟨_, rfl, ?_⟩; have n0_ := Y0.mk (Kd.R_mono (Kd.R_keep (Yf.apart (show Yf w0 _ g x1000_1 x1001_1 x1002_1 x1003_1 from QI75_0) Z1c (by decide)) hk (fun _ h => h.2)) (fun _ h => h.1)); have n1_ := Y0.mk (Kd.N_mono (Kd.N_keep (Kd.N_mono (ok := fun k_ => (((w.heap.size ≤ k_)) ∧ (some k_ ≠ (u115002 : Value).ownBlock ∧ (k_ ≠ gb101 ∧ (k_ ≠ gb114 ∧ k_ ≠ g))))) Z1i (fun k_ hk_ => (⟨hk_, hk_.2.2.2.2⟩ : _ ∧ k_ ≠ g))) hk (fun _ h => h.2)) (fun _ h => h.1)); have n2_ := Y0.mk (Y3.blk hk (g' := gb101) (o := .cells #[.int .i64 0, .string (⟨#[]⟩ : ByteArray), .slice none 0 0, .slice none 0 0] 37 (0, 0)) QQ NB101_0.out (by simp)); have n3_ := Y0.mk (Y3.blk hk (g' := gb114) (o := .cells #[.int .i64 x115000_1, .string x115001_1, u115002, u115003] 37 (0, 0)) QQ NB114_0.out (by simp)); have n4_ := Y0.mk (Y3.trans QK hk (.inl rfl)); have n5_ := Y0.mk (hb); have n6_ := Y0.mk (hi); clear HO_115002 HO_115003 BK101 BK114 HK HB HI0; have HO_115002 := n0_; have HO_115003 := n1_; have BK101 := n2_; have BK114 := n3_; have HK := n4_; have HB := n5_; have HI0 := n6_; clear n0_ n1_ n2_ n3_ n4_ n5_ n6_; (try clear hb); (try clear hb2); (try clear hk); (try clear hi); have hnb30 := NB114_101.out; have hnc30 := NB101_114.out; have hnb31 := NB114_0.out; have hnc31 := NB0_114.out; obtain ⟨hcz32_0, hcz32_1, hcz32_2, hcz32_3, hfz32_0, hfz32_1, hfz32_2, hfz32_3⟩ := Yt BK114.out; have hnb33 := NB101_0.out; have hnc33 := NB0_101.out; obtain ⟨hcz34_0, hcz34_1, hcz34_2, hcz34_3, hfz34_0, hfz34_1, hfz34_2, hfz34_3⟩ := Yt BK101.out; obtain ⟨Ao35, co35, eo35⟩ := Kd.R_slice HO_115002.out; subst eo35; obtain ⟨Ao36, co36, eo36⟩ := Kd.N_slice HO_115003.out; subst eo36))
    refine bodyPost_ret (results_cell_row rfl _ _ gb101 37 #[.int .i64 x115000_1, .string x115001_1, .slice Ao35 x115002_1.length co35, .slice Ao36 x115003_1.length co36] (0, 0) _ rfl (by (with_reducible repeat (first | refine Y9 ?_ _ | refine Y8 ?_ | refine Y7 ?_ _)); exact Yo (cs := #[.int .i64 x115000_1, .string x115001_1, .slice Ao35 x115002_1.length co35, .slice none 0 0]) (by (with_reducible repeat (first | refine Y9 ?_ _ | refine Y8 ?_ | refine Y7 ?_ _)); exact Yo (cs := #[.int .i64 x115000_1, .string x115001_1, .slice none 0 0, .slice none 0 0]) (by (with_reducible repeat (first | refine Y9 ?_ _ | refine Y8 ?_ | refine Y7 ?_ _)); exact Yo (cs := #[.int .i64 x115000_1, .string (⟨#[]⟩ : ByteArray), .slice none 0 0, .slice none 0 0]) Z1 1 _ rfl) 2 _ rfl) 3 _ rfl) Tryd.underlying37 rfl Z7) rfl ?_
    exact ⟨_, _, Z2, by (with_reducible repeat (first | apply Kd.R_alloc | apply Kd.R_drewN | apply Kd.R_drew)); exact Kd.R_mono (Kd.R_far (p := ⟨gb101, 3, none⟩) (Kd.R_far (p := ⟨gb101, 2, none⟩) (Kd.R_far (p := ⟨gb101, 1, none⟩) (Kd.R_far (p := ⟨gb101, 0, none⟩) (Kd.R_types HO_115002.out BK101.out (by decide)) (fun _ hk => hk.2) (.int .i64 x115000_1)) (fun _ hk => hk.2) (.string x115001_1)) (fun _ hk => hk.2) (.slice Ao35 x115002_1.length co35)) (fun _ hk => hk.2) (.slice Ao36 x115003_1.length co36)) (fun _ hk => hk.1), by (with_reducible repeat (first | apply Kd.N_alloc | apply Kd.N_drewN | apply Kd.N_drew)); exact Kd.N_mono (Kd.N_far (p := ⟨gb101, 3, none⟩) (Kd.N_far (p := ⟨gb101, 2, none⟩) (Kd.N_far (p := ⟨gb101, 1, none⟩) (Kd.N_far (p := ⟨gb101, 0, none⟩) (Kd.N_mono HO_115003.out (fun k_ hk => (⟨hk, hk.2.2.1⟩ : _ ∧ k_ ≠ gb101))) (fun _ hk => hk.2) (.int .i64 x115000_1)) (fun _ hk => hk.2) (.string x115001_1)) (fun _ hk => hk.2) (.slice Ao35 x115002_1.length co35)) (fun _ hk => hk.2) (.slice Ao36 x115003_1.length co36)) (fun _ hk => ⟨hk.1.1, hk.1.2.1⟩), QI75_0, QB, QK⟩
set_option maxHeartbeats 8000000 in
set_option maxRecDepth 100000 in
theorem Yq.Y2N (k : Nat) (ih : ∀ j_ < k, Yj.Spec j_ ∧ Yq.Spec j_ ∧ Ye.Spec j_ ∧ Yv.Spec j_ ∧ Yx.Spec j_) : ∀ (g : Nat) (s0_0 : ByteArray) (s0_1 : Int) (s0_2 : Int) (s0_3 : Int) (a1 : Int) (r1 : Int) (r2 : ByteArray) (r3 : List ByteArray) (r4 : List (S37)) (r5 : ByteArray) (r6 : Int) (r7 : Int) (r8 : Int) (w0 w : World) (hI : Yf w0 w g s0_0 s0_1 s0_2 s0_3) (hB : Below w0.heap.size w0 w) (hT : Tabs w0) (h : Yq.f k s0_0 s0_1 s0_2 s0_3 a1 = some (r1, r2, r3, r4, r5, r6, r7, r8)),
  Calls Tryd.prog 94 #[.pointer (some ⟨g, 0, none⟩), .int .i64 a1] w fun e w' => ∃ v2_ v3_ : Value, e = .returned (.agg #[.int .i64 r1, .string r2, v2_, v3_]) ∧ Kd.R Kd.string 9 w' w.heap.size (fun k_ => (w.heap.size ≤ k_)) v2_ r3 ∧ Kd.N k37 37 w' w.heap.size (fun k_ => (w.heap.size ≤ k_) ∧ some k_ ≠ (v2_ : Value).ownBlock) v3_ r4 ∧ Yf w0 w' g r5 r6 r7 r8 ∧ Below w0.heap.size w0 w' ∧ Y3 w w' g none := by
 intro g s0_0 s0_1 s0_2 s0_3 a1 r1 r2 r3 r4 r5 r6 r7 r8 w0 w hI hB hT h
 cases k with
 | zero => exact absurd h (by simp [Yq.f])
 | succ k =>
 simp only [Yq.f] at h
 have HT := Y0.mk hT
 clear hT
 have hu37 := Tryd.underlying37
 have HI0 := Y0.mk hI
 have HK := Y0.mk (Y3.refl w g none)
 have HL := Y0.mk hB.size
 clear hI
 have HW0 := Y0.mk hB.size
 have HB := Y0.mk hB
 clear hB
 have H : ((Ye.f k s0_0 s0_1 s0_2 s0_3 a1).bind fun bt136 => (Yq.l0 k a1 bt136.2.2.2.2.1 bt136.2.2.2.2.2.1 bt136.2.2.2.2.2.2.1 bt136.2.2.2.2.2.2.2 bt136.1 bt136.2.1 bt136.2.2.1 bt136.2.2.2.1)) = some (r1, r2, r3, r4, r5, r6, r7, r8) := h
 clear h
 replace H := Option.bind_eq_some_iff.mp H
 obtain ⟨⟨t136, t137, t138, t141, t144, t145, t146, t147⟩, A30, H⟩ := H
 replace H : (Yq.l0 k a1 t144 t145 t146 t147 t136 t137 t138 t141) = some (r1, r2, r3, r4, r5, r6, r7, r8) := H
 have A3 := Y0.mk A30
 clear A30
 have H' := Y0.mk H
 clear H
 go_enter Tryd.func94, Tryd.ntmps94
 go_wp2_with (first | ((with_reducible refine Ym (N := 4) rfl ?_); refine Yn ?hg (N := 4) ?hd (cs := #[.int .i64 0, .string (⟨#[]⟩ : ByteArray), .slice none 0 0, .slice none 0 0]) (t := 37) ?hr ?_; (case hd => rfl); (case hg => rfl); (case hr => exact Za); intro gb135 hg w4 hbox hb; have n_ := Y2C (Yf.below QI75_0 hb) (Y3.trans QK (Y3.of_below hb g none) (.inl rfl)) (Y6 QB hb) (hbox) ((by rw [hg]; exact (Yb (w := w) (g := g) (row := none) QK) : w.heap.size ≤ gb135)) ((Nat.le_trans HW0.out (by rw [hg]; exact (Yb (w := w) (g := g) (row := none) QK) : w.heap.size ≤ gb135) : w0.heap.size ≤ gb135)) ((by rw [hg]; exact Nat.ne_of_lt (Yf.lt (show Yf w0 _ g s0_0 s0_1 s0_2 s0_3 from QI75_0)) : g ≠ gb135)) ((by rw [hg]; exact Nat.ne_of_gt (Yf.lt (show Yf w0 _ g s0_0 s0_1 s0_2 s0_3 from QI75_0)) : gb135 ≠ g)); clear HI0 HK HB; obtain ⟨HI0, HK, HB, BK135, GW135, GE135, NB0_135, NB135_0⟩ := n_; clear hb hbox hg) | ((with_reducible refine Yh (f := 112) rfl ?_); refine Yy (some 8) rfl rfl Tryd.func112 Z7 rfl #[.pointer (some ⟨g, 0, none⟩), .int .i64 a1] rfl Z0 ?_; (with_reducible refine ((ih k (by omega)).2.2.1 g s0_0 s0_1 s0_2 s0_3 a1 t136 t137 t138 t141 t144 t145 t146 t147 w0 _ ?side1 ?side2 ?side3 A3.out).mono ?_); (case side1 => exact Z1r); (case side2 => exact QB); (case side3 => exact HT.out); rintro e w5 ⟨v139, v142, rfl, ho0, ho1, hi, hb, hk⟩; refine ⟨_, rfl, ?_⟩; have n0_ := Y0.mk (Y3.blk hk (g' := gb135) (o := .cells #[.int .i64 0, .string (⟨#[]⟩ : ByteArray), .slice none 0 0, .slice none 0 0] 37 (0, 0)) QQ NB135_0.out (by simp)); have n1_ := Y0.mk (Kd.R_lower (Kd.R_newM (M := fun k_ => (w.heap.size ≤ k_)) (Kd.R_mono (ok' := fun k_ => True) ho0 (fun _ hk_ => trivial)) (Yb (w := w) (g := g) (row := none) QK) (fun k_ h_ => h_)) (Yb (w := w) (g := g) (row := none) QK)); have n2_ := Y0.mk (Kd.N_lower (Kd.N_mono (ok' := fun k_ => (w.heap.size ≤ k_) ∧ some k_ ≠ (v139 : Value).ownBlock ∧ k_ ≠ gb135 ∧ k_ ≠ g) ho1 (fun k_ hk_ => ⟨(Nat.le_trans (Yb (w := w) (g := g) (row := none) QK) hk_.1), hk_.2, (Kd.freshB (g := gb135) (o := .cells #[.int .i64 0, .string (⟨#[]⟩ : ByteArray), .slice none 0 0, .slice none 0 0] 37 (0, 0)) QQ k_ hk_.1), (Yf.fresh QI75_0 k_ hk_.1)⟩)) (Yb (w := w) (g := g) (row := none) QK)); have n3_ := Y0.mk (Y3.trans QK hk (.inl rfl)); have n4_ := Y0.mk (hb); have n5_ := Y0.mk (hi); clear BK135 HK HB HI0; have BK135 := n0_; have HO140 := n1_; have HO143 := n2_; have HK := n3_; have HB := n4_; have HI0 := n5_; clear n0_ n1_ n2_ n3_ n4_ n5_; (try clear hb); (try clear hb2); (try clear hk); (try clear hi); (try clear ho0); (try clear ho1)) | ((with_reducible refine Ym (N := 5) rfl ?_); refine Yn ?hg (N := 5) ?hd (cs := #[.int .i64 0, .string (⟨#[]⟩ : ByteArray), .slice none 0 0, .slice none 0 0]) (t := 37) ?hr ?_; (case hd => rfl); (case hg => rfl); (case hr => exact Za); intro gb148 hg w6 hbox hb; have n0_ := Y0.mk (Kd.R_below (by (with_reducible repeat (first | apply Kd.R_alloc | apply Kd.R_drewN | apply Kd.R_drew)); exact HO140.out) hb); have n1_ := Y0.mk (Kd.N_below (Kd.N_elderB (by (with_reducible repeat (first | apply Kd.N_alloc | apply Kd.N_drewN | apply Kd.N_drew)); exact HO143.out) gb148 (Nat.le_of_eq hg.symm)) hb); have n2_ := Y0.mk (Yf.below QI75_0 hb); have n3_ := Y0.mk (Yi (g := gb135) (o := .cells #[.int .i64 0, .string (⟨#[]⟩ : ByteArray), .slice none 0 0, .slice none 0 0] 37 (0, 0)) QQ hb); have n4_ := Y0.mk (Y3.trans QK (Y3.of_below hb g none) (.inl rfl)); have n5_ := Y0.mk (Y6 QB hb); have n6_ := Y0.mk (hbox); have n7_ := Y0.mk ((by rw [hg]; exact (Yb (w := w) (g := g) (row := none) QK) : w.heap.size ≤ gb148)); have n8_ := Y0.mk ((Nat.le_trans HW0.out (by rw [hg]; exact (Yb (w := w) (g := g) (row := none) QK) : w.heap.size ≤ gb148) : w0.heap.size ≤ gb148)); have n9_ := Y0.mk ((by rw [hg]; exact Nat.ne_of_lt (YO (g := gb135) (o := .cells #[.int .i64 0, .string (⟨#[]⟩ : ByteArray), .slice none 0 0, .slice none 0 0] 37 (0, 0)) QQ) : gb135 ≠ gb148)); have n10_ := Y0.mk ((by rw [hg]; exact Nat.ne_of_gt (YO (g := gb135) (o := .cells #[.int .i64 0, .string (⟨#[]⟩ : ByteArray), .slice none 0 0, .slice none 0 0] 37 (0, 0)) QQ) : gb148 ≠ gb135)); have n11_ := Y0.mk ((by rw [hg]; exact Nat.ne_of_lt (Yf.lt (show Yf w0 _ g t144 t145 t146 t147 from QI75_0)) : g ≠ gb148)); have n12_ := Y0.mk ((by rw [hg]; exact Nat.ne_of_gt (Yf.lt (show Yf w0 _ g t144 t145 t146 t147 from QI75_0)) : gb148 ≠ g)); clear HO140 HO143 HI0 BK135 HK HB; have HO140 := n0_; have HO143 := n1_; have HI0 := n2_; have BK135 := n3_; have HK := n4_; have HB := n5_; have BK148 := n6_; have GW148 := n7_; have GE148 := n8_; have NB135_148 := n9_; have NB148_135 := n10_; have NB0_148 := n11_; have NB148_0 := n12_; clear n0_ n1_ n2_ n3_ n4_ n5_ n6_ n7_ n8_ n9_ n10_ n11_ n12_ hb hbox hg; have hnb7 := NB148_135.out; have hnc7 := NB135_148.out; have hnb8 := NB148_0.out; have hnc8 := NB0_148.out; obtain ⟨hcz9_0, hcz9_1, hcz9_2, hcz9_3, hfz9_0, hfz9_1, hfz9_2, hfz9_3⟩ := Yt BK148.out; obtain ⟨Ao10, co10, eo10⟩ := Kd.R_slice HO140.out; subst eo10; obtain ⟨Ao11, co11, eo11⟩ := Kd.N_slice HO143.out; subst eo11))
 go_loopg [] k (fun kq w' => ∃ (x1000_1 : ByteArray) (x1001_1 : Int) (x1002_1 : Int) (x1003_1 : Int) (x149000_1 : Int) (x149001_1 : ByteArray) (x149002_1 : List ByteArray) (x149003_1 : List (S37)) (u149002 : Value) (u149003 : Value), Y0 (Yq.l0 kq a1 x1000_1 x1001_1 x1002_1 x1003_1 x149000_1 x149001_1 x149002_1 x149003_1 = some (r1, r2, r3, r4, r5, r6, r7, r8)) ∧ Y0 (kq ≤ k) ∧ Y0 (Kd.R Kd.string 9 w' w.heap.size (fun k_ => (w.heap.size ≤ k_)) u149002 x149002_1) ∧ Y0 (Kd.N k37 37 w' w.heap.size (fun k_ => (w.heap.size ≤ k_) ∧ some k_ ≠ (u149002 : Value).ownBlock ∧ k_ ≠ gb135 ∧ k_ ≠ gb148 ∧ k_ ≠ g) u149003 x149003_1) ∧ Y0 (w'.heap[gb135]? = some (.cells #[.int .i64 0, .string (⟨#[]⟩ : ByteArray), (.slice none 0 0), (.slice none 0 0)] 37 (0, 0))) ∧ Y0 (w'.heap[gb148]? = some (.cells #[.int .i64 x149000_1, .string x149001_1, u149002, u149003] 37 (0, 0))) ∧ Y0 (Yf w0 w' g x1000_1 x1001_1 x1002_1 x1003_1) ∧ Y0 (Y3 w w' g none) ∧ Y0 (Below w0.heap.size w0 w'))
 case atStart => exact ⟨(t144), (t145), (t146), (t147), (t136), (t137), (t138), (t141), (.slice Ao10 t138.length co10), (.slice Ao11 t141.length co11), H', ⟨Nat.le_refl _⟩, ⟨by (with_reducible repeat (first | apply Kd.R_alloc | apply Kd.R_drewN | apply Kd.R_drew)); exact Kd.R_mono (Kd.R_far (p := ⟨gb148, 3, none⟩) (Kd.R_far (p := ⟨gb148, 2, none⟩) (Kd.R_far (p := ⟨gb148, 1, none⟩) (Kd.R_far (p := ⟨gb148, 0, none⟩) (Kd.R_types HO140.out BK148.out (by decide)) (fun _ hk => hk.2) (.int .i64 t136)) (fun _ hk => hk.2) (.string t137)) (fun _ hk => hk.2) (.slice Ao10 t138.length co10)) (fun _ hk => hk.2) (.slice Ao11 t141.length co11)) (fun _ hk => hk.1.1)⟩, ⟨by (with_reducible repeat (first | apply Kd.N_alloc | apply Kd.N_drewN | apply Kd.N_drew)); exact Kd.N_mono (Kd.N_far (p := ⟨gb148, 3, none⟩) (Kd.N_far (p := ⟨gb148, 2, none⟩) (Kd.N_far (p := ⟨gb148, 1, none⟩) (Kd.N_far (p := ⟨gb148, 0, none⟩) (Kd.N_mono HO143.out (fun k_ hk => (⟨hk, hk.2⟩ : _ ∧ k_ ≠ gb148))) (fun _ hk => hk.2) (.int .i64 t136)) (fun _ hk => hk.2) (.string t137)) (fun _ hk => hk.2) (.slice Ao10 t138.length co10)) (fun _ hk => hk.2) (.slice Ao11 t141.length co11)) (fun _ hk => ⟨hk.1.1.1, ⟨hk.1.1.2.1, ⟨hk.1.1.2.2.1, ⟨hk.1.2, hk.1.1.2.2.2⟩⟩⟩⟩)⟩, ⟨ZM⟩, ⟨by (with_reducible repeat (first | refine Y9 ?_ _ | refine Y8 ?_ | refine Y7 ?_ _)); exact Yo (cs := #[.int .i64 t136, .string t137, .slice Ao10 t138.length co10, .slice none 0 0]) (by (with_reducible repeat (first | refine Y9 ?_ _ | refine Y8 ?_ | refine Y7 ?_ _)); exact Yo (cs := #[.int .i64 t136, .string t137, .slice none 0 0, .slice none 0 0]) (by (with_reducible repeat (first | refine Y9 ?_ _ | refine Y8 ?_ | refine Y7 ?_ _)); exact Yo (cs := #[.int .i64 t136, .string (⟨#[]⟩ : ByteArray), .slice none 0 0, .slice none 0 0]) Z1 1 _ rfl) 2 _ rfl) 3 _ rfl⟩, ⟨QI75_0⟩, ⟨QK⟩, ⟨QB⟩⟩
 case round =>
  clear H'
  try clear c1
  try clear p2
  try clear c7
  try clear c8
  try clear c9
  try clear c11
  try clear hcz9_0 hcz9_1 hcz9_2 hcz9_3 hfz9_0 hfz9_1 hfz9_2 hfz9_3
  obtain ⟨x1000_1, x1001_1, x1002_1, x1003_1, x149000_1, x149001_1, x149002_1, x149003_1, u149002, u149003, HA, HK1, HO_149002, HO_149003, BK135, BK148, HI0, HK, HB⟩ := hrel
  cases gk with
  | zero => exact absurd HA.out (by simp [Yq.l0])
  | succ k1 =>
   have H := HA.out
   clear HA
   simp only [Yq.l0] at H
   replace H := Option.bind_eq_some_iff.mp H
   obtain ⟨⟨t149, t150, t151, t152, t153⟩, A120, H⟩ := H
   replace H : (if t149 = true then ((Ye.f k1 t150 t151 t152 t153 a1).bind fun bt154 => (Yq.l0 k1 a1 bt154.2.2.2.2.1 bt154.2.2.2.2.2.1 bt154.2.2.2.2.2.2.1 bt154.2.2.2.2.2.2.2 3 (⟨#[]⟩ : ByteArray) ([] : List ByteArray) (([(⟨x149000_1, x149001_1, x149002_1, x149003_1⟩ : S37), (⟨bt154.1, bt154.2.1, bt154.2.2.1, bt154.2.2.2.1⟩ : S37)] : List (S37))))) else (some (x149000_1, x149001_1, x149002_1, x149003_1, t150, t151, t152, t153))) = some (r1, r2, r3, r4, r5, r6, r7, r8) := H
   have A12 := Y0.mk A120
   clear A120
   by_cases c13 : t149 = true
   ·subst c13
    have H1 : ((Ye.f k1 t150 t151 t152 t153 a1).bind fun bt154 => (Yq.l0 k1 a1 bt154.2.2.2.2.1 bt154.2.2.2.2.2.1 bt154.2.2.2.2.2.2.1 bt154.2.2.2.2.2.2.2 3 (⟨#[]⟩ : ByteArray) ([] : List ByteArray) (([(⟨x149000_1, x149001_1, x149002_1, x149003_1⟩ : S37), (⟨bt154.1, bt154.2.1, bt154.2.2.1, bt154.2.2.2.1⟩ : S37)] : List (S37))))) = some (r1, r2, r3, r4, r5, r6, r7, r8) := by rw [if_pos rfl] at H; exact H
    clear H
    have H := H1
    clear H1
    replace H := Option.bind_eq_some_iff.mp H
    obtain ⟨⟨t154, t155, t156, t159, t162, t163, t164, t165⟩, A140, H⟩ := H
    replace H : (Yq.l0 k1 a1 t162 t163 t164 t165 3 (⟨#[]⟩ : ByteArray) ([] : List ByteArray) (([(⟨x149000_1, x149001_1, x149002_1, x149003_1⟩ : S37), (⟨t154, t155, t156, t159⟩ : S37)] : List (S37)))) = some (r1, r2, r3, r4, r5, r6, r7, r8) := H
    have A14 := Y0.mk A140
    clear A140
    obtain ⟨y166, hy166⟩ : ∃ y_ : List (S37), y_ = (([(⟨x149000_1, x149001_1, x149002_1, x149003_1⟩ : S37), (⟨t154, t155, t156, t159⟩ : S37)] : List (S37))) := ⟨_, rfl⟩
    replace H : (Yq.l0 k1 a1 t162 t163 t164 t165 3 (⟨#[]⟩ : ByteArray) ([] : List ByteArray) y166) = some (r1, r2, r3, r4, r5, r6, r7, r8) := by first | (rw [hy166]; with_reducible exact H) | (have H2_ := (Option.bind_some _ _).symm.trans H; rw [hy166]; with_reducible exact H2_) | (have H2_ := (Option.bind_some _ _).symm.trans H; with_reducible exact H2_) | with_reducible exact H | (rw [hy166]; exact H) | exact H
    have Ny166 := Y0.mk hy166
    clear hy166
    have H' := Y0.mk H
    clear H
    try go_wp2_with (first | ((with_reducible refine Yh (f := 95) rfl ?_); refine Yy (some 10) rfl rfl Tryd.func95 Z7 rfl #[.pointer (some ⟨g, 0, none⟩), .int .u8 47] rfl Z0 ?_; (with_reducible refine (YH.calls k1 g x1000_1 x1001_1 x1002_1 x1003_1 47 true t150 t151 t152 t153 w0 _ ?side1 ?side2 A12.out).mono ?_); (case side1 => exact Z1r); (case side2 => exact QB); rintro e w15 ⟨rfl, hi, hb, hk⟩; refine ⟨_, rfl, ?_⟩; have n0_ := Y0.mk (Kd.R_mono (Kd.R_keep (Yf.apart (show Yf w0 _ g x1000_1 x1001_1 x1002_1 x1003_1 from QI75_0) Z1d (by decide)) hk (fun _ h => h.2)) (fun _ h => h.1)); have n1_ := Y0.mk (Kd.N_mono (Kd.N_keep (Kd.N_mono (ok := fun k_ => (((w.heap.size ≤ k_)) ∧ (some k_ ≠ (u149002 : Value).ownBlock ∧ (k_ ≠ gb135 ∧ (k_ ≠ gb148 ∧ k_ ≠ g))))) Z1k (fun k_ hk_ => (⟨hk_, hk_.2.2.2.2⟩ : _ ∧ k_ ≠ g))) hk (fun _ h => h.2)) (fun _ h => h.1)); have n2_ := Y0.mk (Y3.blk hk (g' := gb135) (o := .cells #[.int .i64 0, .string (⟨#[]⟩ : ByteArray), .slice none 0 0, .slice none 0 0] 37 (0, 0)) QQ NB135_0.out (by simp)); have n3_ := Y0.mk (Y3.blk hk (g' := gb148) (o := .cells #[.int .i64 x149000_1, .string x149001_1, u149002, u149003] 37 (0, 0)) QQ NB148_0.out (by simp)); have n4_ := Y0.mk (Y3.trans QK hk (.inl rfl)); have n5_ := Y0.mk (hb); have n6_ := Y0.mk (hi); clear HO_149002 HO_149003 BK135 BK148 HK HB HI0; have HO_149002 := n0_; have HO_149003 := n1_; have BK135 := n2_; have BK148 := n3_; have HK := n4_; have HB := n5_; have HI0 := n6_; clear n0_ n1_ n2_ n3_ n4_ n5_ n6_; (try clear hb); (try clear hb2); (try clear hk); (try clear hi)))
    have n_ := put7 (Kd.R_drew HO_149002.out) (Kd.N_drew HO_149003.out) (Y8 BK135.out) (Y8 BK148.out) (Yf.drew HI0.out) (Y1Q HK.out) (YF HB.out)
    clear HO_149002
    clear HO_149003
    clear BK135
    clear BK148
    clear HI0
    clear HK
    clear HB
    obtain ⟨HO_149002, HO_149003, BK135, BK148, HI0, HK, HB⟩ := n_
    refine Y1q (n := 7) (S := fun w' => w'.cell? ⟨gb148, 0, none⟩ = some (.int .i64 x149000_1) ∧ w'.cell? ⟨gb148, 1, none⟩ = some (.string x149001_1) ∧ w'.cell? ⟨gb148, 2, none⟩ = some (u149002) ∧ w'.cell? ⟨gb148, 3, none⟩ = some (u149003)) (ds := [6]) bz7_0 Z7 rfl rfl ⟨(Y1 BK148.out 0).trans rfl, (Y1 BK148.out 1).trans rfl, (Y1 BK148.out 2).trans rfl, (Y1 BK148.out 3).trans rfl⟩ (fun hHeld => ?_)
    generalize w15.drew = w16 at HO_149002 HO_149003 BK135 BK148 HI0 HK HB hHeld ⊢
    refine Y3a (i := 1) (N := some 12) (v := ?_) (a' := ?_) bz7_2 rfl rfl Z7 (fun _ _ _ h => h) (Or.inl ⟨by rfl, ?_⟩) ?_ ?_
    rotate_left
    ·intro w'
     go_simp
     with_reducible rfl
    rotate_left
    ·simp only [Act.put, List.setIfInBounds_toArray, List.set_cons_zero, List.set_cons_succ, Y13, Y15]
     rfl
    refine Y3a (i := 2) (N := some 13) (v := ?_) (a' := ?_) bz7_6 rfl rfl Z7 (fun _ _ _ h => h) (Or.inl ⟨by rfl, ?_⟩) ?_ ?_
    rotate_left
    ·intro w'
     go_simp
     with_reducible rfl
    rotate_left
    ·simp only [Act.put, List.setIfInBounds_toArray, List.set_cons_zero, List.set_cons_succ, Y13, Y15]
     rfl
    refine take_ (i := 0) (N := some 11) (v := ?_) (a' := ?_) bz7_7 rfl rfl Z7 (fun _ _ _ h => h) (Or.inl ⟨by rfl, ?_⟩) hHeld ?_ ?_
    rotate_left
    ·rintro w' ⟨s0, s1, s2, s3⟩
     go_simp
     with_reducible rfl
    rotate_left
    ·simp only [Act.put, List.setIfInBounds_toArray, List.set_cons_zero, List.set_cons_succ, Y13, Y15]
     rfl
    refine Y28 (i := 3) (N := some 14) bz7_f rfl rfl Z7 (by decide) (fun K hK => ?_)
    refine Y1G Tryd.func112 Z7 rfl #[.pointer (some ⟨g, 0, none⟩), .int .i64 a1] (by rfl) rfl rfl Z0 ?_
    with_reducible refine ((ih k1 Z1q).2.2.1 g t150 t151 t152 t153 a1 t154 t155 t156 t159 t162 t163 t164 t165 w0 _ ?side1 ?side2 ?side3 A14.out).mono ?_
    (case side1 => exact Z1r)
    (case side2 => exact QB)
    (case side3 => exact HT.out)
    rintro e w17 ⟨v157, v160, rfl, ho0, ho1, hi, hb, hk⟩
    refine ⟨_, rfl, ?_⟩
    have n0_ := Y0.mk (Kd.R_mono (Kd.R_told (Kd.R_oldK (Yf.apart (show Yf w0 _ g t150 t151 t152 t153 from QI75_0) Z1d (by decide)) hk) (Kd.R_base ho0)) (fun _ h_ => h_.1))
    have n1_ := Y0.mk (Kd.N_mono (Kd.N_told (Kd.N_told (Kd.N_oldK (Kd.N_mono (ok := fun k_ => (((w.heap.size ≤ k_)) ∧ (some k_ ≠ (u149002 : Value).ownBlock ∧ (k_ ≠ gb135 ∧ (k_ ≠ gb148 ∧ k_ ≠ g))))) Z1k (fun k_ hk_ => (⟨hk_, hk_.2.2.2.2⟩ : _ ∧ k_ ≠ g))) hk) (Kd.R_base ho0)) (Kd.N_base ho1)) (fun _ h_ => h_.1))
    have n2_ := Y0.mk (Y3.blk hk (g' := gb135) (o := .cells #[.int .i64 0, .string (⟨#[]⟩ : ByteArray), .slice none 0 0, .slice none 0 0] 37 (0, 0)) QQ NB135_0.out (by simp))
    have n3_ := Y0.mk (Y3.blk hk (g' := gb148) (o := .cells #[.int .i64 x149000_1, .string x149001_1, u149002, u149003] 37 (0, 0)) QQ NB148_0.out (by simp))
    have n4_ := Y0.mk (Kd.R_lower (Kd.R_new' (Kd.R_newM (M := fun k_ => (w.heap.size ≤ k_)) (Kd.R_mono (ok' := fun k_ => True) ho0 (fun _ hk_ => trivial)) (Yb (w := w) (g := g) (row := none) QK) (fun k_ h_ => h_)) (Kd.R_lt Z1d)) (Yb (w := w) (g := g) (row := none) QK))
    have n5_ := Y0.mk (Kd.N_lower (Kd.N_mono (ok' := fun k_ => (w.heap.size ≤ k_) ∧ some k_ ≠ (v157 : Value).ownBlock ∧ some k_ ≠ (u149002 : Value).ownBlock ∧ some k_ ≠ (u149003 : Value).ownBlock ∧ k_ ≠ gb135 ∧ k_ ≠ gb148 ∧ k_ ≠ g) ho1 (fun k_ hk_ => ⟨(Nat.le_trans (Yb (w := w) (g := g) (row := none) QK) hk_.1), hk_.2, (Kd.fresh' (Kd.R_lt Z1d) k_ hk_.1), (Kd.fresh' (Kd.N_lt Z1k) k_ hk_.1), (Kd.freshB (g := gb135) (o := .cells #[.int .i64 0, .string (⟨#[]⟩ : ByteArray), .slice none 0 0, .slice none 0 0] 37 (0, 0)) QQ k_ hk_.1), (Kd.freshB (g := gb148) (o := .cells #[.int .i64 x149000_1, .string x149001_1, u149002, u149003] 37 (0, 0)) QQ k_ hk_.1), (Yf.fresh QI75_0 k_ hk_.1)⟩)) (Yb (w := w) (g := g) (row := none) QK))
    have n6_ := Y0.mk (Y3.trans QK hk (.inl rfl))
    have n7_ := Y0.mk (hb)
    have n8_ := Y0.mk (hi)
    clear HO_149002
    clear HO_149003
    clear BK135
    clear BK148
    clear HK
    clear HB
    clear HI0
    have HO_149002 := n0_
    have HO_149003 := n1_
    have BK135 := n2_
    have BK148 := n3_
    have HO158 := n4_
    have HO161 := n5_
    have HK := n6_
    have HB := n7_
    have HI0 := n8_
    clear n0_ n1_ n2_ n3_ n4_ n5_ n6_ n7_ n8_
    (try clear hb)
    (try clear hb2)
    (try clear hk)
    (try clear hi)
    (try clear ho0)
    (try clear ho1)
    obtain ⟨Ao18, co18, eo18⟩ := Kd.R_slice HO_149002.out
    (first | subst eo18 | (injection eo18 with f1_ f2_ f3_; have f4_ := f1_.symm; have f5_ := f3_.symm; clear f1_ f2_ f3_; subst f4_; subst f5_))
    obtain ⟨Ao19, co19, eo19⟩ := Kd.N_slice HO_149003.out
    (first | subst eo19 | (injection eo19 with f1_ f2_ f3_; have f4_ := f1_.symm; have f5_ := f3_.symm; clear f1_ f2_ f3_; subst f4_; subst f5_))
    obtain ⟨Ao20, co20, eo20⟩ := Kd.R_slice HO158.out
    (first | subst eo20 | (injection eo20 with f1_ f2_ f3_; have f4_ := f1_.symm; have f5_ := f3_.symm; clear f1_ f2_ f3_; subst f4_; subst f5_))
    obtain ⟨Ao21, co21, eo21⟩ := Kd.N_slice HO161.out
    (first | subst eo21 | (injection eo21 with f1_ f2_ f3_; have f4_ := f1_.symm; have f5_ := f3_.symm; clear f1_ f2_ f3_; subst f4_; subst f5_))
    refine hK.out _ _ ⟨(Y1 BK148.out 0).trans rfl, (Y1 BK148.out 1).trans rfl, (Y1 BK148.out 2).trans rfl, (Y1 BK148.out 3).trans rfl⟩ (fun hHeld => ?_)
    clear hK K
    refine Y1z (a' := ?_) ?_ ?_
    rotate_left
    ·show Act.put _ (some 14) _ = _
     simp only [Act.put, List.setIfInBounds_toArray, List.set_cons_zero, List.set_cons_succ, Y13, Y15]
     rfl
    refine Y28 (i := 4) (N := some 15) bz7_1f rfl rfl Z7 (by decide) (fun K hK => ?_)
    refine Kd.N_lit_step k37 _ 37 ?hg (N' := 15) ?hd (xs := ([(⟨x149000_1, x149001_1, x149002_1, x149003_1⟩ : S37), (⟨t154, t155, t156, t159⟩ : S37)] : List (S37))) (inner := [.int .i64 x149000_1, .string x149001_1, .slice Ao18 x149002_1.length co18, .slice Ao19 x149003_1.length co19, .int .i64 t154, .string t155, .slice Ao20 t156.length co20, .slice Ao21 t159.length co21]) (ok := (fun k_ => (w.heap.size ≤ k_) ∧ k_ ≠ gb135 ∧ k_ ≠ gb148 ∧ k_ ≠ g)) (okp := (fun k_ => (w.heap.size ≤ k_) ∧ k_ ≠ gb135 ∧ k_ ≠ gb148 ∧ k_ ≠ g)) ?hr ?hp (fun _ hk => hk) ((show ∀ k_, w17.heap.size ≤ k_ → (fun k_ => (w.heap.size ≤ k_) ∧ k_ ≠ gb135 ∧ k_ ≠ gb148 ∧ k_ ≠ g) k_ from fun k_ hk => ⟨(Nat.le_trans (Yb (w := w) (g := g) (row := none) QK) hk), Kd.freshB (g := gb135) (o := .cells #[.int .i64 0, .string (⟨#[]⟩ : ByteArray), .slice none 0 0, .slice none 0 0] 37 (0, 0)) QQ k_ hk, Kd.freshB (g := gb148) (o := .cells #[.int .i64 x149000_1, .string x149001_1, .slice Ao18 x149002_1.length co18, .slice Ao19 x149003_1.length co19] 37 (0, 0)) QQ k_ hk, Yf.fresh QI75_0 k_ hk⟩) _ (Nat.le_refl _)) (Below.refl _ _) (Nat.le_refl _) (by simp) ?_; (case hd => rfl); (case hg => rfl); (case hr => exact Za); (case hp => exact (Y1a.c4 (show Kd.FK k37 _ _ (⟨x149000_1, x149001_1, x149002_1, x149003_1⟩ : S37) [.int .i64 x149000_1, .string x149001_1, .slice Ao18 x149002_1.length co18, .slice Ao19 x149003_1.length co19] from (Y1Y _ _ (⟨x149000_1, x149001_1, x149002_1, x149003_1⟩ : S37) (Kd.R_reads' (Kd.R_mono (ok' := (fun k_ => (w.heap.size ≤ k_) ∧ k_ ≠ gb135 ∧ k_ ≠ gb148 ∧ k_ ≠ g)) (Yf.apart HI0.out (Kd.R_types (Kd.R_types (HO_149002.out) BK135.out (by decide)) BK148.out (by decide)) (by decide)) (fun k_ hk => ⟨hk.1.1.1.1, ⟨hk.1.1.2, ⟨hk.1.2, hk.2⟩⟩⟩))).2.1 (Kd.R_F (Kd.R_mono (ok' := (fun k_ => (w.heap.size ≤ k_) ∧ k_ ≠ gb135 ∧ k_ ≠ gb148 ∧ k_ ≠ g)) (Yf.apart HI0.out (Kd.R_types (Kd.R_types (HO_149002.out) BK135.out (by decide)) BK148.out (by decide)) (by decide)) (fun k_ hk => ⟨hk.1.1.1.1, ⟨hk.1.1.2, ⟨hk.1.2, hk.2⟩⟩⟩))) (Kd.N_reads' (Kd.N_mono (ok' := (fun k_ => (w.heap.size ≤ k_) ∧ k_ ≠ gb135 ∧ k_ ≠ gb148 ∧ k_ ≠ g)) (HO_149003.out) (fun k_ hk => ⟨hk.1.1.1, ⟨hk.1.1.2.2.1, ⟨hk.1.1.2.2.2.1, hk.1.1.2.2.2.2⟩⟩⟩))).2.1 (Kd.N_F (Kd.N_mono (ok' := (fun k_ => (w.heap.size ≤ k_) ∧ k_ ≠ gb135 ∧ k_ ≠ gb148 ∧ k_ ≠ g)) (HO_149003.out) (fun k_ hk => ⟨hk.1.1.1, ⟨hk.1.1.2.2.1, ⟨hk.1.1.2.2.2.1, hk.1.1.2.2.2.2⟩⟩⟩))))) (Y1a.c4 (show Kd.FK k37 _ _ (⟨t154, t155, t156, t159⟩ : S37) [.int .i64 t154, .string t155, .slice Ao20 t156.length co20, .slice Ao21 t159.length co21] from (Y1Y _ _ (⟨t154, t155, t156, t159⟩ : S37) (Kd.R_reads' (Kd.R_mono (ok' := (fun k_ => (w.heap.size ≤ k_) ∧ k_ ≠ gb135 ∧ k_ ≠ gb148 ∧ k_ ≠ g)) (Yf.apart HI0.out (Kd.R_types (Kd.R_types (HO158.out) BK135.out (by decide)) BK148.out (by decide)) (by decide)) (fun k_ hk => ⟨hk.1.1.1.1.1, ⟨hk.1.1.2, ⟨hk.1.2, hk.2⟩⟩⟩))).2.1 (Kd.R_F (Kd.R_mono (ok' := (fun k_ => (w.heap.size ≤ k_) ∧ k_ ≠ gb135 ∧ k_ ≠ gb148 ∧ k_ ≠ g)) (Yf.apart HI0.out (Kd.R_types (Kd.R_types (HO158.out) BK135.out (by decide)) BK148.out (by decide)) (by decide)) (fun k_ hk => ⟨hk.1.1.1.1.1, ⟨hk.1.1.2, ⟨hk.1.2, hk.2⟩⟩⟩))) (Kd.N_reads' (Kd.N_mono (ok' := (fun k_ => (w.heap.size ≤ k_) ∧ k_ ≠ gb135 ∧ k_ ≠ gb148 ∧ k_ ≠ g)) (HO161.out) (fun k_ hk => ⟨hk.1, ⟨hk.2.2.2.2.1, ⟨hk.2.2.2.2.2.1, hk.2.2.2.2.2.2⟩⟩⟩))).2.1 (Kd.N_F (Kd.N_mono (ok' := (fun k_ => (w.heap.size ≤ k_) ∧ k_ ≠ gb135 ∧ k_ ≠ gb148 ∧ k_ ≠ g)) (HO161.out) (fun k_ hk => ⟨hk.1, ⟨hk.2.2.2.2.1, ⟨hk.2.2.2.2.2.1, hk.2.2.2.2.2.2⟩⟩⟩))))) (Y1a.none _ _))))
    intro v167 w22 ho23 hb hg_ hnew_
    clear hg_ hnew_
    (first | rw [← Ny166.out] at ho23 | (simp only [Int.reduceToNat] at ho23; rw [← Ny166.out] at ho23))
    have n_ := Y2T (Kd.N_lower ho23 (Yb (w := w) (g := g) (row := none) QK)) (Yi (g := gb135) (o := .cells #[.int .i64 0, .string (⟨#[]⟩ : ByteArray), .slice none 0 0, .slice none 0 0] 37 (0, 0)) QQ hb) (Yi (g := gb148) (o := .cells #[.int .i64 x149000_1, .string x149001_1, .slice Ao18 x149002_1.length co18, .slice Ao19 x149003_1.length co19] 37 (0, 0)) QQ hb) (Yf.below QI75_0 hb) (Y3.trans QK (Y3.of_below hb g none) (.inl rfl)) (Y6 QB hb)
    clear BK135
    clear BK148
    clear HI0
    clear HK
    clear HB
    clear HO158
    clear HO161
    clear HO_149002
    clear HO_149003
    obtain ⟨HO168, BK135, BK148, HI0, HK, HB⟩ := n_
    clear hb ho23
    obtain ⟨Ao24, co24, eo24⟩ := Kd.N_slice HO168.out
    (first | subst eo24 | (injection eo24 with f1_ f2_ f3_; have f4_ := f1_.symm; have f5_ := f3_.symm; clear f1_ f2_ f3_; subst f4_; subst f5_))
    refine hK.out _ _ ⟨(Y1 BK148.out 0).trans rfl, (Y1 BK148.out 1).trans rfl, (Y1 BK148.out 2).trans rfl, (Y1 BK148.out 3).trans rfl⟩ (fun hHeld => ?_)
    clear hK K
    refine Y1z (a' := ?_) ?_ ?_
    rotate_left
    ·show Act.put _ (some 15) _ = _
     simp only [Act.put, List.setIfInBounds_toArray, List.set_cons_zero, List.set_cons_succ, Y13, Y15]
     rfl
    refine Y3a (i := 5) (N := some 16) (v := ?_) (a' := ?_) bz7_3f rfl rfl Z7 (fun _ _ _ h => h) (Or.inl ⟨by rfl, ?_⟩) ?_ ?_
    rotate_left
    ·intro w'
     go_simp
     with_reducible rfl
    rotate_left
    ·simp only [Act.put, List.setIfInBounds_toArray, List.set_cons_zero, List.set_cons_succ, Y13, Y15]
     rfl
    refine last_ (i := 6) (N := none) bz7_7f rfl rfl Z7 (by decide) (fun K hK => ?_)
    have hs25 : w22.cell? ⟨gb148, 0, none⟩ = some (.int .i64 x149000_1) := (Y1 BK148.out 0).trans rfl
    have hfs25 := Y4 BK148.out 0
    have hns25_0 := NB135_148.out
    have hms25_0 := NB148_135.out
    have hs26 : w22.cell? ⟨gb148, 1, none⟩ = some (.string x149001_1) := (Y1 BK148.out 1).trans rfl
    have hfs26 := Y4 BK148.out 1
    have hns26_0 := NB135_148.out
    have hms26_0 := NB148_135.out
    have hs27 : w22.cell? ⟨gb148, 2, none⟩ = some (.slice Ao18 x149002_1.length co18) := (Y1 BK148.out 2).trans rfl
    have hfs27 := Y4 BK148.out 2
    have hns27_0 := NB135_148.out
    have hms27_0 := NB148_135.out
    have hs28 : w22.cell? ⟨gb148, 3, none⟩ = some (.slice Ao19 x149003_1.length co19) := (Y1 BK148.out 3).trans rfl
    have hfs28 := Y4 BK148.out 3
    have hns28_0 := NB135_148.out
    have hms28_0 := NB148_135.out
    refine skip_ (w1 := ?_) (by rfl) rfl ?_ ?_
    rotate_left
    ·go_simp
     rfl
    refine hK.out _ _ ?_
    clear hK K
    refine Y1L Z7 ?_
    try go_wp2
    go_roundg k1
    case measure => have := HK1.out; omega
    case rel => exact ⟨(t162), (t163), (t164), (t165), (3), ((⟨#[]⟩ : ByteArray)), (([] : List ByteArray)), (y166), (.slice none 0 0), (.slice Ao24 y166.length co24), H', ⟨Z1q⟩, ⟨Zb⟩, ⟨by (with_reducible repeat (first | apply Kd.N_alloc | apply Kd.N_drewN | apply Kd.N_drew)); exact Kd.N_mono (Kd.N_far (p := ⟨gb148, 3, none⟩) (Kd.N_far (p := ⟨gb148, 2, none⟩) (Kd.N_far (p := ⟨gb148, 1, none⟩) (Kd.N_far (p := ⟨gb148, 0, none⟩) (Kd.N_mono HO168.out (fun k_ hk => (⟨hk, hk.2.2.1⟩ : _ ∧ k_ ≠ gb148))) (fun _ hk => hk.2) (.int .i64 3)) (fun _ hk => hk.2) (.string (⟨#[]⟩ : ByteArray))) (fun _ hk => hk.2) (.slice none 0 0)) (fun _ hk => hk.2) (.slice Ao24 y166.length co24)) (fun _ hk => ⟨hk.1.1, ⟨Z1t, ⟨hk.1.2.1, ⟨hk.1.2.2.1, hk.1.2.2.2⟩⟩⟩⟩)⟩, ⟨ZM⟩, ⟨by (with_reducible repeat (first | refine Y9 ?_ _ | refine Y8 ?_ | refine Y7 ?_ _)); exact Yo (cs := #[.int .i64 3, .string (⟨#[]⟩ : ByteArray), .slice none 0 0, .slice Ao19 x149003_1.length co19]) (by (with_reducible repeat (first | refine Y9 ?_ _ | refine Y8 ?_ | refine Y7 ?_ _)); exact Yo (cs := #[.int .i64 3, .string (⟨#[]⟩ : ByteArray), .slice Ao18 x149002_1.length co18, .slice Ao19 x149003_1.length co19]) (by (with_reducible repeat (first | refine Y9 ?_ _ | refine Y8 ?_ | refine Y7 ?_ _)); exact Yo (cs := #[.int .i64 3, .string x149001_1, .slice Ao18 x149002_1.length co18, .slice Ao19 x149003_1.length co19]) (by (with_reducible repeat (first | refine Y9 ?_ _ | refine Y8 ?_ | refine Y7 ?_ _)); exact Yo (cs := #[.int .i64 x149000_1, .string x149001_1, .slice Ao18 x149002_1.length co18, .slice Ao19 x149003_1.length co19]) QQ 0 _ rfl) 1 _ rfl) 2 _ rfl) 3 _ rfl⟩, ⟨QI75_0⟩, ⟨QK⟩, ⟨QB⟩⟩
   ·replace c13 := Bool.eq_false_iff.mpr c13
    subst c13
    have H1 : (some (x149000_1, x149001_1, x149002_1, x149003_1, t150, t151, t152, t153)) = some (r1, r2, r3, r4, r5, r6, r7, r8) := by rw [if_neg (show ¬ (false = true) by decide)] at H; exact H
    clear H
    have H := H1
    clear H1
    simp only [Option.some.injEq, Prod.mk.injEq] at H
    obtain ⟨rfl, rfl, rfl, rfl, rfl, rfl, rfl, rfl⟩ := H
    go_wp2_with (first | ((with_reducible refine Yh (f := 95) rfl ?_); refine Yy (some 10) rfl rfl Tryd.func95 Z7 rfl #[.pointer (some ⟨g, 0, none⟩), .int .u8 47] rfl Z0 ?_; (with_reducible refine (YH.calls k1 g x1000_1 x1001_1 x1002_1 x1003_1 47 false t150 t151 t152 t153 w0 _ ?side1 ?side2 A12.out).mono ?_); (case side1 => exact Z1r); (case side2 => exact QB); rintro e w29 ⟨rfl, hi, hb, hk⟩; refine ⟨_, rfl, ?_⟩; have n0_ := Y0.mk (Kd.R_mono (Kd.R_keep (Yf.apart (show Yf w0 _ g x1000_1 x1001_1 x1002_1 x1003_1 from QI75_0) Z1d (by decide)) hk (fun _ h => h.2)) (fun _ h => h.1)); have n1_ := Y0.mk (Kd.N_mono (Kd.N_keep (Kd.N_mono (ok := fun k_ => (((w.heap.size ≤ k_)) ∧ (some k_ ≠ (u149002 : Value).ownBlock ∧ (k_ ≠ gb135 ∧ (k_ ≠ gb148 ∧ k_ ≠ g))))) Z1k (fun k_ hk_ => (⟨hk_, hk_.2.2.2.2⟩ : _ ∧ k_ ≠ g))) hk (fun _ h => h.2)) (fun _ h => h.1)); have n2_ := Y0.mk (Y3.blk hk (g' := gb135) (o := .cells #[.int .i64 0, .string (⟨#[]⟩ : ByteArray), .slice none 0 0, .slice none 0 0] 37 (0, 0)) QQ NB135_0.out (by simp)); have n3_ := Y0.mk (Y3.blk hk (g' := gb148) (o := .cells #[.int .i64 x149000_1, .string x149001_1, u149002, u149003] 37 (0, 0)) QQ NB148_0.out (by simp)); have n4_ := Y0.mk (Y3.trans QK hk (.inl rfl)); have n5_ := Y0.mk (hb); have n6_ := Y0.mk (hi); clear HO_149002 HO_149003 BK135 BK148 HK HB HI0; have HO_149002 := n0_; have HO_149003 := n1_; have BK135 := n2_; have BK148 := n3_; have HK := n4_; have HB := n5_; have HI0 := n6_; clear n0_ n1_ n2_ n3_ n4_ n5_ n6_; (try clear hb); (try clear hb2); (try clear hk); (try clear hi); have hnb30 := NB148_135.out; have hnc30 := NB135_148.out; have hnb31 := NB148_0.out; have hnc31 := NB0_148.out; obtain ⟨hcz32_0, hcz32_1, hcz32_2, hcz32_3, hfz32_0, hfz32_1, hfz32_2, hfz32_3⟩ := Yt BK148.out; have hnb33 := NB135_0.out; have hnc33 := NB0_135.out; obtain ⟨hcz34_0, hcz34_1, hcz34_2, hcz34_3, hfz34_0, hfz34_1, hfz34_2, hfz34_3⟩ := Yt BK135.out; obtain ⟨Ao35, co35, eo35⟩ := Kd.R_slice HO_149002.out; subst eo35; obtain ⟨Ao36, co36, eo36⟩ := Kd.N_slice HO_149003.out; subst eo36))
    refine bodyPost_ret (results_cell_row rfl _ _ gb135 37 #[.int .i64 x149000_1, .string x149001_1, .slice Ao35 x149002_1.length co35, .slice Ao36 x149003_1.length co36] (0, 0) _ rfl (by (with_reducible repeat (first | refine Y9 ?_ _ | refine Y8 ?_ | refine Y7 ?_ _)); exact Yo (cs := #[.int .i64 x149000_1, .string x149001_1, .slice Ao35 x149002_1.length co35, .slice none 0 0]) (by (with_reducible repeat (first | refine Y9 ?_ _ | refine Y8 ?_ | refine Y7 ?_ _)); exact Yo (cs := #[.int .i64 x149000_1, .string x149001_1, .slice none 0 0, .slice none 0 0]) (by (with_reducible repeat (first | refine Y9 ?_ _ | refine Y8 ?_ | refine Y7 ?_ _)); exact Yo (cs := #[.int .i64 x149000_1, .string (⟨#[]⟩ : ByteArray), .slice none 0 0, .slice none 0 0]) Z1 1 _ rfl) 2 _ rfl) 3 _ rfl) Tryd.underlying37 rfl Z7) rfl ?_
    exact ⟨_, _, Z2, by (with_reducible repeat (first | apply Kd.R_alloc | apply Kd.R_drewN | apply Kd.R_drew)); exact Kd.R_mono (Kd.R_far (p := ⟨gb135, 3, none⟩) (Kd.R_far (p := ⟨gb135, 2, none⟩) (Kd.R_far (p := ⟨gb135, 1, none⟩) (Kd.R_far (p := ⟨gb135, 0, none⟩) (Kd.R_types HO_149002.out BK135.out (by decide)) (fun _ hk => hk.2) (.int .i64 x149000_1)) (fun _ hk => hk.2) (.string x149001_1)) (fun _ hk => hk.2) (.slice Ao35 x149002_1.length co35)) (fun _ hk => hk.2) (.slice Ao36 x149003_1.length co36)) (fun _ hk => hk.1), by (with_reducible repeat (first | apply Kd.N_alloc | apply Kd.N_drewN | apply Kd.N_drew)); exact Kd.N_mono (Kd.N_far (p := ⟨gb135, 3, none⟩) (Kd.N_far (p := ⟨gb135, 2, none⟩) (Kd.N_far (p := ⟨gb135, 1, none⟩) (Kd.N_far (p := ⟨gb135, 0, none⟩) (Kd.N_mono HO_149003.out (fun k_ hk => (⟨hk, hk.2.2.1⟩ : _ ∧ k_ ≠ gb135))) (fun _ hk => hk.2) (.int .i64 x149000_1)) (fun _ hk => hk.2) (.string x149001_1)) (fun _ hk => hk.2) (.slice Ao35 x149002_1.length co35)) (fun _ hk => hk.2) (.slice Ao36 x149003_1.length co36)) (fun _ hk => ⟨hk.1.1, hk.1.2.1⟩), QI75_0, QB, QK⟩
set_option maxHeartbeats 8000000 in
set_option maxRecDepth 100000 in
theorem Ye.Y2N (k : Nat) (ih : ∀ j_ < k, Yj.Spec j_ ∧ Yq.Spec j_ ∧ Ye.Spec j_ ∧ Yv.Spec j_ ∧ Yx.Spec j_) : ∀ (g : Nat) (s0_0 : ByteArray) (s0_1 : Int) (s0_2 : Int) (s0_3 : Int) (a1 : Int) (r1 : Int) (r2 : ByteArray) (r3 : List ByteArray) (r4 : List (S37)) (r5 : ByteArray) (r6 : Int) (r7 : Int) (r8 : Int) (w0 w : World) (hI : Yf w0 w g s0_0 s0_1 s0_2 s0_3) (hB : Below w0.heap.size w0 w) (hT : Tabs w0) (h : Ye.f k s0_0 s0_1 s0_2 s0_3 a1 = some (r1, r2, r3, r4, r5, r6, r7, r8)),
  Calls Tryd.prog 112 #[.pointer (some ⟨g, 0, none⟩), .int .i64 a1] w fun e w' => ∃ v2_ v3_ : Value, e = .returned (.agg #[.int .i64 r1, .string r2, v2_, v3_]) ∧ Kd.R Kd.string 9 w' w.heap.size (fun k_ => (w.heap.size ≤ k_)) v2_ r3 ∧ Kd.N k37 37 w' w.heap.size (fun k_ => (w.heap.size ≤ k_) ∧ some k_ ≠ (v2_ : Value).ownBlock) v3_ r4 ∧ Yf w0 w' g r5 r6 r7 r8 ∧ Below w0.heap.size w0 w' ∧ Y3 w w' g none := by
 intro g s0_0 s0_1 s0_2 s0_3 a1 r1 r2 r3 r4 r5 r6 r7 r8 w0 w hI hB hT h
 cases k with
 | zero => exact absurd h (by simp [Ye.f])
 | succ k =>
 simp only [Ye.f] at h
 have HT := Y0.mk hT
 clear hT
 have hu37 := Tryd.underlying37
 have HI0 := Y0.mk hI
 have HK := Y0.mk (Y3.refl w g none)
 have HL := Y0.mk hB.size
 clear hI
 have HW0 := Y0.mk hB.size
 have HB := Y0.mk hB
 clear hB
 have H : ((Yv.f k s0_0 s0_1 s0_2 s0_3 a1).bind fun bt170 => (Ye.l0 k bt170.2.2.2.2.1 bt170.2.2.2.2.2.1 bt170.2.2.2.2.2.2.1 bt170.2.2.2.2.2.2.2 bt170.1 bt170.2.1 bt170.2.2.1 bt170.2.2.2.1)) = some (r1, r2, r3, r4, r5, r6, r7, r8) := h
 clear h
 replace H := Option.bind_eq_some_iff.mp H
 obtain ⟨⟨t170, t171, t172, t175, t178, t179, t180, t181⟩, A30, H⟩ := H
 replace H : (Ye.l0 k t178 t179 t180 t181 t170 t171 t172 t175) = some (r1, r2, r3, r4, r5, r6, r7, r8) := H
 have A3 := Y0.mk A30
 clear A30
 have H' := Y0.mk H
 clear H
 go_enter Tryd.func112, Tryd.ntmps112
 go_wp2_with (first | ((with_reducible refine Ym (N := 4) rfl ?_); refine Yn ?hg (N := 4) ?hd (cs := #[.int .i64 0, .string (⟨#[]⟩ : ByteArray), .slice none 0 0, .slice none 0 0]) (t := 37) ?hr ?_; (case hd => rfl); (case hg => rfl); (case hr => exact Za); intro gb169 hg w4 hbox hb; have n_ := Y2C (Yf.below QI75_0 hb) (Y3.trans QK (Y3.of_below hb g none) (.inl rfl)) (Y6 QB hb) (hbox) ((by rw [hg]; exact (Yb (w := w) (g := g) (row := none) QK) : w.heap.size ≤ gb169)) ((Nat.le_trans HW0.out (by rw [hg]; exact (Yb (w := w) (g := g) (row := none) QK) : w.heap.size ≤ gb169) : w0.heap.size ≤ gb169)) ((by rw [hg]; exact Nat.ne_of_lt (Yf.lt (show Yf w0 _ g s0_0 s0_1 s0_2 s0_3 from QI75_0)) : g ≠ gb169)) ((by rw [hg]; exact Nat.ne_of_gt (Yf.lt (show Yf w0 _ g s0_0 s0_1 s0_2 s0_3 from QI75_0)) : gb169 ≠ g)); clear HI0 HK HB; obtain ⟨HI0, HK, HB, BK169, GW169, GE169, NB0_169, NB169_0⟩ := n_; clear hb hbox hg) | ((with_reducible refine Yh (f := 123) rfl ?_); refine Yy (some 9) rfl rfl Tryd.func123 Z7 rfl #[.pointer (some ⟨g, 0, none⟩), .int .i64 a1] rfl Z0 ?_; (with_reducible refine ((ih k (by omega)).2.2.2.1 g s0_0 s0_1 s0_2 s0_3 a1 t170 t171 t172 t175 t178 t179 t180 t181 w0 _ ?side1 ?side2 ?side3 A3.out).mono ?_); (case side1 => exact Z1r); (case side2 => exact QB); (case side3 => exact HT.out); rintro e w5 ⟨v173, v176, rfl, ho0, ho1, hi, hb, hk⟩; refine ⟨_, rfl, ?_⟩; have n0_ := Y0.mk (Y3.blk hk (g' := gb169) (o := .cells #[.int .i64 0, .string (⟨#[]⟩ : ByteArray), .slice none 0 0, .slice none 0 0] 37 (0, 0)) QQ NB169_0.out (by simp)); have n1_ := Y0.mk (Kd.R_lower (Kd.R_newM (M := fun k_ => (w.heap.size ≤ k_)) (Kd.R_mono (ok' := fun k_ => True) ho0 (fun _ hk_ => trivial)) (Yb (w := w) (g := g) (row := none) QK) (fun k_ h_ => h_)) (Yb (w := w) (g := g) (row := none) QK)); have n2_ := Y0.mk (Kd.N_lower (Kd.N_mono (ok' := fun k_ => (w.heap.size ≤ k_) ∧ some k_ ≠ (v173 : Value).ownBlock ∧ k_ ≠ gb169 ∧ k_ ≠ g) ho1 (fun k_ hk_ => ⟨(Nat.le_trans (Yb (w := w) (g := g) (row := none) QK) hk_.1), hk_.2, (Kd.freshB (g := gb169) (o := .cells #[.int .i64 0, .string (⟨#[]⟩ : ByteArray), .slice none 0 0, .slice none 0 0] 37 (0, 0)) QQ k_ hk_.1), (Yf.fresh QI75_0 k_ hk_.1)⟩)) (Yb (w := w) (g := g) (row := none) QK)); have n3_ := Y0.mk (Y3.trans QK hk (.inl rfl)); have n4_ := Y0.mk (hb); have n5_ := Y0.mk (hi); clear BK169 HK HB HI0; have BK169 := n0_; have HO174 := n1_; have HO177 := n2_; have HK := n3_; have HB := n4_; have HI0 := n5_; clear n0_ n1_ n2_ n3_ n4_ n5_; (try clear hb); (try clear hb2); (try clear hk); (try clear hi); (try clear ho0); (try clear ho1)) | ((with_reducible refine Ym (N := 5) rfl ?_); refine Yn ?hg (N := 5) ?hd (cs := #[.int .i64 0, .string (⟨#[]⟩ : ByteArray), .slice none 0 0, .slice none 0 0]) (t := 37) ?hr ?_; (case hd => rfl); (case hg => rfl); (case hr => exact Za); intro gb182 hg w6 hbox hb; have n0_ := Y0.mk (Kd.R_below Z1G hb); have n1_ := Y0.mk (Kd.N_below (Kd.N_elderB Z1F gb182 (Nat.le_of_eq hg.symm)) hb); have n2_ := Y0.mk (Yf.below QI75_0 hb); have n3_ := Y0.mk (Yi (g := gb169) (o := .cells #[.int .i64 0, .string (⟨#[]⟩ : ByteArray), .slice none 0 0, .slice none 0 0] 37 (0, 0)) QQ hb); have n4_ := Y0.mk (Y3.trans QK (Y3.of_below hb g none) (.inl rfl)); have n5_ := Y0.mk (Y6 QB hb); have n6_ := Y0.mk (hbox); have n7_ := Y0.mk ((by rw [hg]; exact (Yb (w := w) (g := g) (row := none) QK) : w.heap.size ≤ gb182)); have n8_ := Y0.mk ((Nat.le_trans HW0.out (by rw [hg]; exact (Yb (w := w) (g := g) (row := none) QK) : w.heap.size ≤ gb182) : w0.heap.size ≤ gb182)); have n9_ := Y0.mk ((by rw [hg]; exact Nat.ne_of_lt (YO (g := gb169) (o := .cells #[.int .i64 0, .string (⟨#[]⟩ : ByteArray), .slice none 0 0, .slice none 0 0] 37 (0, 0)) QQ) : gb169 ≠ gb182)); have n10_ := Y0.mk ((by rw [hg]; exact Nat.ne_of_gt (YO (g := gb169) (o := .cells #[.int .i64 0, .string (⟨#[]⟩ : ByteArray), .slice none 0 0, .slice none 0 0] 37 (0, 0)) QQ) : gb182 ≠ gb169)); have n11_ := Y0.mk ((by rw [hg]; exact Nat.ne_of_lt (Yf.lt (show Yf w0 _ g t178 t179 t180 t181 from QI75_0)) : g ≠ gb182)); have n12_ := Y0.mk ((by rw [hg]; exact Nat.ne_of_gt (Yf.lt (show Yf w0 _ g t178 t179 t180 t181 from QI75_0)) : gb182 ≠ g)); clear HO174 HO177 HI0 BK169 HK HB; have HO174 := n0_; have HO177 := n1_; have HI0 := n2_; have BK169 := n3_; have HK := n4_; have HB := n5_; have BK182 := n6_; have GW182 := n7_; have GE182 := n8_; have NB169_182 := n9_; have NB182_169 := n10_; have NB0_182 := n11_; have NB182_0 := n12_; clear n0_ n1_ n2_ n3_ n4_ n5_ n6_ n7_ n8_ n9_ n10_ n11_ n12_ hb hbox hg; have hnb7 := NB182_169.out; have hnc7 := NB169_182.out; have hnb8 := NB182_0.out; have hnc8 := NB0_182.out; obtain ⟨hcz9_0, hcz9_1, hcz9_2, hcz9_3, hfz9_0, hfz9_1, hfz9_2, hfz9_3⟩ := Yt BK182.out; obtain ⟨Ao10, co10, eo10⟩ := Kd.R_slice HO174.out; subst eo10; obtain ⟨Ao11, co11, eo11⟩ := Kd.N_slice HO177.out; subst eo11))
 go_step3
 go_wp2_with (first | ((with_reducible refine Ym (N := 4) rfl ?_); refine Yn ?hg (N := 4) ?hd (cs := #[.int .i64 0, .string (⟨#[]⟩ : ByteArray), .slice none 0 0, .slice none 0 0]) (t := 37) ?hr ?_; (case hd => rfl); (case hg => rfl); (case hr => exact Za); intro gb169 hg w4 hbox hb; have n_ := Y2C (Yf.below QI75_0 hb) (Y3.trans QK (Y3.of_below hb g none) (.inl rfl)) (Y6 QB hb) (hbox) ((by rw [hg]; exact (Yb (w := w) (g := g) (row := none) QK) : w.heap.size ≤ gb169)) ((Nat.le_trans HW0.out (by rw [hg]; exact (Yb (w := w) (g := g) (row := none) QK) : w.heap.size ≤ gb169) : w0.heap.size ≤ gb169)) ((by rw [hg]; exact Nat.ne_of_lt (Yf.lt (show Yf w0 _ g s0_0 s0_1 s0_2 s0_3 from QI75_0)) : g ≠ gb169)) ((by rw [hg]; exact Nat.ne_of_gt (Yf.lt (show Yf w0 _ g s0_0 s0_1 s0_2 s0_3 from QI75_0)) : gb169 ≠ g)); clear HI0 HK HB; obtain ⟨HI0, HK, HB, BK169, GW169, GE169, NB0_169, NB169_0⟩ := n_; clear hb hbox hg) | ((with_reducible refine Yh (f := 123) rfl ?_); refine Yy (some 9) rfl rfl Tryd.func123 Z7 rfl #[.pointer (some ⟨g, 0, none⟩), .int .i64 a1] rfl Z0 ?_; (with_reducible refine ((ih k (by omega)).2.2.2.1 g s0_0 s0_1 s0_2 s0_3 a1 t170 t171 t172 t175 t178 t179 t180 t181 w0 _ ?side1 ?side2 ?side3 A3.out).mono ?_); (case side1 => exact Z1r); (case side2 => exact QB); (case side3 => exact HT.out); rintro e w5 ⟨v173, v176, rfl, ho0, ho1, hi, hb, hk⟩; refine ⟨_, rfl, ?_⟩; have n0_ := Y0.mk (Y3.blk hk (g' := gb169) (o := .cells #[.int .i64 0, .string (⟨#[]⟩ : ByteArray), .slice none 0 0, .slice none 0 0] 37 (0, 0)) QQ NB169_0.out (by simp)); have n1_ := Y0.mk (Kd.R_lower (Kd.R_newM (M := fun k_ => (w.heap.size ≤ k_)) (Kd.R_mono (ok' := fun k_ => True) ho0 (fun _ hk_ => trivial)) (Yb (w := w) (g := g) (row := none) QK) (fun k_ h_ => h_)) (Yb (w := w) (g := g) (row := none) QK)); have n2_ := Y0.mk (Kd.N_lower (Kd.N_mono (ok' := fun k_ => (w.heap.size ≤ k_) ∧ some k_ ≠ (v173 : Value).ownBlock ∧ k_ ≠ gb169 ∧ k_ ≠ g) ho1 (fun k_ hk_ => ⟨(Nat.le_trans (Yb (w := w) (g := g) (row := none) QK) hk_.1), hk_.2, (Kd.freshB (g := gb169) (o := .cells #[.int .i64 0, .string (⟨#[]⟩ : ByteArray), .slice none 0 0, .slice none 0 0] 37 (0, 0)) QQ k_ hk_.1), (Yf.fresh QI75_0 k_ hk_.1)⟩)) (Yb (w := w) (g := g) (row := none) QK)); have n3_ := Y0.mk (Y3.trans QK hk (.inl rfl)); have n4_ := Y0.mk (hb); have n5_ := Y0.mk (hi); clear BK169 HK HB HI0; have BK169 := n0_; have HO174 := n1_; have HO177 := n2_; have HK := n3_; have HB := n4_; have HI0 := n5_; clear n0_ n1_ n2_ n3_ n4_ n5_; (try clear hb); (try clear hb2); (try clear hk); (try clear hi); (try clear ho0); (try clear ho1)) | ((with_reducible refine Ym (N := 5) rfl ?_); refine Yn ?hg (N := 5) ?hd (cs := #[.int .i64 0, .string (⟨#[]⟩ : ByteArray), .slice none 0 0, .slice none 0 0]) (t := 37) ?hr ?_; (case hd => rfl); (case hg => rfl); (case hr => exact Za); intro gb182 hg w6 hbox hb; have n0_ := Y0.mk (Kd.R_below Z1G hb); have n1_ := Y0.mk (Kd.N_below (Kd.N_elderB Z1F gb182 (Nat.le_of_eq hg.symm)) hb); have n2_ := Y0.mk (Yf.below QI75_0 hb); have n3_ := Y0.mk (Yi (g := gb169) (o := .cells #[.int .i64 0, .string (⟨#[]⟩ : ByteArray), .slice none 0 0, .slice none 0 0] 37 (0, 0)) QQ hb); have n4_ := Y0.mk (Y3.trans QK (Y3.of_below hb g none) (.inl rfl)); have n5_ := Y0.mk (Y6 QB hb); have n6_ := Y0.mk (hbox); have n7_ := Y0.mk ((by rw [hg]; exact (Yb (w := w) (g := g) (row := none) QK) : w.heap.size ≤ gb182)); have n8_ := Y0.mk ((Nat.le_trans HW0.out (by rw [hg]; exact (Yb (w := w) (g := g) (row := none) QK) : w.heap.size ≤ gb182) : w0.heap.size ≤ gb182)); have n9_ := Y0.mk ((by rw [hg]; exact Nat.ne_of_lt (YO (g := gb169) (o := .cells #[.int .i64 0, .string (⟨#[]⟩ : ByteArray), .slice none 0 0, .slice none 0 0] 37 (0, 0)) QQ) : gb169 ≠ gb182)); have n10_ := Y0.mk ((by rw [hg]; exact Nat.ne_of_gt (YO (g := gb169) (o := .cells #[.int .i64 0, .string (⟨#[]⟩ : ByteArray), .slice none 0 0, .slice none 0 0] 37 (0, 0)) QQ) : gb182 ≠ gb169)); have n11_ := Y0.mk ((by rw [hg]; exact Nat.ne_of_lt (Yf.lt (show Yf w0 _ g t178 t179 t180 t181 from QI75_0)) : g ≠ gb182)); have n12_ := Y0.mk ((by rw [hg]; exact Nat.ne_of_gt (Yf.lt (show Yf w0 _ g t178 t179 t180 t181 from QI75_0)) : gb182 ≠ g)); clear HO174 HO177 HI0 BK169 HK HB; have HO174 := n0_; have HO177 := n1_; have HI0 := n2_; have BK169 := n3_; have HK := n4_; have HB := n5_; have BK182 := n6_; have GW182 := n7_; have GE182 := n8_; have NB169_182 := n9_; have NB182_169 := n10_; have NB0_182 := n11_; have NB182_0 := n12_; clear n0_ n1_ n2_ n3_ n4_ n5_ n6_ n7_ n8_ n9_ n10_ n11_ n12_ hb hbox hg; have hnb7 := NB182_169.out; have hnc7 := NB169_182.out; have hnb8 := NB182_0.out; have hnc8 := NB0_182.out; obtain ⟨hcz9_0, hcz9_1, hcz9_2, hcz9_3, hfz9_0, hfz9_1, hfz9_2, hfz9_3⟩ := Yt BK182.out; obtain ⟨Ao10, co10, eo10⟩ := Kd.R_slice HO174.out; subst eo10; obtain ⟨Ao11, co11, eo11⟩ := Kd.N_slice HO177.out; subst eo11))
 (try go_wp2)
 (try go_step3)
 (try go_wp2)
 go_loopg [] k (fun kq w' => ∃ (x1000_1 : ByteArray) (x1001_1 : Int) (x1002_1 : Int) (x1003_1 : Int) (x183000_1 : Int) (x183001_1 : ByteArray) (x183002_1 : List ByteArray) (x183003_1 : List (S37)) (u183002 : Value) (u183003 : Value), Y0 (Ye.l0 kq x1000_1 x1001_1 x1002_1 x1003_1 x183000_1 x183001_1 x183002_1 x183003_1 = some (r1, r2, r3, r4, r5, r6, r7, r8)) ∧ Y0 (kq ≤ k) ∧ Y0 (Kd.R Kd.string 9 w' w.heap.size (fun k_ => (w.heap.size ≤ k_)) u183002 x183002_1) ∧ Y0 (Kd.N k37 37 w' w.heap.size (fun k_ => (w.heap.size ≤ k_) ∧ some k_ ≠ (u183002 : Value).ownBlock ∧ k_ ≠ gb169 ∧ k_ ≠ gb182 ∧ k_ ≠ g) u183003 x183003_1) ∧ Y0 (w'.heap[gb169]? = some (.cells #[.int .i64 0, .string (⟨#[]⟩ : ByteArray), (.slice none 0 0), (.slice none 0 0)] 37 (0, 0))) ∧ Y0 (w'.heap[gb182]? = some (.cells #[.int .i64 x183000_1, .string x183001_1, u183002, u183003] 37 (0, 0))) ∧ Y0 (Yf w0 w' g x1000_1 x1001_1 x1002_1 x1003_1) ∧ Y0 (Y3 w w' g none) ∧ Y0 (Below w0.heap.size w0 w'))
 case atStart => exact ⟨(t178), (t179), (t180), (t181), (t170), (t171), (t172), (t175), (.slice Ao10 t172.length co10), (.slice Ao11 t175.length co11), H', ⟨Nat.le_refl _⟩, ⟨by (with_reducible repeat (first | apply Kd.R_alloc | apply Kd.R_drewN | apply Kd.R_drew)); exact Kd.R_mono (Kd.R_far (p := ⟨gb182, 3, none⟩) (Kd.R_far (p := ⟨gb182, 2, none⟩) (Kd.R_far (p := ⟨gb182, 1, none⟩) (Kd.R_far (p := ⟨gb182, 0, none⟩) (Kd.R_types HO174.out BK182.out (by decide)) (fun _ hk => hk.2) (.int .i64 t170)) (fun _ hk => hk.2) (.string t171)) (fun _ hk => hk.2) (.slice Ao10 t172.length co10)) (fun _ hk => hk.2) (.slice Ao11 t175.length co11)) (fun _ hk => hk.1.1)⟩, ⟨by (with_reducible repeat (first | apply Kd.N_alloc | apply Kd.N_drewN | apply Kd.N_drew)); exact Kd.N_mono (Kd.N_far (p := ⟨gb182, 3, none⟩) (Kd.N_far (p := ⟨gb182, 2, none⟩) (Kd.N_far (p := ⟨gb182, 1, none⟩) (Kd.N_far (p := ⟨gb182, 0, none⟩) (Kd.N_mono HO177.out (fun k_ hk => (⟨hk, hk.2⟩ : _ ∧ k_ ≠ gb182))) (fun _ hk => hk.2) (.int .i64 t170)) (fun _ hk => hk.2) (.string t171)) (fun _ hk => hk.2) (.slice Ao10 t172.length co10)) (fun _ hk => hk.2) (.slice Ao11 t175.length co11)) (fun _ hk => ⟨hk.1.1.1, ⟨hk.1.1.2.1, ⟨hk.1.1.2.2.1, ⟨hk.1.2, hk.1.1.2.2.2⟩⟩⟩⟩)⟩, ⟨Zg⟩, ⟨by (with_reducible repeat (first | refine Y9 ?_ _ | refine Y8 ?_ | refine Y7 ?_ _)); exact Yo (cs := #[.int .i64 t170, .string t171, .slice Ao10 t172.length co10, .slice none 0 0]) (by (with_reducible repeat (first | refine Y9 ?_ _ | refine Y8 ?_ | refine Y7 ?_ _)); exact Yo (cs := #[.int .i64 t170, .string t171, .slice none 0 0, .slice none 0 0]) (by (with_reducible repeat (first | refine Y9 ?_ _ | refine Y8 ?_ | refine Y7 ?_ _)); exact Yo (cs := #[.int .i64 t170, .string (⟨#[]⟩ : ByteArray), .slice none 0 0, .slice none 0 0]) Z1 1 _ rfl) 2 _ rfl) 3 _ rfl⟩, ⟨QI75_0⟩, ⟨QK⟩, ⟨QB⟩⟩
 case round =>
  clear H'
  try clear c1
  try clear p2
  try clear c7
  try clear c8
  try clear c11
  try clear hcz9_0 hcz9_1 hcz9_2 hcz9_3 hfz9_0 hfz9_1 hfz9_2 hfz9_3
  obtain ⟨x1000_1, x1001_1, x1002_1, x1003_1, x183000_1, x183001_1, x183002_1, x183003_1, u183002, u183003, HA, HK1, HO_183002, HO_183003, BK169, BK182, HI0, HK, HB⟩ := hrel
  cases gk with
  | zero => exact absurd HA.out (by simp [Ye.l0])
  | succ k1 =>
   have H := HA.out
   clear HA
   simp only [Ye.l0] at H
   replace H := Option.bind_eq_some_iff.mp H
   obtain ⟨⟨t183, t184, t185, t186, t187⟩, A120, H⟩ := H
   replace H : (if t183 = 42 then (Ye.j1 k1 5 t184 (wrap64 (t185 + 1)) t186 t187 x183000_1 x183001_1 x183002_1 x183003_1) else (if t183 = 43 then (Ye.j2 k1 6 t184 (wrap64 (t185 + 1)) t186 t187 x183000_1 x183001_1 x183002_1 x183003_1) else (if t183 = 63 then (Ye.j3 k1 7 t184 (wrap64 (t185 + 1)) t186 t187 x183000_1 x183001_1 x183002_1 x183003_1) else (some (x183000_1, x183001_1, x183002_1, x183003_1, t184, t185, t186, t187))))) = some (r1, r2, r3, r4, r5, r6, r7, r8) := H
   have A12 := Y0.mk A120
   clear A120
   by_cases c13 : t183 = 42
   ·rw [if_pos c13] at H
    have c13b0 : (t183 == 42) = true := beq_iff_eq.mpr c13
    have c13b1 : (t183 != 42) = false := bne_eq_false_iff_eq.mpr c13
    clear c13
    have HC14 := Y0.mk H
    clear H
    go_upto_region 10 with (first | ((with_reducible refine Yh (f := 53) rfl ?_); refine Yy (some 11) rfl rfl Tryd.func53 Z7 rfl #[.pointer (some ⟨g, 0, none⟩)] rfl Z0 ?_; (with_reducible refine (Yd.calls k1 g x1000_1 x1001_1 x1002_1 x1003_1 t183 t184 t185 t186 t187 w0 _ ?side1 ?side2 A12.out).mono ?_); (case side1 => exact Z1r); (case side2 => exact QB); rintro e w15 ⟨rfl, hi, hb, hk⟩; refine ⟨_, rfl, ?_⟩; have n0_ := Y0.mk (Kd.R_mono (Kd.R_keep (Yf.apart (show Yf w0 _ g x1000_1 x1001_1 x1002_1 x1003_1 from QI75_0) Z1m (by decide)) hk (fun _ h => h.2)) (fun _ h => h.1)); have n1_ := Y0.mk (Kd.N_mono (Kd.N_keep (Kd.N_mono (ok := fun k_ => (((w.heap.size ≤ k_)) ∧ (some k_ ≠ (u183002 : Value).ownBlock ∧ (k_ ≠ gb169 ∧ (k_ ≠ gb182 ∧ k_ ≠ g))))) Z1l (fun k_ hk_ => (⟨hk_, hk_.2.2.2.2⟩ : _ ∧ k_ ≠ g))) hk (fun _ h => h.2)) (fun _ h => h.1)); have n2_ := Y0.mk (Y3.blk hk (g' := gb169) (o := .cells #[.int .i64 0, .string (⟨#[]⟩ : ByteArray), .slice none 0 0, .slice none 0 0] 37 (0, 0)) QQ NB169_0.out (by simp)); have n3_ := Y0.mk (Y3.blk hk (g' := gb182) (o := .cells #[.int .i64 x183000_1, .string x183001_1, u183002, u183003] 37 (0, 0)) QQ NB182_0.out (by simp)); have n4_ := Y0.mk (Y3.trans QK hk (.inl rfl)); have n5_ := Y0.mk (hb); have n6_ := Y0.mk (hi); clear HO_183002 HO_183003 BK169 BK182 HK HB HI0; have HO_183002 := n0_; have HO_183003 := n1_; have BK169 := n2_; have BK182 := n3_; have HK := n4_; have HB := n5_; have HI0 := n6_; clear n0_ n1_ n2_ n3_ n4_ n5_ n6_; (try clear hb); (try clear hb2); (try clear hk); (try clear hi)))
    (try simp only [Act.put, List.setIfInBounds_toArray, List.set_cons_zero, List.set_cons_succ])
    go_cut [] (fun wc => ∃ (kq : Nat) (x1001_13 : Int), Y0 (Ye.j1 kq 5 t184 x1001_13 t186 t187 x183000_1 x183001_1 x183002_1 x183003_1 = some (r1, r2, r3, r4, r5, r6, r7, r8)) ∧ Y0 (kq ≤ k1) ∧ Y0 (Kd.R Kd.string 9 wc w.heap.size (fun k_ => (w.heap.size ≤ k_)) u183002 x183002_1) ∧ Y0 (Kd.N k37 37 wc w.heap.size (fun k_ => (w.heap.size ≤ k_) ∧ some k_ ≠ (u183002 : Value).ownBlock ∧ k_ ≠ gb169 ∧ k_ ≠ gb182 ∧ k_ ≠ g) u183003 x183003_1) ∧ Y0 (wc.heap[gb169]? = some (.cells #[.int .i64 0, .string (⟨#[]⟩ : ByteArray), (.slice none 0 0), (.slice none 0 0)] 37 (0, 0))) ∧ Y0 (wc.heap[gb182]? = some (.cells #[.int .i64 x183000_1, .string x183001_1, u183002, u183003] 37 (0, 0))) ∧ Y0 (Yf w0 wc g t184 x1001_13 t186 t187) ∧ Y0 (Y3 w wc g none) ∧ Y0 (Below w0.heap.size w0 wc))
    case first =>
     have H := HC14.out
     clear HC14
     have H' := Y0.mk H
     clear H
     obtain ⟨hcz16_0, hcz16_1, hcz16_2, hcz16_3, hfz16_0, hfz16_1, hfz16_2, hfz16_3⟩ := Yt HI0.out.1
     go_wp2
     go_meet
     case rel => exact Zc
    case rest =>
     clear HC14
     try clear c1
     try clear p2
     try clear c5
     try clear p6
     try clear c7
     try clear c8
     try clear c11
     try clear c12
     try clear c13
     try clear c13b0
     try clear c13b1
     try clear hcz16_0 hcz16_1 hcz16_2 hcz16_3
     try clear hcz9_0 hcz9_1 hcz9_2 hcz9_3
     try clear hfz16_0
     try clear hfz16_1
     try clear hfz16_2
     try clear hfz16_3
     try clear hfz9_0
     try clear hfz9_1
     try clear hfz9_2
     try clear hfz9_3
     try clear p2
     obtain ⟨kq, x1001_13, HA, HJ13, HO_183002, HO_183003, BK169, BK182, HI0, HK, HB⟩ := hcut
     cases kq with
     | zero => exact absurd HA.out (by simp [Ye.j1])
     | succ kj13 =>
      have H := HA.out
      clear HA
      simp only [Ye.j1] at H
      obtain ⟨y188, hy188⟩ : ∃ y_ : List (S37), y_ = (([(⟨x183000_1, x183001_1, x183002_1, x183003_1⟩ : S37)] : List (S37))) := ⟨_, rfl⟩
      replace H : (Ye.l0 kj13 t184 x1001_13 t186 t187 5 (⟨#[]⟩ : ByteArray) ([] : List ByteArray) y188) = some (r1, r2, r3, r4, r5, r6, r7, r8) := by first | (rw [hy188]; with_reducible exact H) | (have H2_ := (Option.bind_some _ _).symm.trans H; rw [hy188]; with_reducible exact H2_) | (have H2_ := (Option.bind_some _ _).symm.trans H; with_reducible exact H2_) | with_reducible exact H | (rw [hy188]; exact H) | exact H
      have Ny188 := Y0.mk hy188
      clear hy188
      have H' := Y0.mk H
      clear H
      have hnb17 := NB182_169.out
      have hnc17 := NB169_182.out
      have hnb18 := NB182_0.out
      have hnc18 := NB0_182.out
      obtain ⟨hcz19_0, hcz19_1, hcz19_2, hcz19_3, hfz19_0, hfz19_1, hfz19_2, hfz19_3⟩ := Yt BK182.out
      obtain ⟨Ao20, co20, eo20⟩ := Kd.R_slice HO_183002.out
      subst eo20
      obtain ⟨Ao21, co21, eo21⟩ := Kd.N_slice HO_183003.out
      subst eo21
      go_wp2_with (first | ((with_reducible refine Ym (N := 27) rfl ?_); refine Kd.N_lit k37 _ 37 ?hg (N' := 27) ?hd (xs := ([(⟨x183000_1, x183001_1, x183002_1, x183003_1⟩ : S37)] : List (S37))) (inner := [.int .i64 x183000_1, .string x183001_1, .slice Ao20 x183002_1.length co20, .slice Ao21 x183003_1.length co21]) (ok := (fun k_ => (w.heap.size ≤ k_) ∧ k_ ≠ gb169 ∧ k_ ≠ gb182 ∧ k_ ≠ g)) (okp := (fun k_ => (w.heap.size ≤ k_) ∧ k_ ≠ gb169 ∧ k_ ≠ gb182 ∧ k_ ≠ g)) ?hr ?hp (fun _ hk => hk) ((show ∀ k_, wc.heap.size ≤ k_ → (fun k_ => (w.heap.size ≤ k_) ∧ k_ ≠ gb169 ∧ k_ ≠ gb182 ∧ k_ ≠ g) k_ from fun k_ hk => ⟨(Nat.le_trans (Yb (w := w) (g := g) (row := none) QK) hk), Kd.freshB (g := gb169) (o := .cells #[.int .i64 0, .string (⟨#[]⟩ : ByteArray), .slice none 0 0, .slice none 0 0] 37 (0, 0)) QQ k_ hk, Kd.freshB (g := gb182) (o := .cells #[.int .i64 x183000_1, .string x183001_1, .slice Ao20 x183002_1.length co20, .slice Ao21 x183003_1.length co21] 37 (0, 0)) QQ k_ hk, Yf.fresh QI75_0 k_ hk⟩) _ (Nat.le_refl _)) (Below.refl _ _) (Nat.le_refl _) (by simp) ?_; (case hd => rfl); (case hg => rfl); (case hr => exact Za); (case hp => exact (Y1a.c4 (show Kd.FK k37 _ _ (⟨x183000_1, x183001_1, x183002_1, x183003_1⟩ : S37) [.int .i64 x183000_1, .string x183001_1, .slice Ao20 x183002_1.length co20, .slice Ao21 x183003_1.length co21] from (Y1Y _ _ (⟨x183000_1, x183001_1, x183002_1, x183003_1⟩ : S37) (Kd.R_reads' (Kd.R_mono (ok' := (fun k_ => (w.heap.size ≤ k_) ∧ k_ ≠ gb169 ∧ k_ ≠ gb182 ∧ k_ ≠ g)) (Yf.apart HI0.out (Kd.R_types (Kd.R_types (HO_183002.out) BK169.out (by decide)) BK182.out (by decide)) (by decide)) (fun k_ hk => ⟨hk.1.1.1, ⟨hk.1.1.2, ⟨hk.1.2, hk.2⟩⟩⟩))).2.1 (Kd.R_F (Kd.R_mono (ok' := (fun k_ => (w.heap.size ≤ k_) ∧ k_ ≠ gb169 ∧ k_ ≠ gb182 ∧ k_ ≠ g)) (Yf.apart HI0.out (Kd.R_types (Kd.R_types (HO_183002.out) BK169.out (by decide)) BK182.out (by decide)) (by decide)) (fun k_ hk => ⟨hk.1.1.1, ⟨hk.1.1.2, ⟨hk.1.2, hk.2⟩⟩⟩))) (Kd.N_reads' (Kd.N_mono (ok' := (fun k_ => (w.heap.size ≤ k_) ∧ k_ ≠ gb169 ∧ k_ ≠ gb182 ∧ k_ ≠ g)) (HO_183003.out) (fun k_ hk => ⟨hk.1, ⟨hk.2.2.1, ⟨hk.2.2.2.1, hk.2.2.2.2⟩⟩⟩))).2.1 (Kd.N_F (Kd.N_mono (ok' := (fun k_ => (w.heap.size ≤ k_) ∧ k_ ≠ gb169 ∧ k_ ≠ gb182 ∧ k_ ≠ g)) (HO_183003.out) (fun k_ hk => ⟨hk.1, ⟨hk.2.2.1, ⟨hk.2.2.2.1, hk.2.2.2.2⟩⟩⟩))))) (Y1a.none _ _))); intro v189 w22 ho23 hb hg_ hnew_; clear hg_ hnew_; (first | rw [← Ny188.out] at ho23 | (simp only [Int.reduceToNat] at ho23; rw [← Ny188.out] at ho23)); have n_ := Y2T (Kd.N_lower ho23 (Yb (w := w) (g := g) (row := none) QK)) (Yi (g := gb169) (o := .cells #[.int .i64 0, .string (⟨#[]⟩ : ByteArray), .slice none 0 0, .slice none 0 0] 37 (0, 0)) QQ hb) (Yi (g := gb182) (o := .cells #[.int .i64 x183000_1, .string x183001_1, .slice Ao20 x183002_1.length co20, .slice Ao21 x183003_1.length co21] 37 (0, 0)) QQ hb) (Yf.below QI75_0 hb) (Y3.trans QK (Y3.of_below hb g none) (.inl rfl)) (Y6 QB hb); clear BK169 BK182 HI0 HK HB HO_183002 HO_183003; obtain ⟨HO190, BK169, BK182, HI0, HK, HB⟩ := n_; clear hb ho23; obtain ⟨Ao24, co24, eo24⟩ := Kd.N_slice HO190.out; subst eo24; obtain ⟨hcz25_0, hcz25_1, hcz25_2, hcz25_3, hfz25_0, hfz25_1, hfz25_2, hfz25_3⟩ := Yt BK182.out))
      go_roundg kj13
      case measure => have := HK1.out; have := HJ13.out; omega
      case rel => exact ⟨(t184), (x1001_13), (t186), (t187), (5), ((⟨#[]⟩ : ByteArray)), (([] : List ByteArray)), (y188), (.slice none 0 0), (.slice Ao24 y188.length co24), H', ⟨by have := HK1.out; have := HJ13.out; omega⟩, ⟨Zb⟩, ⟨by (with_reducible repeat (first | apply Kd.N_alloc | apply Kd.N_drewN | apply Kd.N_drew)); exact Kd.N_mono (Kd.N_far (p := ⟨gb182, 3, none⟩) (Kd.N_far (p := ⟨gb182, 2, none⟩) (Kd.N_far (p := ⟨gb182, 1, none⟩) (Kd.N_far (p := ⟨gb182, 0, none⟩) (Kd.N_mono HO190.out (fun k_ hk => (⟨hk, hk.2.2.1⟩ : _ ∧ k_ ≠ gb182))) (fun _ hk => hk.2) (.int .i64 5)) (fun _ hk => hk.2) (.string (⟨#[]⟩ : ByteArray))) (fun _ hk => hk.2) (.slice none 0 0)) (fun _ hk => hk.2) (.slice Ao24 y188.length co24)) (fun _ hk => ⟨hk.1.1, ⟨Z1t, ⟨hk.1.2.1, ⟨hk.1.2.2.1, hk.1.2.2.2⟩⟩⟩⟩)⟩, ⟨Zg⟩, ⟨by (with_reducible repeat (first | refine Y9 ?_ _ | refine Y8 ?_ | refine Y7 ?_ _)); exact Yo (cs := #[.int .i64 5, .string (⟨#[]⟩ : ByteArray), .slice none 0 0, .slice Ao21 x183003_1.length co21]) (by (with_reducible repeat (first | refine Y9 ?_ _ | refine Y8 ?_ | refine Y7 ?_ _)); exact Yo (cs := #[.int .i64 5, .string (⟨#[]⟩ : ByteArray), .slice Ao20 x183002_1.length co20, .slice Ao21 x183003_1.length co21]) (by (with_reducible repeat (first | refine Y9 ?_ _ | refine Y8 ?_ | refine Y7 ?_ _)); exact Yo (cs := #[.int .i64 5, .string x183001_1, .slice Ao20 x183002_1.length co20, .slice Ao21 x183003_1.length co21]) (by (with_reducible repeat (first | refine Y9 ?_ _ | refine Y8 ?_ | refine Y7 ?_ _)); exact Yo (cs := #[.int .i64 x183000_1, .string x183001_1, .slice Ao20 x183002_1.length co20, .slice Ao21 x183003_1.length co21]) QQ 0 _ rfl) 1 _ rfl) 2 _ rfl) 3 _ rfl⟩, ⟨QI75_0⟩, ⟨QK⟩, ⟨QB⟩⟩
   ·rw [if_neg c13] at H
    have c13b0 : (t183 == 42) = false := beq_eq_false_iff_ne.mpr c13
    have c13b1 : (t183 != 42) = true := bne_iff_ne.mpr c13
    by_cases c26 : t183 = 43
    ·rw [if_pos c26] at H
     have c26b0 : (t183 == 43) = true := beq_iff_eq.mpr c26
     have c26b1 : (t183 != 43) = false := bne_eq_false_iff_eq.mpr c26
     clear c26
     have HC27 := Y0.mk H
     clear H
     go_upto_region 10 with (first | ((with_reducible refine Yh (f := 53) rfl ?_); refine Yy (some 11) rfl rfl Tryd.func53 Z7 rfl #[.pointer (some ⟨g, 0, none⟩)] rfl Z0 ?_; (with_reducible refine (Yd.calls k1 g x1000_1 x1001_1 x1002_1 x1003_1 t183 t184 t185 t186 t187 w0 _ ?side1 ?side2 A12.out).mono ?_); (case side1 => exact Z1r); (case side2 => exact QB); rintro e w28 ⟨rfl, hi, hb, hk⟩; refine ⟨_, rfl, ?_⟩; have n0_ := Y0.mk (Kd.R_mono (Kd.R_keep (Yf.apart (show Yf w0 _ g x1000_1 x1001_1 x1002_1 x1003_1 from QI75_0) Z1m (by decide)) hk (fun _ h => h.2)) (fun _ h => h.1)); have n1_ := Y0.mk (Kd.N_mono (Kd.N_keep (Kd.N_mono (ok := fun k_ => (((w.heap.size ≤ k_)) ∧ (some k_ ≠ (u183002 : Value).ownBlock ∧ (k_ ≠ gb169 ∧ (k_ ≠ gb182 ∧ k_ ≠ g))))) Z1l (fun k_ hk_ => (⟨hk_, hk_.2.2.2.2⟩ : _ ∧ k_ ≠ g))) hk (fun _ h => h.2)) (fun _ h => h.1)); have n2_ := Y0.mk (Y3.blk hk (g' := gb169) (o := .cells #[.int .i64 0, .string (⟨#[]⟩ : ByteArray), .slice none 0 0, .slice none 0 0] 37 (0, 0)) QQ NB169_0.out (by simp)); have n3_ := Y0.mk (Y3.blk hk (g' := gb182) (o := .cells #[.int .i64 x183000_1, .string x183001_1, u183002, u183003] 37 (0, 0)) QQ NB182_0.out (by simp)); have n4_ := Y0.mk (Y3.trans QK hk (.inl rfl)); have n5_ := Y0.mk (hb); have n6_ := Y0.mk (hi); clear HO_183002 HO_183003 BK169 BK182 HK HB HI0; have HO_183002 := n0_; have HO_183003 := n1_; have BK169 := n2_; have BK182 := n3_; have HK := n4_; have HB := n5_; have HI0 := n6_; clear n0_ n1_ n2_ n3_ n4_ n5_ n6_; (try clear hb); (try clear hb2); (try clear hk); (try clear hi)))
     (try simp only [Act.put, List.setIfInBounds_toArray, List.set_cons_zero, List.set_cons_succ])
     go_cut [] (fun wc => ∃ (kq : Nat) (x1001_26 : Int), Y0 (Ye.j2 kq 6 t184 x1001_26 t186 t187 x183000_1 x183001_1 x183002_1 x183003_1 = some (r1, r2, r3, r4, r5, r6, r7, r8)) ∧ Y0 (kq ≤ k1) ∧ Y0 (Kd.R Kd.string 9 wc w.heap.size (fun k_ => (w.heap.size ≤ k_)) u183002 x183002_1) ∧ Y0 (Kd.N k37 37 wc w.heap.size (fun k_ => (w.heap.size ≤ k_) ∧ some k_ ≠ (u183002 : Value).ownBlock ∧ k_ ≠ gb169 ∧ k_ ≠ gb182 ∧ k_ ≠ g) u183003 x183003_1) ∧ Y0 (wc.heap[gb169]? = some (.cells #[.int .i64 0, .string (⟨#[]⟩ : ByteArray), (.slice none 0 0), (.slice none 0 0)] 37 (0, 0))) ∧ Y0 (wc.heap[gb182]? = some (.cells #[.int .i64 x183000_1, .string x183001_1, u183002, u183003] 37 (0, 0))) ∧ Y0 (Yf w0 wc g t184 x1001_26 t186 t187) ∧ Y0 (Y3 w wc g none) ∧ Y0 (Below w0.heap.size w0 wc))
     case first =>
      have H := HC27.out
      clear HC27
      have H' := Y0.mk H
      clear H
      obtain ⟨hcz29_0, hcz29_1, hcz29_2, hcz29_3, hfz29_0, hfz29_1, hfz29_2, hfz29_3⟩ := Yt HI0.out.1
      go_wp2
      go_meet
      case rel => exact Zc
     case rest =>
      clear HC27
      try clear c1
      try clear c2
      try clear p2
      try clear c4
      try clear c5
      try clear p6
      try clear c7
      try clear c8
      try clear c11
      try clear c12
      try clear c13
      try clear c13b0
      try clear c13b1
      try clear c17
      try clear c18
      try clear c26
      try clear c26b0
      try clear c26b1
      try clear hcz16_0 hcz16_1 hcz16_2 hcz16_3
      try clear hcz19_0 hcz19_1 hcz19_2 hcz19_3
      try clear hcz25_0 hcz25_1 hcz25_2 hcz25_3
      try clear hcz29_0 hcz29_1 hcz29_2 hcz29_3
      try clear hcz9_0 hcz9_1 hcz9_2 hcz9_3
      try clear hfz16_0
      try clear hfz16_1
      try clear hfz16_2
      try clear hfz16_3
      try clear hfz19_0
      try clear hfz19_1
      try clear hfz19_2
      try clear hfz19_3
      try clear hfz25_0
      try clear hfz25_1
      try clear hfz25_2
      try clear hfz25_3
      try clear hfz29_0
      try clear hfz29_1
      try clear hfz29_2
      try clear hfz29_3
      try clear hfz9_0
      try clear hfz9_1
      try clear hfz9_2
      try clear hfz9_3
      try clear p2
      try clear p6
      obtain ⟨kq, x1001_26, HA, HJ26, HO_183002, HO_183003, BK169, BK182, HI0, HK, HB⟩ := hcut
      cases kq with
      | zero => exact absurd HA.out (by simp [Ye.j2])
      | succ kj26 =>
       have H := HA.out
       clear HA
       simp only [Ye.j2] at H
       obtain ⟨y191, hy191⟩ : ∃ y_ : List (S37), y_ = (([(⟨x183000_1, x183001_1, x183002_1, x183003_1⟩ : S37)] : List (S37))) := ⟨_, rfl⟩
       replace H : (Ye.l0 kj26 t184 x1001_26 t186 t187 6 (⟨#[]⟩ : ByteArray) ([] : List ByteArray) y191) = some (r1, r2, r3, r4, r5, r6, r7, r8) := by first | (rw [hy191]; with_reducible exact H) | (have H2_ := (Option.bind_some _ _).symm.trans H; rw [hy191]; with_reducible exact H2_) | (have H2_ := (Option.bind_some _ _).symm.trans H; with_reducible exact H2_) | with_reducible exact H | (rw [hy191]; exact H) | exact H
       have Ny191 := Y0.mk hy191
       clear hy191
       have H' := Y0.mk H
       clear H
       have hnb30 := NB182_169.out
       have hnc30 := NB169_182.out
       have hnb31 := NB182_0.out
       have hnc31 := NB0_182.out
       obtain ⟨hcz32_0, hcz32_1, hcz32_2, hcz32_3, hfz32_0, hfz32_1, hfz32_2, hfz32_3⟩ := Yt BK182.out
       obtain ⟨Ao33, co33, eo33⟩ := Kd.R_slice HO_183002.out
       subst eo33
       obtain ⟨Ao34, co34, eo34⟩ := Kd.N_slice HO_183003.out
       subst eo34
       go_wp2_with (first | ((with_reducible refine Ym (N := 27) rfl ?_); refine Kd.N_lit k37 _ 37 ?hg (N' := 27) ?hd (xs := ([(⟨x183000_1, x183001_1, x183002_1, x183003_1⟩ : S37)] : List (S37))) (inner := [.int .i64 x183000_1, .string x183001_1, .slice Ao33 x183002_1.length co33, .slice Ao34 x183003_1.length co34]) (ok := (fun k_ => (w.heap.size ≤ k_) ∧ k_ ≠ gb169 ∧ k_ ≠ gb182 ∧ k_ ≠ g)) (okp := (fun k_ => (w.heap.size ≤ k_) ∧ k_ ≠ gb169 ∧ k_ ≠ gb182 ∧ k_ ≠ g)) ?hr ?hp (fun _ hk => hk) ((show ∀ k_, wc.heap.size ≤ k_ → (fun k_ => (w.heap.size ≤ k_) ∧ k_ ≠ gb169 ∧ k_ ≠ gb182 ∧ k_ ≠ g) k_ from fun k_ hk => ⟨(Nat.le_trans (Yb (w := w) (g := g) (row := none) QK) hk), Kd.freshB (g := gb169) (o := .cells #[.int .i64 0, .string (⟨#[]⟩ : ByteArray), .slice none 0 0, .slice none 0 0] 37 (0, 0)) QQ k_ hk, Kd.freshB (g := gb182) (o := .cells #[.int .i64 x183000_1, .string x183001_1, .slice Ao33 x183002_1.length co33, .slice Ao34 x183003_1.length co34] 37 (0, 0)) QQ k_ hk, Yf.fresh QI75_0 k_ hk⟩) _ (Nat.le_refl _)) (Below.refl _ _) (Nat.le_refl _) (by simp) ?_; (case hd => rfl); (case hg => rfl); (case hr => exact Za); (case hp => exact (Y1a.c4 (show Kd.FK k37 _ _ (⟨x183000_1, x183001_1, x183002_1, x183003_1⟩ : S37) [.int .i64 x183000_1, .string x183001_1, .slice Ao33 x183002_1.length co33, .slice Ao34 x183003_1.length co34] from (Y1Y _ _ (⟨x183000_1, x183001_1, x183002_1, x183003_1⟩ : S37) (Kd.R_reads' (Kd.R_mono (ok' := (fun k_ => (w.heap.size ≤ k_) ∧ k_ ≠ gb169 ∧ k_ ≠ gb182 ∧ k_ ≠ g)) (Yf.apart HI0.out (Kd.R_types (Kd.R_types (HO_183002.out) BK169.out (by decide)) BK182.out (by decide)) (by decide)) (fun k_ hk => ⟨hk.1.1.1, ⟨hk.1.1.2, ⟨hk.1.2, hk.2⟩⟩⟩))).2.1 (Kd.R_F (Kd.R_mono (ok' := (fun k_ => (w.heap.size ≤ k_) ∧ k_ ≠ gb169 ∧ k_ ≠ gb182 ∧ k_ ≠ g)) (Yf.apart HI0.out (Kd.R_types (Kd.R_types (HO_183002.out) BK169.out (by decide)) BK182.out (by decide)) (by decide)) (fun k_ hk => ⟨hk.1.1.1, ⟨hk.1.1.2, ⟨hk.1.2, hk.2⟩⟩⟩))) (Kd.N_reads' (Kd.N_mono (ok' := (fun k_ => (w.heap.size ≤ k_) ∧ k_ ≠ gb169 ∧ k_ ≠ gb182 ∧ k_ ≠ g)) (HO_183003.out) (fun k_ hk => ⟨hk.1, ⟨hk.2.2.1, ⟨hk.2.2.2.1, hk.2.2.2.2⟩⟩⟩))).2.1 (Kd.N_F (Kd.N_mono (ok' := (fun k_ => (w.heap.size ≤ k_) ∧ k_ ≠ gb169 ∧ k_ ≠ gb182 ∧ k_ ≠ g)) (HO_183003.out) (fun k_ hk => ⟨hk.1, ⟨hk.2.2.1, ⟨hk.2.2.2.1, hk.2.2.2.2⟩⟩⟩))))) (Y1a.none _ _))); intro v192 w35 ho36 hb hg_ hnew_; clear hg_ hnew_; (first | rw [← Ny191.out] at ho36 | (simp only [Int.reduceToNat] at ho36; rw [← Ny191.out] at ho36)); have n_ := Y2T (Kd.N_lower ho36 (Yb (w := w) (g := g) (row := none) QK)) (Yi (g := gb169) (o := .cells #[.int .i64 0, .string (⟨#[]⟩ : ByteArray), .slice none 0 0, .slice none 0 0] 37 (0, 0)) QQ hb) (Yi (g := gb182) (o := .cells #[.int .i64 x183000_1, .string x183001_1, .slice Ao33 x183002_1.length co33, .slice Ao34 x183003_1.length co34] 37 (0, 0)) QQ hb) (Yf.below QI75_0 hb) (Y3.trans QK (Y3.of_below hb g none) (.inl rfl)) (Y6 QB hb); clear BK169 BK182 HI0 HK HB HO_183002 HO_183003; obtain ⟨HO193, BK169, BK182, HI0, HK, HB⟩ := n_; clear hb ho36; obtain ⟨Ao37, co37, eo37⟩ := Kd.N_slice HO193.out; subst eo37; obtain ⟨hcz38_0, hcz38_1, hcz38_2, hcz38_3, hfz38_0, hfz38_1, hfz38_2, hfz38_3⟩ := Yt BK182.out))
       go_roundg kj26
       case measure => have := HK1.out; have := HJ26.out; omega
       case rel => exact ⟨(t184), (x1001_26), (t186), (t187), (6), ((⟨#[]⟩ : ByteArray)), (([] : List ByteArray)), (y191), (.slice none 0 0), (.slice Ao37 y191.length co37), H', ⟨by have := HK1.out; have := HJ26.out; omega⟩, ⟨Zb⟩, ⟨by (with_reducible repeat (first | apply Kd.N_alloc | apply Kd.N_drewN | apply Kd.N_drew)); exact Kd.N_mono (Kd.N_far (p := ⟨gb182, 3, none⟩) (Kd.N_far (p := ⟨gb182, 2, none⟩) (Kd.N_far (p := ⟨gb182, 1, none⟩) (Kd.N_far (p := ⟨gb182, 0, none⟩) (Kd.N_mono HO193.out (fun k_ hk => (⟨hk, hk.2.2.1⟩ : _ ∧ k_ ≠ gb182))) (fun _ hk => hk.2) (.int .i64 6)) (fun _ hk => hk.2) (.string (⟨#[]⟩ : ByteArray))) (fun _ hk => hk.2) (.slice none 0 0)) (fun _ hk => hk.2) (.slice Ao37 y191.length co37)) (fun _ hk => ⟨hk.1.1, ⟨Z1t, ⟨hk.1.2.1, ⟨hk.1.2.2.1, hk.1.2.2.2⟩⟩⟩⟩)⟩, ⟨Zg⟩, ⟨by (with_reducible repeat (first | refine Y9 ?_ _ | refine Y8 ?_ | refine Y7 ?_ _)); exact Yo (cs := #[.int .i64 6, .string (⟨#[]⟩ : ByteArray), .slice none 0 0, .slice Ao34 x183003_1.length co34]) (by (with_reducible repeat (first | refine Y9 ?_ _ | refine Y8 ?_ | refine Y7 ?_ _)); exact Yo (cs := #[.int .i64 6, .string (⟨#[]⟩ : ByteArray), .slice Ao33 x183002_1.length co33, .slice Ao34 x183003_1.length co34]) (by (with_reducible repeat (first | refine Y9 ?_ _ | refine Y8 ?_ | refine Y7 ?_ _)); exact Yo (cs := #[.int .i64 6, .string x183001_1, .slice Ao33 x183002_1.length co33, .slice Ao34 x183003_1.length co34]) (by (with_reducible repeat (first | refine Y9 ?_ _ | refine Y8 ?_ | refine Y7 ?_ _)); exact Yo (cs := #[.int .i64 x183000_1, .string x183001_1, .slice Ao33 x183002_1.length co33, .slice Ao34 x183003_1.length co34]) QQ 0 _ rfl) 1 _ rfl) 2 _ rfl) 3 _ rfl⟩, ⟨QI75_0⟩, ⟨QK⟩, ⟨QB⟩⟩
    ·rw [if_neg c26] at H
     have c26b0 : (t183 == 43) = false := beq_eq_false_iff_ne.mpr c26
     have c26b1 : (t183 != 43) = true := bne_iff_ne.mpr c26
     by_cases c39 : t183 = 63
     ·rw [if_pos c39] at H
      have c39b0 : (t183 == 63) = true := beq_iff_eq.mpr c39
      have c39b1 : (t183 != 63) = false := bne_eq_false_iff_eq.mpr c39
      clear c39
      have HC40 := Y0.mk H
      clear H
      go_upto_region 10 with (first | ((with_reducible refine Yh (f := 53) rfl ?_); refine Yy (some 11) rfl rfl Tryd.func53 Z7 rfl #[.pointer (some ⟨g, 0, none⟩)] rfl Z0 ?_; (with_reducible refine (Yd.calls k1 g x1000_1 x1001_1 x1002_1 x1003_1 t183 t184 t185 t186 t187 w0 _ ?side1 ?side2 A12.out).mono ?_); (case side1 => exact Z1r); (case side2 => exact QB); rintro e w41 ⟨rfl, hi, hb, hk⟩; refine ⟨_, rfl, ?_⟩; have n0_ := Y0.mk (Kd.R_mono (Kd.R_keep (Yf.apart (show Yf w0 _ g x1000_1 x1001_1 x1002_1 x1003_1 from QI75_0) Z1m (by decide)) hk (fun _ h => h.2)) (fun _ h => h.1)); have n1_ := Y0.mk (Kd.N_mono (Kd.N_keep (Kd.N_mono (ok := fun k_ => (((w.heap.size ≤ k_)) ∧ (some k_ ≠ (u183002 : Value).ownBlock ∧ (k_ ≠ gb169 ∧ (k_ ≠ gb182 ∧ k_ ≠ g))))) Z1l (fun k_ hk_ => (⟨hk_, hk_.2.2.2.2⟩ : _ ∧ k_ ≠ g))) hk (fun _ h => h.2)) (fun _ h => h.1)); have n2_ := Y0.mk (Y3.blk hk (g' := gb169) (o := .cells #[.int .i64 0, .string (⟨#[]⟩ : ByteArray), .slice none 0 0, .slice none 0 0] 37 (0, 0)) QQ NB169_0.out (by simp)); have n3_ := Y0.mk (Y3.blk hk (g' := gb182) (o := .cells #[.int .i64 x183000_1, .string x183001_1, u183002, u183003] 37 (0, 0)) QQ NB182_0.out (by simp)); have n4_ := Y0.mk (Y3.trans QK hk (.inl rfl)); have n5_ := Y0.mk (hb); have n6_ := Y0.mk (hi); clear HO_183002 HO_183003 BK169 BK182 HK HB HI0; have HO_183002 := n0_; have HO_183003 := n1_; have BK169 := n2_; have BK182 := n3_; have HK := n4_; have HB := n5_; have HI0 := n6_; clear n0_ n1_ n2_ n3_ n4_ n5_ n6_; (try clear hb); (try clear hb2); (try clear hk); (try clear hi)))
      (try simp only [Act.put, List.setIfInBounds_toArray, List.set_cons_zero, List.set_cons_succ])
      go_cut [] (fun wc => ∃ (kq : Nat) (x1001_39 : Int), Y0 (Ye.j3 kq 7 t184 x1001_39 t186 t187 x183000_1 x183001_1 x183002_1 x183003_1 = some (r1, r2, r3, r4, r5, r6, r7, r8)) ∧ Y0 (kq ≤ k1) ∧ Y0 (Kd.R Kd.string 9 wc w.heap.size (fun k_ => (w.heap.size ≤ k_)) u183002 x183002_1) ∧ Y0 (Kd.N k37 37 wc w.heap.size (fun k_ => (w.heap.size ≤ k_) ∧ some k_ ≠ (u183002 : Value).ownBlock ∧ k_ ≠ gb169 ∧ k_ ≠ gb182 ∧ k_ ≠ g) u183003 x183003_1) ∧ Y0 (wc.heap[gb169]? = some (.cells #[.int .i64 0, .string (⟨#[]⟩ : ByteArray), (.slice none 0 0), (.slice none 0 0)] 37 (0, 0))) ∧ Y0 (wc.heap[gb182]? = some (.cells #[.int .i64 x183000_1, .string x183001_1, u183002, u183003] 37 (0, 0))) ∧ Y0 (Yf w0 wc g t184 x1001_39 t186 t187) ∧ Y0 (Y3 w wc g none) ∧ Y0 (Below w0.heap.size w0 wc))
      case first =>
       have H := HC40.out
       clear HC40
       have H' := Y0.mk H
       clear H
       obtain ⟨hcz42_0, hcz42_1, hcz42_2, hcz42_3, hfz42_0, hfz42_1, hfz42_2, hfz42_3⟩ := Yt HI0.out.1
       go_wp2
       go_meet
       case rel => exact Zc
      case rest =>
       clear HC40
       try clear c1
       try clear c2
       try clear p2
       try clear c3
       try clear c4
       try clear c5
       try clear p6
       try clear c7
       try clear c8
       try clear c11
       try clear c12
       try clear c13
       try clear c13b0
       try clear c13b1
       try clear c17
       try clear c18
       try clear c26
       try clear c26b0
       try clear c26b1
       try clear c30
       try clear c31
       try clear c39
       try clear c39b0
       try clear c39b1
       try clear hcz16_0 hcz16_1 hcz16_2 hcz16_3
       try clear hcz19_0 hcz19_1 hcz19_2 hcz19_3
       try clear hcz25_0 hcz25_1 hcz25_2 hcz25_3
       try clear hcz29_0 hcz29_1 hcz29_2 hcz29_3
       try clear hcz32_0 hcz32_1 hcz32_2 hcz32_3
       try clear hcz38_0 hcz38_1 hcz38_2 hcz38_3
       try clear hcz42_0 hcz42_1 hcz42_2 hcz42_3
       try clear hcz9_0 hcz9_1 hcz9_2 hcz9_3
       try clear hfz16_0
       try clear hfz16_1
       try clear hfz16_2
       try clear hfz16_3
       try clear hfz19_0
       try clear hfz19_1
       try clear hfz19_2
       try clear hfz19_3
       try clear hfz25_0
       try clear hfz25_1
       try clear hfz25_2
       try clear hfz25_3
       try clear hfz29_0
       try clear hfz29_1
       try clear hfz29_2
       try clear hfz29_3
       try clear hfz32_0
       try clear hfz32_1
       try clear hfz32_2
       try clear hfz32_3
       try clear hfz38_0
       try clear hfz38_1
       try clear hfz38_2
       try clear hfz38_3
       try clear hfz42_0
       try clear hfz42_1
       try clear hfz42_2
       try clear hfz42_3
       try clear hfz9_0
       try clear hfz9_1
       try clear hfz9_2
       try clear hfz9_3
       try clear p2
       try clear p6
       obtain ⟨kq, x1001_39, HA, HJ39, HO_183002, HO_183003, BK169, BK182, HI0, HK, HB⟩ := hcut
       cases kq with
       | zero => exact absurd HA.out (by simp [Ye.j3])
       | succ kj39 =>
        have H := HA.out
        clear HA
        simp only [Ye.j3] at H
        obtain ⟨y194, hy194⟩ : ∃ y_ : List (S37), y_ = (([(⟨x183000_1, x183001_1, x183002_1, x183003_1⟩ : S37)] : List (S37))) := ⟨_, rfl⟩
        replace H : (Ye.l0 kj39 t184 x1001_39 t186 t187 7 (⟨#[]⟩ : ByteArray) ([] : List ByteArray) y194) = some (r1, r2, r3, r4, r5, r6, r7, r8) := by first | (rw [hy194]; with_reducible exact H) | (have H2_ := (Option.bind_some _ _).symm.trans H; rw [hy194]; with_reducible exact H2_) | (have H2_ := (Option.bind_some _ _).symm.trans H; with_reducible exact H2_) | with_reducible exact H | (rw [hy194]; exact H) | exact H
        have Ny194 := Y0.mk hy194
        clear hy194
        have H' := Y0.mk H
        clear H
        have hnb43 := NB182_169.out
        have hnc43 := NB169_182.out
        have hnb44 := NB182_0.out
        have hnc44 := NB0_182.out
        obtain ⟨hcz45_0, hcz45_1, hcz45_2, hcz45_3, hfz45_0, hfz45_1, hfz45_2, hfz45_3⟩ := Yt BK182.out
        obtain ⟨Ao46, co46, eo46⟩ := Kd.R_slice HO_183002.out
        subst eo46
        obtain ⟨Ao47, co47, eo47⟩ := Kd.N_slice HO_183003.out
        subst eo47
        go_wp2_with (first | ((with_reducible refine Ym (N := 27) rfl ?_); refine Kd.N_lit k37 _ 37 ?hg (N' := 27) ?hd (xs := ([(⟨x183000_1, x183001_1, x183002_1, x183003_1⟩ : S37)] : List (S37))) (inner := [.int .i64 x183000_1, .string x183001_1, .slice Ao46 x183002_1.length co46, .slice Ao47 x183003_1.length co47]) (ok := (fun k_ => (w.heap.size ≤ k_) ∧ k_ ≠ gb169 ∧ k_ ≠ gb182 ∧ k_ ≠ g)) (okp := (fun k_ => (w.heap.size ≤ k_) ∧ k_ ≠ gb169 ∧ k_ ≠ gb182 ∧ k_ ≠ g)) ?hr ?hp (fun _ hk => hk) ((show ∀ k_, wc.heap.size ≤ k_ → (fun k_ => (w.heap.size ≤ k_) ∧ k_ ≠ gb169 ∧ k_ ≠ gb182 ∧ k_ ≠ g) k_ from fun k_ hk => ⟨(Nat.le_trans (Yb (w := w) (g := g) (row := none) QK) hk), Kd.freshB (g := gb169) (o := .cells #[.int .i64 0, .string (⟨#[]⟩ : ByteArray), .slice none 0 0, .slice none 0 0] 37 (0, 0)) QQ k_ hk, Kd.freshB (g := gb182) (o := .cells #[.int .i64 x183000_1, .string x183001_1, .slice Ao46 x183002_1.length co46, .slice Ao47 x183003_1.length co47] 37 (0, 0)) QQ k_ hk, Yf.fresh QI75_0 k_ hk⟩) _ (Nat.le_refl _)) (Below.refl _ _) (Nat.le_refl _) (by simp) ?_; (case hd => rfl); (case hg => rfl); (case hr => exact Za); (case hp => exact (Y1a.c4 (show Kd.FK k37 _ _ (⟨x183000_1, x183001_1, x183002_1, x183003_1⟩ : S37) [.int .i64 x183000_1, .string x183001_1, .slice Ao46 x183002_1.length co46, .slice Ao47 x183003_1.length co47] from (Y1Y _ _ (⟨x183000_1, x183001_1, x183002_1, x183003_1⟩ : S37) (Kd.R_reads' (Kd.R_mono (ok' := (fun k_ => (w.heap.size ≤ k_) ∧ k_ ≠ gb169 ∧ k_ ≠ gb182 ∧ k_ ≠ g)) (Yf.apart HI0.out (Kd.R_types (Kd.R_types (HO_183002.out) BK169.out (by decide)) BK182.out (by decide)) (by decide)) (fun k_ hk => ⟨hk.1.1.1, ⟨hk.1.1.2, ⟨hk.1.2, hk.2⟩⟩⟩))).2.1 (Kd.R_F (Kd.R_mono (ok' := (fun k_ => (w.heap.size ≤ k_) ∧ k_ ≠ gb169 ∧ k_ ≠ gb182 ∧ k_ ≠ g)) (Yf.apart HI0.out (Kd.R_types (Kd.R_types (HO_183002.out) BK169.out (by decide)) BK182.out (by decide)) (by decide)) (fun k_ hk => ⟨hk.1.1.1, ⟨hk.1.1.2, ⟨hk.1.2, hk.2⟩⟩⟩))) (Kd.N_reads' (Kd.N_mono (ok' := (fun k_ => (w.heap.size ≤ k_) ∧ k_ ≠ gb169 ∧ k_ ≠ gb182 ∧ k_ ≠ g)) (HO_183003.out) (fun k_ hk => ⟨hk.1, ⟨hk.2.2.1, ⟨hk.2.2.2.1, hk.2.2.2.2⟩⟩⟩))).2.1 (Kd.N_F (Kd.N_mono (ok' := (fun k_ => (w.heap.size ≤ k_) ∧ k_ ≠ gb169 ∧ k_ ≠ gb182 ∧ k_ ≠ g)) (HO_183003.out) (fun k_ hk => ⟨hk.1, ⟨hk.2.2.1, ⟨hk.2.2.2.1, hk.2.2.2.2⟩⟩⟩))))) (Y1a.none _ _))); intro v195 w48 ho49 hb hg_ hnew_; clear hg_ hnew_; (first | rw [← Ny194.out] at ho49 | (simp only [Int.reduceToNat] at ho49; rw [← Ny194.out] at ho49)); have n_ := Y2T (Kd.N_lower ho49 (Yb (w := w) (g := g) (row := none) QK)) (Yi (g := gb169) (o := .cells #[.int .i64 0, .string (⟨#[]⟩ : ByteArray), .slice none 0 0, .slice none 0 0] 37 (0, 0)) QQ hb) (Yi (g := gb182) (o := .cells #[.int .i64 x183000_1, .string x183001_1, .slice Ao46 x183002_1.length co46, .slice Ao47 x183003_1.length co47] 37 (0, 0)) QQ hb) (Yf.below QI75_0 hb) (Y3.trans QK (Y3.of_below hb g none) (.inl rfl)) (Y6 QB hb); clear BK169 BK182 HI0 HK HB HO_183002 HO_183003; obtain ⟨HO196, BK169, BK182, HI0, HK, HB⟩ := n_; clear hb ho49; obtain ⟨Ao50, co50, eo50⟩ := Kd.N_slice HO196.out; subst eo50; obtain ⟨hcz51_0, hcz51_1, hcz51_2, hcz51_3, hfz51_0, hfz51_1, hfz51_2, hfz51_3⟩ := Yt BK182.out))
        go_roundg kj39
        case measure => have := HK1.out; have := HJ39.out; omega
        case rel => exact ⟨(t184), (x1001_39), (t186), (t187), (7), ((⟨#[]⟩ : ByteArray)), (([] : List ByteArray)), (y194), (.slice none 0 0), (.slice Ao50 y194.length co50), H', ⟨by have := HK1.out; have := HJ39.out; omega⟩, ⟨Zb⟩, ⟨by (with_reducible repeat (first | apply Kd.N_alloc | apply Kd.N_drewN | apply Kd.N_drew)); exact Kd.N_mono (Kd.N_far (p := ⟨gb182, 3, none⟩) (Kd.N_far (p := ⟨gb182, 2, none⟩) (Kd.N_far (p := ⟨gb182, 1, none⟩) (Kd.N_far (p := ⟨gb182, 0, none⟩) (Kd.N_mono HO196.out (fun k_ hk => (⟨hk, hk.2.2.1⟩ : _ ∧ k_ ≠ gb182))) (fun _ hk => hk.2) (.int .i64 7)) (fun _ hk => hk.2) (.string (⟨#[]⟩ : ByteArray))) (fun _ hk => hk.2) (.slice none 0 0)) (fun _ hk => hk.2) (.slice Ao50 y194.length co50)) (fun _ hk => ⟨hk.1.1, ⟨Z1t, ⟨hk.1.2.1, ⟨hk.1.2.2.1, hk.1.2.2.2⟩⟩⟩⟩)⟩, ⟨Zg⟩, ⟨by (with_reducible repeat (first | refine Y9 ?_ _ | refine Y8 ?_ | refine Y7 ?_ _)); exact Yo (cs := #[.int .i64 7, .string (⟨#[]⟩ : ByteArray), .slice none 0 0, .slice Ao47 x183003_1.length co47]) (by (with_reducible repeat (first | refine Y9 ?_ _ | refine Y8 ?_ | refine Y7 ?_ _)); exact Yo (cs := #[.int .i64 7, .string (⟨#[]⟩ : ByteArray), .slice Ao46 x183002_1.length co46, .slice Ao47 x183003_1.length co47]) (by (with_reducible repeat (first | refine Y9 ?_ _ | refine Y8 ?_ | refine Y7 ?_ _)); exact Yo (cs := #[.int .i64 7, .string x183001_1, .slice Ao46 x183002_1.length co46, .slice Ao47 x183003_1.length co47]) (by (with_reducible repeat (first | refine Y9 ?_ _ | refine Y8 ?_ | refine Y7 ?_ _)); exact Yo (cs := #[.int .i64 x183000_1, .string x183001_1, .slice Ao46 x183002_1.length co46, .slice Ao47 x183003_1.length co47]) QQ 0 _ rfl) 1 _ rfl) 2 _ rfl) 3 _ rfl⟩, ⟨QI75_0⟩, ⟨QK⟩, ⟨QB⟩⟩
     ·rw [if_neg c39] at H
      have c39b0 : (t183 == 63) = false := beq_eq_false_iff_ne.mpr c39
      have c39b1 : (t183 != 63) = true := bne_iff_ne.mpr c39
      simp only [Option.some.injEq, Prod.mk.injEq] at H
      obtain ⟨rfl, rfl, rfl, rfl, rfl, rfl, rfl, rfl⟩ := H
      go_wp2_with (first | ((with_reducible refine Yh (f := 53) rfl ?_); refine Yy (some 11) rfl rfl Tryd.func53 Z7 rfl #[.pointer (some ⟨g, 0, none⟩)] rfl Z0 ?_; (with_reducible refine (Yd.calls k1 g x1000_1 x1001_1 x1002_1 x1003_1 t183 t184 t185 t186 t187 w0 _ ?side1 ?side2 A12.out).mono ?_); (case side1 => exact Z1r); (case side2 => exact QB); rintro e w52 ⟨rfl, hi, hb, hk⟩; refine ⟨_, rfl, ?_⟩; have n0_ := Y0.mk (Kd.R_mono (Kd.R_keep (Yf.apart (show Yf w0 _ g x1000_1 x1001_1 x1002_1 x1003_1 from QI75_0) Z1m (by decide)) hk (fun _ h => h.2)) (fun _ h => h.1)); have n1_ := Y0.mk (Kd.N_mono (Kd.N_keep (Kd.N_mono (ok := fun k_ => (((w.heap.size ≤ k_)) ∧ (some k_ ≠ (u183002 : Value).ownBlock ∧ (k_ ≠ gb169 ∧ (k_ ≠ gb182 ∧ k_ ≠ g))))) Z1l (fun k_ hk_ => (⟨hk_, hk_.2.2.2.2⟩ : _ ∧ k_ ≠ g))) hk (fun _ h => h.2)) (fun _ h => h.1)); have n2_ := Y0.mk (Y3.blk hk (g' := gb169) (o := .cells #[.int .i64 0, .string (⟨#[]⟩ : ByteArray), .slice none 0 0, .slice none 0 0] 37 (0, 0)) QQ NB169_0.out (by simp)); have n3_ := Y0.mk (Y3.blk hk (g' := gb182) (o := .cells #[.int .i64 x183000_1, .string x183001_1, u183002, u183003] 37 (0, 0)) QQ NB182_0.out (by simp)); have n4_ := Y0.mk (Y3.trans QK hk (.inl rfl)); have n5_ := Y0.mk (hb); have n6_ := Y0.mk (hi); clear HO_183002 HO_183003 BK169 BK182 HK HB HI0; have HO_183002 := n0_; have HO_183003 := n1_; have BK169 := n2_; have BK182 := n3_; have HK := n4_; have HB := n5_; have HI0 := n6_; clear n0_ n1_ n2_ n3_ n4_ n5_ n6_; (try clear hb); (try clear hb2); (try clear hk); (try clear hi); have hnb53 := NB182_169.out; have hnc53 := NB169_182.out; have hnb54 := NB182_0.out; have hnc54 := NB0_182.out; obtain ⟨hcz55_0, hcz55_1, hcz55_2, hcz55_3, hfz55_0, hfz55_1, hfz55_2, hfz55_3⟩ := Yt BK182.out; have hnb56 := NB169_0.out; have hnc56 := NB0_169.out; obtain ⟨hcz57_0, hcz57_1, hcz57_2, hcz57_3, hfz57_0, hfz57_1, hfz57_2, hfz57_3⟩ := Yt BK169.out; obtain ⟨Ao58, co58, eo58⟩ := Kd.R_slice HO_183002.out; subst eo58; obtain ⟨Ao59, co59, eo59⟩ := Kd.N_slice HO_183003.out; subst eo59))
      (try rw [Exit.noGoto_ret])
      refine bodyPost_ret (results_cell_row rfl _ _ gb169 37 #[.int .i64 x183000_1, .string x183001_1, .slice Ao58 x183002_1.length co58, .slice Ao59 x183003_1.length co59] (0, 0) _ rfl (by (with_reducible repeat (first | refine Y9 ?_ _ | refine Y8 ?_ | refine Y7 ?_ _)); exact Yo (cs := #[.int .i64 x183000_1, .string x183001_1, .slice Ao58 x183002_1.length co58, .slice none 0 0]) (by (with_reducible repeat (first | refine Y9 ?_ _ | refine Y8 ?_ | refine Y7 ?_ _)); exact Yo (cs := #[.int .i64 x183000_1, .string x183001_1, .slice none 0 0, .slice none 0 0]) (by (with_reducible repeat (first | refine Y9 ?_ _ | refine Y8 ?_ | refine Y7 ?_ _)); exact Yo (cs := #[.int .i64 x183000_1, .string (⟨#[]⟩ : ByteArray), .slice none 0 0, .slice none 0 0]) Z1 1 _ rfl) 2 _ rfl) 3 _ rfl) Tryd.underlying37 rfl Z7) rfl ?_
      exact ⟨_, _, Z2, by (with_reducible repeat (first | apply Kd.R_alloc | apply Kd.R_drewN | apply Kd.R_drew)); exact Kd.R_mono (Kd.R_far (p := ⟨gb169, 3, none⟩) (Kd.R_far (p := ⟨gb169, 2, none⟩) (Kd.R_far (p := ⟨gb169, 1, none⟩) (Kd.R_far (p := ⟨gb169, 0, none⟩) (Kd.R_types HO_183002.out BK169.out (by decide)) (fun _ hk => hk.2) (.int .i64 x183000_1)) (fun _ hk => hk.2) (.string x183001_1)) (fun _ hk => hk.2) (.slice Ao58 x183002_1.length co58)) (fun _ hk => hk.2) (.slice Ao59 x183003_1.length co59)) (fun _ hk => hk.1), by (with_reducible repeat (first | apply Kd.N_alloc | apply Kd.N_drewN | apply Kd.N_drew)); exact Kd.N_mono (Kd.N_far (p := ⟨gb169, 3, none⟩) (Kd.N_far (p := ⟨gb169, 2, none⟩) (Kd.N_far (p := ⟨gb169, 1, none⟩) (Kd.N_far (p := ⟨gb169, 0, none⟩) (Kd.N_mono HO_183003.out (fun k_ hk => (⟨hk, hk.2.2.1⟩ : _ ∧ k_ ≠ gb169))) (fun _ hk => hk.2) (.int .i64 x183000_1)) (fun _ hk => hk.2) (.string x183001_1)) (fun _ hk => hk.2) (.slice Ao58 x183002_1.length co58)) (fun _ hk => hk.2) (.slice Ao59 x183003_1.length co59)) (fun _ hk => ⟨hk.1.1, hk.1.2.1⟩), QI75_0, QB, QK⟩
end Go.Proofs.YtbpbfboaofkpaaaDoor.Print
end
