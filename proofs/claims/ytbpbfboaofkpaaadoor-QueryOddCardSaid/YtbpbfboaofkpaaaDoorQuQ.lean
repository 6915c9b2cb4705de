/- QueryOdd: a path with a part that may not be may not be: of each of the fourteen ways. Conditions: none but the row's own (the two tables of unicode/utf8 as the program lays them). -/
import Derived.Test.YtbpbfboaofkpaaaDoorQuQ3
import Derived.Test.YtbpbfboaofkpaaaDoorCards
import Derived.Test.YtbpbfboaofkpaaaDoorTie
import Derived.SevenTiedAt
import Derived.ChangeMaps5
set_option linter.unusedSimpArgs false
section
namespace Go.Proofs.YtbpbfboaofkpaaaDoor.Print
open Go.RowKit Go.Proofs.YtbpbfboaofkpaaaDoorW.PrintWords Go.Proofs.YtbpbfboaofkpaaaDoorW.PrintLast Go.Proofs.YtbpbfboaofkpaaaDoorW.PrintMore
attribute [local go_sem] max2_int min2_int max_two min_two max_three min_three max_four min_four
set_option linter.unusedVariables false
set_option linter.unusedSimpArgs false
set_option maxRecDepth 100000 in
theorem Yu.Y2w (k : Nat) (ih : ∀ j_ < k, Yu.Spec j_ ∧ Yq.Spec j_) : ∀ (a0_0 : Int) (a0_1 : ByteArray) (A0_2 : Option Addr) (c0_2 : Nat) (l0_2 : List ByteArray) (A0_3 : Option Addr) (c0_3 : Nat) (l0_3 : List (S37)) (r : ByteArray) (w : World) (hr0_2 : Kd.C Kd.string w A0_2 l0_2.length l0_2) (hc0_2 : l0_2.length ≤ c0_2) (hr0_3 : Kd.C k37 w A0_3 l0_3.length l0_3) (hc0_3 : l0_3.length ≤ c0_3) (h : Yu.f k a0_0 a0_1 l0_2 l0_3 = some r),
  Calls Tryd.prog 24 #[.agg #[.int .i64 a0_0, .string a0_1, .slice A0_2 l0_2.length c0_2, .slice A0_3 l0_3.length c0_3]] w fun e w' => e = .returned (.string r) ∧ Below w.heap.size w w' := by
 intro a0_0 a0_1 A0_2 c0_2 l0_2 A0_3 c0_3 l0_3 r w hr0_2 hc0_2 hr0_3 hc0_3 h
 cases k with
 | zero => exact absurd h (by simp [Yu.f])
 | succ k =>
 simp only [Yu.f] at h
 have hu37 := Tryd.underlying37
 have HR0_2 := Y0.mk hr0_2
 have HC0_2 := Y0.mk hc0_2
 clear hr0_2 hc0_2
 have HR0_3 := Y0.mk hr0_3
 have HC0_3 := Y0.mk hc0_3
 clear hr0_3 hc0_3
 have HB := Y0.mk (Below.refl w.heap.size w)
 have H : (if a0_0 = 1 then (if 1 + a0_1.size ≤ 9223372036854775807 then (if 1 + a0_1.size + 1 ≤ 9223372036854775807 then (some (((⟨#[60]⟩ : ByteArray) ++ a0_1) ++ (⟨#[62]⟩ : ByteArray))) else (none)) else (none)) else (if a0_0 = 2 then (if 0 < (l0_3.length : Int) then ((Yq.f k ((Y1 l0_3 0).f0) ((Y1 l0_3 0).f1) ((Y1 l0_3 0).f2) ((Y1 l0_3 0).f3)).bind fun t103 => (if 1 + t103.size ≤ 9223372036854775807 then (some ((⟨#[94]⟩ : ByteArray) ++ t103)) else (none))) else (none)) else (if a0_0 = 3 then (if 0 < (l0_3.length : Int) then ((Yq.f k ((Y1 l0_3 0).f0) ((Y1 l0_3 0).f1) ((Y1 l0_3 0).f2) ((Y1 l0_3 0).f3)).bind fun t105 => (if t105.size + 1 ≤ 9223372036854775807 then (if 1 < (l0_3.length : Int) then ((Yq.f k ((Y1 l0_3 1).f0) ((Y1 l0_3 1).f1) ((Y1 l0_3 1).f2) ((Y1 l0_3 1).f3)).bind fun t107 => (if t105.size + 1 + t107.size ≤ 9223372036854775807 then (some ((t105 ++ (⟨#[47]⟩ : ByteArray)) ++ t107)) else (none))) else (none)) else (none))) else (none)) else (if a0_0 = 4 then (if 0 < (l0_3.length : Int) then ((Yq.f k ((Y1 l0_3 0).f0) ((Y1 l0_3 0).f1) ((Y1 l0_3 0).f2) ((Y1 l0_3 0).f3)).bind fun t109 => (if t109.size + 1 ≤ 9223372036854775807 then (if 1 < (l0_3.length : Int) then ((Yq.f k ((Y1 l0_3 1).f0) ((Y1 l0_3 1).f1) ((Y1 l0_3 1).f2) ((Y1 l0_3 1).f3)).bind fun t111 => (if t109.size + 1 + t111.size ≤ 9223372036854775807 then (some ((t109 ++ (⟨#[124]⟩ : ByteArray)) ++ t111)) else (none))) else (none)) else (none))) else (none)) else (if a0_0 = 5 then (if 0 < (l0_3.length : Int) then ((Yq.f k ((Y1 l0_3 0).f0) ((Y1 l0_3 0).f1) ((Y1 l0_3 0).f2) ((Y1 l0_3 0).f3)).bind fun t113 => (if t113.size + 1 ≤ 9223372036854775807 then (some (t113 ++ (⟨#[42]⟩ : ByteArray))) else (none))) else (none)) else (if a0_0 = 6 then (if 0 < (l0_3.length : Int) then ((Yq.f k ((Y1 l0_3 0).f0) ((Y1 l0_3 0).f1) ((Y1 l0_3 0).f2) ((Y1 l0_3 0).f3)).bind fun t115 => (if t115.size + 1 ≤ 9223372036854775807 then (some (t115 ++ (⟨#[43]⟩ : ByteArray))) else (none))) else (none)) else (if a0_0 = 7 then (if 0 < (l0_3.length : Int) then ((Yq.f k ((Y1 l0_3 0).f0) ((Y1 l0_3 0).f1) ((Y1 l0_3 0).f2) ((Y1 l0_3 0).f3)).bind fun t117 => (if t117.size + 1 ≤ 9223372036854775807 then (some (t117 ++ (⟨#[63]⟩ : ByteArray))) else (none))) else (none)) else ((strings_Join.f l0_2 (⟨#[62, 124, 60]⟩ : ByteArray)).bind fun t118 => (if 3 + t118.size ≤ 9223372036854775807 then (if 3 + t118.size + 2 ≤ 9223372036854775807 then (some (((⟨#[33, 40, 60]⟩ : ByteArray) ++ t118) ++ (⟨#[62, 41]⟩ : ByteArray))) else (none)) else (none)))))))))) = some r := h
 clear h
 by_cases c2 : a0_0 = 1
 ·rw [if_pos c2] at H
  have c2b0 : (a0_0 == 1) = true := beq_iff_eq.mpr c2
  have c2b1 : (a0_0 != 1) = false := bne_eq_false_iff_eq.mpr c2
  clear c2
  by_cases c3 : 1 + a0_1.size ≤ 9223372036854775807
  ·rw [if_pos c3] at H
   have c3b0 := eq_true c3
   have c3b1 : decide (1 + a0_1.size ≤ 9223372036854775807) = true := decide_eq_true c3
   try have c3b2 : (9223372036854775807 < 1 + a0_1.size) = False := eq_false (Nat.not_lt.2 c3)
   by_cases c4 : 1 + a0_1.size + 1 ≤ 9223372036854775807
   ·rw [if_pos c4] at H
    have c4b0 := eq_true c4
    have c4b1 : decide (1 + a0_1.size + 1 ≤ 9223372036854775807) = true := decide_eq_true c4
    try have c4b2 : (9223372036854775807 < 1 + a0_1.size + 1) = False := eq_false (Nat.not_lt.2 c4)
    obtain rfl := Option.some.inj H
    go_enter Tryd.func24, Tryd.ntmps24
    go_wp2_with (first | ((with_reducible refine Ym (N := 1) rfl ?_); refine Yl ?hg (N := 1) ?hd (cs := #[.int .i64 a0_0, .string a0_1, .slice A0_2 l0_2.length c0_2, .slice A0_3 l0_3.length c0_3]) (t := 37) ?hr ?_; (case hd => rfl); (case hg => rfl); (case hr => exact Z6); intro gb101 hg w5 hbox hb; have n_ := Y1T (Y5 QB hb) (hbox) ((by rw [hg]; exact (Y6 QB) : w.heap.size ≤ gb101)) ((by rw [hg]; exact (Y6 QB) : w.heap.size ≤ gb101)); clear HB; obtain ⟨HB, BK101, GW101, GE101⟩ := n_; clear hb hbox hg; obtain ⟨hcz6_0, hcz6_1, hcz6_2, hcz6_3, hfz6_0, hfz6_1, hfz6_2, hfz6_3⟩ := Yt BK101.out))
    go_ret
    exact Z1y
   ·rw [if_neg c4] at H
    exact Zt
  ·rw [if_neg c3] at H
   exact Zt
 ·rw [if_neg c2] at H
  have c2b0 : (a0_0 == 1) = false := beq_eq_false_iff_ne.mpr c2
  have c2b1 : (a0_0 != 1) = true := bne_iff_ne.mpr c2
  by_cases c7 : a0_0 = 2
  ·rw [if_pos c7] at H
   have c7b0 : (a0_0 == 2) = true := beq_iff_eq.mpr c7
   have c7b1 : (a0_0 != 2) = false := bne_eq_false_iff_eq.mpr c7
   clear c7
   by_cases c8 : 0 < (l0_3.length : Int)
   ·rw [if_pos c8] at H
    have c8b0 : decide (0 < (l0_3.length : Int)) = true := decide_eq_true c8
    have c8b1 : decide (0 < l0_3.length) = true := decide_eq_true (by omega)
    clear c8
    replace H := Option.bind_eq_some_iff.mp H
    obtain ⟨t103, A90, H⟩ := H
    replace H : (if 1 + t103.size ≤ 9223372036854775807 then (some ((⟨#[94]⟩ : ByteArray) ++ t103)) else (none)) = some r := H
    have A9 := Y0.mk A90
    clear A90
    by_cases c10 : 1 + t103.size ≤ 9223372036854775807
    ·rw [if_pos c10] at H
     have c10b0 := eq_true c10
     have c10b1 : decide (1 + t103.size ≤ 9223372036854775807) = true := decide_eq_true c10
     try have c10b2 : (9223372036854775807 < 1 + t103.size) = False := eq_false (Nat.not_lt.2 c10)
     obtain rfl := Option.some.inj H
     go_enter Tryd.func24, Tryd.ntmps24
     go_wp2_with (first | ((with_reducible refine Ym (N := 1) rfl ?_); refine Yl ?hg (N := 1) ?hd (cs := #[.int .i64 a0_0, .string a0_1, .slice A0_2 l0_2.length c0_2, .slice A0_3 l0_3.length c0_3]) (t := 37) ?hr ?_; (case hd => rfl); (case hg => rfl); (case hr => exact Z6); intro gb101 hg w11 hbox hb; have n_ := Y1T (Y5 QB hb) (hbox) ((by rw [hg]; exact (Y6 QB) : w.heap.size ≤ gb101)) ((by rw [hg]; exact (Y6 QB) : w.heap.size ≤ gb101)); clear HB; obtain ⟨HB, BK101, GW101, GE101⟩ := n_; clear hb hbox hg; obtain ⟨hcz12_0, hcz12_1, hcz12_2, hcz12_3, hfz12_0, hfz12_1, hfz12_2, hfz12_3⟩ := Yt BK101.out; have p102 : 0 ≤ (0 : Int) := (by omega); have q102 : 0 < (l0_3.length : Int) := of_decide_eq_true Z5; obtain ⟨ad102, A102_2, c102_2, A102_3, c102_3, e102, hx102_0, hx102_1, hx102_2, hx102_3, hl102_2, hi102_2, hl102_3, hi102_3⟩ := Y1x HR0_3.out 0 p102 q102; cases e102; have qi102 : (0 < l0_3.length) = True := eq_true (by omega); (try rw [show ((0 : Int)).toNat = 0 from rfl] at hx102_0 hx102_1 hx102_2 hx102_3); (try rw [show 0 * 4 = 0 from rfl] at hx102_0 hx102_1 hx102_2 hx102_3); (try rw [Addr.add_zero'] at hx102_0 hx102_1 hx102_2 hx102_3); replace hx102_0 := YM HB.out hx102_0; replace hx102_1 := YM HB.out hx102_1; replace hx102_2 := YM HB.out hx102_2; replace hx102_3 := YM HB.out hx102_3; have HR102_2 := Y0.mk hi102_2; have HC102_2 := Y0.mk hl102_2; clear hi102_2 hl102_2; have HR102_3 := Y0.mk hi102_3; have HC102_3 := Y0.mk hl102_3; clear hi102_3 hl102_3; replace p102 := eq_true p102; replace q102 := eq_true q102) | ((with_reducible refine Yg (f := 50) rfl ?_); refine YG (some 17) rfl rfl Tryd.func50 Z4 rfl #[.agg #[.int .i64 ((Y1 l0_3 0).f0), .string ((Y1 l0_3 0).f1), .slice A102_2 ((Y1 l0_3 0).f2).length c102_2, .slice A102_3 ((Y1 l0_3 0).f3).length c102_3]] rfl Z0 ?_; (with_reducible refine ((ih k (by omega)).2 ((Y1 l0_3 0).f0) ((Y1 l0_3 0).f1) _ _ ((Y1 l0_3 0).f2) _ _ ((Y1 l0_3 0).f3) t103 _ ?side1 ?side2 ?side3 ?side4 A9.out).mono ?_); (case side1 => repeat (first | exact (Kd.C_below HR102_2.out HB.out) | (with_reducible refine Kd.C_alloc ?_ _) | (with_reducible refine Kd.C_drewN ?_ _) | (with_reducible refine Kd.C_drew ?_))); (case side2 => exact HC102_2.out); (case side3 => repeat (first | exact (Kd.C_below HR102_3.out HB.out) | (with_reducible refine Kd.C_alloc ?_ _) | (with_reducible refine Kd.C_drewN ?_ _) | (with_reducible refine Kd.C_drew ?_))); (case side4 => exact HC102_3.out); rintro e w13 ⟨rfl, hb⟩; refine ⟨_, rfl, ?_⟩; have n_ := Y2d (Yh (g := gb101) (o := .cells #[.int .i64 a0_0, .string a0_1, .slice A0_2 l0_2.length c0_2, .slice (some ad102) l0_3.length c0_3] 37 (0, 0)) QQ hb) (Y5 QB hb); clear BK101 HB; obtain ⟨BK101, HB⟩ := n_; (try clear hb); (try clear hb2); (try clear hk); (try clear hi)))
     go_ret
     exact Z1y
    ·rw [if_neg c10] at H
     exact Zt
   ·rw [if_neg c8] at H
    exact Zt
  ·rw [if_neg c7] at H
   have c7b0 : (a0_0 == 2) = false := beq_eq_false_iff_ne.mpr c7
   have c7b1 : (a0_0 != 2) = true := bne_iff_ne.mpr c7
   by_cases c14 : a0_0 = 3
   ·rw [if_pos c14] at H
    have c14b0 : (a0_0 == 3) = true := beq_iff_eq.mpr c14
    have c14b1 : (a0_0 != 3) = false := bne_eq_false_iff_eq.mpr c14
    clear c14
    by_cases c15 : 0 < (l0_3.length : Int)
    ·rw [if_pos c15] at H
     have c15b0 : decide (0 < (l0_3.length : Int)) = true := decide_eq_true c15
     have c15b1 : decide (0 < l0_3.length) = true := decide_eq_true (by omega)
     clear c15
     replace H := Option.bind_eq_some_iff.mp H
     obtain ⟨t105, A160, H⟩ := H
     replace H : (if t105.size + 1 ≤ 9223372036854775807 then (if 1 < (l0_3.length : Int) then ((Yq.f k ((Y1 l0_3 1).f0) ((Y1 l0_3 1).f1) ((Y1 l0_3 1).f2) ((Y1 l0_3 1).f3)).bind fun t107 => (if t105.size + 1 + t107.size ≤ 9223372036854775807 then (some ((t105 ++ (⟨#[47]⟩ : ByteArray)) ++ t107)) else (none))) else (none)) else (none)) = some r := H
     have A16 := Y0.mk A160
     clear A160
     by_cases c17 : t105.size + 1 ≤ 9223372036854775807
     ·rw [if_pos c17] at H
      have c17b0 := eq_true c17
      have c17b1 : decide (t105.size + 1 ≤ 9223372036854775807) = true := decide_eq_true c17
      try have c17b2 : (9223372036854775807 < t105.size + 1) = False := eq_false (Nat.not_lt.2 c17)
      by_cases c18 : 1 < (l0_3.length : Int)
      ·rw [if_pos c18] at H
       have c18b0 : decide (1 < (l0_3.length : Int)) = true := decide_eq_true c18
       have c18b1 : decide (1 < l0_3.length) = true := decide_eq_true (by omega)
       clear c18
       replace H := Option.bind_eq_some_iff.mp H
       obtain ⟨t107, A190, H⟩ := H
       replace H : (if t105.size + 1 + t107.size ≤ 9223372036854775807 then (some ((t105 ++ (⟨#[47]⟩ : ByteArray)) ++ t107)) else (none)) = some r := H
       have A19 := Y0.mk A190
       clear A190
       by_cases c20 : t105.size + 1 + t107.size ≤ 9223372036854775807
       ·rw [if_pos c20] at H
        have c20b0 := eq_true c20
        have c20b1 : decide (t105.size + 1 + t107.size ≤ 9223372036854775807) = true := decide_eq_true c20
        try have c20b2 : (9223372036854775807 < t105.size + 1 + t107.size) = False := eq_false (Nat.not_lt.2 c20)
        obtain rfl := Option.some.inj H
        go_enter Tryd.func24, Tryd.ntmps24
        try go_wp2_with (first | ((with_reducible refine Ym (N := 1) rfl ?_); refine Yl ?hg (N := 1) ?hd (cs := #[.int .i64 a0_0, .string a0_1, .slice A0_2 l0_2.length c0_2, .slice A0_3 l0_3.length c0_3]) (t := 37) ?hr ?_; (case hd => rfl); (case hg => rfl); (case hr => exact Z6); intro gb101 hg w21 hbox hb; have n_ := Y1T (Y5 QB hb) (hbox) ((by rw [hg]; exact (Y6 QB) : w.heap.size ≤ gb101)) ((by rw [hg]; exact (Y6 QB) : w.heap.size ≤ gb101)); clear HB; obtain ⟨HB, BK101, GW101, GE101⟩ := n_; clear hb hbox hg; obtain ⟨hcz22_0, hcz22_1, hcz22_2, hcz22_3, hfz22_0, hfz22_1, hfz22_2, hfz22_3⟩ := Yt BK101.out))
        have n_ := Y2d (Y8 BK101.out) (YI HB.out)
        clear BK101
        clear HB
        obtain ⟨BK101, HB⟩ := n_
        have p104 : 0 ≤ (0 : Int) := (by omega)
        have q104 : 0 < (l0_3.length : Int) := of_decide_eq_true Z5
        obtain ⟨ad104, A104_2, c104_2, A104_3, c104_3, e104, hx104_0, hx104_1, hx104_2, hx104_3, hl104_2, hi104_2, hl104_3, hi104_3⟩ := Y1x HR0_3.out 0 p104 q104
        have hw104_3 := hx104_3
        (try rw [show ((0 : Int)).toNat = 0 from rfl] at hw104_3)
        (try rw [show 0 * 4 = 0 from rfl] at hw104_3)
        (try rw [Addr.add_zero'] at hw104_3)
        have hw104_2 := hx104_2
        (try rw [show ((0 : Int)).toNat = 0 from rfl] at hw104_2)
        (try rw [show 0 * 4 = 0 from rfl] at hw104_2)
        (try rw [Addr.add_zero'] at hw104_2)
        have hw104_1 := hx104_1
        (try rw [show ((0 : Int)).toNat = 0 from rfl] at hw104_1)
        (try rw [show 0 * 4 = 0 from rfl] at hw104_1)
        (try rw [Addr.add_zero'] at hw104_1)
        have hw104_0 := hx104_0
        (try rw [show ((0 : Int)).toNat = 0 from rfl] at hw104_0)
        (try rw [show 0 * 4 = 0 from rfl] at hw104_0)
        (try rw [Addr.add_zero'] at hw104_0)
        cases e104
        have qi104 : (0 < l0_3.length) = True := eq_true (by omega)
        (try rw [show ((0 : Int)).toNat = 0 from rfl] at hx104_0)
        (try rw [show 0 * 4 = 0 from rfl] at hx104_0)
        (try rw [Addr.add_zero'] at hx104_0)
        (try rw [show ((0 : Int)).toNat = 0 from rfl] at hx104_1)
        (try rw [show 0 * 4 = 0 from rfl] at hx104_1)
        (try rw [Addr.add_zero'] at hx104_1)
        (try rw [show ((0 : Int)).toNat = 0 from rfl] at hx104_2)
        (try rw [show 0 * 4 = 0 from rfl] at hx104_2)
        (try rw [Addr.add_zero'] at hx104_2)
        (try rw [show ((0 : Int)).toNat = 0 from rfl] at hx104_3)
        (try rw [show 0 * 4 = 0 from rfl] at hx104_3)
        (try rw [Addr.add_zero'] at hx104_3)
        replace hx104_0 := YM HB.out hx104_0
        replace hx104_1 := YM HB.out hx104_1
        replace hx104_2 := YM HB.out hx104_2
        replace hx104_3 := YM HB.out hx104_3
        have HR104_2 := Y0.mk hi104_2
        have HC104_2 := Y0.mk hl104_2
        clear hi104_2 hl104_2
        have HR104_3 := Y0.mk hi104_3
        have HC104_3 := Y0.mk hl104_3
        clear hi104_3 hl104_3
        replace p104 := eq_true p104
        replace q104 := eq_true q104
        have p106 : 0 ≤ (1 : Int) := (by omega)
        have q106 : 1 < (l0_3.length : Int) := of_decide_eq_true Z5
        obtain ⟨ad106, A106_2, c106_2, A106_3, c106_3, e106, hx106_0, hx106_1, hx106_2, hx106_3, hl106_2, hi106_2, hl106_3, hi106_3⟩ := Y1x HR0_3.out 1 p106 q106
        have hw106_3 := hx106_3
        (try rw [show ((1 : Int)).toNat = 1 from rfl] at hw106_3)
        (try rw [show 1 * 4 = 4 from rfl] at hw106_3)
        (try simp only [Nat.reduceMul, Nat.reduceEqDiff, Go.Addr.add, ↓reduceIte] at hw106_3)
        have hw106_2 := hx106_2
        (try rw [show ((1 : Int)).toNat = 1 from rfl] at hw106_2)
        (try rw [show 1 * 4 = 4 from rfl] at hw106_2)
        (try simp only [Nat.reduceMul, Nat.reduceEqDiff, Go.Addr.add, ↓reduceIte] at hw106_2)
        have hw106_1 := hx106_1
        (try rw [show ((1 : Int)).toNat = 1 from rfl] at hw106_1)
        (try rw [show 1 * 4 = 4 from rfl] at hw106_1)
        (try simp only [Nat.reduceMul, Nat.reduceEqDiff, Go.Addr.add, ↓reduceIte] at hw106_1)
        have hw106_0 := hx106_0
        (try rw [show ((1 : Int)).toNat = 1 from rfl] at hw106_0)
        (try rw [show 1 * 4 = 4 from rfl] at hw106_0)
        (try simp only [Nat.reduceMul, Nat.reduceEqDiff, Go.Addr.add, ↓reduceIte] at hw106_0)
        obtain rfl : ad104 = ad106 := (by injection e106)
        (try simp only [show (1 : Int).toNat = 1 from rfl, Nat.reduceMul, Nat.reduceEqDiff, Go.Addr.add, ↓reduceIte] at hx106_0)
        (try simp only [show (1 : Int).toNat = 1 from rfl, Nat.reduceMul, Nat.reduceEqDiff, Go.Addr.add, ↓reduceIte] at hx106_1)
        (try simp only [show (1 : Int).toNat = 1 from rfl, Nat.reduceMul, Nat.reduceEqDiff, Go.Addr.add, ↓reduceIte] at hx106_2)
        (try simp only [show (1 : Int).toNat = 1 from rfl, Nat.reduceMul, Nat.reduceEqDiff, Go.Addr.add, ↓reduceIte] at hx106_3)
        have qi106 : (1 < l0_3.length) = True := eq_true (by omega)
        (try rw [show ((1 : Int)).toNat = 1 from rfl] at hx106_0)
        (try rw [show 1 * 4 = 4 from rfl] at hx106_0)
        (try rw [show ((1 : Int)).toNat = 1 from rfl] at hx106_1)
        (try rw [show 1 * 4 = 4 from rfl] at hx106_1)
        (try rw [show ((1 : Int)).toNat = 1 from rfl] at hx106_2)
        (try rw [show 1 * 4 = 4 from rfl] at hx106_2)
        (try rw [show ((1 : Int)).toNat = 1 from rfl] at hx106_3)
        (try rw [show 1 * 4 = 4 from rfl] at hx106_3)
        replace hx106_0 := YM HB.out hx106_0
        replace hx106_1 := YM HB.out hx106_1
        replace hx106_2 := YM HB.out hx106_2
        replace hx106_3 := YM HB.out hx106_3
        have HR106_2 := Y0.mk hi106_2
        have HC106_2 := Y0.mk hl106_2
        clear hi106_2 hl106_2
        have HR106_3 := Y0.mk hi106_3
        have HC106_3 := Y0.mk hl106_3
        clear hi106_3 hl106_3
        replace p106 := eq_true p106
        replace q106 := eq_true q106
        refine Y1v (n := 13) (S := fun w' => w'.cell? ⟨gb101, 0, none⟩ = some (.int .i64 a0_0) ∧ w'.cell? ⟨gb101, 1, none⟩ = some (.string a0_1) ∧ w'.cell? ⟨gb101, 2, none⟩ = some (.slice A0_2 l0_2.length c0_2) ∧ w'.cell? ⟨gb101, 3, none⟩ = some (.slice (some ad104) l0_3.length c0_3) ∧ w'.cell? ad104 = some (.int .i64 ((Y1 l0_3 0).f0)) ∧ w'.cell? ⟨ad104.block, ad104.off + 1, none⟩ = some (.string ((Y1 l0_3 0).f1)) ∧ w'.cell? ⟨ad104.block, ad104.off + 2, none⟩ = some (.slice A104_2 ((Y1 l0_3 0).f2).length c104_2) ∧ w'.cell? ⟨ad104.block, ad104.off + 3, none⟩ = some (.slice A104_3 ((Y1 l0_3 0).f3).length c104_3) ∧ w'.cell? ⟨ad104.block, ad104.off + 4, none⟩ = some (.int .i64 ((Y1 l0_3 1).f0)) ∧ w'.cell? ⟨ad104.block, ad104.off + 4 + 1, none⟩ = some (.string ((Y1 l0_3 1).f1)) ∧ w'.cell? ⟨ad104.block, ad104.off + 4 + 2, none⟩ = some (.slice A106_2 ((Y1 l0_3 1).f2).length c106_2) ∧ w'.cell? ⟨ad104.block, ad104.off + 4 + 3, none⟩ = some (.slice A106_3 ((Y1 l0_3 1).f3).length c106_3)) (ds := []) bz13_0 Z4 rfl rfl ⟨(Y2 BK101.out 0).trans rfl, (Y2 BK101.out 1).trans rfl, (Y2 BK101.out 2).trans rfl, (Y2 BK101.out 3).trans rfl, ((HB.out.cell (World.block_lt_of_cell? w _ hw104_0)).trans hw104_0), ((HB.out.cell (World.block_lt_of_cell? w _ hw104_1)).trans hw104_1), ((HB.out.cell (World.block_lt_of_cell? w _ hw104_2)).trans hw104_2), ((HB.out.cell (World.block_lt_of_cell? w _ hw104_3)).trans hw104_3), ((HB.out.cell (World.block_lt_of_cell? w _ hw106_0)).trans hw106_0), ((HB.out.cell (World.block_lt_of_cell? w _ hw106_1)).trans hw106_1), ((HB.out.cell (World.block_lt_of_cell? w _ hw106_2)).trans hw106_2), ((HB.out.cell (World.block_lt_of_cell? w _ hw106_3)).trans hw106_3)⟩ (fun hHeld => ?_); refine YT Yu.tab7 Yu.bits7 (fun HT_ HW_ => ?_)
        generalize w21.drew = w23 at BK101 HB HR104_2 HR104_3 HR106_2 HR106_3 hx104_0 hx104_1 hx104_2 hx104_3 hx106_0 hx106_1 hx106_2 hx106_3 hHeld ⊢
        refine pY 0 21 bz13_1 ?_
        refine pY 6 27 bz13_41 ?_
        refine pT 1 22 bz13_43 ?_
        refine pY 2 23 bz13_47 ?_
        refine pT 3 24 bz13_4f ?_
        refine pT 7 28 bz13_cf ?_
        refine pY 8 29 Y3T ?_
        refine pT 9 30 Y3U ?_
        refine Y23 (i := 4) (N := some 25) Y3V rfl rfl (Y1f HT_.out Z4) (by decide) (fun K hK => ?_)
        refine Y1G Tryd.func50 Z4 rfl #[.agg #[.int .i64 ((Y1 l0_3 0).f0), .string ((Y1 l0_3 0).f1), .slice A104_2 ((Y1 l0_3 0).f2).length c104_2, .slice A104_3 ((Y1 l0_3 0).f3).length c104_3]] (by rfl) rfl rfl Z0 ?_
        with_reducible refine ((ih k (by omega)).2 ((Y1 l0_3 0).f0) ((Y1 l0_3 0).f1) _ _ ((Y1 l0_3 0).f2) _ _ ((Y1 l0_3 0).f3) t105 _ ?side1 ?side2 ?side3 ?side4 A16.out).mono ?_
        (case side1 => repeat (first | exact (Kd.C_below HR104_2.out HB.out) | (with_reducible refine Kd.C_alloc ?_ _) | (with_reducible refine Kd.C_drewN ?_ _) | (with_reducible refine Kd.C_drew ?_)))
        (case side2 => exact HC104_2.out)
        (case side3 => repeat (first | exact (Kd.C_below HR104_3.out HB.out) | (with_reducible refine Kd.C_alloc ?_ _) | (with_reducible refine Kd.C_drewN ?_ _) | (with_reducible refine Kd.C_drew ?_)))
        (case side4 => exact HC104_3.out)
        rintro e w24 ⟨rfl, hb⟩
        refine ⟨_, rfl, ?_⟩
        have n_ := Y2d (Yh (g := gb101) (o := .cells #[.int .i64 a0_0, .string a0_1, .slice A0_2 l0_2.length c0_2, .slice (some ad104) l0_3.length c0_3] 37 (0, 0)) QQ hb) (Y5 QB hb)
        clear BK101
        clear HB
        obtain ⟨BK101, HB⟩ := n_
        (try clear hb)
        (try clear hb2)
        (try clear hk)
        (try clear hi)
        refine hK.out _ _ ⟨(Y2 BK101.out 0).trans rfl, (Y2 BK101.out 1).trans rfl, (Y2 BK101.out 2).trans rfl, (Y2 BK101.out 3).trans rfl, ((HB.out.cell (World.block_lt_of_cell? w _ hw104_0)).trans hw104_0), ((HB.out.cell (World.block_lt_of_cell? w _ hw104_1)).trans hw104_1), ((HB.out.cell (World.block_lt_of_cell? w _ hw104_2)).trans hw104_2), ((HB.out.cell (World.block_lt_of_cell? w _ hw104_3)).trans hw104_3), ((HB.out.cell (World.block_lt_of_cell? w _ hw106_0)).trans hw106_0), ((HB.out.cell (World.block_lt_of_cell? w _ hw106_1)).trans hw106_1), ((HB.out.cell (World.block_lt_of_cell? w _ hw106_2)).trans hw106_2), ((HB.out.cell (World.block_lt_of_cell? w _ hw106_3)).trans hw106_3)⟩ (fun hHeld => ?_)
        clear hK K
        refine Y1w (a' := ?_) ?_ ?_
        rotate_left
        ·show Act.put _ (some 25) _ = _
         simp only [Act.put, List.setIfInBounds_toArray, List.set_cons_zero, List.set_cons_succ, Y11, Y18]
         rfl
        refine pY 5 26 Y3W ?_
        refine Y23 (i := 10) (N := some 31) Y3X rfl rfl (Y1f HT_.out Z4) (by decide) (fun K hK => ?_)
        refine Y1G Tryd.func50 Z4 rfl #[.agg #[.int .i64 ((Y1 l0_3 1).f0), .string ((Y1 l0_3 1).f1), .slice A106_2 ((Y1 l0_3 1).f2).length c106_2, .slice A106_3 ((Y1 l0_3 1).f3).length c106_3]] (by rfl) rfl rfl Z0 ?_
        with_reducible refine ((ih k (by omega)).2 ((Y1 l0_3 1).f0) ((Y1 l0_3 1).f1) _ _ ((Y1 l0_3 1).f2) _ _ ((Y1 l0_3 1).f3) t107 _ ?side1 ?side2 ?side3 ?side4 A19.out).mono ?_
        (case side1 => repeat (first | exact (Kd.C_below HR106_2.out HB.out) | (with_reducible refine Kd.C_alloc ?_ _) | (with_reducible refine Kd.C_drewN ?_ _) | (with_reducible refine Kd.C_drew ?_)))
        (case side2 => exact HC106_2.out)
        (case side3 => repeat (first | exact (Kd.C_below HR106_3.out HB.out) | (with_reducible refine Kd.C_alloc ?_ _) | (with_reducible refine Kd.C_drewN ?_ _) | (with_reducible refine Kd.C_drew ?_)))
        (case side4 => exact HC106_3.out)
        rintro e w25 ⟨rfl, hb⟩
        refine ⟨_, rfl, ?_⟩
        have n_ := Y2d (Yh (g := gb101) (o := .cells #[.int .i64 a0_0, .string a0_1, .slice A0_2 l0_2.length c0_2, .slice (some ad104) l0_3.length c0_3] 37 (0, 0)) QQ hb) (Y5 QB hb)
        clear BK101
        clear HB
        obtain ⟨BK101, HB⟩ := n_
        (try clear hb)
        (try clear hb2)
        (try clear hk)
        (try clear hi)
        refine hK.out _ _ ⟨(Y2 BK101.out 0).trans rfl, (Y2 BK101.out 1).trans rfl, (Y2 BK101.out 2).trans rfl, (Y2 BK101.out 3).trans rfl, ((HB.out.cell (World.block_lt_of_cell? w _ hw104_0)).trans hw104_0), ((HB.out.cell (World.block_lt_of_cell? w _ hw104_1)).trans hw104_1), ((HB.out.cell (World.block_lt_of_cell? w _ hw104_2)).trans hw104_2), ((HB.out.cell (World.block_lt_of_cell? w _ hw104_3)).trans hw104_3), ((HB.out.cell (World.block_lt_of_cell? w _ hw106_0)).trans hw106_0), ((HB.out.cell (World.block_lt_of_cell? w _ hw106_1)).trans hw106_1), ((HB.out.cell (World.block_lt_of_cell? w _ hw106_2)).trans hw106_2), ((HB.out.cell (World.block_lt_of_cell? w _ hw106_3)).trans hw106_3)⟩ (fun hHeld => ?_)
        clear hK K
        refine Y1w (a' := ?_) ?_ ?_
        rotate_left
        ·show Act.put _ (some 31) _ = _
         simp only [Act.put, List.setIfInBounds_toArray, List.set_cons_zero, List.set_cons_succ, Y11, Y18]
         rfl
        refine pY 11 32 Y3Y ?_
        refine pY 12 2 Y3f ?_
        refine Y1Q (Y1n HT_.out Z4) ?_
        try go_wp2
        go_ret
        exact Z1y
       ·rw [if_neg c20] at H
        exact Zt
      ·rw [if_neg c18] at H
       exact Zt
     ·rw [if_neg c17] at H
      exact Zt
    ·rw [if_neg c15] at H
     exact Zt
   ·rw [if_neg c14] at H
    have c14b0 : (a0_0 == 3) = false := beq_eq_false_iff_ne.mpr c14
    have c14b1 : (a0_0 != 3) = true := bne_iff_ne.mpr c14
    by_cases c26 : a0_0 = 4
    ·rw [if_pos c26] at H
     have c26b0 : (a0_0 == 4) = true := beq_iff_eq.mpr c26
     have c26b1 : (a0_0 != 4) = false := bne_eq_false_iff_eq.mpr c26
     clear c26
     by_cases c27 : 0 < (l0_3.length : Int)
     ·rw [if_pos c27] at H
      have c27b0 : decide (0 < (l0_3.length : Int)) = true := decide_eq_true c27
      have c27b1 : decide (0 < l0_3.length) = true := decide_eq_true (by omega)
      clear c27
      replace H := Option.bind_eq_some_iff.mp H
      obtain ⟨t109, A280, H⟩ := H
      replace H : (if t109.size + 1 ≤ 9223372036854775807 then (if 1 < (l0_3.length : Int) then ((Yq.f k ((Y1 l0_3 1).f0) ((Y1 l0_3 1).f1) ((Y1 l0_3 1).f2) ((Y1 l0_3 1).f3)).bind fun t111 => (if t109.size + 1 + t111.size ≤ 9223372036854775807 then (some ((t109 ++ (⟨#[124]⟩ : ByteArray)) ++ t111)) else (none))) else (none)) else (none)) = some r := H
      have A28 := Y0.mk A280
      clear A280
      by_cases c29 : t109.size + 1 ≤ 9223372036854775807
      ·rw [if_pos c29] at H
       have c29b0 := eq_true c29
       have c29b1 : decide (t109.size + 1 ≤ 9223372036854775807) = true := decide_eq_true c29
       try have c29b2 : (9223372036854775807 < t109.size + 1) = False := eq_false (Nat.not_lt.2 c29)
       by_cases c30 : 1 < (l0_3.length : Int)
       ·rw [if_pos c30] at H
        have c30b0 : decide (1 < (l0_3.length : Int)) = true := decide_eq_true c30
        have c30b1 : decide (1 < l0_3.length) = true := decide_eq_true (by omega)
        clear c30
        replace H := Option.bind_eq_some_iff.mp H
        obtain ⟨t111, A310, H⟩ := H
        replace H : (if t109.size + 1 + t111.size ≤ 9223372036854775807 then (some ((t109 ++ (⟨#[124]⟩ : ByteArray)) ++ t111)) else (none)) = some r := H
        have A31 := Y0.mk A310
        clear A310
        by_cases c32 : t109.size + 1 + t111.size ≤ 9223372036854775807
        ·rw [if_pos c32] at H
         have c32b0 := eq_true c32
         have c32b1 : decide (t109.size + 1 + t111.size ≤ 9223372036854775807) = true := decide_eq_true c32
         try have c32b2 : (9223372036854775807 < t109.size + 1 + t111.size) = False := eq_false (Nat.not_lt.2 c32)
         obtain rfl := Option.some.inj H
         go_enter Tryd.func24, Tryd.ntmps24
         try go_wp2_with (first | ((with_reducible refine Ym (N := 1) rfl ?_); refine Yl ?hg (N := 1) ?hd (cs := #[.int .i64 a0_0, .string a0_1, .slice A0_2 l0_2.length c0_2, .slice A0_3 l0_3.length c0_3]) (t := 37) ?hr ?_; (case hd => rfl); (case hg => rfl); (case hr => exact Z6); intro gb101 hg w33 hbox hb; have n_ := Y1T (Y5 QB hb) (hbox) ((by rw [hg]; exact (Y6 QB) : w.heap.size ≤ gb101)) ((by rw [hg]; exact (Y6 QB) : w.heap.size ≤ gb101)); clear HB; obtain ⟨HB, BK101, GW101, GE101⟩ := n_; clear hb hbox hg; obtain ⟨hcz34_0, hcz34_1, hcz34_2, hcz34_3, hfz34_0, hfz34_1, hfz34_2, hfz34_3⟩ := Yt BK101.out))
         have n_ := Y2d (Y8 BK101.out) (YI HB.out)
         clear BK101
         clear HB
         obtain ⟨BK101, HB⟩ := n_
         have p108 : 0 ≤ (0 : Int) := (by omega)
         have q108 : 0 < (l0_3.length : Int) := of_decide_eq_true Z5
         obtain ⟨ad108, A108_2, c108_2, A108_3, c108_3, e108, hx108_0, hx108_1, hx108_2, hx108_3, hl108_2, hi108_2, hl108_3, hi108_3⟩ := Y1x HR0_3.out 0 p108 q108
         have hw108_3 := hx108_3
         (try rw [show ((0 : Int)).toNat = 0 from rfl] at hw108_3)
         (try rw [show 0 * 4 = 0 from rfl] at hw108_3)
         (try rw [Addr.add_zero'] at hw108_3)
         have hw108_2 := hx108_2
         (try rw [show ((0 : Int)).toNat = 0 from rfl] at hw108_2)
         (try rw [show 0 * 4 = 0 from rfl] at hw108_2)
         (try rw [Addr.add_zero'] at hw108_2)
         have hw108_1 := hx108_1
         (try rw [show ((0 : Int)).toNat = 0 from rfl] at hw108_1)
         (try rw [show 0 * 4 = 0 from rfl] at hw108_1)
         (try rw [Addr.add_zero'] at hw108_1)
         have hw108_0 := hx108_0
         (try rw [show ((0 : Int)).toNat = 0 from rfl] at hw108_0)
         (try rw [show 0 * 4 = 0 from rfl] at hw108_0)
         (try rw [Addr.add_zero'] at hw108_0)
         cases e108
         have qi108 : (0 < l0_3.length) = True := eq_true (by omega)
         (try rw [show ((0 : Int)).toNat = 0 from rfl] at hx108_0)
         (try rw [show 0 * 4 = 0 from rfl] at hx108_0)
         (try rw [Addr.add_zero'] at hx108_0)
         (try rw [show ((0 : Int)).toNat = 0 from rfl] at hx108_1)
         (try rw [show 0 * 4 = 0 from rfl] at hx108_1)
         (try rw [Addr.add_zero'] at hx108_1)
         (try rw [show ((0 : Int)).toNat = 0 from rfl] at hx108_2)
         (try rw [show 0 * 4 = 0 from rfl] at hx108_2)
         (try rw [Addr.add_zero'] at hx108_2)
         (try rw [show ((0 : Int)).toNat = 0 from rfl] at hx108_3)
         (try rw [show 0 * 4 = 0 from rfl] at hx108_3)
         (try rw [Addr.add_zero'] at hx108_3)
         replace hx108_0 := YM HB.out hx108_0
         replace hx108_1 := YM HB.out hx108_1
         replace hx108_2 := YM HB.out hx108_2
         replace hx108_3 := YM HB.out hx108_3
         have HR108_2 := Y0.mk hi108_2
         have HC108_2 := Y0.mk hl108_2
         clear hi108_2 hl108_2
         have HR108_3 := Y0.mk hi108_3
         have HC108_3 := Y0.mk hl108_3
         clear hi108_3 hl108_3
         replace p108 := eq_true p108
         replace q108 := eq_true q108
         have p110 : 0 ≤ (1 : Int) := (by omega)
         have q110 : 1 < (l0_3.length : Int) := of_decide_eq_true Z5
         obtain ⟨ad110, A110_2, c110_2, A110_3, c110_3, e110, hx110_0, hx110_1, hx110_2, hx110_3, hl110_2, hi110_2, hl110_3, hi110_3⟩ := Y1x HR0_3.out 1 p110 q110
         have hw110_3 := hx110_3
         (try rw [show ((1 : Int)).toNat = 1 from rfl] at hw110_3)
         (try rw [show 1 * 4 = 4 from rfl] at hw110_3)
         (try simp only [Nat.reduceMul, Nat.reduceEqDiff, Go.Addr.add, ↓reduceIte] at hw110_3)
         have hw110_2 := hx110_2
         (try rw [show ((1 : Int)).toNat = 1 from rfl] at hw110_2)
         (try rw [show 1 * 4 = 4 from rfl] at hw110_2)
         (try simp only [Nat.reduceMul, Nat.reduceEqDiff, Go.Addr.add, ↓reduceIte] at hw110_2)
         have hw110_1 := hx110_1
         (try rw [show ((1 : Int)).toNat = 1 from rfl] at hw110_1)
         (try rw [show 1 * 4 = 4 from rfl] at hw110_1)
         (try simp only [Nat.reduceMul, Nat.reduceEqDiff, Go.Addr.add, ↓reduceIte] at hw110_1)
         have hw110_0 := hx110_0
         (try rw [show ((1 : Int)).toNat = 1 from rfl] at hw110_0)
         (try rw [show 1 * 4 = 4 from rfl] at hw110_0)
         (try simp only [Nat.reduceMul, Nat.reduceEqDiff, Go.Addr.add, ↓reduceIte] at hw110_0)
         obtain rfl : ad108 = ad110 := (by injection e110)
         (try simp only [show (1 : Int).toNat = 1 from rfl, Nat.reduceMul, Nat.reduceEqDiff, Go.Addr.add, ↓reduceIte] at hx110_0)
         (try simp only [show (1 : Int).toNat = 1 from rfl, Nat.reduceMul, Nat.reduceEqDiff, Go.Addr.add, ↓reduceIte] at hx110_1)
         (try simp only [show (1 : Int).toNat = 1 from rfl, Nat.reduceMul, Nat.reduceEqDiff, Go.Addr.add, ↓reduceIte] at hx110_2)
         (try simp only [show (1 : Int).toNat = 1 from rfl, Nat.reduceMul, Nat.reduceEqDiff, Go.Addr.add, ↓reduceIte] at hx110_3)
         have qi110 : (1 < l0_3.length) = True := eq_true (by omega)
         (try rw [show ((1 : Int)).toNat = 1 from rfl] at hx110_0)
         (try rw [show 1 * 4 = 4 from rfl] at hx110_0)
         (try rw [show ((1 : Int)).toNat = 1 from rfl] at hx110_1)
         (try rw [show 1 * 4 = 4 from rfl] at hx110_1)
         (try rw [show ((1 : Int)).toNat = 1 from rfl] at hx110_2)
         (try rw [show 1 * 4 = 4 from rfl] at hx110_2)
         (try rw [show ((1 : Int)).toNat = 1 from rfl] at hx110_3)
         (try rw [show 1 * 4 = 4 from rfl] at hx110_3)
         replace hx110_0 := YM HB.out hx110_0
         replace hx110_1 := YM HB.out hx110_1
         replace hx110_2 := YM HB.out hx110_2
         replace hx110_3 := YM HB.out hx110_3
         have HR110_2 := Y0.mk hi110_2
         have HC110_2 := Y0.mk hl110_2
         clear hi110_2 hl110_2
         have HR110_3 := Y0.mk hi110_3
         have HC110_3 := Y0.mk hl110_3
         clear hi110_3 hl110_3
         replace p110 := eq_true p110
         replace q110 := eq_true q110
         refine Y1v (n := 13) (S := fun w' => w'.cell? ⟨gb101, 0, none⟩ = some (.int .i64 a0_0) ∧ w'.cell? ⟨gb101, 1, none⟩ = some (.string a0_1) ∧ w'.cell? ⟨gb101, 2, none⟩ = some (.slice A0_2 l0_2.length c0_2) ∧ w'.cell? ⟨gb101, 3, none⟩ = some (.slice (some ad108) l0_3.length c0_3) ∧ w'.cell? ad108 = some (.int .i64 ((Y1 l0_3 0).f0)) ∧ w'.cell? ⟨ad108.block, ad108.off + 1, none⟩ = some (.string ((Y1 l0_3 0).f1)) ∧ w'.cell? ⟨ad108.block, ad108.off + 2, none⟩ = some (.slice A108_2 ((Y1 l0_3 0).f2).length c108_2) ∧ w'.cell? ⟨ad108.block, ad108.off + 3, none⟩ = some (.slice A108_3 ((Y1 l0_3 0).f3).length c108_3) ∧ w'.cell? ⟨ad108.block, ad108.off + 4, none⟩ = some (.int .i64 ((Y1 l0_3 1).f0)) ∧ w'.cell? ⟨ad108.block, ad108.off + 4 + 1, none⟩ = some (.string ((Y1 l0_3 1).f1)) ∧ w'.cell? ⟨ad108.block, ad108.off + 4 + 2, none⟩ = some (.slice A110_2 ((Y1 l0_3 1).f2).length c110_2) ∧ w'.cell? ⟨ad108.block, ad108.off + 4 + 3, none⟩ = some (.slice A110_3 ((Y1 l0_3 1).f3).length c110_3)) (ds := []) bz13_0 Z4 rfl rfl ⟨(Y2 BK101.out 0).trans rfl, (Y2 BK101.out 1).trans rfl, (Y2 BK101.out 2).trans rfl, (Y2 BK101.out 3).trans rfl, ((HB.out.cell (World.block_lt_of_cell? w _ hw108_0)).trans hw108_0), ((HB.out.cell (World.block_lt_of_cell? w _ hw108_1)).trans hw108_1), ((HB.out.cell (World.block_lt_of_cell? w _ hw108_2)).trans hw108_2), ((HB.out.cell (World.block_lt_of_cell? w _ hw108_3)).trans hw108_3), ((HB.out.cell (World.block_lt_of_cell? w _ hw110_0)).trans hw110_0), ((HB.out.cell (World.block_lt_of_cell? w _ hw110_1)).trans hw110_1), ((HB.out.cell (World.block_lt_of_cell? w _ hw110_2)).trans hw110_2), ((HB.out.cell (World.block_lt_of_cell? w _ hw110_3)).trans hw110_3)⟩ (fun hHeld => ?_); refine YT Yu.tab9 Yu.bits9 (fun HT_ HW_ => ?_)
         generalize w33.drew = w35 at BK101 HB HR108_2 HR108_3 HR110_2 HR110_3 hx108_0 hx108_1 hx108_2 hx108_3 hx110_0 hx110_1 hx110_2 hx110_3 hHeld ⊢
         refine pY 0 35 bz13_1 ?_
         refine pY 6 41 bz13_41 ?_
         refine pT 1 36 bz13_43 ?_
         refine pY 2 37 bz13_47 ?_
         refine pT 3 38 bz13_4f ?_
         refine pT 7 42 bz13_cf ?_
         refine pY 8 43 Y3T ?_
         refine pT 9 44 Y3U ?_
         refine Y23 (i := 4) (N := some 39) Y3V rfl rfl (Y1f HT_.out Z4) (by decide) (fun K hK => ?_)
         refine Y1G Tryd.func50 Z4 rfl #[.agg #[.int .i64 ((Y1 l0_3 0).f0), .string ((Y1 l0_3 0).f1), .slice A108_2 ((Y1 l0_3 0).f2).length c108_2, .slice A108_3 ((Y1 l0_3 0).f3).length c108_3]] (by rfl) rfl rfl Z0 ?_
         with_reducible refine ((ih k (by omega)).2 ((Y1 l0_3 0).f0) ((Y1 l0_3 0).f1) _ _ ((Y1 l0_3 0).f2) _ _ ((Y1 l0_3 0).f3) t109 _ ?side1 ?side2 ?side3 ?side4 A28.out).mono ?_
         (case side1 => repeat (first | exact (Kd.C_below HR108_2.out HB.out) | (with_reducible refine Kd.C_alloc ?_ _) | (with_reducible refine Kd.C_drewN ?_ _) | (with_reducible refine Kd.C_drew ?_)))
         (case side2 => exact HC108_2.out)
         (case side3 => repeat (first | exact (Kd.C_below HR108_3.out HB.out) | (with_reducible refine Kd.C_alloc ?_ _) | (with_reducible refine Kd.C_drewN ?_ _) | (with_reducible refine Kd.C_drew ?_)))
         (case side4 => exact HC108_3.out)
         rintro e w36 ⟨rfl, hb⟩
         refine ⟨_, rfl, ?_⟩
         have n_ := Y2d (Yh (g := gb101) (o := .cells #[.int .i64 a0_0, .string a0_1, .slice A0_2 l0_2.length c0_2, .slice (some ad108) l0_3.length c0_3] 37 (0, 0)) QQ hb) (Y5 QB hb)
         clear BK101
         clear HB
         obtain ⟨BK101, HB⟩ := n_
         (try clear hb)
         (try clear hb2)
         (try clear hk)
         (try clear hi)
         refine hK.out _ _ ⟨(Y2 BK101.out 0).trans rfl, (Y2 BK101.out 1).trans rfl, (Y2 BK101.out 2).trans rfl, (Y2 BK101.out 3).trans rfl, ((HB.out.cell (World.block_lt_of_cell? w _ hw108_0)).trans hw108_0), ((HB.out.cell (World.block_lt_of_cell? w _ hw108_1)).trans hw108_1), ((HB.out.cell (World.block_lt_of_cell? w _ hw108_2)).trans hw108_2), ((HB.out.cell (World.block_lt_of_cell? w _ hw108_3)).trans hw108_3), ((HB.out.cell (World.block_lt_of_cell? w _ hw110_0)).trans hw110_0), ((HB.out.cell (World.block_lt_of_cell? w _ hw110_1)).trans hw110_1), ((HB.out.cell (World.block_lt_of_cell? w _ hw110_2)).trans hw110_2), ((HB.out.cell (World.block_lt_of_cell? w _ hw110_3)).trans hw110_3)⟩ (fun hHeld => ?_)
         clear hK K
         refine Y1w (a' := ?_) ?_ ?_
         rotate_left
         ·show Act.put _ (some 39) _ = _
          simp only [Act.put, List.setIfInBounds_toArray, List.set_cons_zero, List.set_cons_succ, Y11, Y18]
          rfl
         refine pY 5 40 Y3W ?_
         refine Y23 (i := 10) (N := some 45) Y3X rfl rfl (Y1f HT_.out Z4) (by decide) (fun K hK => ?_)
         refine Y1G Tryd.func50 Z4 rfl #[.agg #[.int .i64 ((Y1 l0_3 1).f0), .string ((Y1 l0_3 1).f1), .slice A110_2 ((Y1 l0_3 1).f2).length c110_2, .slice A110_3 ((Y1 l0_3 1).f3).length c110_3]] (by rfl) rfl rfl Z0 ?_
         with_reducible refine ((ih k (by omega)).2 ((Y1 l0_3 1).f0) ((Y1 l0_3 1).f1) _ _ ((Y1 l0_3 1).f2) _ _ ((Y1 l0_3 1).f3) t111 _ ?side1 ?side2 ?side3 ?side4 A31.out).mono ?_
         (case side1 => repeat (first | exact (Kd.C_below HR110_2.out HB.out) | (with_reducible refine Kd.C_alloc ?_ _) | (with_reducible refine Kd.C_drewN ?_ _) | (with_reducible refine Kd.C_drew ?_)))
         (case side2 => exact HC110_2.out)
         (case side3 => repeat (first | exact (Kd.C_below HR110_3.out HB.out) | (with_reducible refine Kd.C_alloc ?_ _) | (with_reducible refine Kd.C_drewN ?_ _) | (with_reducible refine Kd.C_drew ?_)))
         (case side4 => exact HC110_3.out)
         rintro e w37 ⟨rfl, hb⟩
         refine ⟨_, rfl, ?_⟩
         have n_ := Y2d (Yh (g := gb101) (o := .cells #[.int .i64 a0_0, .string a0_1, .slice A0_2 l0_2.length c0_2, .slice (some ad108) l0_3.length c0_3] 37 (0, 0)) QQ hb) (Y5 QB hb)
         clear BK101
         clear HB
         obtain ⟨BK101, HB⟩ := n_
         (try clear hb)
         (try clear hb2)
         (try clear hk)
         (try clear hi)
         refine hK.out _ _ ⟨(Y2 BK101.out 0).trans rfl, (Y2 BK101.out 1).trans rfl, (Y2 BK101.out 2).trans rfl, (Y2 BK101.out 3).trans rfl, ((HB.out.cell (World.block_lt_of_cell? w _ hw108_0)).trans hw108_0), ((HB.out.cell (World.block_lt_of_cell? w _ hw108_1)).trans hw108_1), ((HB.out.cell (World.block_lt_of_cell? w _ hw108_2)).trans hw108_2), ((HB.out.cell (World.block_lt_of_cell? w _ hw108_3)).trans hw108_3), ((HB.out.cell (World.block_lt_of_cell? w _ hw110_0)).trans hw110_0), ((HB.out.cell (World.block_lt_of_cell? w _ hw110_1)).trans hw110_1), ((HB.out.cell (World.block_lt_of_cell? w _ hw110_2)).trans hw110_2), ((HB.out.cell (World.block_lt_of_cell? w _ hw110_3)).trans hw110_3)⟩ (fun hHeld => ?_)
         clear hK K
         refine Y1w (a' := ?_) ?_ ?_
         rotate_left
         ·show Act.put _ (some 45) _ = _
          simp only [Act.put, List.setIfInBounds_toArray, List.set_cons_zero, List.set_cons_succ, Y11, Y18]
          rfl
         refine pY 11 46 Y3Y ?_
         refine pY 12 2 Y3f ?_
         refine Y1Q (Y1n HT_.out Z4) ?_
         try go_wp2
         go_ret
         exact Z1y
        ·rw [if_neg c32] at H
         exact Zt
       ·rw [if_neg c30] at H
        exact Zt
      ·rw [if_neg c29] at H
       exact Zt
     ·rw [if_neg c27] at H
      exact Zt
    ·rw [if_neg c26] at H
     have c26b0 : (a0_0 == 4) = false := beq_eq_false_iff_ne.mpr c26
     have c26b1 : (a0_0 != 4) = true := bne_iff_ne.mpr c26
     by_cases c38 : a0_0 = 5
     ·rw [if_pos c38] at H
      have c38b0 : (a0_0 == 5) = true := beq_iff_eq.mpr c38
      have c38b1 : (a0_0 != 5) = false := bne_eq_false_iff_eq.mpr c38
      clear c38
      by_cases c39 : 0 < (l0_3.length : Int)
      ·rw [if_pos c39] at H
       have c39b0 : decide (0 < (l0_3.length : Int)) = true := decide_eq_true c39
       have c39b1 : decide (0 < l0_3.length) = true := decide_eq_true (by omega)
       clear c39
       replace H := Option.bind_eq_some_iff.mp H
       obtain ⟨t113, A400, H⟩ := H
       replace H : (if t113.size + 1 ≤ 9223372036854775807 then (some (t113 ++ (⟨#[42]⟩ : ByteArray))) else (none)) = some r := H
       have A40 := Y0.mk A400
       clear A400
       by_cases c41 : t113.size + 1 ≤ 9223372036854775807
       ·rw [if_pos c41] at H
        have c41b0 := eq_true c41
        have c41b1 : decide (t113.size + 1 ≤ 9223372036854775807) = true := decide_eq_true c41
        try have c41b2 : (9223372036854775807 < t113.size + 1) = False := eq_false (Nat.not_lt.2 c41)
        obtain rfl := Option.some.inj H
        go_enter Tryd.func24, Tryd.ntmps24
        go_wp2_with (first | ((with_reducible refine Ym (N := 1) rfl ?_); refine Yl ?hg (N := 1) ?hd (cs := #[.int .i64 a0_0, .string a0_1, .slice A0_2 l0_2.length c0_2, .slice A0_3 l0_3.length c0_3]) (t := 37) ?hr ?_; (case hd => rfl); (case hg => rfl); (case hr => exact Z6); intro gb101 hg w42 hbox hb; have n_ := Y1T (Y5 QB hb) (hbox) ((by rw [hg]; exact (Y6 QB) : w.heap.size ≤ gb101)) ((by rw [hg]; exact (Y6 QB) : w.heap.size ≤ gb101)); clear HB; obtain ⟨HB, BK101, GW101, GE101⟩ := n_; clear hb hbox hg; obtain ⟨hcz43_0, hcz43_1, hcz43_2, hcz43_3, hfz43_0, hfz43_1, hfz43_2, hfz43_3⟩ := Yt BK101.out; have p112 : 0 ≤ (0 : Int) := (by omega); have q112 : 0 < (l0_3.length : Int) := of_decide_eq_true Z5; obtain ⟨ad112, A112_2, c112_2, A112_3, c112_3, e112, hx112_0, hx112_1, hx112_2, hx112_3, hl112_2, hi112_2, hl112_3, hi112_3⟩ := Y1x HR0_3.out 0 p112 q112; cases e112; have qi112 : (0 < l0_3.length) = True := eq_true (by omega); (try rw [show ((0 : Int)).toNat = 0 from rfl] at hx112_0 hx112_1 hx112_2 hx112_3); (try rw [show 0 * 4 = 0 from rfl] at hx112_0 hx112_1 hx112_2 hx112_3); (try rw [Addr.add_zero'] at hx112_0 hx112_1 hx112_2 hx112_3); replace hx112_0 := YM HB.out hx112_0; replace hx112_1 := YM HB.out hx112_1; replace hx112_2 := YM HB.out hx112_2; replace hx112_3 := YM HB.out hx112_3; have HR112_2 := Y0.mk hi112_2; have HC112_2 := Y0.mk hl112_2; clear hi112_2 hl112_2; have HR112_3 := Y0.mk hi112_3; have HC112_3 := Y0.mk hl112_3; clear hi112_3 hl112_3; replace p112 := eq_true p112; replace q112 := eq_true q112) | ((with_reducible refine Yg (f := 50) rfl ?_); refine YG (some 53) rfl rfl Tryd.func50 Z4 rfl #[.agg #[.int .i64 ((Y1 l0_3 0).f0), .string ((Y1 l0_3 0).f1), .slice A112_2 ((Y1 l0_3 0).f2).length c112_2, .slice A112_3 ((Y1 l0_3 0).f3).length c112_3]] rfl Z0 ?_; (with_reducible refine ((ih k (by omega)).2 ((Y1 l0_3 0).f0) ((Y1 l0_3 0).f1) _ _ ((Y1 l0_3 0).f2) _ _ ((Y1 l0_3 0).f3) t113 _ ?side1 ?side2 ?side3 ?side4 A40.out).mono ?_); (case side1 => repeat (first | exact (Kd.C_below HR112_2.out HB.out) | (with_reducible refine Kd.C_alloc ?_ _) | (with_reducible refine Kd.C_drewN ?_ _) | (with_reducible refine Kd.C_drew ?_))); (case side2 => exact HC112_2.out); (case side3 => repeat (first | exact (Kd.C_below HR112_3.out HB.out) | (with_reducible refine Kd.C_alloc ?_ _) | (with_reducible refine Kd.C_drewN ?_ _) | (with_reducible refine Kd.C_drew ?_))); (case side4 => exact HC112_3.out); rintro e w44 ⟨rfl, hb⟩; refine ⟨_, rfl, ?_⟩; have n_ := Y2d (Yh (g := gb101) (o := .cells #[.int .i64 a0_0, .string a0_1, .slice A0_2 l0_2.length c0_2, .slice (some ad112) l0_3.length c0_3] 37 (0, 0)) QQ hb) (Y5 QB hb); clear BK101 HB; obtain ⟨BK101, HB⟩ := n_; (try clear hb); (try clear hb2); (try clear hk); (try clear hi)))
        go_ret
        exact Z1y
       ·rw [if_neg c41] at H
        exact Zt
      ·rw [if_neg c39] at H
       exact Zt
     ·rw [if_neg c38] at H
      have c38b0 : (a0_0 == 5) = false := beq_eq_false_iff_ne.mpr c38
      have c38b1 : (a0_0 != 5) = true := bne_iff_ne.mpr c38
      by_cases c45 : a0_0 = 6
      ·rw [if_pos c45] at H
       have c45b0 : (a0_0 == 6) = true := beq_iff_eq.mpr c45
       have c45b1 : (a0_0 != 6) = false := bne_eq_false_iff_eq.mpr c45
       clear c45
       by_cases c46 : 0 < (l0_3.length : Int)
       ·rw [if_pos c46] at H
        have c46b0 : decide (0 < (l0_3.length : Int)) = true := decide_eq_true c46
        have c46b1 : decide (0 < l0_3.length) = true := decide_eq_true (by omega)
        clear c46
        replace H := Option.bind_eq_some_iff.mp H
        obtain ⟨t115, A470, H⟩ := H
        replace H : (if t115.size + 1 ≤ 9223372036854775807 then (some (t115 ++ (⟨#[43]⟩ : ByteArray))) else (none)) = some r := H
        have A47 := Y0.mk A470
        clear A470
        by_cases c48 : t115.size + 1 ≤ 9223372036854775807
        ·rw [if_pos c48] at H
         have c48b0 := eq_true c48
         have c48b1 : decide (t115.size + 1 ≤ 9223372036854775807) = true := decide_eq_true c48
         try have c48b2 : (9223372036854775807 < t115.size + 1) = False := eq_false (Nat.not_lt.2 c48)
         obtain rfl := Option.some.inj H
         go_enter Tryd.func24, Tryd.ntmps24
         go_wp2_with (first | ((with_reducible refine Ym (N := 1) rfl ?_); refine Yl ?hg (N := 1) ?hd (cs := #[.int .i64 a0_0, .string a0_1, .slice A0_2 l0_2.length c0_2, .slice A0_3 l0_3.length c0_3]) (t := 37) ?hr ?_; (case hd => rfl); (case hg => rfl); (case hr => exact Z6); intro gb101 hg w49 hbox hb; have n_ := Y1T (Y5 QB hb) (hbox) ((by rw [hg]; exact (Y6 QB) : w.heap.size ≤ gb101)) ((by rw [hg]; exact (Y6 QB) : w.heap.size ≤ gb101)); clear HB; obtain ⟨HB, BK101, GW101, GE101⟩ := n_; clear hb hbox hg; obtain ⟨hcz50_0, hcz50_1, hcz50_2, hcz50_3, hfz50_0, hfz50_1, hfz50_2, hfz50_3⟩ := Yt BK101.out; have p114 : 0 ≤ (0 : Int) := (by omega); have q114 : 0 < (l0_3.length : Int) := of_decide_eq_true Z5; obtain ⟨ad114, A114_2, c114_2, A114_3, c114_3, e114, hx114_0, hx114_1, hx114_2, hx114_3, hl114_2, hi114_2, hl114_3, hi114_3⟩ := Y1x HR0_3.out 0 p114 q114; cases e114; have qi114 : (0 < l0_3.length) = True := eq_true (by omega); (try rw [show ((0 : Int)).toNat = 0 from rfl] at hx114_0 hx114_1 hx114_2 hx114_3); (try rw [show 0 * 4 = 0 from rfl] at hx114_0 hx114_1 hx114_2 hx114_3); (try rw [Addr.add_zero'] at hx114_0 hx114_1 hx114_2 hx114_3); replace hx114_0 := YM HB.out hx114_0; replace hx114_1 := YM HB.out hx114_1; replace hx114_2 := YM HB.out hx114_2; replace hx114_3 := YM HB.out hx114_3; have HR114_2 := Y0.mk hi114_2; have HC114_2 := Y0.mk hl114_2; clear hi114_2 hl114_2; have HR114_3 := Y0.mk hi114_3; have HC114_3 := Y0.mk hl114_3; clear hi114_3 hl114_3; replace p114 := eq_true p114; replace q114 := eq_true q114) | ((with_reducible refine Yg (f := 50) rfl ?_); refine YG (some 61) rfl rfl Tryd.func50 Z4 rfl #[.agg #[.int .i64 ((Y1 l0_3 0).f0), .string ((Y1 l0_3 0).f1), .slice A114_2 ((Y1 l0_3 0).f2).length c114_2, .slice A114_3 ((Y1 l0_3 0).f3).length c114_3]] rfl Z0 ?_; (with_reducible refine ((ih k (by omega)).2 ((Y1 l0_3 0).f0) ((Y1 l0_3 0).f1) _ _ ((Y1 l0_3 0).f2) _ _ ((Y1 l0_3 0).f3) t115 _ ?side1 ?side2 ?side3 ?side4 A47.out).mono ?_); (case side1 => repeat (first | exact (Kd.C_below HR114_2.out HB.out) | (with_reducible refine Kd.C_alloc ?_ _) | (with_reducible refine Kd.C_drewN ?_ _) | (with_reducible refine Kd.C_drew ?_))); (case side2 => exact HC114_2.out); (case side3 => repeat (first | exact (Kd.C_below HR114_3.out HB.out) | (with_reducible refine Kd.C_alloc ?_ _) | (with_reducible refine Kd.C_drewN ?_ _) | (with_reducible refine Kd.C_drew ?_))); (case side4 => exact HC114_3.out); rintro e w51 ⟨rfl, hb⟩; refine ⟨_, rfl, ?_⟩; have n_ := Y2d (Yh (g := gb101) (o := .cells #[.int .i64 a0_0, .string a0_1, .slice A0_2 l0_2.length c0_2, .slice (some ad114) l0_3.length c0_3] 37 (0, 0)) QQ hb) (Y5 QB hb); clear BK101 HB; obtain ⟨BK101, HB⟩ := n_; (try clear hb); (try clear hb2); (try clear hk); (try clear hi)))
         go_ret
         exact Z1y
        ·rw [if_neg c48] at H
         exact Zt
       ·rw [if_neg c46] at H
        exact Zt
      ·rw [if_neg c45] at H
       have c45b0 : (a0_0 == 6) = false := beq_eq_false_iff_ne.mpr c45
       have c45b1 : (a0_0 != 6) = true := bne_iff_ne.mpr c45
       by_cases c52 : a0_0 = 7
       ·rw [if_pos c52] at H
        have c52b0 : (a0_0 == 7) = true := beq_iff_eq.mpr c52
        have c52b1 : (a0_0 != 7) = false := bne_eq_false_iff_eq.mpr c52
        clear c52
        by_cases c53 : 0 < (l0_3.length : Int)
        ·rw [if_pos c53] at H
         have c53b0 : decide (0 < (l0_3.length : Int)) = true := decide_eq_true c53
         have c53b1 : decide (0 < l0_3.length) = true := decide_eq_true (by omega)
         clear c53
         replace H := Option.bind_eq_some_iff.mp H
         obtain ⟨t117, A540, H⟩ := H
         replace H : (if t117.size + 1 ≤ 9223372036854775807 then (some (t117 ++ (⟨#[63]⟩ : ByteArray))) else (none)) = some r := H
         have A54 := Y0.mk A540
         clear A540
         by_cases c55 : t117.size + 1 ≤ 9223372036854775807
         ·rw [if_pos c55] at H
          have c55b0 := eq_true c55
          have c55b1 : decide (t117.size + 1 ≤ 9223372036854775807) = true := decide_eq_true c55
          try have c55b2 : (9223372036854775807 < t117.size + 1) = False := eq_false (Nat.not_lt.2 c55)
          obtain rfl := Option.some.inj H
          go_enter Tryd.func24, Tryd.ntmps24
          go_wp2_with (first | ((with_reducible refine Ym (N := 1) rfl ?_); refine Yl ?hg (N := 1) ?hd (cs := #[.int .i64 a0_0, .string a0_1, .slice A0_2 l0_2.length c0_2, .slice A0_3 l0_3.length c0_3]) (t := 37) ?hr ?_; (case hd => rfl); (case hg => rfl); (case hr => exact Z6); intro gb101 hg w56 hbox hb; have n_ := Y1T (Y5 QB hb) (hbox) ((by rw [hg]; exact (Y6 QB) : w.heap.size ≤ gb101)) ((by rw [hg]; exact (Y6 QB) : w.heap.size ≤ gb101)); clear HB; obtain ⟨HB, BK101, GW101, GE101⟩ := n_; clear hb hbox hg; obtain ⟨hcz57_0, hcz57_1, hcz57_2, hcz57_3, hfz57_0, hfz57_1, hfz57_2, hfz57_3⟩ := Yt BK101.out; have p116 : 0 ≤ (0 : Int) := (by omega); have q116 : 0 < (l0_3.length : Int) := of_decide_eq_true Z5; obtain ⟨ad116, A116_2, c116_2, A116_3, c116_3, e116, hx116_0, hx116_1, hx116_2, hx116_3, hl116_2, hi116_2, hl116_3, hi116_3⟩ := Y1x HR0_3.out 0 p116 q116; cases e116; have qi116 : (0 < l0_3.length) = True := eq_true (by omega); (try rw [show ((0 : Int)).toNat = 0 from rfl] at hx116_0 hx116_1 hx116_2 hx116_3); (try rw [show 0 * 4 = 0 from rfl] at hx116_0 hx116_1 hx116_2 hx116_3); (try rw [Addr.add_zero'] at hx116_0 hx116_1 hx116_2 hx116_3); replace hx116_0 := YM HB.out hx116_0; replace hx116_1 := YM HB.out hx116_1; replace hx116_2 := YM HB.out hx116_2; replace hx116_3 := YM HB.out hx116_3; have HR116_2 := Y0.mk hi116_2; have HC116_2 := Y0.mk hl116_2; clear hi116_2 hl116_2; have HR116_3 := Y0.mk hi116_3; have HC116_3 := Y0.mk hl116_3; clear hi116_3 hl116_3; replace p116 := eq_true p116; replace q116 := eq_true q116) | ((with_reducible refine Yg (f := 50) rfl ?_); refine YG (some 69) rfl rfl Tryd.func50 Z4 rfl #[.agg #[.int .i64 ((Y1 l0_3 0).f0), .string ((Y1 l0_3 0).f1), .slice A116_2 ((Y1 l0_3 0).f2).length c116_2, .slice A116_3 ((Y1 l0_3 0).f3).length c116_3]] rfl Z0 ?_; (with_reducible refine ((ih k (by omega)).2 ((Y1 l0_3 0).f0) ((Y1 l0_3 0).f1) _ _ ((Y1 l0_3 0).f2) _ _ ((Y1 l0_3 0).f3) t117 _ ?side1 ?side2 ?side3 ?side4 A54.out).mono ?_); (case side1 => repeat (first | exact (Kd.C_below HR116_2.out HB.out) | (with_reducible refine Kd.C_alloc ?_ _) | (with_reducible refine Kd.C_drewN ?_ _) | (with_reducible refine Kd.C_drew ?_))); (case side2 => exact HC116_2.out); (case side3 => repeat (first | exact (Kd.C_below HR116_3.out HB.out) | (with_reducible refine Kd.C_alloc ?_ _) | (with_reducible refine Kd.C_drewN ?_ _) | (with_reducible refine Kd.C_drew ?_))); (case side4 => exact HC116_3.out); rintro e w58 ⟨rfl, hb⟩; refine ⟨_, rfl, ?_⟩; have n_ := Y2d (Yh (g := gb101) (o := .cells #[.int .i64 a0_0, .string a0_1, .slice A0_2 l0_2.length c0_2, .slice (some ad116) l0_3.length c0_3] 37 (0, 0)) QQ hb) (Y5 QB hb); clear BK101 HB; obtain ⟨BK101, HB⟩ := n_; (try clear hb); (try clear hb2); (try clear hk); (try clear hi)))
          go_ret
          exact Z1y
         ·rw [if_neg c55] at H
          exact Zt
        ·rw [if_neg c53] at H
         exact Zt
       ·rw [if_neg c52] at H
        have c52b0 : (a0_0 == 7) = false := beq_eq_false_iff_ne.mpr c52
        have c52b1 : (a0_0 != 7) = true := bne_iff_ne.mpr c52
        replace H := Option.bind_eq_some_iff.mp H
        obtain ⟨t118, A590, H⟩ := H
        replace H : (if 3 + t118.size ≤ 9223372036854775807 then (if 3 + t118.size + 2 ≤ 9223372036854775807 then (some (((⟨#[33, 40, 60]⟩ : ByteArray) ++ t118) ++ (⟨#[62, 41]⟩ : ByteArray))) else (none)) else (none)) = some r := H
        have A59 := Y0.mk A590
        clear A590
        by_cases c60 : 3 + t118.size ≤ 9223372036854775807
        ·rw [if_pos c60] at H
         have c60b0 := eq_true c60
         have c60b1 : decide (3 + t118.size ≤ 9223372036854775807) = true := decide_eq_true c60
         try have c60b2 : (9223372036854775807 < 3 + t118.size) = False := eq_false (Nat.not_lt.2 c60)
         by_cases c61 : 3 + t118.size + 2 ≤ 9223372036854775807
         ·rw [if_pos c61] at H
          have c61b0 := eq_true c61
          have c61b1 : decide (3 + t118.size + 2 ≤ 9223372036854775807) = true := decide_eq_true c61
          try have c61b2 : (9223372036854775807 < 3 + t118.size + 2) = False := eq_false (Nat.not_lt.2 c61)
          obtain rfl := Option.some.inj H
          go_enter Tryd.func24, Tryd.ntmps24
          go_wp2_with (first | ((with_reducible refine Ym (N := 1) rfl ?_); refine Yl ?hg (N := 1) ?hd (cs := #[.int .i64 a0_0, .string a0_1, .slice A0_2 l0_2.length c0_2, .slice A0_3 l0_3.length c0_3]) (t := 37) ?hr ?_; (case hd => rfl); (case hg => rfl); (case hr => exact Z6); intro gb101 hg w62 hbox hb; have n_ := Y1T (Y5 QB hb) (hbox) ((by rw [hg]; exact (Y6 QB) : w.heap.size ≤ gb101)) ((by rw [hg]; exact (Y6 QB) : w.heap.size ≤ gb101)); clear HB; obtain ⟨HB, BK101, GW101, GE101⟩ := n_; clear hb hbox hg; obtain ⟨hcz63_0, hcz63_1, hcz63_2, hcz63_3, hfz63_0, hfz63_1, hfz63_2, hfz63_3⟩ := Yt BK101.out) | ((with_reducible refine Yg (f := 51) rfl ?_); refine YG (some 73) rfl rfl Tryd.func51 Z4 rfl #[.slice A0_2 l0_2.length c0_2, .string (⟨#[62, 124, 60]⟩ : ByteArray)] rfl Z0 ?_; (with_reducible refine (strings_Join.calls _ _ l0_2 (⟨#[62, 124, 60]⟩ : ByteArray) t118 _ ?side1 ?side2 A59.out).mono ?_); (case side1 => exact Ze); (case side2 => exact HC0_2.out); rintro e w64 ⟨rfl, hb⟩; refine ⟨_, rfl, ?_⟩; have n_ := Y2d (Yh (g := gb101) (o := .cells #[.int .i64 a0_0, .string a0_1, .slice A0_2 l0_2.length c0_2, .slice A0_3 l0_3.length c0_3] 37 (0, 0)) QQ hb) (Y5 QB hb); clear BK101 HB; obtain ⟨BK101, HB⟩ := n_; (try clear hb); (try clear hb2); (try clear hk); (try clear hi)))
          go_ret
          exact Z1y
         ·rw [if_neg c61] at H
          exact Zt
        ·rw [if_neg c60] at H
         exact Zt
set_option maxHeartbeats 8000000 in
set_option maxRecDepth 100000 in
theorem Yq.Y2w (k : Nat) (ih : ∀ j_ < k, Yu.Spec j_ ∧ Yq.Spec j_) : ∀ (a0_0 : Int) (a0_1 : ByteArray) (A0_2 : Option Addr) (c0_2 : Nat) (l0_2 : List ByteArray) (A0_3 : Option Addr) (c0_3 : Nat) (l0_3 : List (S37)) (r : ByteArray) (w : World) (hr0_2 : Kd.C Kd.string w A0_2 l0_2.length l0_2) (hc0_2 : l0_2.length ≤ c0_2) (hr0_3 : Kd.C k37 w A0_3 l0_3.length l0_3) (hc0_3 : l0_3.length ≤ c0_3) (h : Yq.f k a0_0 a0_1 l0_2 l0_3 = some r),
  Calls Tryd.prog 50 #[.agg #[.int .i64 a0_0, .string a0_1, .slice A0_2 l0_2.length c0_2, .slice A0_3 l0_3.length c0_3]] w fun e w' => e = .returned (.string r) ∧ Below w.heap.size w w' := by
 intro a0_0 a0_1 A0_2 c0_2 l0_2 A0_3 c0_3 l0_3 r w hr0_2 hc0_2 hr0_3 hc0_3 h
 cases k with
 | zero => exact absurd h (by simp [Yq.f])
 | succ k =>
 simp only [Yq.f] at h
 have hu37 := Tryd.underlying37
 have HR0_2 := Y0.mk hr0_2
 have HC0_2 := Y0.mk hc0_2
 clear hr0_2 hc0_2
 have HR0_3 := Y0.mk hr0_3
 have HC0_3 := Y0.mk hc0_3
 clear hr0_3 hc0_3
 have HB := Y0.mk (Below.refl w.heap.size w)
 have H : (if a0_0 = 1 then ((Yu.f k a0_0 a0_1 l0_2 l0_3).bind fun t120 => (some t120)) else ((Yu.f k a0_0 a0_1 l0_2 l0_3).bind fun t121 => (if 1 + t121.size ≤ 9223372036854775807 then (if 1 + t121.size + 1 ≤ 9223372036854775807 then (some (((⟨#[40]⟩ : ByteArray) ++ t121) ++ (⟨#[41]⟩ : ByteArray))) else (none)) else (none)))) = some r := h
 clear h
 by_cases c2 : a0_0 = 1
 ·rw [if_pos c2] at H
  have c2b0 : (a0_0 == 1) = true := beq_iff_eq.mpr c2
  have c2b1 : (a0_0 != 1) = false := bne_eq_false_iff_eq.mpr c2
  clear c2
  replace H := Option.bind_eq_some_iff.mp H
  obtain ⟨t120, A30, H⟩ := H
  replace H : (some t120) = some r := H
  have A3 := Y0.mk A30
  clear A30
  obtain rfl := Option.some.inj H
  go_enter Tryd.func50, Tryd.ntmps50
  go_wp2_with (first | ((with_reducible refine Ym (N := 1) rfl ?_); refine Yl ?hg (N := 1) ?hd (cs := #[.int .i64 a0_0, .string a0_1, .slice A0_2 l0_2.length c0_2, .slice A0_3 l0_3.length c0_3]) (t := 37) ?hr ?_; (case hd => rfl); (case hg => rfl); (case hr => exact Z6); intro gb119 hg w4 hbox hb; have n_ := Y1T (Y5 QB hb) (hbox) ((by rw [hg]; exact (Y6 QB) : w.heap.size ≤ gb119)) ((by rw [hg]; exact (Y6 QB) : w.heap.size ≤ gb119)); clear HB; obtain ⟨HB, BK119, GW119, GE119⟩ := n_; clear hb hbox hg; obtain ⟨hcz5_0, hcz5_1, hcz5_2, hcz5_3, hfz5_0, hfz5_1, hfz5_2, hfz5_3⟩ := Yt BK119.out) | ((with_reducible refine Yg (f := 24) rfl ?_); refine YG (some 7) rfl rfl Tryd.func24 Z4 rfl #[.agg #[.int .i64 a0_0, .string a0_1, .slice A0_2 l0_2.length c0_2, .slice A0_3 l0_3.length c0_3]] rfl Z0 ?_; (with_reducible refine ((ih k (by omega)).1 a0_0 a0_1 _ _ l0_2 _ _ l0_3 t120 _ ?side1 ?side2 ?side3 ?side4 A3.out).mono ?_); (case side1 => exact Ze); (case side2 => exact HC0_2.out); (case side3 => exact ZK); (case side4 => exact HC0_3.out); rintro e w6 ⟨rfl, hb⟩; refine ⟨_, rfl, ?_⟩; have n_ := Y2d (Yh (g := gb119) (o := .cells #[.int .i64 a0_0, .string a0_1, .slice A0_2 l0_2.length c0_2, .slice A0_3 l0_3.length c0_3] 37 (0, 0)) QQ hb) (Y5 QB hb); clear BK119 HB; obtain ⟨BK119, HB⟩ := n_; (try clear hb); (try clear hb2); (try clear hk); (try clear hi)))
  go_ret
  exact Z1y
 ·rw [if_neg c2] at H
  have c2b0 : (a0_0 == 1) = false := beq_eq_false_iff_ne.mpr c2
  have c2b1 : (a0_0 != 1) = true := bne_iff_ne.mpr c2
  replace H := Option.bind_eq_some_iff.mp H
  obtain ⟨t121, A70, H⟩ := H
  replace H : (if 1 + t121.size ≤ 9223372036854775807 then (if 1 + t121.size + 1 ≤ 9223372036854775807 then (some (((⟨#[40]⟩ : ByteArray) ++ t121) ++ (⟨#[41]⟩ : ByteArray))) else (none)) else (none)) = some r := H
  have A7 := Y0.mk A70
  clear A70
  by_cases c8 : 1 + t121.size ≤ 9223372036854775807
  ·rw [if_pos c8] at H
   have c8b0 := eq_true c8
   have c8b1 : decide (1 + t121.size ≤ 9223372036854775807) = true := decide_eq_true c8
   try have c8b2 : (9223372036854775807 < 1 + t121.size) = False := eq_false (Nat.not_lt.2 c8)
   by_cases c9 : 1 + t121.size + 1 ≤ 9223372036854775807
   ·rw [if_pos c9] at H
    have c9b0 := eq_true c9
    have c9b1 : decide (1 + t121.size + 1 ≤ 9223372036854775807) = true := decide_eq_true c9
    try have c9b2 : (9223372036854775807 < 1 + t121.size + 1) = False := eq_false (Nat.not_lt.2 c9)
    obtain rfl := Option.some.inj H
    go_enter Tryd.func50, Tryd.ntmps50
    go_wp2_with (first | ((with_reducible refine Ym (N := 1) rfl ?_); refine Yl ?hg (N := 1) ?hd (cs := #[.int .i64 a0_0, .string a0_1, .slice A0_2 l0_2.length c0_2, .slice A0_3 l0_3.length c0_3]) (t := 37) ?hr ?_; (case hd => rfl); (case hg => rfl); (case hr => exact Z6); intro gb119 hg w10 hbox hb; have n_ := Y1T (Y5 QB hb) (hbox) ((by rw [hg]; exact (Y6 QB) : w.heap.size ≤ gb119)) ((by rw [hg]; exact (Y6 QB) : w.heap.size ≤ gb119)); clear HB; obtain ⟨HB, BK119, GW119, GE119⟩ := n_; clear hb hbox hg; obtain ⟨hcz11_0, hcz11_1, hcz11_2, hcz11_3, hfz11_0, hfz11_1, hfz11_2, hfz11_3⟩ := Yt BK119.out) | ((with_reducible refine Yg (f := 24) rfl ?_); refine YG (some 9) rfl rfl Tryd.func24 Z4 rfl #[.agg #[.int .i64 a0_0, .string a0_1, .slice A0_2 l0_2.length c0_2, .slice A0_3 l0_3.length c0_3]] rfl Z0 ?_; (with_reducible refine ((ih k (by omega)).1 a0_0 a0_1 _ _ l0_2 _ _ l0_3 t121 _ ?side1 ?side2 ?side3 ?side4 A7.out).mono ?_); (case side1 => exact Ze); (case side2 => exact HC0_2.out); (case side3 => exact ZK); (case side4 => exact HC0_3.out); rintro e w12 ⟨rfl, hb⟩; refine ⟨_, rfl, ?_⟩; have n_ := Y2d (Yh (g := gb119) (o := .cells #[.int .i64 a0_0, .string a0_1, .slice A0_2 l0_2.length c0_2, .slice A0_3 l0_3.length c0_3] 37 (0, 0)) QQ hb) (Y5 QB hb); clear BK119 HB; obtain ⟨BK119, HB⟩ := n_; (try clear hb); (try clear hb2); (try clear hk); (try clear hi)))
    go_ret
    exact Z1y
   ·rw [if_neg c9] at H
    exact Zt
  ·rw [if_neg c8] at H
   exact Zt
theorem Yu.joint : ∀ k, Yu.Spec k ∧ Yq.Spec k := by
 intro k
 induction k using Nat.strongRecOn with
 | _ k ih => exact ⟨Yu.Y2w k ih, Yq.Y2w k ih⟩
theorem Yu.calls (k : Nat) : Yu.Spec k := (Yu.joint k).1
def YZ.f (k : Nat)  : Option (Bool) := (Yw.f k (⟨#[60, 97, 62, 47, 60, 98, 62, 124, 60, 99, 62, 42]⟩ : ByteArray)).bind fun bt101 => (if bt101.2.2.2.2.2 = 0 then (if bt101.2.2.2.2.1 = 12 then (if bt101.1 = 4 then ((Yu.f k bt101.1 bt101.2.1 bt101.2.2.1 bt101.2.2.2.1).bind fun t112 => (if t112.toList = ([40, 60, 97, 62, 47, 60, 98, 62, 41, 124, 40, 60, 99, 62, 42, 41] : List UInt8) then ((Y10.f k bt101.1 bt101.2.1 bt101.2.2.1 bt101.2.2.2.1).bind fun t113 => (some t113)) else (some false))) else (some false)) else (some false)) else (some false))
set_option maxHeartbeats 8000000 in
set_option maxRecDepth 100000 in
theorem YZ.calls (k : Nat)  (r : Bool) (w : World) (hT : Tabs w) (h : YZ.f k  = some r) :
  Calls Tryd.prog 27 #[] w fun e w' => e = .returned (.bool r) ∧ Below w.heap.size w w' := by
 have HT := Y0.mk hT
 clear hT
 have hu37 := Tryd.underlying37
 have HB := Y0.mk (Below.refl w.heap.size w)
 have H : ((Yw.f k (⟨#[60, 97, 62, 47, 60, 98, 62, 124, 60, 99, 62, 42]⟩ : ByteArray)).bind fun bt101 => (if bt101.2.2.2.2.2 = 0 then (if bt101.2.2.2.2.1 = 12 then (if bt101.1 = 4 then ((Yu.f k bt101.1 bt101.2.1 bt101.2.2.1 bt101.2.2.2.1).bind fun t112 => (if t112.toList = ([40, 60, 97, 62, 47, 60, 98, 62, 41, 124, 40, 60, 99, 62, 42, 41] : List UInt8) then ((Y10.f k bt101.1 bt101.2.1 bt101.2.2.1 bt101.2.2.2.1).bind fun t113 => (some t113)) else (some false))) else (some false)) else (some false)) else (some false))) = some r := h
 clear h
 replace H := Option.bind_eq_some_iff.mp H
 obtain ⟨⟨t101, t102, t103, t106, t109, t110⟩, A10, H⟩ := H
 replace H : (if t110 = 0 then (if t109 = 12 then (if t101 = 4 then ((Yu.f k t101 t102 t103 t106).bind fun t112 => (if t112.toList = ([40, 60, 97, 62, 47, 60, 98, 62, 41, 124, 40, 60, 99, 62, 42, 41] : List UInt8) then ((Y10.f k t101 t102 t103 t106).bind fun t113 => (some t113)) else (some false))) else (some false)) else (some false)) else (some false)) = some r := H
 have A1 := Y0.mk A10
 clear A10
 by_cases c2 : t110 = 0
 ·rw [if_pos c2] at H
  have c2b0 : (t110 == 0) = true := beq_iff_eq.mpr c2
  have c2b1 : (t110 != 0) = false := bne_eq_false_iff_eq.mpr c2
  clear c2
  by_cases c3 : t109 = 12
  ·rw [if_pos c3] at H
   have c3b0 : (t109 == 12) = true := beq_iff_eq.mpr c3
   have c3b1 : (t109 != 12) = false := bne_eq_false_iff_eq.mpr c3
   clear c3
   by_cases c4 : t101 = 4
   ·rw [if_pos c4] at H
    have c4b0 : (t101 == 4) = true := beq_iff_eq.mpr c4
    have c4b1 : (t101 != 4) = false := bne_eq_false_iff_eq.mpr c4
    clear c4
    replace H := Option.bind_eq_some_iff.mp H
    obtain ⟨t112, A50, H⟩ := H
    replace H : (if t112.toList = ([40, 60, 97, 62, 47, 60, 98, 62, 41, 124, 40, 60, 99, 62, 42, 41] : List UInt8) then ((Y10.f k t101 t102 t103 t106).bind fun t113 => (some t113)) else (some false)) = some r := H
    have A5 := Y0.mk A50
    clear A50
    by_cases c6 : t112.toList = ([40, 60, 97, 62, 47, 60, 98, 62, 41, 124, 40, 60, 99, 62, 42, 41] : List UInt8)
    ·rw [if_pos c6] at H
     have c6b0 : (t112.toList == ([40, 60, 97, 62, 47, 60, 98, 62, 41, 124, 40, 60, 99, 62, 42, 41] : List UInt8)) = true := beq_iff_eq.mpr c6
     have c6b1 : (t112.toList != ([40, 60, 97, 62, 47, 60, 98, 62, 41, 124, 40, 60, 99, 62, 42, 41] : List UInt8)) = false := bne_eq_false_iff_eq.mpr c6
     clear c6
     replace H := Option.bind_eq_some_iff.mp H
     obtain ⟨t113, A70, H⟩ := H
     replace H : (some t113) = some r := H
     have A7 := Y0.mk A70
     clear A70
     obtain rfl := Option.some.inj H
     go_enter Tryd.func27, Tryd.ntmps27
     go_wp2_with (first | ((with_reducible refine Yg (f := 25) rfl ?_); refine YG (some 5) rfl rfl Tryd.func25 Z4 rfl #[.string (⟨#[60, 97, 62, 47, 60, 98, 62, 124, 60, 99, 62, 42]⟩ : ByteArray)] rfl Z0 ?_; (with_reducible refine (Yw.calls k (⟨#[60, 97, 62, 47, 60, 98, 62, 124, 60, 99, 62, 42]⟩ : ByteArray) t101 t102 t103 t106 t109 t110 _ ?side1 A1.out).mono ?_); (case side1 => exact Zj); rintro e w8 ⟨v104, v107, rfl, ho0, ho1, hb⟩; refine ⟨_, rfl, ?_⟩; have n_ := Y1X (Kd.R_lower (Kd.R_mono (ok' := fun k_ => True) ho0 (fun _ hk_ => trivial)) (Y6 QB)) (Kd.N_lower (Kd.N_mono (ok' := fun k_ => some k_ ≠ (v104 : Value).ownBlock) ho1 (fun k_ hk_ => hk_.2)) (Y6 QB)) (Y5 QB hb); clear HB; obtain ⟨HO105, HO108, HB⟩ := n_; (try clear hb); (try clear hb2); (try clear hk); (try clear hi); (try clear ho0); (try clear ho1)) | ((with_reducible refine Ym (N := 1) rfl ?_); refine Yl ?hg (N := 1) ?hd (cs := #[.int .i64 0, .string (⟨#[]⟩ : ByteArray), .slice none 0 0, .slice none 0 0]) (t := 37) ?hr ?_; (case hd => rfl); (case hg => rfl); (case hr => exact Z6); intro gb111 hg w9 hbox hb; have n_ := Y2W (Kd.R_below ZF hb) (Kd.N_below (Kd.N_elderB ZD gb111 (Nat.le_of_eq hg.symm)) hb) (Y5 QB hb) (hbox) ((by rw [hg]; exact (Y6 QB) : w.heap.size ≤ gb111)) ((by rw [hg]; exact (Y6 QB) : w.heap.size ≤ gb111)); clear HO105 HO108 HB; obtain ⟨HO105, HO108, HB, BK111, GW111, GE111⟩ := n_; clear hb hbox hg; obtain ⟨hcz10_0, hcz10_1, hcz10_2, hcz10_3, hfz10_0, hfz10_1, hfz10_2, hfz10_3⟩ := Yt BK111.out; obtain ⟨Ao11, co11, eo11⟩ := Kd.R_slice HO105.out; subst eo11; obtain ⟨Ao12, co12, eo12⟩ := Kd.N_slice HO108.out; subst eo12) | (go_at_call 24; (with_reducible refine (Yu.calls k t101 t102 _ _ t103 _ _ t106 t112 _ ?side1 ?side2 ?side3 ?side4 A5.out).mono ?_); (case side1 => refine (Kd.R_reads' (e := 9) (base := w.heap.size) (ok := fun k_ => True) (n := t103.length) (c := co11) ?_).2.2; exact ZL); (case side2 => exact (Kd.R_reads' HO105.out).2.1); (case side3 => refine (Kd.N_reads' (e := 37) (base := w.heap.size) (ok := fun k_ => (some k_ ≠ (.slice Ao11 t103.length co11 : Value).ownBlock ∧ k_ ≠ gb111)) (n := t106.length) (c := co12) ?_).2.2; exact ZI); (case side4 => exact (Kd.N_reads' HO108.out).2.1); rintro e w13 ⟨rfl, hb⟩; have n0_ := Y0.mk (Kd.R_below ZL hb); have n1_ := Y0.mk (Kd.N_below ZI hb); have n2_ := Y0.mk (Yh (g := gb111) (o := .cells #[.int .i64 t101, .string t102, .slice Ao11 t103.length co11, .slice Ao12 t106.length co12] 37 (0, 0)) (by (with_reducible repeat (first | refine Y9 ?_ _ | refine Y8 ?_ | refine Y7 ?_ _)); exact Yp (cs := #[.int .i64 t101, .string t102, .slice Ao11 t103.length co11, .slice none 0 0]) Z1u 3 _ rfl) hb); have n3_ := Y0.mk (Y5 QB hb); clear HO105 HO108 BK111 HB; have HO105 := n0_; have HO108 := n1_; have BK111 := n2_; have HB := n3_; clear n0_ n1_ n2_ n3_; (try clear hb); (try clear hb2); (try clear hk); (try clear hi); obtain ⟨hcz14_0, hcz14_1, hcz14_2, hcz14_3, hfz14_0, hfz14_1, hfz14_2, hfz14_3⟩ := Yt BK111.out) | (go_at_call 31; (with_reducible refine (Y10.calls k t101 t102 _ _ t103 _ _ t106 t113 _ ?side1 ?side2 ?side3 ?side4 ?side5 A7.out).mono ?_); (case side1 => exact Z3); (case side2 => repeat (first | exact (Kd.R_reads' HO105.out).2.2 | (with_reducible refine Kd.C_alloc ?_ _) | (with_reducible refine Kd.C_drewN ?_ _) | (with_reducible refine Kd.C_drew ?_))); (case side3 => exact (Kd.R_reads' HO105.out).2.1); (case side4 => repeat (first | exact (Kd.N_reads' HO108.out).2.2 | (with_reducible refine Kd.C_alloc ?_ _) | (with_reducible refine Kd.C_drewN ?_ _) | (with_reducible refine Kd.C_drew ?_))); (case side5 => exact (Kd.N_reads' HO108.out).2.1); rintro e w15 ⟨rfl, hb⟩; have n_ := Y1T (Kd.R_below ZF hb) (Kd.N_below ZD hb) (Yh (g := gb111) (o := .cells #[.int .i64 t101, .string t102, .slice Ao11 t103.length co11, .slice Ao12 t106.length co12] 37 (0, 0)) QQ hb) (Y5 QB hb); clear HO105 HO108 BK111 HB; obtain ⟨HO105, HO108, BK111, HB⟩ := n_; (try clear hb); (try clear hb2); (try clear hk); (try clear hi)))
     go_ret
     exact Z1y
    ·rw [if_neg c6] at H
     have c6b0 : (t112.toList == ([40, 60, 97, 62, 47, 60, 98, 62, 41, 124, 40, 60, 99, 62, 42, 41] : List UInt8)) = false := beq_eq_false_iff_ne.mpr c6
     have c6b1 : (t112.toList != ([40, 60, 97, 62, 47, 60, 98, 62, 41, 124, 40, 60, 99, 62, 42, 41] : List UInt8)) = true := bne_iff_ne.mpr c6
     obtain rfl := Option.some.inj H
     go_enter Tryd.func27, Tryd.ntmps27
     go_wp2_with (first | ((with_reducible refine Yg (f := 25) rfl ?_); refine YG (some 5) rfl rfl Tryd.func25 Z4 rfl #[.string (⟨#[60, 97, 62, 47, 60, 98, 62, 124, 60, 99, 62, 42]⟩ : ByteArray)] rfl Z0 ?_; (with_reducible refine (Yw.calls k (⟨#[60, 97, 62, 47, 60, 98, 62, 124, 60, 99, 62, 42]⟩ : ByteArray) t101 t102 t103 t106 t109 t110 _ ?side1 A1.out).mono ?_); (case side1 => exact Zj); rintro e w16 ⟨v104, v107, rfl, ho0, ho1, hb⟩; refine ⟨_, rfl, ?_⟩; have n_ := Y1X (Kd.R_lower (Kd.R_mono (ok' := fun k_ => True) ho0 (fun _ hk_ => trivial)) (Y6 QB)) (Kd.N_lower (Kd.N_mono (ok' := fun k_ => some k_ ≠ (v104 : Value).ownBlock) ho1 (fun k_ hk_ => hk_.2)) (Y6 QB)) (Y5 QB hb); clear HB; obtain ⟨HO105, HO108, HB⟩ := n_; (try clear hb); (try clear hb2); (try clear hk); (try clear hi); (try clear ho0); (try clear ho1)) | ((with_reducible refine Ym (N := 1) rfl ?_); refine Yl ?hg (N := 1) ?hd (cs := #[.int .i64 0, .string (⟨#[]⟩ : ByteArray), .slice none 0 0, .slice none 0 0]) (t := 37) ?hr ?_; (case hd => rfl); (case hg => rfl); (case hr => exact Z6); intro gb111 hg w17 hbox hb; have n_ := Y2W (Kd.R_below ZF hb) (Kd.N_below (Kd.N_elderB ZD gb111 (Nat.le_of_eq hg.symm)) hb) (Y5 QB hb) (hbox) ((by rw [hg]; exact (Y6 QB) : w.heap.size ≤ gb111)) ((by rw [hg]; exact (Y6 QB) : w.heap.size ≤ gb111)); clear HO105 HO108 HB; obtain ⟨HO105, HO108, HB, BK111, GW111, GE111⟩ := n_; clear hb hbox hg; obtain ⟨hcz18_0, hcz18_1, hcz18_2, hcz18_3, hfz18_0, hfz18_1, hfz18_2, hfz18_3⟩ := Yt BK111.out; obtain ⟨Ao19, co19, eo19⟩ := Kd.R_slice HO105.out; subst eo19; obtain ⟨Ao20, co20, eo20⟩ := Kd.N_slice HO108.out; subst eo20) | (go_at_call 24; (with_reducible refine (Yu.calls k t101 t102 _ _ t103 _ _ t106 t112 _ ?side1 ?side2 ?side3 ?side4 A5.out).mono ?_); (case side1 => refine (Kd.R_reads' (e := 9) (base := w.heap.size) (ok := fun k_ => True) (n := t103.length) (c := co19) ?_).2.2; exact ZM); (case side2 => exact (Kd.R_reads' HO105.out).2.1); (case side3 => refine (Kd.N_reads' (e := 37) (base := w.heap.size) (ok := fun k_ => (some k_ ≠ (.slice Ao19 t103.length co19 : Value).ownBlock ∧ k_ ≠ gb111)) (n := t106.length) (c := co20) ?_).2.2; exact ZJ); (case side4 => exact (Kd.N_reads' HO108.out).2.1); rintro e w21 ⟨rfl, hb⟩; have n0_ := Y0.mk (Kd.R_below ZM hb); have n1_ := Y0.mk (Kd.N_below ZJ hb); have n2_ := Y0.mk (Yh (g := gb111) (o := .cells #[.int .i64 t101, .string t102, .slice Ao19 t103.length co19, .slice Ao20 t106.length co20] 37 (0, 0)) (by (with_reducible repeat (first | refine Y9 ?_ _ | refine Y8 ?_ | refine Y7 ?_ _)); exact Yp (cs := #[.int .i64 t101, .string t102, .slice Ao19 t103.length co19, .slice none 0 0]) Z1u 3 _ rfl) hb); have n3_ := Y0.mk (Y5 QB hb); clear HO105 HO108 BK111 HB; have HO105 := n0_; have HO108 := n1_; have BK111 := n2_; have HB := n3_; clear n0_ n1_ n2_ n3_; (try clear hb); (try clear hb2); (try clear hk); (try clear hi)))
     go_ret
     exact Z1y
   ·rw [if_neg c4] at H
    have c4b0 : (t101 == 4) = false := beq_eq_false_iff_ne.mpr c4
    have c4b1 : (t101 != 4) = true := bne_iff_ne.mpr c4
    obtain rfl := Option.some.inj H
    go_enter Tryd.func27, Tryd.ntmps27
    go_wp2_with (first | ((with_reducible refine Yg (f := 25) rfl ?_); refine YG (some 5) rfl rfl Tryd.func25 Z4 rfl #[.string (⟨#[60, 97, 62, 47, 60, 98, 62, 124, 60, 99, 62, 42]⟩ : ByteArray)] rfl Z0 ?_; (with_reducible refine (Yw.calls k (⟨#[60, 97, 62, 47, 60, 98, 62, 124, 60, 99, 62, 42]⟩ : ByteArray) t101 t102 t103 t106 t109 t110 _ ?side1 A1.out).mono ?_); (case side1 => exact Zj); rintro e w22 ⟨v104, v107, rfl, ho0, ho1, hb⟩; refine ⟨_, rfl, ?_⟩; have n_ := Y1X (Kd.R_lower (Kd.R_mono (ok' := fun k_ => True) ho0 (fun _ hk_ => trivial)) (Y6 QB)) (Kd.N_lower (Kd.N_mono (ok' := fun k_ => some k_ ≠ (v104 : Value).ownBlock) ho1 (fun k_ hk_ => hk_.2)) (Y6 QB)) (Y5 QB hb); clear HB; obtain ⟨HO105, HO108, HB⟩ := n_; (try clear hb); (try clear hb2); (try clear hk); (try clear hi); (try clear ho0); (try clear ho1)) | ((with_reducible refine Ym (N := 1) rfl ?_); refine Yl ?hg (N := 1) ?hd (cs := #[.int .i64 0, .string (⟨#[]⟩ : ByteArray), .slice none 0 0, .slice none 0 0]) (t := 37) ?hr ?_; (case hd => rfl); (case hg => rfl); (case hr => exact Z6); intro gb111 hg w23 hbox hb; have n_ := Y2W (Kd.R_below ZF hb) (Kd.N_below (Kd.N_elderB ZD gb111 (Nat.le_of_eq hg.symm)) hb) (Y5 QB hb) (hbox) ((by rw [hg]; exact (Y6 QB) : w.heap.size ≤ gb111)) ((by rw [hg]; exact (Y6 QB) : w.heap.size ≤ gb111)); clear HO105 HO108 HB; obtain ⟨HO105, HO108, HB, BK111, GW111, GE111⟩ := n_; clear hb hbox hg; obtain ⟨hcz24_0, hcz24_1, hcz24_2, hcz24_3, hfz24_0, hfz24_1, hfz24_2, hfz24_3⟩ := Yt BK111.out; obtain ⟨Ao25, co25, eo25⟩ := Kd.R_slice HO105.out; subst eo25; obtain ⟨Ao26, co26, eo26⟩ := Kd.N_slice HO108.out; subst eo26))
    go_ret
    exact Z1y
  ·rw [if_neg c3] at H
   have c3b0 : (t109 == 12) = false := beq_eq_false_iff_ne.mpr c3
   have c3b1 : (t109 != 12) = true := bne_iff_ne.mpr c3
   obtain rfl := Option.some.inj H
   go_enter Tryd.func27, Tryd.ntmps27
   go_wp2_with (first | ((with_reducible refine Yg (f := 25) rfl ?_); refine YG (some 5) rfl rfl Tryd.func25 Z4 rfl #[.string (⟨#[60, 97, 62, 47, 60, 98, 62, 124, 60, 99, 62, 42]⟩ : ByteArray)] rfl Z0 ?_; (with_reducible refine (Yw.calls k (⟨#[60, 97, 62, 47, 60, 98, 62, 124, 60, 99, 62, 42]⟩ : ByteArray) t101 t102 t103 t106 t109 t110 _ ?side1 A1.out).mono ?_); (case side1 => exact Zj); rintro e w27 ⟨v104, v107, rfl, ho0, ho1, hb⟩; refine ⟨_, rfl, ?_⟩; have n_ := Y1X (Kd.R_lower (Kd.R_mono (ok' := fun k_ => True) ho0 (fun _ hk_ => trivial)) (Y6 QB)) (Kd.N_lower (Kd.N_mono (ok' := fun k_ => some k_ ≠ (v104 : Value).ownBlock) ho1 (fun k_ hk_ => hk_.2)) (Y6 QB)) (Y5 QB hb); clear HB; obtain ⟨HO105, HO108, HB⟩ := n_; (try clear hb); (try clear hb2); (try clear hk); (try clear hi); (try clear ho0); (try clear ho1)) | ((with_reducible refine Ym (N := 1) rfl ?_); refine Yl ?hg (N := 1) ?hd (cs := #[.int .i64 0, .string (⟨#[]⟩ : ByteArray), .slice none 0 0, .slice none 0 0]) (t := 37) ?hr ?_; (case hd => rfl); (case hg => rfl); (case hr => exact Z6); intro gb111 hg w28 hbox hb; have n_ := Y2W (Kd.R_below ZF hb) (Kd.N_below (Kd.N_elderB ZD gb111 (Nat.le_of_eq hg.symm)) hb) (Y5 QB hb) (hbox) ((by rw [hg]; exact (Y6 QB) : w.heap.size ≤ gb111)) ((by rw [hg]; exact (Y6 QB) : w.heap.size ≤ gb111)); clear HO105 HO108 HB; obtain ⟨HO105, HO108, HB, BK111, GW111, GE111⟩ := n_; clear hb hbox hg; obtain ⟨hcz29_0, hcz29_1, hcz29_2, hcz29_3, hfz29_0, hfz29_1, hfz29_2, hfz29_3⟩ := Yt BK111.out; obtain ⟨Ao30, co30, eo30⟩ := Kd.R_slice HO105.out; subst eo30; obtain ⟨Ao31, co31, eo31⟩ := Kd.N_slice HO108.out; subst eo31))
   go_ret
   exact Z1y
 ·rw [if_neg c2] at H
  have c2b0 : (t110 == 0) = false := beq_eq_false_iff_ne.mpr c2
  have c2b1 : (t110 != 0) = true := bne_iff_ne.mpr c2
  obtain rfl := Option.some.inj H
  go_enter Tryd.func27, Tryd.ntmps27
  go_wp2_with (first | ((with_reducible refine Yg (f := 25) rfl ?_); refine YG (some 5) rfl rfl Tryd.func25 Z4 rfl #[.string (⟨#[60, 97, 62, 47, 60, 98, 62, 124, 60, 99, 62, 42]⟩ : ByteArray)] rfl Z0 ?_; (with_reducible refine (Yw.calls k (⟨#[60, 97, 62, 47, 60, 98, 62, 124, 60, 99, 62, 42]⟩ : ByteArray) t101 t102 t103 t106 t109 t110 _ ?side1 A1.out).mono ?_); (case side1 => exact Zj); rintro e w32 ⟨v104, v107, rfl, ho0, ho1, hb⟩; refine ⟨_, rfl, ?_⟩; have n_ := Y1X (Kd.R_lower (Kd.R_mono (ok' := fun k_ => True) ho0 (fun _ hk_ => trivial)) (Y6 QB)) (Kd.N_lower (Kd.N_mono (ok' := fun k_ => some k_ ≠ (v104 : Value).ownBlock) ho1 (fun k_ hk_ => hk_.2)) (Y6 QB)) (Y5 QB hb); clear HB; obtain ⟨HO105, HO108, HB⟩ := n_; (try clear hb); (try clear hb2); (try clear hk); (try clear hi); (try clear ho0); (try clear ho1)) | ((with_reducible refine Ym (N := 1) rfl ?_); refine Yl ?hg (N := 1) ?hd (cs := #[.int .i64 0, .string (⟨#[]⟩ : ByteArray), .slice none 0 0, .slice none 0 0]) (t := 37) ?hr ?_; (case hd => rfl); (case hg => rfl); (case hr => exact Z6); intro gb111 hg w33 hbox hb; have n_ := Y2W (Kd.R_below ZF hb) (Kd.N_below (Kd.N_elderB ZD gb111 (Nat.le_of_eq hg.symm)) hb) (Y5 QB hb) (hbox) ((by rw [hg]; exact (Y6 QB) : w.heap.size ≤ gb111)) ((by rw [hg]; exact (Y6 QB) : w.heap.size ≤ gb111)); clear HO105 HO108 HB; obtain ⟨HO105, HO108, HB, BK111, GW111, GE111⟩ := n_; clear hb hbox hg; obtain ⟨hcz34_0, hcz34_1, hcz34_2, hcz34_3, hfz34_0, hfz34_1, hfz34_2, hfz34_3⟩ := Yt BK111.out; obtain ⟨Ao35, co35, eo35⟩ := Kd.R_slice HO105.out; subst eo35; obtain ⟨Ao36, co36, eo36⟩ := Kd.N_slice HO108.out; subst eo36))
  go_ret
  exact Z1y
def triviumlaw12_QueryOdd.j0 : Nat → Int → List (S37) → Bool → Int → Option (Bool)
 | 0, _, _, _, _ => none
 | k + 1, x0, x4, x39, x102000 => if x39 = true then (some true) else (if 0 ≤ x0 then (if x0 < (x4.length : Int) then ((Y10.f k ((Y1 x4 x0).f0) ((Y1 x4 x0).f1) ((Y1 x4 x0).f2) ((Y1 x4 x0).f3)).bind fun t127 => (if (t127 == (x0 == 0)) = true then ((Yz.f k ((Y1 x4 x0).f0) ((Y1 x4 x0).f1) ((Y1 x4 x0).f2) ((Y1 x4 x0).f3) x102000 (⟨#[97]⟩ : ByteArray) ([] : List ByteArray) ([] : List (S37))).bind fun t129 => (if (t129 == (x0 == 0)) = true then ((YZ.f k).bind fun t130 => (some t130)) else (some false))) else (some false))) else (none)) else (none))
def triviumlaw12_QueryOdd.f (k : Nat) (a0 : Int) : Option (Bool) := (some (([(⟨1, (⟨#[97]⟩ : ByteArray), ([] : List ByteArray), ([] : List (S37))⟩ : S37), (⟨0, (⟨#[]⟩ : ByteArray), ([] : List ByteArray), ([] : List (S37))⟩ : S37), (⟨1, (⟨#[]⟩ : ByteArray), ([] : List ByteArray), ([] : List (S37))⟩ : S37), (⟨1, (⟨#[97, 32, 98]⟩ : ByteArray), ([] : List ByteArray), ([] : List (S37))⟩ : S37), (⟨1, (⟨#[97]⟩ : ByteArray), ([] : List ByteArray), (([(⟨1, (⟨#[97]⟩ : ByteArray), ([] : List ByteArray), ([] : List (S37))⟩ : S37)] : List (S37)))⟩ : S37), (⟨3, (⟨#[]⟩ : ByteArray), ([] : List ByteArray), (([(⟨1, (⟨#[97]⟩ : ByteArray), ([] : List ByteArray), ([] : List (S37))⟩ : S37)] : List (S37)))⟩ : S37), (⟨5, (⟨#[]⟩ : ByteArray), ([] : List ByteArray), ([] : List (S37))⟩ : S37), (⟨5, (⟨#[97]⟩ : ByteArray), ([] : List ByteArray), (([(⟨1, (⟨#[97]⟩ : ByteArray), ([] : List ByteArray), ([] : List (S37))⟩ : S37)] : List (S37)))⟩ : S37), (⟨8, (⟨#[]⟩ : ByteArray), ([] : List ByteArray), ([] : List (S37))⟩ : S37), (⟨8, (⟨#[]⟩ : ByteArray), (([(⟨#[97]⟩ : ByteArray), (⟨#[60]⟩ : ByteArray)] : List ByteArray)), ([] : List (S37))⟩ : S37), (⟨8, (⟨#[]⟩ : ByteArray), (([(⟨#[97]⟩ : ByteArray), (⟨#[98]⟩ : ByteArray), (⟨#[99]⟩ : ByteArray), (⟨#[100]⟩ : ByteArray), (⟨#[101]⟩ : ByteArray)] : List ByteArray)), ([] : List (S37))⟩ : S37), (⟨1, (⟨#[97]⟩ : ByteArray), (([(⟨#[97]⟩ : ByteArray)] : List ByteArray)), ([] : List (S37))⟩ : S37), (⟨9, (⟨#[]⟩ : ByteArray), ([] : List ByteArray), ([] : List (S37))⟩ : S37), (⟨2, (⟨#[]⟩ : ByteArray), ([] : List ByteArray), (([(⟨0, (⟨#[]⟩ : ByteArray), ([] : List ByteArray), ([] : List (S37))⟩ : S37)] : List (S37)))⟩ : S37)] : List (S37)) : List (S37))).bind fun y123 => (if a0 < 0 then (triviumlaw12_QueryOdd.j0 k a0 y123 true 1) else (triviumlaw12_QueryOdd.j0 k a0 y123 (decide (a0 ≥ (y123.length : Int))) 1))
def triviumlaw12_QueryOdd.T5 : Bool × List (List Nat × List Nat) := (true, [([], []), ([], []), ([0, 1], [0, 1]), ([2], [2]), ([3], [3]), ([], []), ([5], [5]), ([4, 6], [4, 6]), ([7, 4], [7]), ([8], [8]), ([8], [8]), ([9, 10, 8], [8, 9, 10]), ([11, 8], [8, 11]), ([8], [8]), ([12, 13, 8, 8], [8, 12, 13]), ([8], [8]), ([15, 8], [8, 15]), ([14, 16, 8], [8, 14, 16]), ([8, 17], [8, 17]), ([18, 14], [18]), ([19, 19], [19]), ([19, 20], [19, 20]), ([21, 20, 0, 1, 2, 3, 4, 5, 6, 7, 8, 9, 10, 11, 12, 13, 14, 15, 16, 17, 18, 19, 20, 21], [21])])
def triviumlaw12_QueryOdd.B5 : List Nat := [0, 0, 3, 7, 15, 0, 32, 127, 255, 511, 511, 2047, 4095, 511, 16383, 511, 33279, 131071, 262143, 524287, 1048575, 2097151, 4194303]
theorem triviumlaw12_QueryOdd.tab5 : Y2u .any (Y3L Tryd.f12 5) = triviumlaw12_QueryOdd.T5 := by kernel_rfl
theorem triviumlaw12_QueryOdd.bits5 : Y1P triviumlaw12_QueryOdd.T5.2 triviumlaw12_QueryOdd.B5 = true := by kernel_rfl
set_option maxHeartbeats 8000000 in
set_option maxRecDepth 100000 in
theorem triviumlaw12_QueryOdd.calls (k : Nat) (a0 : Int) (r : Bool) (w : World) (hT : Tabs w) (h : triviumlaw12_QueryOdd.f k a0 = some r) :
  Calls Tryd.prog 12 #[.int .i64 a0] w fun e w' => e = .returned (.bool r) ∧ Below w.heap.size w w' := by
 have HT := Y0.mk hT
 clear hT
 have hu37 := Tryd.underlying37
 have HB := Y0.mk (Below.refl w.heap.size w)
 have H : ((some (([(⟨1, (⟨#[97]⟩ : ByteArray), ([] : List ByteArray), ([] : List (S37))⟩ : S37), (⟨0, (⟨#[]⟩ : ByteArray), ([] : List ByteArray), ([] : List (S37))⟩ : S37), (⟨1, (⟨#[]⟩ : ByteArray), ([] : List ByteArray), ([] : List (S37))⟩ : S37), (⟨1, (⟨#[97, 32, 98]⟩ : ByteArray), ([] : List ByteArray), ([] : List (S37))⟩ : S37), (⟨1, (⟨#[97]⟩ : ByteArray), ([] : List ByteArray), (([(⟨1, (⟨#[97]⟩ : ByteArray), ([] : List ByteArray), ([] : List (S37))⟩ : S37)] : List (S37)))⟩ : S37), (⟨3, (⟨#[]⟩ : ByteArray), ([] : List ByteArray), (([(⟨1, (⟨#[97]⟩ : ByteArray), ([] : List ByteArray), ([] : List (S37))⟩ : S37)] : List (S37)))⟩ : S37), (⟨5, (⟨#[]⟩ : ByteArray), ([] : List ByteArray), ([] : List (S37))⟩ : S37), (⟨5, (⟨#[97]⟩ : ByteArray), ([] : List ByteArray), (([(⟨1, (⟨#[97]⟩ : ByteArray), ([] : List ByteArray), ([] : List (S37))⟩ : S37)] : List (S37)))⟩ : S37), (⟨8, (⟨#[]⟩ : ByteArray), ([] : List ByteArray), ([] : List (S37))⟩ : S37), (⟨8, (⟨#[]⟩ : ByteArray), (([(⟨#[97]⟩ : ByteArray), (⟨#[60]⟩ : ByteArray)] : List ByteArray)), ([] : List (S37))⟩ : S37), (⟨8, (⟨#[]⟩ : ByteArray), (([(⟨#[97]⟩ : ByteArray), (⟨#[98]⟩ : ByteArray), (⟨#[99]⟩ : ByteArray), (⟨#[100]⟩ : ByteArray), (⟨#[101]⟩ : ByteArray)] : List ByteArray)), ([] : List (S37))⟩ : S37), (⟨1, (⟨#[97]⟩ : ByteArray), (([(⟨#[97]⟩ : ByteArray)] : List ByteArray)), ([] : List (S37))⟩ : S37), (⟨9, (⟨#[]⟩ : ByteArray), ([] : List ByteArray), ([] : List (S37))⟩ : S37), (⟨2, (⟨#[]⟩ : ByteArray), ([] : List ByteArray), (([(⟨0, (⟨#[]⟩ : ByteArray), ([] : List ByteArray), ([] : List (S37))⟩ : S37)] : List (S37)))⟩ : S37)] : List (S37)) : List (S37))).bind fun y123 => (if a0 < 0 then (triviumlaw12_QueryOdd.j0 k a0 y123 true 1) else (triviumlaw12_QueryOdd.j0 k a0 y123 (decide (a0 ≥ (y123.length : Int))) 1))) = some r := h
 clear h
 obtain ⟨y102, hy102⟩ : ∃ y_ : List (S37), y_ = (([(⟨1, (⟨#[97]⟩ : ByteArray), ([] : List ByteArray), ([] : List (S37))⟩ : S37)] : List (S37))) := ⟨_, rfl⟩
 replace H : ((some (([(⟨1, (⟨#[97]⟩ : ByteArray), ([] : List ByteArray), ([] : List (S37))⟩ : S37), (⟨0, (⟨#[]⟩ : ByteArray), ([] : List ByteArray), ([] : List (S37))⟩ : S37), (⟨1, (⟨#[]⟩ : ByteArray), ([] : List ByteArray), ([] : List (S37))⟩ : S37), (⟨1, (⟨#[97, 32, 98]⟩ : ByteArray), ([] : List ByteArray), ([] : List (S37))⟩ : S37), (⟨1, (⟨#[97]⟩ : ByteArray), ([] : List ByteArray), y102⟩ : S37), (⟨3, (⟨#[]⟩ : ByteArray), ([] : List ByteArray), (([(⟨1, (⟨#[97]⟩ : ByteArray), ([] : List ByteArray), ([] : List (S37))⟩ : S37)] : List (S37)))⟩ : S37), (⟨5, (⟨#[]⟩ : ByteArray), ([] : List ByteArray), ([] : List (S37))⟩ : S37), (⟨5, (⟨#[97]⟩ : ByteArray), ([] : List ByteArray), (([(⟨1, (⟨#[97]⟩ : ByteArray), ([] : List ByteArray), ([] : List (S37))⟩ : S37)] : List (S37)))⟩ : S37), (⟨8, (⟨#[]⟩ : ByteArray), ([] : List ByteArray), ([] : List (S37))⟩ : S37), (⟨8, (⟨#[]⟩ : ByteArray), (([(⟨#[97]⟩ : ByteArray), (⟨#[60]⟩ : ByteArray)] : List ByteArray)), ([] : List (S37))⟩ : S37), (⟨8, (⟨#[]⟩ : ByteArray), (([(⟨#[97]⟩ : ByteArray), (⟨#[98]⟩ : ByteArray), (⟨#[99]⟩ : ByteArray), (⟨#[100]⟩ : ByteArray), (⟨#[101]⟩ : ByteArray)] : List ByteArray)), ([] : List (S37))⟩ : S37), (⟨1, (⟨#[97]⟩ : ByteArray), (([(⟨#[97]⟩ : ByteArray)] : List ByteArray)), ([] : List (S37))⟩ : S37), (⟨9, (⟨#[]⟩ : ByteArray), ([] : List ByteArray), ([] : List (S37))⟩ : S37), (⟨2, (⟨#[]⟩ : ByteArray), ([] : List ByteArray), (([(⟨0, (⟨#[]⟩ : ByteArray), ([] : List ByteArray), ([] : List (S37))⟩ : S37)] : List (S37)))⟩ : S37)] : List (S37)) : List (S37))).bind fun y123 => (if a0 < 0 then (triviumlaw12_QueryOdd.j0 k a0 y123 true 1) else (triviumlaw12_QueryOdd.j0 k a0 y123 (decide (a0 ≥ (y123.length : Int))) 1))) = some r := by first | (rw [hy102]; with_reducible exact H) | (have H2_ := (Option.bind_some _ _).symm.trans H; rw [hy102]; with_reducible exact H2_) | (have H2_ := (Option.bind_some _ _).symm.trans H; with_reducible exact H2_) | with_reducible exact H | (rw [hy102]; exact H) | exact H
 have Ny102 := Y0.mk hy102
 clear hy102
 obtain ⟨y105, hy105⟩ : ∃ y_ : List (S37), y_ = (([(⟨1, (⟨#[97]⟩ : ByteArray), ([] : List ByteArray), ([] : List (S37))⟩ : S37)] : List (S37))) := ⟨_, rfl⟩
 replace H : ((some (([(⟨1, (⟨#[97]⟩ : ByteArray), ([] : List ByteArray), ([] : List (S37))⟩ : S37), (⟨0, (⟨#[]⟩ : ByteArray), ([] : List ByteArray), ([] : List (S37))⟩ : S37), (⟨1, (⟨#[]⟩ : ByteArray), ([] : List ByteArray), ([] : List (S37))⟩ : S37), (⟨1, (⟨#[97, 32, 98]⟩ : ByteArray), ([] : List ByteArray), ([] : List (S37))⟩ : S37), (⟨1, (⟨#[97]⟩ : ByteArray), ([] : List ByteArray), y102⟩ : S37), (⟨3, (⟨#[]⟩ : ByteArray), ([] : List ByteArray), y105⟩ : S37), (⟨5, (⟨#[]⟩ : ByteArray), ([] : List ByteArray), ([] : List (S37))⟩ : S37), (⟨5, (⟨#[97]⟩ : ByteArray), ([] : List ByteArray), (([(⟨1, (⟨#[97]⟩ : ByteArray), ([] : List ByteArray), ([] : List (S37))⟩ : S37)] : List (S37)))⟩ : S37), (⟨8, (⟨#[]⟩ : ByteArray), ([] : List ByteArray), ([] : List (S37))⟩ : S37), (⟨8, (⟨#[]⟩ : ByteArray), (([(⟨#[97]⟩ : ByteArray), (⟨#[60]⟩ : ByteArray)] : List ByteArray)), ([] : List (S37))⟩ : S37), (⟨8, (⟨#[]⟩ : ByteArray), (([(⟨#[97]⟩ : ByteArray), (⟨#[98]⟩ : ByteArray), (⟨#[99]⟩ : ByteArray), (⟨#[100]⟩ : ByteArray), (⟨#[101]⟩ : ByteArray)] : List ByteArray)), ([] : List (S37))⟩ : S37), (⟨1, (⟨#[97]⟩ : ByteArray), (([(⟨#[97]⟩ : ByteArray)] : List ByteArray)), ([] : List (S37))⟩ : S37), (⟨9, (⟨#[]⟩ : ByteArray), ([] : List ByteArray), ([] : List (S37))⟩ : S37), (⟨2, (⟨#[]⟩ : ByteArray), ([] : List ByteArray), (([(⟨0, (⟨#[]⟩ : ByteArray), ([] : List ByteArray), ([] : List (S37))⟩ : S37)] : List (S37)))⟩ : S37)] : List (S37)) : List (S37))).bind fun y123 => (if a0 < 0 then (triviumlaw12_QueryOdd.j0 k a0 y123 true 1) else (triviumlaw12_QueryOdd.j0 k a0 y123 (decide (a0 ≥ (y123.length : Int))) 1))) = some r := by first | (rw [hy105]; with_reducible exact H) | (have H2_ := (Option.bind_some _ _).symm.trans H; rw [hy105]; with_reducible exact H2_) | (have H2_ := (Option.bind_some _ _).symm.trans H; with_reducible exact H2_) | with_reducible exact H | (rw [hy105]; exact H) | exact H
 have Ny105 := Y0.mk hy105
 clear hy105
 obtain ⟨y108, hy108⟩ : ∃ y_ : List (S37), y_ = (([(⟨1, (⟨#[97]⟩ : ByteArray), ([] : List ByteArray), ([] : List (S37))⟩ : S37)] : List (S37))) := ⟨_, rfl⟩
 replace H : ((some (([(⟨1, (⟨#[97]⟩ : ByteArray), ([] : List ByteArray), ([] : List (S37))⟩ : S37), (⟨0, (⟨#[]⟩ : ByteArray), ([] : List ByteArray), ([] : List (S37))⟩ : S37), (⟨1, (⟨#[]⟩ : ByteArray), ([] : List ByteArray), ([] : List (S37))⟩ : S37), (⟨1, (⟨#[97, 32, 98]⟩ : ByteArray), ([] : List ByteArray), ([] : List (S37))⟩ : S37), (⟨1, (⟨#[97]⟩ : ByteArray), ([] : List ByteArray), y102⟩ : S37), (⟨3, (⟨#[]⟩ : ByteArray), ([] : List ByteArray), y105⟩ : S37), (⟨5, (⟨#[]⟩ : ByteArray), ([] : List ByteArray), ([] : List (S37))⟩ : S37), (⟨5, (⟨#[97]⟩ : ByteArray), ([] : List ByteArray), y108⟩ : S37), (⟨8, (⟨#[]⟩ : ByteArray), ([] : List ByteArray), ([] : List (S37))⟩ : S37), (⟨8, (⟨#[]⟩ : ByteArray), (([(⟨#[97]⟩ : ByteArray), (⟨#[60]⟩ : ByteArray)] : List ByteArray)), ([] : List (S37))⟩ : S37), (⟨8, (⟨#[]⟩ : ByteArray), (([(⟨#[97]⟩ : ByteArray), (⟨#[98]⟩ : ByteArray), (⟨#[99]⟩ : ByteArray), (⟨#[100]⟩ : ByteArray), (⟨#[101]⟩ : ByteArray)] : List ByteArray)), ([] : List (S37))⟩ : S37), (⟨1, (⟨#[97]⟩ : ByteArray), (([(⟨#[97]⟩ : ByteArray)] : List ByteArray)), ([] : List (S37))⟩ : S37), (⟨9, (⟨#[]⟩ : ByteArray), ([] : List ByteArray), ([] : List (S37))⟩ : S37), (⟨2, (⟨#[]⟩ : ByteArray), ([] : List ByteArray), (([(⟨0, (⟨#[]⟩ : ByteArray), ([] : List ByteArray), ([] : List (S37))⟩ : S37)] : List (S37)))⟩ : S37)] : List (S37)) : List (S37))).bind fun y123 => (if a0 < 0 then (triviumlaw12_QueryOdd.j0 k a0 y123 true 1) else (triviumlaw12_QueryOdd.j0 k a0 y123 (decide (a0 ≥ (y123.length : Int))) 1))) = some r := by first | (rw [hy108]; with_reducible exact H) | (have H2_ := (Option.bind_some _ _).symm.trans H; rw [hy108]; with_reducible exact H2_) | (have H2_ := (Option.bind_some _ _).symm.trans H; with_reducible exact H2_) | with_reducible exact H | (rw [hy108]; exact H) | exact H
 have Ny108 := Y0.mk hy108
 clear hy108
 obtain ⟨y111, hy111⟩ : ∃ y_ : List ByteArray, y_ = (([(⟨#[97]⟩ : ByteArray), (⟨#[60]⟩ : ByteArray)] : List ByteArray)) := ⟨_, rfl⟩
 replace H : ((some (([(⟨1, (⟨#[97]⟩ : ByteArray), ([] : List ByteArray), ([] : List (S37))⟩ : S37), (⟨0, (⟨#[]⟩ : ByteArray), ([] : List ByteArray), ([] : List (S37))⟩ : S37), (⟨1, (⟨#[]⟩ : ByteArray), ([] : List ByteArray), ([] : List (S37))⟩ : S37), (⟨1, (⟨#[97, 32, 98]⟩ : ByteArray), ([] : List ByteArray), ([] : List (S37))⟩ : S37), (⟨1, (⟨#[97]⟩ : ByteArray), ([] : List ByteArray), y102⟩ : S37), (⟨3, (⟨#[]⟩ : ByteArray), ([] : List ByteArray), y105⟩ : S37), (⟨5, (⟨#[]⟩ : ByteArray), ([] : List ByteArray), ([] : List (S37))⟩ : S37), (⟨5, (⟨#[97]⟩ : ByteArray), ([] : List ByteArray), y108⟩ : S37), (⟨8, (⟨#[]⟩ : ByteArray), ([] : List ByteArray), ([] : List (S37))⟩ : S37), (⟨8, (⟨#[]⟩ : ByteArray), y111, ([] : List (S37))⟩ : S37), (⟨8, (⟨#[]⟩ : ByteArray), (([(⟨#[97]⟩ : ByteArray), (⟨#[98]⟩ : ByteArray), (⟨#[99]⟩ : ByteArray), (⟨#[100]⟩ : ByteArray), (⟨#[101]⟩ : ByteArray)] : List ByteArray)), ([] : List (S37))⟩ : S37), (⟨1, (⟨#[97]⟩ : ByteArray), (([(⟨#[97]⟩ : ByteArray)] : List ByteArray)), ([] : List (S37))⟩ : S37), (⟨9, (⟨#[]⟩ : ByteArray), ([] : List ByteArray), ([] : List (S37))⟩ : S37), (⟨2, (⟨#[]⟩ : ByteArray), ([] : List ByteArray), (([(⟨0, (⟨#[]⟩ : ByteArray), ([] : List ByteArray), ([] : List (S37))⟩ : S37)] : List (S37)))⟩ : S37)] : List (S37)) : List (S37))).bind fun y123 => (if a0 < 0 then (triviumlaw12_QueryOdd.j0 k a0 y123 true 1) else (triviumlaw12_QueryOdd.j0 k a0 y123 (decide (a0 ≥ (y123.length : Int))) 1))) = some r := by first | (rw [hy111]; with_reducible exact H) | (have H2_ := (Option.bind_some _ _).symm.trans H; rw [hy111]; with_reducible exact H2_) | (have H2_ := (Option.bind_some _ _).symm.trans H; with_reducible exact H2_) | with_reducible exact H | (rw [hy111]; exact H) | exact H
 have Ny111 := Y0.mk hy111
 clear hy111
 obtain ⟨y114, hy114⟩ : ∃ y_ : List ByteArray, y_ = (([(⟨#[97]⟩ : ByteArray), (⟨#[98]⟩ : ByteArray), (⟨#[99]⟩ : ByteArray), (⟨#[100]⟩ : ByteArray), (⟨#[101]⟩ : ByteArray)] : List ByteArray)) := ⟨_, rfl⟩
 replace H : ((some (([(⟨1, (⟨#[97]⟩ : ByteArray), ([] : List ByteArray), ([] : List (S37))⟩ : S37), (⟨0, (⟨#[]⟩ : ByteArray), ([] : List ByteArray), ([] : List (S37))⟩ : S37), (⟨1, (⟨#[]⟩ : ByteArray), ([] : List ByteArray), ([] : List (S37))⟩ : S37), (⟨1, (⟨#[97, 32, 98]⟩ : ByteArray), ([] : List ByteArray), ([] : List (S37))⟩ : S37), (⟨1, (⟨#[97]⟩ : ByteArray), ([] : List ByteArray), y102⟩ : S37), (⟨3, (⟨#[]⟩ : ByteArray), ([] : List ByteArray), y105⟩ : S37), (⟨5, (⟨#[]⟩ : ByteArray), ([] : List ByteArray), ([] : List (S37))⟩ : S37), (⟨5, (⟨#[97]⟩ : ByteArray), ([] : List ByteArray), y108⟩ : S37), (⟨8, (⟨#[]⟩ : ByteArray), ([] : List ByteArray), ([] : List (S37))⟩ : S37), (⟨8, (⟨#[]⟩ : ByteArray), y111, ([] : List (S37))⟩ : S37), (⟨8, (⟨#[]⟩ : ByteArray), y114, ([] : List (S37))⟩ : S37), (⟨1, (⟨#[97]⟩ : ByteArray), (([(⟨#[97]⟩ : ByteArray)] : List ByteArray)), ([] : List (S37))⟩ : S37), (⟨9, (⟨#[]⟩ : ByteArray), ([] : List ByteArray), ([] : List (S37))⟩ : S37), (⟨2, (⟨#[]⟩ : ByteArray), ([] : List ByteArray), (([(⟨0, (⟨#[]⟩ : ByteArray), ([] : List ByteArray), ([] : List (S37))⟩ : S37)] : List (S37)))⟩ : S37)] : List (S37)) : List (S37))).bind fun y123 => (if a0 < 0 then (triviumlaw12_QueryOdd.j0 k a0 y123 true 1) else (triviumlaw12_QueryOdd.j0 k a0 y123 (decide (a0 ≥ (y123.length : Int))) 1))) = some r := by first | (rw [hy114]; with_reducible exact H) | (have H2_ := (Option.bind_some _ _).symm.trans H; rw [hy114]; with_reducible exact H2_) | (have H2_ := (Option.bind_some _ _).symm.trans H; with_reducible exact H2_) | with_reducible exact H | (rw [hy114]; exact H) | exact H
 have Ny114 := Y0.mk hy114
 clear hy114
 obtain ⟨y117, hy117⟩ : ∃ y_ : List ByteArray, y_ = (([(⟨#[97]⟩ : ByteArray)] : List ByteArray)) := ⟨_, rfl⟩
 replace H : ((some (([(⟨1, (⟨#[97]⟩ : ByteArray), ([] : List ByteArray), ([] : List (S37))⟩ : S37), (⟨0, (⟨#[]⟩ : ByteArray), ([] : List ByteArray), ([] : List (S37))⟩ : S37), (⟨1, (⟨#[]⟩ : ByteArray), ([] : List ByteArray), ([] : List (S37))⟩ : S37), (⟨1, (⟨#[97, 32, 98]⟩ : ByteArray), ([] : List ByteArray), ([] : List (S37))⟩ : S37), (⟨1, (⟨#[97]⟩ : ByteArray), ([] : List ByteArray), y102⟩ : S37), (⟨3, (⟨#[]⟩ : ByteArray), ([] : List ByteArray), y105⟩ : S37), (⟨5, (⟨#[]⟩ : ByteArray), ([] : List ByteArray), ([] : List (S37))⟩ : S37), (⟨5, (⟨#[97]⟩ : ByteArray), ([] : List ByteArray), y108⟩ : S37), (⟨8, (⟨#[]⟩ : ByteArray), ([] : List ByteArray), ([] : List (S37))⟩ : S37), (⟨8, (⟨#[]⟩ : ByteArray), y111, ([] : List (S37))⟩ : S37), (⟨8, (⟨#[]⟩ : ByteArray), y114, ([] : List (S37))⟩ : S37), (⟨1, (⟨#[97]⟩ : ByteArray), y117, ([] : List (S37))⟩ : S37), (⟨9, (⟨#[]⟩ : ByteArray), ([] : List ByteArray), ([] : List (S37))⟩ : S37), (⟨2, (⟨#[]⟩ : ByteArray), ([] : List ByteArray), (([(⟨0, (⟨#[]⟩ : ByteArray), ([] : List ByteArray), ([] : List (S37))⟩ : S37)] : List (S37)))⟩ : S37)] : List (S37)) : List (S37))).bind fun y123 => (if a0 < 0 then (triviumlaw12_QueryOdd.j0 k a0 y123 true 1) else (triviumlaw12_QueryOdd.j0 k a0 y123 (decide (a0 ≥ (y123.length : Int))) 1))) = some r := by first | (rw [hy117]; with_reducible exact H) | (have H2_ := (Option.bind_some _ _).symm.trans H; rw [hy117]; with_reducible exact H2_) | (have H2_ := (Option.bind_some _ _).symm.trans H; with_reducible exact H2_) | with_reducible exact H | (rw [hy117]; exact H) | exact H
 have Ny117 := Y0.mk hy117
 clear hy117
 obtain ⟨y120, hy120⟩ : ∃ y_ : List (S37), y_ = (([(⟨0, (⟨#[]⟩ : ByteArray), ([] : List ByteArray), ([] : List (S37))⟩ : S37)] : List (S37))) := ⟨_, rfl⟩
 replace H : ((some (([(⟨1, (⟨#[97]⟩ : ByteArray), ([] : List ByteArray), ([] : List (S37))⟩ : S37), (⟨0, (⟨#[]⟩ : ByteArray), ([] : List ByteArray), ([] : List (S37))⟩ : S37), (⟨1, (⟨#[]⟩ : ByteArray), ([] : List ByteArray), ([] : List (S37))⟩ : S37), (⟨1, (⟨#[97, 32, 98]⟩ : ByteArray), ([] : List ByteArray), ([] : List (S37))⟩ : S37), (⟨1, (⟨#[97]⟩ : ByteArray), ([] : List ByteArray), y102⟩ : S37), (⟨3, (⟨#[]⟩ : ByteArray), ([] : List ByteArray), y105⟩ : S37), (⟨5, (⟨#[]⟩ : ByteArray), ([] : List ByteArray), ([] : List (S37))⟩ : S37), (⟨5, (⟨#[97]⟩ : ByteArray), ([] : List ByteArray), y108⟩ : S37), (⟨8, (⟨#[]⟩ : ByteArray), ([] : List ByteArray), ([] : List (S37))⟩ : S37), (⟨8, (⟨#[]⟩ : ByteArray), y111, ([] : List (S37))⟩ : S37), (⟨8, (⟨#[]⟩ : ByteArray), y114, ([] : List (S37))⟩ : S37), (⟨1, (⟨#[97]⟩ : ByteArray), y117, ([] : List (S37))⟩ : S37), (⟨9, (⟨#[]⟩ : ByteArray), ([] : List ByteArray), ([] : List (S37))⟩ : S37), (⟨2, (⟨#[]⟩ : ByteArray), ([] : List ByteArray), y120⟩ : S37)] : List (S37)) : List (S37))).bind fun y123 => (if a0 < 0 then (triviumlaw12_QueryOdd.j0 k a0 y123 true 1) else (triviumlaw12_QueryOdd.j0 k a0 y123 (decide (a0 ≥ (y123.length : Int))) 1))) = some r := by first | (rw [hy120]; with_reducible exact H) | (have H2_ := (Option.bind_some _ _).symm.trans H; rw [hy120]; with_reducible exact H2_) | (have H2_ := (Option.bind_some _ _).symm.trans H; with_reducible exact H2_) | with_reducible exact H | (rw [hy120]; exact H) | exact H
 have Ny120 := Y0.mk hy120
 clear hy120
 obtain ⟨y123, hy123⟩ : ∃ y_ : List (S37), y_ = (([(⟨1, (⟨#[97]⟩ : ByteArray), ([] : List ByteArray), ([] : List (S37))⟩ : S37), (⟨0, (⟨#[]⟩ : ByteArray), ([] : List ByteArray), ([] : List (S37))⟩ : S37), (⟨1, (⟨#[]⟩ : ByteArray), ([] : List ByteArray), ([] : List (S37))⟩ : S37), (⟨1, (⟨#[97, 32, 98]⟩ : ByteArray), ([] : List ByteArray), ([] : List (S37))⟩ : S37), (⟨1, (⟨#[97]⟩ : ByteArray), ([] : List ByteArray), y102⟩ : S37), (⟨3, (⟨#[]⟩ : ByteArray), ([] : List ByteArray), y105⟩ : S37), (⟨5, (⟨#[]⟩ : ByteArray), ([] : List ByteArray), ([] : List (S37))⟩ : S37), (⟨5, (⟨#[97]⟩ : ByteArray), ([] : List ByteArray), y108⟩ : S37), (⟨8, (⟨#[]⟩ : ByteArray), ([] : List ByteArray), ([] : List (S37))⟩ : S37), (⟨8, (⟨#[]⟩ : ByteArray), y111, ([] : List (S37))⟩ : S37), (⟨8, (⟨#[]⟩ : ByteArray), y114, ([] : List (S37))⟩ : S37), (⟨1, (⟨#[97]⟩ : ByteArray), y117, ([] : List (S37))⟩ : S37), (⟨9, (⟨#[]⟩ : ByteArray), ([] : List ByteArray), ([] : List (S37))⟩ : S37), (⟨2, (⟨#[]⟩ : ByteArray), ([] : List ByteArray), y120⟩ : S37)] : List (S37))) := ⟨_, rfl⟩
 replace H : (if a0 < 0 then (triviumlaw12_QueryOdd.j0 k a0 y123 true 1) else (triviumlaw12_QueryOdd.j0 k a0 y123 (decide (a0 ≥ (y123.length : Int))) 1)) = some r := by first | (rw [hy123]; with_reducible exact H) | (have H2_ := (Option.bind_some _ _).symm.trans H; rw [hy123]; with_reducible exact H2_) | (have H2_ := (Option.bind_some _ _).symm.trans H; with_reducible exact H2_) | with_reducible exact H | (rw [hy123]; exact H) | exact H
 have Ny123 := Y0.mk hy123
 clear hy123
 have HC2 := Y0.mk H
 clear H
 go_enter Tryd.func12, Tryd.ntmps12
 go_upto_region 3 with (first | ((with_reducible refine Ym (N := 3) rfl ?_); (try (refine YH (by rfl) ?_; dsimp only)); refine Yl ?hg (N := 3) ?hd (cs := #[.int .i64 0, .string (⟨#[]⟩ : ByteArray), .slice none 0 0, .slice none 0 0]) (t := 37) ?hr ?_; (case hd => rfl); (case hg => rfl); (case hr => exact Z6); intro gb101 hg w3 hbox hb; have n_ := Y1T (Y5 QB hb) (hbox) ((by rw [hg]; exact (Y6 QB) : w.heap.size ≤ gb101)) ((by rw [hg]; exact (Y6 QB) : w.heap.size ≤ gb101)); clear HB; obtain ⟨HB, BK101, GW101, GE101⟩ := n_; clear hb hbox hg; obtain ⟨hcz4_0, hcz4_1, hcz4_2, hcz4_3, hfz4_0, hfz4_1, hfz4_2, hfz4_3⟩ := Yt BK101.out) | ((with_reducible refine Ym (N := 11) rfl ?_); (try (refine YH (by rfl) ?_; dsimp only)); refine Kd.N_lit k37 _ 37 ?hg (N' := 11) ?hd (xs := ([(⟨1, (⟨#[97]⟩ : ByteArray), ([] : List ByteArray), ([] : List (S37))⟩ : S37)] : List (S37))) (inner := [.int .i64 1, .string (⟨#[97]⟩ : ByteArray), .slice none 0 0, .slice none 0 0]) (ok := (fun k_ => k_ ≠ gb101)) (okp := (fun k_ => k_ ≠ gb101)) ?hr ?hp (fun _ hk => hk) (Kd.freshB (g := gb101) (o := .cells #[.int .i64 1, .string (⟨#[97]⟩ : ByteArray), .slice none 0 0, .slice none 0 0] 37 (0, 0)) Z1s _ (Nat.le_refl _)) (Below.refl _ _) (Nat.le_refl _) (by simp) ?_; (case hd => rfl); (case hg => rfl); (case hr => exact Z6); (case hp => exact Zs); intro v103 w5 ho6 hb hg_ hnew_; clear hg_ hnew_; (first | rw [← Ny102.out] at ho6 | (simp only [Int.reduceToNat] at ho6; rw [← Ny102.out] at ho6)); have n_ := Y1X (Kd.N_lower ho6 (Y6 QB)) (Yh (g := gb101) (o := .cells #[.int .i64 1, .string (⟨#[97]⟩ : ByteArray), .slice none 0 0, .slice none 0 0] 37 (0, 0)) Z1s hb) (Y5 QB hb); clear BK101 HB; obtain ⟨HO104, BK101, HB⟩ := n_; clear hb ho6; obtain ⟨Ao7, co7, eo7⟩ := Kd.N_slice HO104.out; subst eo7; obtain ⟨hcz8_0, hcz8_1, hcz8_2, hcz8_3, hfz8_0, hfz8_1, hfz8_2, hfz8_3⟩ := Yt BK101.out) | ((with_reducible refine Ym (N := 14) rfl ?_); (try (refine YH (by rfl) ?_; dsimp only)); refine Kd.N_lit k37 _ 37 ?hg (N' := 14) ?hd (xs := ([(⟨1, (⟨#[97]⟩ : ByteArray), ([] : List ByteArray), ([] : List (S37))⟩ : S37)] : List (S37))) (inner := [.int .i64 1, .string (⟨#[97]⟩ : ByteArray), .slice none 0 0, .slice none 0 0]) (ok := (fun k_ => some k_ ≠ (.slice Ao7 y102.length co7 : Value).ownBlock ∧ k_ ≠ gb101)) (okp := (fun k_ => some k_ ≠ (.slice Ao7 y102.length co7 : Value).ownBlock ∧ k_ ≠ gb101)) ?hr ?hp (fun _ hk => hk) ((show ∀ k_, w5.heap.size ≤ k_ → (fun k_ => some k_ ≠ (.slice Ao7 y102.length co7 : Value).ownBlock ∧ k_ ≠ gb101) k_ from fun k_ hk => ⟨Kd.fresh' (Kd.N_lt Zo) k_ hk, Kd.freshB (g := gb101) (o := .cells #[.int .i64 1, .string (⟨#[97]⟩ : ByteArray), .slice none 0 0, .slice none 0 0] 37 (0, 0)) QQ k_ hk⟩) _ (Nat.le_refl _)) (Below.refl _ _) (Nat.le_refl _) (by simp) ?_; (case hd => rfl); (case hg => rfl); (case hr => exact Z6); (case hp => exact Zs); intro v106 w9 ho10 hb hg_ hnew_; clear hg_ hnew_; (first | rw [← Ny105.out] at ho10 | (simp only [Int.reduceToNat] at ho10; rw [← Ny105.out] at ho10)); have n_ := Y1T (Kd.N_elder' Zo (Kd.N_base ho10) hb) (Kd.N_lower ho10 (Y6 QB)) (Yh (g := gb101) (o := .cells #[.int .i64 1, .string (⟨#[97]⟩ : ByteArray), .slice none 0 0, .slice none 0 0] 37 (0, 0)) QQ hb) (Y5 QB hb); clear HO104 BK101 HB; obtain ⟨HO104, HO107, BK101, HB⟩ := n_; clear hb ho10; obtain ⟨Ao11, co11, eo11⟩ := Kd.N_slice HO107.out; subst eo11; obtain ⟨hcz12_0, hcz12_1, hcz12_2, hcz12_3, hfz12_0, hfz12_1, hfz12_2, hfz12_3⟩ := Yt BK101.out) | ((with_reducible refine Ym (N := 18) rfl ?_); (try (refine YH (by rfl) ?_; dsimp only)); refine Kd.N_lit k37 _ 37 ?hg (N' := 18) ?hd (xs := ([(⟨1, (⟨#[97]⟩ : ByteArray), ([] : List ByteArray), ([] : List (S37))⟩ : S37)] : List (S37))) (inner := [.int .i64 1, .string (⟨#[97]⟩ : ByteArray), .slice none 0 0, .slice none 0 0]) (ok := (fun k_ => some k_ ≠ (.slice Ao7 y102.length co7 : Value).ownBlock ∧ some k_ ≠ (.slice Ao11 y105.length co11 : Value).ownBlock ∧ k_ ≠ gb101)) (okp := (fun k_ => some k_ ≠ (.slice Ao7 y102.length co7 : Value).ownBlock ∧ some k_ ≠ (.slice Ao11 y105.length co11 : Value).ownBlock ∧ k_ ≠ gb101)) ?hr ?hp (fun _ hk => hk) ((show ∀ k_, w9.heap.size ≤ k_ → (fun k_ => some k_ ≠ (.slice Ao7 y102.length co7 : Value).ownBlock ∧ some k_ ≠ (.slice Ao11 y105.length co11 : Value).ownBlock ∧ k_ ≠ gb101) k_ from fun k_ hk => ⟨Kd.fresh' (Kd.N_lt Zo) k_ hk, Kd.fresh' (Kd.N_lt Zv) k_ hk, Kd.freshB (g := gb101) (o := .cells #[.int .i64 1, .string (⟨#[97]⟩ : ByteArray), .slice none 0 0, .slice none 0 0] 37 (0, 0)) QQ k_ hk⟩) _ (Nat.le_refl _)) (Below.refl _ _) (Nat.le_refl _) (by simp) ?_; (case hd => rfl); (case hg => rfl); (case hr => exact Z6); (case hp => exact Zs); intro v109 w13 ho14 hb hg_ hnew_; clear hg_ hnew_; (first | rw [← Ny108.out] at ho14 | (simp only [Int.reduceToNat] at ho14; rw [← Ny108.out] at ho14)); have n_ := Y3A (Kd.N_elder' Zo (Kd.N_base ho14) hb) (Kd.N_elder' Zv (Kd.N_base ho14) hb) (Kd.N_lower ho14 (Y6 QB)) (Yh (g := gb101) (o := .cells #[.int .i64 1, .string (⟨#[97]⟩ : ByteArray), .slice none 0 0, .slice none 0 0] 37 (0, 0)) QQ hb) (Y5 QB hb); clear HO104 HO107 BK101 HB; obtain ⟨HO104, HO107, HO110, BK101, HB⟩ := n_; clear hb ho14; obtain ⟨Ao15, co15, eo15⟩ := Kd.N_slice HO110.out; subst eo15) | ((with_reducible refine Ym (N := 21) rfl ?_); (try (refine YH (by rfl) ?_; dsimp only)); refine Kd.R_lit Kd.string _ 9 ?hg (N := 21) ?hd (xs := ([(⟨#[97]⟩ : ByteArray), (⟨#[60]⟩ : ByteArray)] : List ByteArray)) (inner := [.string (⟨#[97]⟩ : ByteArray), .string (⟨#[60]⟩ : ByteArray)]) (ok := fun _ => True) (okp := fun _ => True) ?hr ?hp (fun _ hk => hk) trivial (Below.refl _ _) (Nat.le_refl _) (by simp) ?_; (case hd => rfl); (case hg => rfl); (case hr => exact Z6); (case hp => exact (Y12.one (show Kd.M Kd.string _ _ _ (⟨#[97]⟩ : ByteArray) [.string (⟨#[97]⟩ : ByteArray)] from rfl) (Y12.one (show Kd.M Kd.string _ _ _ (⟨#[60]⟩ : ByteArray) [.string (⟨#[60]⟩ : ByteArray)] from rfl) (Y12.none _ _)))); intro v112 w16 ho17 hb hg_ hnew_; clear hg_ hnew_; (first | rw [← Ny111.out] at ho17 | (simp only [Int.reduceToNat] at ho17; rw [← Ny111.out] at ho17)); have n_ := Y2W (Kd.N_elder' Zo (Kd.R_base ho17) hb) (Kd.N_elder' Zv (Kd.R_base ho17) hb) (Kd.N_elder' ZE (Kd.R_base ho17) hb) (Kd.R_lower ho17 (Y6 QB)) (Yh (g := gb101) (o := .cells #[.int .i64 1, .string (⟨#[97]⟩ : ByteArray), .slice none 0 0, .slice none 0 0] 37 (0, 0)) QQ hb) (Y5 QB hb); clear HO104 HO107 HO110 BK101 HB; obtain ⟨HO104, HO107, HO110, HO113, BK101, HB⟩ := n_; clear hb ho17; obtain ⟨Ao18, co18, eo18⟩ := Kd.R_slice HO113.out; subst eo18) | ((with_reducible refine Ym (N := 23) rfl ?_); (try (refine YH (by rfl) ?_; dsimp only)); refine Kd.R_lit Kd.string _ 9 ?hg (N := 23) ?hd (xs := ([(⟨#[97]⟩ : ByteArray), (⟨#[98]⟩ : ByteArray), (⟨#[99]⟩ : ByteArray), (⟨#[100]⟩ : ByteArray), (⟨#[101]⟩ : ByteArray)] : List ByteArray)) (inner := [.string (⟨#[97]⟩ : ByteArray), .string (⟨#[98]⟩ : ByteArray), .string (⟨#[99]⟩ : ByteArray), .string (⟨#[100]⟩ : ByteArray), .string (⟨#[101]⟩ : ByteArray)]) (ok := fun _ => True) (okp := fun _ => True) ?hr ?hp (fun _ hk => hk) trivial (Below.refl _ _) (Nat.le_refl _) (by simp) ?_; (case hd => rfl); (case hg => rfl); (case hr => exact Z6); (case hp => exact (Y12.one (show Kd.M Kd.string _ _ _ (⟨#[97]⟩ : ByteArray) [.string (⟨#[97]⟩ : ByteArray)] from rfl) (Y12.one (show Kd.M Kd.string _ _ _ (⟨#[98]⟩ : ByteArray) [.string (⟨#[98]⟩ : ByteArray)] from rfl) (Y12.one (show Kd.M Kd.string _ _ _ (⟨#[99]⟩ : ByteArray) [.string (⟨#[99]⟩ : ByteArray)] from rfl) (Y12.one (show Kd.M Kd.string _ _ _ (⟨#[100]⟩ : ByteArray) [.string (⟨#[100]⟩ : ByteArray)] from rfl) (Y12.one (show Kd.M Kd.string _ _ _ (⟨#[101]⟩ : ByteArray) [.string (⟨#[101]⟩ : ByteArray)] from rfl) (Y12.none _ _))))))); intro v115 w19 ho20 hb hg_ hnew_; clear hg_ hnew_; (first | rw [← Ny114.out] at ho20 | (simp only [Int.reduceToNat] at ho20; rw [← Ny114.out] at ho20)); have n_ := Y3p (Kd.N_elder' Zo (Kd.R_base ho20) hb) (Kd.N_elder' Zv (Kd.R_base ho20) hb) (Kd.N_elder' ZE (Kd.R_base ho20) hb) (Kd.R_elder' ZG (Kd.R_base ho20) hb) (Kd.R_lower (Kd.R_new' ho20 (Kd.R_lt ZG)) (Y6 QB)) (Yh (g := gb101) (o := .cells #[.int .i64 1, .string (⟨#[97]⟩ : ByteArray), .slice none 0 0, .slice none 0 0] 37 (0, 0)) QQ hb) (Y5 QB hb); clear HO104 HO107 HO110 HO113 BK101 HB; obtain ⟨HO104, HO107, HO110, HO113, HO116, BK101, HB⟩ := n_; clear hb ho20; obtain ⟨Ao21, co21, eo21⟩ := Kd.R_slice HO116.out; subst eo21) | ((with_reducible refine Ym (N := 25) rfl ?_); (try (refine YH (by rfl) ?_; dsimp only)); refine Kd.R_lit Kd.string _ 9 ?hg (N := 25) ?hd (xs := ([(⟨#[97]⟩ : ByteArray)] : List ByteArray)) (inner := [.string (⟨#[97]⟩ : ByteArray)]) (ok := fun _ => True) (okp := fun _ => True) ?hr ?hp (fun _ hk => hk) trivial (Below.refl _ _) (Nat.le_refl _) (by simp) ?_; (case hd => rfl); (case hg => rfl); (case hr => exact Z6); (case hp => exact (Y12.one (show Kd.M Kd.string _ _ _ (⟨#[97]⟩ : ByteArray) [.string (⟨#[97]⟩ : ByteArray)] from rfl) (Y12.none _ _))); intro v118 w22 ho23 hb hg_ hnew_; clear hg_ hnew_; (first | rw [← Ny117.out] at ho23 | (simp only [Int.reduceToNat] at ho23; rw [← Ny117.out] at ho23)); have n_ := Y3q (Kd.N_elder' Zo (Kd.R_base ho23) hb) (Kd.N_elder' Zv (Kd.R_base ho23) hb) (Kd.N_elder' ZE (Kd.R_base ho23) hb) (Kd.R_elder' ZG (Kd.R_base ho23) hb) (Kd.R_elder' ZZ (Kd.R_base ho23) hb) (Kd.R_lower (Kd.R_new' (Kd.R_new' ho23 (Kd.R_lt ZG)) (Kd.R_lt ZZ)) (Y6 QB)) (Yh (g := gb101) (o := .cells #[.int .i64 1, .string (⟨#[97]⟩ : ByteArray), .slice none 0 0, .slice none 0 0] 37 (0, 0)) QQ hb) (Y5 QB hb); clear HO104 HO107 HO110 HO113 HO116 BK101 HB; obtain ⟨HO104, HO107, HO110, HO113, HO116, HO119, BK101, HB⟩ := n_; clear hb ho23; obtain ⟨Ao24, co24, eo24⟩ := Kd.R_slice HO119.out; subst eo24) | ((with_reducible refine Ym (N := 29) rfl ?_); (try (refine YH (by rfl) ?_; dsimp only)); refine Kd.N_lit k37 _ 37 ?hg (N' := 29) ?hd (xs := ([(⟨0, (⟨#[]⟩ : ByteArray), ([] : List ByteArray), ([] : List (S37))⟩ : S37)] : List (S37))) (inner := [.int .i64 0, .string (⟨#[]⟩ : ByteArray), .slice none 0 0, .slice none 0 0]) (ok := (fun k_ => some k_ ≠ (.slice Ao7 y102.length co7 : Value).ownBlock ∧ some k_ ≠ (.slice Ao11 y105.length co11 : Value).ownBlock ∧ some k_ ≠ (.slice Ao15 y108.length co15 : Value).ownBlock ∧ some k_ ≠ (.slice Ao18 y111.length co18 : Value).ownBlock ∧ some k_ ≠ (.slice Ao21 y114.length co21 : Value).ownBlock ∧ some k_ ≠ (.slice Ao24 y117.length co24 : Value).ownBlock ∧ k_ ≠ gb101)) (okp := (fun k_ => some k_ ≠ (.slice Ao7 y102.length co7 : Value).ownBlock ∧ some k_ ≠ (.slice Ao11 y105.length co11 : Value).ownBlock ∧ some k_ ≠ (.slice Ao15 y108.length co15 : Value).ownBlock ∧ some k_ ≠ (.slice Ao18 y111.length co18 : Value).ownBlock ∧ some k_ ≠ (.slice Ao21 y114.length co21 : Value).ownBlock ∧ some k_ ≠ (.slice Ao24 y117.length co24 : Value).ownBlock ∧ k_ ≠ gb101)) ?hr ?hp (fun _ hk => hk) ((show ∀ k_, w22.heap.size ≤ k_ → (fun k_ => some k_ ≠ (.slice Ao7 y102.length co7 : Value).ownBlock ∧ some k_ ≠ (.slice Ao11 y105.length co11 : Value).ownBlock ∧ some k_ ≠ (.slice Ao15 y108.length co15 : Value).ownBlock ∧ some k_ ≠ (.slice Ao18 y111.length co18 : Value).ownBlock ∧ some k_ ≠ (.slice Ao21 y114.length co21 : Value).ownBlock ∧ some k_ ≠ (.slice Ao24 y117.length co24 : Value).ownBlock ∧ k_ ≠ gb101) k_ from fun k_ hk => ⟨Kd.fresh' (Kd.N_lt Zo) k_ hk, Kd.fresh' (Kd.N_lt Zv) k_ hk, Kd.fresh' (Kd.N_lt ZE) k_ hk, Kd.fresh' (Kd.R_lt ZG) k_ hk, Kd.fresh' (Kd.R_lt ZZ) k_ hk, Kd.fresh' (Kd.R_lt Z1h) k_ hk, Kd.freshB (g := gb101) (o := .cells #[.int .i64 1, .string (⟨#[97]⟩ : ByteArray), .slice none 0 0, .slice none 0 0] 37 (0, 0)) QQ k_ hk⟩) _ (Nat.le_refl _)) (Below.refl _ _) (Nat.le_refl _) (by simp) ?_; (case hd => rfl); (case hg => rfl); (case hr => exact Z6); (case hp => exact (Y12.c4 (show Kd.FK k37 _ _ (⟨0, (⟨#[]⟩ : ByteArray), ([] : List ByteArray), ([] : List (S37))⟩ : S37) [.int .i64 0, .string (⟨#[]⟩ : ByteArray), .slice none 0 0, .slice none 0 0] from (Y1a _ _ (⟨0, (⟨#[]⟩ : ByteArray), ([] : List ByteArray), ([] : List (S37))⟩ : S37) (Nat.le_refl _) (Kd.F_nil _ _ _) (Nat.le_refl _) (Kd.F_nil _ _ _))) (Y12.none _ _))); intro v121 w25 ho26 hb hg_ hnew_; clear hg_ hnew_; (first | rw [← Ny120.out] at ho26 | (simp only [Int.reduceToNat] at ho26; rw [← Ny120.out] at ho26)); have n_ := put9 (Kd.N_elder' Zo (Kd.N_base ho26) hb) (Kd.N_elder' Zv (Kd.N_base ho26) hb) (Kd.N_elder' ZE (Kd.N_base ho26) hb) (Kd.R_below ZG hb) (Kd.R_below ZZ hb) (Kd.R_below Z1h hb) (Kd.N_lower ho26 (Y6 QB)) (Yh (g := gb101) (o := .cells #[.int .i64 1, .string (⟨#[97]⟩ : ByteArray), .slice none 0 0, .slice none 0 0] 37 (0, 0)) QQ hb) (Y5 QB hb); clear HO104 HO107 HO110 HO113 HO116 HO119 BK101 HB; obtain ⟨HO104, HO107, HO110, HO113, HO116, HO119, HO122, BK101, HB⟩ := n_; clear hb ho26; obtain ⟨Ao27, co27, eo27⟩ := Kd.N_slice HO122.out; subst eo27) | ((with_reducible refine Ym (N := 31) rfl ?_); (try (refine YH (by rfl) ?_; dsimp only)); refine Kd.N_lit k37 _ 37 ?hg (N' := 31) ?hd (xs := ([(⟨1, (⟨#[97]⟩ : ByteArray), ([] : List ByteArray), ([] : List (S37))⟩ : S37), (⟨0, (⟨#[]⟩ : ByteArray), ([] : List ByteArray), ([] : List (S37))⟩ : S37), (⟨1, (⟨#[]⟩ : ByteArray), ([] : List ByteArray), ([] : List (S37))⟩ : S37), (⟨1, (⟨#[97, 32, 98]⟩ : ByteArray), ([] : List ByteArray), ([] : List (S37))⟩ : S37), (⟨1, (⟨#[97]⟩ : ByteArray), ([] : List ByteArray), y102⟩ : S37), (⟨3, (⟨#[]⟩ : ByteArray), ([] : List ByteArray), y105⟩ : S37), (⟨5, (⟨#[]⟩ : ByteArray), ([] : List ByteArray), ([] : List (S37))⟩ : S37), (⟨5, (⟨#[97]⟩ : ByteArray), ([] : List ByteArray), y108⟩ : S37), (⟨8, (⟨#[]⟩ : ByteArray), ([] : List ByteArray), ([] : List (S37))⟩ : S37), (⟨8, (⟨#[]⟩ : ByteArray), y111, ([] : List (S37))⟩ : S37), (⟨8, (⟨#[]⟩ : ByteArray), y114, ([] : List (S37))⟩ : S37), (⟨1, (⟨#[97]⟩ : ByteArray), y117, ([] : List (S37))⟩ : S37), (⟨9, (⟨#[]⟩ : ByteArray), ([] : List ByteArray), ([] : List (S37))⟩ : S37), (⟨2, (⟨#[]⟩ : ByteArray), ([] : List ByteArray), y120⟩ : S37)] : List (S37))) (inner := [.int .i64 1, .string (⟨#[97]⟩ : ByteArray), .slice none 0 0, .slice none 0 0, .int .i64 0, .string (⟨#[]⟩ : ByteArray), .slice none 0 0, .slice none 0 0, .int .i64 1, .string (⟨#[]⟩ : ByteArray), .slice none 0 0, .slice none 0 0, .int .i64 1, .string (⟨#[97, 32, 98]⟩ : ByteArray), .slice none 0 0, .slice none 0 0, .int .i64 1, .string (⟨#[97]⟩ : ByteArray), .slice none 0 0, .slice Ao7 y102.length co7, .int .i64 3, .string (⟨#[]⟩ : ByteArray), .slice none 0 0, .slice Ao11 y105.length co11, .int .i64 5, .string (⟨#[]⟩ : ByteArray), .slice none 0 0, .slice none 0 0, .int .i64 5, .string (⟨#[97]⟩ : ByteArray), .slice none 0 0, .slice Ao15 y108.length co15, .int .i64 8, .string (⟨#[]⟩ : ByteArray), .slice none 0 0, .slice none 0 0, .int .i64 8, .string (⟨#[]⟩ : ByteArray), .slice Ao18 y111.length co18, .slice none 0 0, .int .i64 8, .string (⟨#[]⟩ : ByteArray), .slice Ao21 y114.length co21, .slice none 0 0, .int .i64 1, .string (⟨#[97]⟩ : ByteArray), .slice Ao24 y117.length co24, .slice none 0 0, .int .i64 9, .string (⟨#[]⟩ : ByteArray), .slice none 0 0, .slice none 0 0, .int .i64 2, .string (⟨#[]⟩ : ByteArray), .slice none 0 0, .slice Ao27 y120.length co27]) (ok := (fun k_ => k_ ≠ gb101)) (okp := (fun k_ => k_ ≠ gb101)) ?hr ?hp (fun _ hk => hk) ((show ∀ k_, w25.heap.size ≤ k_ → (fun k_ => k_ ≠ gb101) k_ from fun k_ hk => Kd.freshB (g := gb101) (o := .cells #[.int .i64 1, .string (⟨#[97]⟩ : ByteArray), .slice none 0 0, .slice none 0 0] 37 (0, 0)) QQ k_ hk) _ (Nat.le_refl _)) (Below.refl _ _) (Nat.le_refl _) (by simp) ?_; (case hd => rfl); (case hg => rfl); (case hr => exact Z6); (case hp => exact (Y12.c4 (show Kd.FK k37 _ _ (⟨1, (⟨#[97]⟩ : ByteArray), ([] : List ByteArray), ([] : List (S37))⟩ : S37) [.int .i64 1, .string (⟨#[97]⟩ : ByteArray), .slice none 0 0, .slice none 0 0] from (Y1a _ _ (⟨1, (⟨#[97]⟩ : ByteArray), ([] : List ByteArray), ([] : List (S37))⟩ : S37) (Nat.le_refl _) (Kd.F_nil _ _ _) (Nat.le_refl _) (Kd.F_nil _ _ _))) (Y12.c4 (show Kd.FK k37 _ _ (⟨0, (⟨#[]⟩ : ByteArray), ([] : List ByteArray), ([] : List (S37))⟩ : S37) [.int .i64 0, .string (⟨#[]⟩ : ByteArray), .slice none 0 0, .slice none 0 0] from (Y1a _ _ (⟨0, (⟨#[]⟩ : ByteArray), ([] : List ByteArray), ([] : List (S37))⟩ : S37) (Nat.le_refl _) (Kd.F_nil _ _ _) (Nat.le_refl _) (Kd.F_nil _ _ _))) (Y12.c4 (show Kd.FK k37 _ _ (⟨1, (⟨#[]⟩ : ByteArray), ([] : List ByteArray), ([] : List (S37))⟩ : S37) [.int .i64 1, .string (⟨#[]⟩ : ByteArray), .slice none 0 0, .slice none 0 0] from (Y1a _ _ (⟨1, (⟨#[]⟩ : ByteArray), ([] : List ByteArray), ([] : List (S37))⟩ : S37) (Nat.le_refl _) (Kd.F_nil _ _ _) (Nat.le_refl _) (Kd.F_nil _ _ _))) (Y12.c4 (show Kd.FK k37 _ _ (⟨1, (⟨#[97, 32, 98]⟩ : ByteArray), ([] : List ByteArray), ([] : List (S37))⟩ : S37) [.int .i64 1, .string (⟨#[97, 32, 98]⟩ : ByteArray), .slice none 0 0, .slice none 0 0] from (Y1a _ _ (⟨1, (⟨#[97, 32, 98]⟩ : ByteArray), ([] : List ByteArray), ([] : List (S37))⟩ : S37) (Nat.le_refl _) (Kd.F_nil _ _ _) (Nat.le_refl _) (Kd.F_nil _ _ _))) (Y12.c4 (show Kd.FK k37 _ _ (⟨1, (⟨#[97]⟩ : ByteArray), ([] : List ByteArray), y102⟩ : S37) [.int .i64 1, .string (⟨#[97]⟩ : ByteArray), .slice none 0 0, .slice Ao7 y102.length co7] from (Y1a _ _ (⟨1, (⟨#[97]⟩ : ByteArray), ([] : List ByteArray), y102⟩ : S37) (Nat.le_refl _) (Kd.F_nil _ _ _) (Kd.N_reads' (Kd.N_mono (ok' := (fun k_ => k_ ≠ gb101)) (HO104.out) (fun k_ hk => hk.1.1.1.1.1.1))).2.1 (Kd.N_F (Kd.N_mono (ok' := (fun k_ => k_ ≠ gb101)) (HO104.out) (fun k_ hk => hk.1.1.1.1.1.1))))) (Y12.c4 (show Kd.FK k37 _ _ (⟨3, (⟨#[]⟩ : ByteArray), ([] : List ByteArray), y105⟩ : S37) [.int .i64 3, .string (⟨#[]⟩ : ByteArray), .slice none 0 0, .slice Ao11 y105.length co11] from (Y1a _ _ (⟨3, (⟨#[]⟩ : ByteArray), ([] : List ByteArray), y105⟩ : S37) (Nat.le_refl _) (Kd.F_nil _ _ _) (Kd.N_reads' (Kd.N_mono (ok' := (fun k_ => k_ ≠ gb101)) (HO107.out) (fun k_ hk => hk.1.1.1.1.1.2))).2.1 (Kd.N_F (Kd.N_mono (ok' := (fun k_ => k_ ≠ gb101)) (HO107.out) (fun k_ hk => hk.1.1.1.1.1.2))))) (Y12.c4 (show Kd.FK k37 _ _ (⟨5, (⟨#[]⟩ : ByteArray), ([] : List ByteArray), ([] : List (S37))⟩ : S37) [.int .i64 5, .string (⟨#[]⟩ : ByteArray), .slice none 0 0, .slice none 0 0] from (Y1a _ _ (⟨5, (⟨#[]⟩ : ByteArray), ([] : List ByteArray), ([] : List (S37))⟩ : S37) (Nat.le_refl _) (Kd.F_nil _ _ _) (Nat.le_refl _) (Kd.F_nil _ _ _))) (Y12.c4 (show Kd.FK k37 _ _ (⟨5, (⟨#[97]⟩ : ByteArray), ([] : List ByteArray), y108⟩ : S37) [.int .i64 5, .string (⟨#[97]⟩ : ByteArray), .slice none 0 0, .slice Ao15 y108.length co15] from (Y1a _ _ (⟨5, (⟨#[97]⟩ : ByteArray), ([] : List ByteArray), y108⟩ : S37) (Nat.le_refl _) (Kd.F_nil _ _ _) (Kd.N_reads' (Kd.N_mono (ok' := (fun k_ => k_ ≠ gb101)) (HO110.out) (fun k_ hk => hk.1.1.1.1.2.2))).2.1 (Kd.N_F (Kd.N_mono (ok' := (fun k_ => k_ ≠ gb101)) (HO110.out) (fun k_ hk => hk.1.1.1.1.2.2))))) (Y12.c4 (show Kd.FK k37 _ _ (⟨8, (⟨#[]⟩ : ByteArray), ([] : List ByteArray), ([] : List (S37))⟩ : S37) [.int .i64 8, .string (⟨#[]⟩ : ByteArray), .slice none 0 0, .slice none 0 0] from (Y1a _ _ (⟨8, (⟨#[]⟩ : ByteArray), ([] : List ByteArray), ([] : List (S37))⟩ : S37) (Nat.le_refl _) (Kd.F_nil _ _ _) (Nat.le_refl _) (Kd.F_nil _ _ _))) (Y12.c4 (show Kd.FK k37 _ _ (⟨8, (⟨#[]⟩ : ByteArray), y111, ([] : List (S37))⟩ : S37) [.int .i64 8, .string (⟨#[]⟩ : ByteArray), .slice Ao18 y111.length co18, .slice none 0 0] from (Y1a _ _ (⟨8, (⟨#[]⟩ : ByteArray), y111, ([] : List (S37))⟩ : S37) (Kd.R_reads' (Kd.R_mono (ok' := (fun k_ => k_ ≠ gb101)) (Kd.R_types (HO113.out) BK101.out (by decide)) (fun k_ hk => hk.2))).2.1 (Kd.R_F (Kd.R_mono (ok' := (fun k_ => k_ ≠ gb101)) (Kd.R_types (HO113.out) BK101.out (by decide)) (fun k_ hk => hk.2))) (Nat.le_refl _) (Kd.F_nil _ _ _))) (Y12.c4 (show Kd.FK k37 _ _ (⟨8, (⟨#[]⟩ : ByteArray), y114, ([] : List (S37))⟩ : S37) [.int .i64 8, .string (⟨#[]⟩ : ByteArray), .slice Ao21 y114.length co21, .slice none 0 0] from (Y1a _ _ (⟨8, (⟨#[]⟩ : ByteArray), y114, ([] : List (S37))⟩ : S37) (Kd.R_reads' (Kd.R_mono (ok' := (fun k_ => k_ ≠ gb101)) (Kd.R_types (HO116.out) BK101.out (by decide)) (fun k_ hk => hk.2))).2.1 (Kd.R_F (Kd.R_mono (ok' := (fun k_ => k_ ≠ gb101)) (Kd.R_types (HO116.out) BK101.out (by decide)) (fun k_ hk => hk.2))) (Nat.le_refl _) (Kd.F_nil _ _ _))) (Y12.c4 (show Kd.FK k37 _ _ (⟨1, (⟨#[97]⟩ : ByteArray), y117, ([] : List (S37))⟩ : S37) [.int .i64 1, .string (⟨#[97]⟩ : ByteArray), .slice Ao24 y117.length co24, .slice none 0 0] from (Y1a _ _ (⟨1, (⟨#[97]⟩ : ByteArray), y117, ([] : List (S37))⟩ : S37) (Kd.R_reads' (Kd.R_mono (ok' := (fun k_ => k_ ≠ gb101)) (Kd.R_types (HO119.out) BK101.out (by decide)) (fun k_ hk => hk.2))).2.1 (Kd.R_F (Kd.R_mono (ok' := (fun k_ => k_ ≠ gb101)) (Kd.R_types (HO119.out) BK101.out (by decide)) (fun k_ hk => hk.2))) (Nat.le_refl _) (Kd.F_nil _ _ _))) (Y12.c4 (show Kd.FK k37 _ _ (⟨9, (⟨#[]⟩ : ByteArray), ([] : List ByteArray), ([] : List (S37))⟩ : S37) [.int .i64 9, .string (⟨#[]⟩ : ByteArray), .slice none 0 0, .slice none 0 0] from (Y1a _ _ (⟨9, (⟨#[]⟩ : ByteArray), ([] : List ByteArray), ([] : List (S37))⟩ : S37) (Nat.le_refl _) (Kd.F_nil _ _ _) (Nat.le_refl _) (Kd.F_nil _ _ _))) (Y12.c4 (show Kd.FK k37 _ _ (⟨2, (⟨#[]⟩ : ByteArray), ([] : List ByteArray), y120⟩ : S37) [.int .i64 2, .string (⟨#[]⟩ : ByteArray), .slice none 0 0, .slice Ao27 y120.length co27] from (Y1a _ _ (⟨2, (⟨#[]⟩ : ByteArray), ([] : List ByteArray), y120⟩ : S37) (Nat.le_refl _) (Kd.F_nil _ _ _) (Kd.N_reads' (Kd.N_mono (ok' := (fun k_ => k_ ≠ gb101)) (HO122.out) (fun k_ hk => hk.2.2.2.2.2.2))).2.1 (Kd.N_F (Kd.N_mono (ok' := (fun k_ => k_ ≠ gb101)) (HO122.out) (fun k_ hk => hk.2.2.2.2.2.2))))) (Y12.none _ _)))))))))))))))); intro v124 w28 ho29 hb hg_ hnew_; clear hg_ hnew_; (first | rw [← Ny123.out] at ho29 | (simp only [Int.reduceToNat] at ho29; rw [← Ny123.out] at ho29)); have n_ := Y1X (Kd.N_lower ho29 (Y6 QB)) (Yh (g := gb101) (o := .cells #[.int .i64 1, .string (⟨#[97]⟩ : ByteArray), .slice none 0 0, .slice none 0 0] 37 (0, 0)) QQ hb) (Y5 QB hb); clear BK101 HB HO104 HO107 HO110 HO113 HO116 HO119 HO122; obtain ⟨HO125, BK101, HB⟩ := n_; clear hb ho29))
 (try simp only [Act.put, List.setIfInBounds_toArray, List.set_cons_zero, List.set_cons_succ])
 go_cut [39] (fun v39 wc => ∃ (kq : Nat) (x39_1 : Bool), v39 = .bool x39_1 ∧ Y0 (triviumlaw12_QueryOdd.j0 kq a0 y123 x39_1 1 = some r) ∧ Y0 (kq ≤ k) ∧ Y0 (Kd.N k37 37 wc w.heap.size (fun k_ => k_ ≠ gb101) v124 y123) ∧ Y0 (wc.heap[gb101]? = some (.cells #[.int .i64 1, .string (⟨#[97]⟩ : ByteArray), (.slice none 0 0), (.slice none 0 0)] 37 (0, 0))) ∧ Y0 (Below w.heap.size w wc))
 case first =>
  have H := HC2.out
  clear HC2
  by_cases c30 : a0 < 0
  ·rw [if_pos c30] at H
   have c30b0 : decide (a0 < 0) = true := decide_eq_true c30
   clear c30
   (first | rw [c30b0] | (simp only [Y11, Y18]; rw [c30b0]) | skip)
   have H' := Y0.mk H
   clear H
   go_wp2
   go_meet
   case rel => exact ⟨_, (true), Zb, H', ⟨Z10⟩, ⟨Z1j⟩, ⟨Zf⟩, ⟨QB⟩⟩
  ·rw [if_neg c30] at H
   have c30b0 : decide (a0 < 0) = false := decide_eq_false c30
   clear c30
   (first | rw [c30b0] | (simp only [Y11, Y18]; rw [c30b0]) | skip)
   have H' := Y0.mk H
   clear H
   obtain ⟨Ao31, co31, eo31⟩ := Kd.N_slice HO125.out
   subst eo31
   go_wp2
   go_meet
   case rel => exact ⟨_, (decide (a0 ≥ (y123.length : Int))), Zb, H', ⟨Z10⟩, ⟨Z1j⟩, ⟨Zf⟩, ⟨QB⟩⟩
 case rest =>
  clear HC2
  try clear c1
  try clear p2
  try clear c3
  try clear c4
  try clear c12
  try clear c30
  try clear c30b0
  try clear hcz12_0 hcz12_1 hcz12_2 hcz12_3
  try clear hcz4_0 hcz4_1 hcz4_2 hcz4_3
  try clear hcz8_0 hcz8_1 hcz8_2 hcz8_3
  try clear hfz12_0
  try clear hfz12_1
  try clear hfz12_2
  try clear hfz12_3
  try clear hfz4_0
  try clear hfz4_1
  try clear hfz4_2
  try clear hfz4_3
  try clear hfz8_0
  try clear hfz8_1
  try clear hfz8_2
  try clear hfz8_3
  obtain ⟨kq, x39_1, rfl, HA, HJ1, HO_4, BK101, HB⟩ := hcut
  cases kq with
  | zero => exact absurd HA.out (by simp [triviumlaw12_QueryOdd.j0])
  | succ kj1 =>
   have H := HA.out
   clear HA
   simp only [triviumlaw12_QueryOdd.j0] at H
   by_cases c32 : x39_1 = true
   ·subst c32
    have H1 : (some true) = some r := by rw [if_pos rfl] at H; exact H
    clear H
    have H := H1
    clear H1
    obtain rfl := Option.some.inj H
    go_wp2
    go_ret
    exact Z1y
   ·replace c32 := Bool.eq_false_iff.mpr c32
    subst c32
    have H1 : (if 0 ≤ a0 then (if a0 < (y123.length : Int) then ((Y10.f kj1 ((Y1 y123 a0).f0) ((Y1 y123 a0).f1) ((Y1 y123 a0).f2) ((Y1 y123 a0).f3)).bind fun t127 => (if (t127 == (a0 == 0)) = true then ((Yz.f kj1 ((Y1 y123 a0).f0) ((Y1 y123 a0).f1) ((Y1 y123 a0).f2) ((Y1 y123 a0).f3) 1 (⟨#[97]⟩ : ByteArray) ([] : List ByteArray) ([] : List (S37))).bind fun t129 => (if (t129 == (a0 == 0)) = true then ((YZ.f kj1).bind fun t130 => (some t130)) else (some false))) else (some false))) else (none)) else (none)) = some r := by rw [if_neg (show ¬ (false = true) by decide)] at H; exact H
    clear H
    have H := H1
    clear H1
    by_cases c33 : 0 ≤ a0
    ·rw [if_pos c33] at H
     have c33b0 : decide (0 ≤ a0) = true := decide_eq_true c33
     clear c33
     by_cases c34 : a0 < (y123.length : Int)
     ·rw [if_pos c34] at H
      have c34b0 : decide (a0 < (y123.length : Int)) = true := decide_eq_true c34
      clear c34
      replace H := Option.bind_eq_some_iff.mp H
      obtain ⟨t127, A350, H⟩ := H
      replace H : (if (t127 == (a0 == 0)) = true then ((Yz.f kj1 ((Y1 y123 a0).f0) ((Y1 y123 a0).f1) ((Y1 y123 a0).f2) ((Y1 y123 a0).f3) 1 (⟨#[97]⟩ : ByteArray) ([] : List ByteArray) ([] : List (S37))).bind fun t129 => (if (t129 == (a0 == 0)) = true then ((YZ.f kj1).bind fun t130 => (some t130)) else (some false))) else (some false)) = some r := H
      have A35 := Y0.mk A350
      clear A350
      by_cases c36 : (t127 == (a0 == 0)) = true
      ·rw [if_pos c36] at H
       have c36b0 : (t127 == (a0 == 0)) = true := c36
       (try (have c36b1 : ((t127 = (a0 = 0))) = True := eq_true (by simpa using c36)))
       (try (have c36b2 : decide (t127 = (a0 == 0)) = true := by simpa using c36))
       (try (have c36b3 : (t127 == (a0 == 0)) = true := by simpa using c36))
       (try rw [show (t127 == (a0 == 0)) = true from by first | simpa using c36 | simpa [show ∀ l_ : List UInt8, (l_ != ([] : List UInt8)) = !l_.isEmpty from fun l_ => by cases l_ <;> rfl, show ∀ l_ : List UInt8, (l_ == ([] : List UInt8)) = l_.isEmpty from fun l_ => by cases l_ <;> rfl] using c36])
       clear c36
       replace H := Option.bind_eq_some_iff.mp H
       obtain ⟨t129, A370, H⟩ := H
       replace H : (if (t129 == (a0 == 0)) = true then ((YZ.f kj1).bind fun t130 => (some t130)) else (some false)) = some r := H
       have A37 := Y0.mk A370
       clear A370
       by_cases c38 : (t129 == (a0 == 0)) = true
       ·rw [if_pos c38] at H
        have c38b0 : (t129 == (a0 == 0)) = true := c38
        (try (have c38b1 : ((t129 = (a0 = 0))) = True := eq_true (by simpa using c38)))
        (try (have c38b2 : decide (t129 = (a0 == 0)) = true := by simpa using c38))
        (try (have c38b3 : (t129 == (a0 == 0)) = true := by simpa using c38))
        (try rw [show (t129 == (a0 == 0)) = true from by first | simpa using c38 | simpa [show ∀ l_ : List UInt8, (l_ != ([] : List UInt8)) = !l_.isEmpty from fun l_ => by cases l_ <;> rfl, show ∀ l_ : List UInt8, (l_ == ([] : List UInt8)) = l_.isEmpty from fun l_ => by cases l_ <;> rfl] using c38])
        clear c38
        replace H := Option.bind_eq_some_iff.mp H
        obtain ⟨t130, A390, H⟩ := H
        replace H : (some t130) = some r := H
        have A39 := Y0.mk A390
        clear A390
        obtain rfl := Option.some.inj H
        try go_wp2
        have n_ := Y1X (Kd.N_drew HO_4.out) (Y8 BK101.out) (YI HB.out)
        clear HO_4
        clear BK101
        clear HB
        obtain ⟨HO_4, BK101, HB⟩ := n_
        obtain ⟨Ao41, co41, eo41⟩ := Kd.N_slice HO_4.out
        (first | subst eo41 | (injection eo41 with f1_ f2_ f3_; have f4_ := f1_.symm; have f5_ := f3_.symm; clear f1_ f2_ f3_; subst f4_; subst f5_))
        have p126 : 0 ≤ (a0 : Int) := of_decide_eq_true Z5
        have q126 : a0 < (y123.length : Int) := of_decide_eq_true Z5
        obtain ⟨ad126, A126_2, c126_2, A126_3, c126_3, e126, hx126_0, hx126_1, hx126_2, hx126_3, hl126_2, hi126_2, hl126_3, hi126_3⟩ := Y1x (Kd.N_reads' HO_4.out).2.2 a0 p126 q126
        cases e126
        obtain ⟨ce126, hce126, hMe126, hcc126⟩ := Kd.N_get HO_4.out z37 a0 p126 Z1z
        obtain ⟨ua126_2, uc126_2, ua126_3, uc126_3, rfl, ul126_2, ge126_2, ul126_3, ge126_3⟩ := Y22 hMe126
        have hv126_2 := hcc126 2 _ rfl
        rw [Y1m _ _ 2 (by omega)] at hv126_2
        replace hv126_2 := Option.some.inj (hv126_2.symm.trans hx126_2)
        injection hv126_2 with hva_ hvn_ hvc_
        rw [hva_] at ge126_2
        rw [hvc_] at ul126_2
        have HL126_2 := Y0.mk (show Kd.V Kd.string 9 _ w.heap.size _ _ ((Y1 y123 a0).f2) from Kd.V_mk ul126_2 ge126_2)
        clear hva_ hvn_ hvc_ ge126_2 ul126_2
        have hv126_3 := hcc126 3 _ rfl
        rw [Y1m _ _ 3 (by omega)] at hv126_3
        replace hv126_3 := Option.some.inj (hv126_3.symm.trans hx126_3)
        injection hv126_3 with hva_ hvn_ hvc_
        rw [hva_] at ge126_3
        rw [hvc_] at ul126_3
        have HL126_3 := Y0.mk (show Kd.V k37 37 _ w.heap.size _ _ ((Y1 y123 a0).f3) from Kd.V_mk ul126_3 ge126_3)
        clear hva_ hvn_ hvc_ ge126_3 ul126_3
        clear hcc126 hce126
        have HR126_2 := Y0.mk hi126_2
        have HC126_2 := Y0.mk hl126_2
        clear hi126_2 hl126_2
        have HR126_3 := Y0.mk hi126_3
        have HC126_3 := Y0.mk hl126_3
        clear hi126_3 hl126_3
        replace p126 := eq_true p126
        replace q126 := eq_true q126
        have p128 : 0 ≤ (a0 : Int) := of_decide_eq_true Z5
        have q128 : a0 < (y123.length : Int) := of_decide_eq_true Z5
        obtain ⟨ad128, A128_2, c128_2, A128_3, c128_3, e128, hx128_0, hx128_1, hx128_2, hx128_3, hl128_2, hi128_2, hl128_3, hi128_3⟩ := Y1x (Kd.N_reads' HO_4.out).2.2 a0 p128 q128
        obtain rfl : ad126 = ad128 := (by injection e128)
        obtain ⟨ce128, hce128, hMe128, hcc128⟩ := Kd.N_get HO_4.out z37 a0 p128 Z1D
        obtain ⟨ua128_2, uc128_2, ua128_3, uc128_3, rfl, ul128_2, ge128_2, ul128_3, ge128_3⟩ := Y22 hMe128
        have hv128_2 := hcc128 2 _ rfl
        rw [Y1m _ _ 2 (by omega)] at hv128_2
        replace hv128_2 := Option.some.inj (hv128_2.symm.trans hx128_2)
        injection hv128_2 with hva_ hvn_ hvc_
        rw [hva_] at ge128_2
        rw [hvc_] at ul128_2
        have HL128_2 := Y0.mk (show Kd.V Kd.string 9 _ w.heap.size _ _ ((Y1 y123 a0).f2) from Kd.V_mk ul128_2 ge128_2)
        clear hva_ hvn_ hvc_ ge128_2 ul128_2
        have hv128_3 := hcc128 3 _ rfl
        rw [Y1m _ _ 3 (by omega)] at hv128_3
        replace hv128_3 := Option.some.inj (hv128_3.symm.trans hx128_3)
        injection hv128_3 with hva_ hvn_ hvc_
        rw [hva_] at ge128_3
        rw [hvc_] at ul128_3
        have HL128_3 := Y0.mk (show Kd.V k37 37 _ w.heap.size _ _ ((Y1 y123 a0).f3) from Kd.V_mk ul128_3 ge128_3)
        clear hva_ hvn_ hvc_ ge128_3 ul128_3
        clear hcc128 hce128
        have HR128_2 := Y0.mk hi128_2
        have HC128_2 := Y0.mk hl128_2
        clear hi128_2 hl128_2
        have HR128_3 := Y0.mk hi128_3
        have HC128_3 := Y0.mk hl128_3
        clear hi128_3 hl128_3
        replace p128 := eq_true p128
        replace q128 := eq_true q128
        refine Y1v (n := 23) (S := fun w' => w'.cell? ⟨gb101, 0, none⟩ = some (.int .i64 1) ∧ w'.cell? ⟨gb101, 1, none⟩ = some (.string (⟨#[97]⟩ : ByteArray)) ∧ w'.cell? ⟨gb101, 2, none⟩ = some (.slice none 0 0) ∧ w'.cell? ⟨gb101, 3, none⟩ = some (.slice none 0 0) ∧ w'.cell? (ad126.add ((a0).toNat * 4)) = some (.int .i64 ((Y1 y123 a0).f0)) ∧ w'.cell? ⟨(ad126.add ((a0).toNat * 4)).block, (ad126.add ((a0).toNat * 4)).off + 1, none⟩ = some (.string ((Y1 y123 a0).f1)) ∧ w'.cell? ⟨(ad126.add ((a0).toNat * 4)).block, (ad126.add ((a0).toNat * 4)).off + 2, none⟩ = some (.slice A126_2 ((Y1 y123 a0).f2).length c126_2) ∧ w'.cell? ⟨(ad126.add ((a0).toNat * 4)).block, (ad126.add ((a0).toNat * 4)).off + 3, none⟩ = some (.slice A126_3 ((Y1 y123 a0).f3).length c126_3) ∧ w'.cell? (ad126.add ((a0).toNat * 4)) = some (.int .i64 ((Y1 y123 a0).f0)) ∧ w'.cell? ⟨(ad126.add ((a0).toNat * 4)).block, (ad126.add ((a0).toNat * 4)).off + 1, none⟩ = some (.string ((Y1 y123 a0).f1)) ∧ w'.cell? ⟨(ad126.add ((a0).toNat * 4)).block, (ad126.add ((a0).toNat * 4)).off + 2, none⟩ = some (.slice A128_2 ((Y1 y123 a0).f2).length c128_2) ∧ w'.cell? ⟨(ad126.add ((a0).toNat * 4)).block, (ad126.add ((a0).toNat * 4)).off + 3, none⟩ = some (.slice A128_3 ((Y1 y123 a0).f3).length c128_3)) (ds := []) bz23_0 Z4 rfl rfl ⟨(Y2 BK101.out 0).trans rfl, (Y2 BK101.out 1).trans rfl, (Y2 BK101.out 2).trans rfl, (Y2 BK101.out 3).trans rfl, hx126_0, hx126_1, hx126_2, hx126_3, hx128_0, hx128_1, hx128_2, hx128_3⟩ (fun hHeld => ?_); refine YT triviumlaw12_QueryOdd.tab5 triviumlaw12_QueryOdd.bits5 (fun HT_ HW_ => ?_)
        generalize wc.drew = w40 at HO_4 BK101 HB HL126_2 HL126_3 HL128_2 HL128_3 HR126_2 HR126_3 HR128_2 HR128_3 hx126_0 hx126_1 hx126_2 hx126_3 hx128_0 hx128_1 hx128_2 hx128_3 hHeld ⊢
        have eq2_ := Y0.mk (Option.some.inj (hx126_2.symm.trans hx128_2))
        have eq3_ := Y0.mk (Option.some.inj (hx126_3.symm.trans hx128_3))
        refine pY 0 40 bz23_1 ?_
        refine pY 1 41 bz23_3 ?_
        refine pY 2 42 bz23_7 ?_
        refine pY 5 45 Y3E ?_
        refine pY 6 46 Y3F ?_
        refine pT 3 43 Y3G ?_
        refine Y23 (i := 4) (N := some 44) Y3H rfl rfl (Y1f HT_.out Z4) (by decide) (fun K hK => ?_)
        refine Y1G Tryd.func31 Z4 rfl #[.agg #[.int .i64 ((Y1 y123 a0).f0), .string ((Y1 y123 a0).f1), .slice A126_2 ((Y1 y123 a0).f2).length c126_2, .slice A126_3 ((Y1 y123 a0).f3).length c126_3]] (by rfl) rfl rfl Z0 ?_
        with_reducible refine (Y10.calls kj1 ((Y1 y123 a0).f0) ((Y1 y123 a0).f1) _ _ ((Y1 y123 a0).f2) _ _ ((Y1 y123 a0).f3) t127 _ ?side1 ?side2 ?side3 ?side4 ?side5 A35.out).mono ?_
        (case side1 => exact Z3)
        (case side2 => exact Z1w)
        (case side3 => exact HC126_2.out)
        (case side4 => exact Z1x)
        (case side5 => exact HC126_3.out)
        rintro e w42 ⟨rfl, hb⟩
        have HS4_ := (hb.cell (World.block_lt_of_cell? _ _ (hHeld.2.2.2.2.1))).trans (hHeld.2.2.2.2.1)
        have HS5_ := (hb.cell (World.block_lt_of_cell? _ _ (hHeld.2.2.2.2.2.1))).trans (hHeld.2.2.2.2.2.1)
        have HS6_ := (hb.cell (World.block_lt_of_cell? _ _ (hHeld.2.2.2.2.2.2.1))).trans (hHeld.2.2.2.2.2.2.1)
        have HS7_ := (hb.cell (World.block_lt_of_cell? _ _ (hHeld.2.2.2.2.2.2.2.1))).trans (hHeld.2.2.2.2.2.2.2.1)
        have HS8_ := (hb.cell (World.block_lt_of_cell? _ _ (hHeld.2.2.2.2.2.2.2.2.1))).trans (hHeld.2.2.2.2.2.2.2.2.1)
        have HS9_ := (hb.cell (World.block_lt_of_cell? _ _ (hHeld.2.2.2.2.2.2.2.2.2.1))).trans (hHeld.2.2.2.2.2.2.2.2.2.1)
        have HS10_ := (hb.cell (World.block_lt_of_cell? _ _ (hHeld.2.2.2.2.2.2.2.2.2.2.1))).trans (hHeld.2.2.2.2.2.2.2.2.2.2.1)
        have HS11_ := (hb.cell (World.block_lt_of_cell? _ _ (hHeld.2.2.2.2.2.2.2.2.2.2.2))).trans (hHeld.2.2.2.2.2.2.2.2.2.2.2)
        refine ⟨_, rfl, ?_⟩
        replace HL128_2 := Y0.mk (Kd.V_below HL128_2.out hb)
        replace HL128_3 := Y0.mk (Kd.V_below HL128_3.out hb)
        replace HR128_2 := Y0.mk (Kd.C_below HR128_2.out hb)
        replace HR128_3 := Y0.mk (Kd.C_below HR128_3.out hb)
        have n_ := Y3p (Kd.N_below ZH hb) (Kd.V_below Zy hb) (Kd.V_below Zz hb) (Yh (g := gb101) (o := .cells #[.int .i64 1, .string (⟨#[97]⟩ : ByteArray), .slice none 0 0, .slice none 0 0] 37 (0, 0)) QQ hb) (Kd.C_below Zc hb) (Kd.C_below Zd hb) (Y5 QB hb)
        clear HO_4
        clear HL126_2
        clear HL126_3
        clear BK101
        clear HR126_2
        clear HR126_3
        clear HB
        obtain ⟨HO_4, HL126_2, HL126_3, BK101, HR126_2, HR126_3, HB⟩ := n_
        (try clear hb)
        (try clear hb2)
        (try clear hk)
        (try clear hi)
        refine hK.out _ _ ⟨(Y2 BK101.out 0).trans rfl, (Y2 BK101.out 1).trans rfl, (Y2 BK101.out 2).trans rfl, (Y2 BK101.out 3).trans rfl, HS4_, HS5_, HS6_, HS7_, HS8_, HS9_, HS10_, HS11_⟩ (fun hHeld => ?_)
        clear hK K
        refine Y1w (a' := ?_) ?_ ?_
        rotate_left
        ·show Act.put _ (some 44) _ = _
         simp only [Act.put, List.setIfInBounds_toArray, List.set_cons_zero, List.set_cons_succ, Y11, Y18]
         rfl
        refine pY 7 47 Y3I ?_
        refine pY 8 48 Y30 ?_
        refine pY 9 49 Y31 ?_
        refine pY 10 50 Y32 ?_
        refine pY 11 51 Y33 ?_
        refine pY 15 55 Y3i ?_
        refine pY 16 56 Y2T ?_
        refine pT 12 52 Y2U ?_
        refine pT 13 53 Y2V ?_
        refine Y23 (i := 14) (N := some 54) Y2o rfl rfl (Y1f HT_.out Z4) (by decide) (fun K hK => ?_)
        refine Y1G Tryd.func30 Z4 rfl #[.agg #[.int .i64 ((Y1 y123 a0).f0), .string ((Y1 y123 a0).f1), .slice A128_2 ((Y1 y123 a0).f2).length c128_2, .slice A128_3 ((Y1 y123 a0).f3).length c128_3], .agg #[.int .i64 1, .string (⟨#[97]⟩ : ByteArray), .slice none 0 0, .slice none 0 0]] (by rfl) rfl rfl Z12 ?_
        refine (Yz.calls kj1 ((Y1 y123 a0).f0) ((Y1 y123 a0).f1) _ _ ((Y1 y123 a0).f2) _ _ ((Y1 y123 a0).f3) 1 (⟨#[97]⟩ : ByteArray) _ _ ([] : List ByteArray) _ _ ([] : List (S37)) t129 _ ?side1 ?side2 ?side3 ?side4 ?side5 ?side6 ?side7 ?side8 A37.out).mono ?_
        (case side1 => exact Z1A)
        (case side2 => exact HC128_2.out)
        (case side3 => exact Z1B)
        (case side4 => exact HC128_3.out)
        (case side5 => exact Kd.C_nil _ _)
        (case side6 => exact Nat.le_refl _)
        (case side7 => exact Kd.C_nil _ _)
        (case side8 => exact Nat.le_refl _)
        rintro e w43 ⟨rfl, hb⟩
        have HS4_ := (hb.cell (World.block_lt_of_cell? _ _ (hHeld.2.2.2.2.1))).trans (hHeld.2.2.2.2.1)
        have HS5_ := (hb.cell (World.block_lt_of_cell? _ _ (hHeld.2.2.2.2.2.1))).trans (hHeld.2.2.2.2.2.1)
        have HS6_ := (hb.cell (World.block_lt_of_cell? _ _ (hHeld.2.2.2.2.2.2.1))).trans (hHeld.2.2.2.2.2.2.1)
        have HS7_ := (hb.cell (World.block_lt_of_cell? _ _ (hHeld.2.2.2.2.2.2.2.1))).trans (hHeld.2.2.2.2.2.2.2.1)
        have HS8_ := (hb.cell (World.block_lt_of_cell? _ _ (hHeld.2.2.2.2.2.2.2.2.1))).trans (hHeld.2.2.2.2.2.2.2.2.1)
        have HS9_ := (hb.cell (World.block_lt_of_cell? _ _ (hHeld.2.2.2.2.2.2.2.2.2.1))).trans (hHeld.2.2.2.2.2.2.2.2.2.1)
        have HS10_ := (hb.cell (World.block_lt_of_cell? _ _ (hHeld.2.2.2.2.2.2.2.2.2.2.1))).trans (hHeld.2.2.2.2.2.2.2.2.2.2.1)
        have HS11_ := (hb.cell (World.block_lt_of_cell? _ _ (hHeld.2.2.2.2.2.2.2.2.2.2.2))).trans (hHeld.2.2.2.2.2.2.2.2.2.2.2)
        refine ⟨_, rfl, ?_⟩
        have n0_ := Y0.mk (Kd.N_below ZH hb)
        have n1_ := Y0.mk (Kd.V_below Zy hb)
        have n2_ := Y0.mk (Kd.V_below Zz hb)
        have n3_ := Y0.mk (Kd.V_below Z16 hb)
        have n4_ := Y0.mk (Kd.V_below Z17 hb)
        have n5_ := Y0.mk (Yh (g := gb101) (o := .cells #[.int .i64 1, .string (⟨#[97]⟩ : ByteArray), .slice none 0 0, .slice none 0 0] 37 (0, 0)) QQ hb)
        have n6_ := Y0.mk (Kd.C_below Zc hb)
        have n7_ := Y0.mk (Kd.C_below Zd hb)
        have n8_ := Y0.mk (Kd.C_below Zq hb)
        have n9_ := Y0.mk (Kd.C_below Zr hb)
        have n10_ := Y0.mk (Y5 QB hb)
        clear HO_4
        clear HL126_2
        clear HL126_3
        clear HL128_2
        clear HL128_3
        clear BK101
        clear HR126_2
        clear HR126_3
        clear HR128_2
        clear HR128_3
        clear HB
        have HO_4 := n0_
        have HL126_2 := n1_
        have HL126_3 := n2_
        have HL128_2 := n3_
        have HL128_3 := n4_
        have BK101 := n5_
        have HR126_2 := n6_
        have HR126_3 := n7_
        have HR128_2 := n8_
        have HR128_3 := n9_
        have HB := n10_
        clear n0_ n1_ n2_ n3_ n4_ n5_ n6_ n7_ n8_ n9_ n10_
        (try clear hb)
        (try clear hb2)
        (try clear hk)
        (try clear hi)
        refine hK.out _ _ ⟨(Y2 BK101.out 0).trans rfl, (Y2 BK101.out 1).trans rfl, (Y2 BK101.out 2).trans rfl, (Y2 BK101.out 3).trans rfl, HS4_, HS5_, HS6_, HS7_, HS8_, HS9_, HS10_, HS11_⟩ (fun hHeld => ?_)
        clear hK K
        refine Y1w (a' := ?_) ?_ ?_
        rotate_left
        ·show Act.put _ (some 54) _ = _
         simp only [Act.put, List.setIfInBounds_toArray, List.set_cons_zero, List.set_cons_succ, Y11, Y18]
         rfl
        refine pY 17 57 Y2p ?_
        refine pY 18 58 Y2q ?_
        refine pY 19 59 Y2r ?_
        refine Y23 (i := 20) (N := some 60) Y2e rfl rfl (Y1f HT_.out Z4) (by decide) (fun K hK => ?_)
        refine Y1G Tryd.func27 Z4 rfl #[] (by rfl) rfl rfl Z0 ?_
        with_reducible refine (YZ.calls kj1  t130 _ ?side1 A39.out).mono ?_
        (case side1 => exact Z3)
        rintro e w44 ⟨rfl, hb⟩
        have HS4_ := (hb.cell (World.block_lt_of_cell? _ _ (hHeld.2.2.2.2.1))).trans (hHeld.2.2.2.2.1)
        have HS5_ := (hb.cell (World.block_lt_of_cell? _ _ (hHeld.2.2.2.2.2.1))).trans (hHeld.2.2.2.2.2.1)
        have HS6_ := (hb.cell (World.block_lt_of_cell? _ _ (hHeld.2.2.2.2.2.2.1))).trans (hHeld.2.2.2.2.2.2.1)
        have HS7_ := (hb.cell (World.block_lt_of_cell? _ _ (hHeld.2.2.2.2.2.2.2.1))).trans (hHeld.2.2.2.2.2.2.2.1)
        have HS8_ := (hb.cell (World.block_lt_of_cell? _ _ (hHeld.2.2.2.2.2.2.2.2.1))).trans (hHeld.2.2.2.2.2.2.2.2.1)
        have HS9_ := (hb.cell (World.block_lt_of_cell? _ _ (hHeld.2.2.2.2.2.2.2.2.2.1))).trans (hHeld.2.2.2.2.2.2.2.2.2.1)
        have HS10_ := (hb.cell (World.block_lt_of_cell? _ _ (hHeld.2.2.2.2.2.2.2.2.2.2.1))).trans (hHeld.2.2.2.2.2.2.2.2.2.2.1)
        have HS11_ := (hb.cell (World.block_lt_of_cell? _ _ (hHeld.2.2.2.2.2.2.2.2.2.2.2))).trans (hHeld.2.2.2.2.2.2.2.2.2.2.2)
        refine ⟨_, rfl, ?_⟩
        have n0_ := Y0.mk (Kd.N_below ZH hb)
        have n1_ := Y0.mk (Kd.V_below Zy hb)
        have n2_ := Y0.mk (Kd.V_below Zz hb)
        have n3_ := Y0.mk (Kd.V_below Z16 hb)
        have n4_ := Y0.mk (Kd.V_below Z17 hb)
        have n5_ := Y0.mk (Yh (g := gb101) (o := .cells #[.int .i64 1, .string (⟨#[97]⟩ : ByteArray), .slice none 0 0, .slice none 0 0] 37 (0, 0)) QQ hb)
        have n6_ := Y0.mk (Kd.C_below Zc hb)
        have n7_ := Y0.mk (Kd.C_below Zd hb)
        have n8_ := Y0.mk (Kd.C_below Zq hb)
        have n9_ := Y0.mk (Kd.C_below Zr hb)
        have n10_ := Y0.mk (Y5 QB hb)
        clear HO_4
        clear HL126_2
        clear HL126_3
        clear HL128_2
        clear HL128_3
        clear BK101
        clear HR126_2
        clear HR126_3
        clear HR128_2
        clear HR128_3
        clear HB
        have HO_4 := n0_
        have HL126_2 := n1_
        have HL126_3 := n2_
        have HL128_2 := n3_
        have HL128_3 := n4_
        have BK101 := n5_
        have HR126_2 := n6_
        have HR126_3 := n7_
        have HR128_2 := n8_
        have HR128_3 := n9_
        have HB := n10_
        clear n0_ n1_ n2_ n3_ n4_ n5_ n6_ n7_ n8_ n9_ n10_
        (try clear hb)
        (try clear hb2)
        (try clear hk)
        (try clear hi)
        refine hK.out _ _ ⟨(Y2 BK101.out 0).trans rfl, (Y2 BK101.out 1).trans rfl, (Y2 BK101.out 2).trans rfl, (Y2 BK101.out 3).trans rfl, HS4_, HS5_, HS6_, HS7_, HS8_, HS9_, HS10_, HS11_⟩ (fun hHeld => ?_)
        clear hK K
        refine Y1w (a' := ?_) ?_ ?_
        rotate_left
        ·show Act.put _ (some 60) _ = _
         simp only [Act.put, List.setIfInBounds_toArray, List.set_cons_zero, List.set_cons_succ, Y11, Y18]
         rfl
        refine pY 21 61 Y2f ?_
        refine pY 22 2 Y2g ?_
        refine Y1Q (Y1n HT_.out Z4) ?_
        try go_wp2
        go_ret
        exact Z1y
       ·rw [if_neg c38] at H
        have c38b0 : (t129 == (a0 == 0)) = false := by simpa using c38
        (try (have c38b1 : ((t129 = (a0 = 0))) = False := eq_false (by simpa using c38)))
        (try (have c38b2 : decide (t129 = (a0 == 0)) = false := by simpa using c38))
        (try (have c38b3 : (t129 == (a0 == 0)) = false := by simpa using c38))
        (try (have c38b4 : ¬ (t129 = (a0 == 0)) := by simpa using c38))
        (try rw [show (t129 == (a0 == 0)) = false from by first | simpa using c38 | simpa [show ∀ l_ : List UInt8, (l_ != ([] : List UInt8)) = !l_.isEmpty from fun l_ => by cases l_ <;> rfl, show ∀ l_ : List UInt8, (l_ == ([] : List UInt8)) = l_.isEmpty from fun l_ => by cases l_ <;> rfl] using c38])
        clear c38
        obtain rfl := Option.some.inj H
        try go_wp2
        have n_ := Y1X (Kd.N_drew HO_4.out) (Y8 BK101.out) (YI HB.out)
        clear HO_4
        clear BK101
        clear HB
        obtain ⟨HO_4, BK101, HB⟩ := n_
        obtain ⟨Ao46, co46, eo46⟩ := Kd.N_slice HO_4.out
        (first | subst eo46 | (injection eo46 with f1_ f2_ f3_; have f4_ := f1_.symm; have f5_ := f3_.symm; clear f1_ f2_ f3_; subst f4_; subst f5_))
        have p126 : 0 ≤ (a0 : Int) := of_decide_eq_true Z5
        have q126 : a0 < (y123.length : Int) := of_decide_eq_true Z5
        obtain ⟨ad126, A126_2, c126_2, A126_3, c126_3, e126, hx126_0, hx126_1, hx126_2, hx126_3, hl126_2, hi126_2, hl126_3, hi126_3⟩ := Y1x (Kd.N_reads' HO_4.out).2.2 a0 p126 q126
        cases e126
        obtain ⟨ce126, hce126, hMe126, hcc126⟩ := Kd.N_get HO_4.out z37 a0 p126 Z1z
        obtain ⟨ua126_2, uc126_2, ua126_3, uc126_3, rfl, ul126_2, ge126_2, ul126_3, ge126_3⟩ := Y22 hMe126
        have hv126_2 := hcc126 2 _ rfl
        rw [Y1m _ _ 2 (by omega)] at hv126_2
        replace hv126_2 := Option.some.inj (hv126_2.symm.trans hx126_2)
        injection hv126_2 with hva_ hvn_ hvc_
        rw [hva_] at ge126_2
        rw [hvc_] at ul126_2
        have HL126_2 := Y0.mk (show Kd.V Kd.string 9 _ w.heap.size _ _ ((Y1 y123 a0).f2) from Kd.V_mk ul126_2 ge126_2)
        clear hva_ hvn_ hvc_ ge126_2 ul126_2
        have hv126_3 := hcc126 3 _ rfl
        rw [Y1m _ _ 3 (by omega)] at hv126_3
        replace hv126_3 := Option.some.inj (hv126_3.symm.trans hx126_3)
        injection hv126_3 with hva_ hvn_ hvc_
        rw [hva_] at ge126_3
        rw [hvc_] at ul126_3
        have HL126_3 := Y0.mk (show Kd.V k37 37 _ w.heap.size _ _ ((Y1 y123 a0).f3) from Kd.V_mk ul126_3 ge126_3)
        clear hva_ hvn_ hvc_ ge126_3 ul126_3
        clear hcc126 hce126
        have HR126_2 := Y0.mk hi126_2
        have HC126_2 := Y0.mk hl126_2
        clear hi126_2 hl126_2
        have HR126_3 := Y0.mk hi126_3
        have HC126_3 := Y0.mk hl126_3
        clear hi126_3 hl126_3
        replace p126 := eq_true p126
        replace q126 := eq_true q126
        have p128 : 0 ≤ (a0 : Int) := of_decide_eq_true Z5
        have q128 : a0 < (y123.length : Int) := of_decide_eq_true Z5
        obtain ⟨ad128, A128_2, c128_2, A128_3, c128_3, e128, hx128_0, hx128_1, hx128_2, hx128_3, hl128_2, hi128_2, hl128_3, hi128_3⟩ := Y1x (Kd.N_reads' HO_4.out).2.2 a0 p128 q128
        obtain rfl : ad126 = ad128 := (by injection e128)
        obtain ⟨ce128, hce128, hMe128, hcc128⟩ := Kd.N_get HO_4.out z37 a0 p128 Z1D
        obtain ⟨ua128_2, uc128_2, ua128_3, uc128_3, rfl, ul128_2, ge128_2, ul128_3, ge128_3⟩ := Y22 hMe128
        have hv128_2 := hcc128 2 _ rfl
        rw [Y1m _ _ 2 (by omega)] at hv128_2
        replace hv128_2 := Option.some.inj (hv128_2.symm.trans hx128_2)
        injection hv128_2 with hva_ hvn_ hvc_
        rw [hva_] at ge128_2
        rw [hvc_] at ul128_2
        have HL128_2 := Y0.mk (show Kd.V Kd.string 9 _ w.heap.size _ _ ((Y1 y123 a0).f2) from Kd.V_mk ul128_2 ge128_2)
        clear hva_ hvn_ hvc_ ge128_2 ul128_2
        have hv128_3 := hcc128 3 _ rfl
        rw [Y1m _ _ 3 (by omega)] at hv128_3
        replace hv128_3 := Option.some.inj (hv128_3.symm.trans hx128_3)
        injection hv128_3 with hva_ hvn_ hvc_
        rw [hva_] at ge128_3
        rw [hvc_] at ul128_3
        have HL128_3 := Y0.mk (show Kd.V k37 37 _ w.heap.size _ _ ((Y1 y123 a0).f3) from Kd.V_mk ul128_3 ge128_3)
        clear hva_ hvn_ hvc_ ge128_3 ul128_3
        clear hcc128 hce128
        have HR128_2 := Y0.mk hi128_2
        have HC128_2 := Y0.mk hl128_2
        clear hi128_2 hl128_2
        have HR128_3 := Y0.mk hi128_3
        have HC128_3 := Y0.mk hl128_3
        clear hi128_3 hl128_3
        replace p128 := eq_true p128
        replace q128 := eq_true q128
        refine Y1v (n := 23) (S := fun w' => w'.cell? ⟨gb101, 0, none⟩ = some (.int .i64 1) ∧ w'.cell? ⟨gb101, 1, none⟩ = some (.string (⟨#[97]⟩ : ByteArray)) ∧ w'.cell? ⟨gb101, 2, none⟩ = some (.slice none 0 0) ∧ w'.cell? ⟨gb101, 3, none⟩ = some (.slice none 0 0) ∧ w'.cell? (ad126.add ((a0).toNat * 4)) = some (.int .i64 ((Y1 y123 a0).f0)) ∧ w'.cell? ⟨(ad126.add ((a0).toNat * 4)).block, (ad126.add ((a0).toNat * 4)).off + 1, none⟩ = some (.string ((Y1 y123 a0).f1)) ∧ w'.cell? ⟨(ad126.add ((a0).toNat * 4)).block, (ad126.add ((a0).toNat * 4)).off + 2, none⟩ = some (.slice A126_2 ((Y1 y123 a0).f2).length c126_2) ∧ w'.cell? ⟨(ad126.add ((a0).toNat * 4)).block, (ad126.add ((a0).toNat * 4)).off + 3, none⟩ = some (.slice A126_3 ((Y1 y123 a0).f3).length c126_3) ∧ w'.cell? (ad126.add ((a0).toNat * 4)) = some (.int .i64 ((Y1 y123 a0).f0)) ∧ w'.cell? ⟨(ad126.add ((a0).toNat * 4)).block, (ad126.add ((a0).toNat * 4)).off + 1, none⟩ = some (.string ((Y1 y123 a0).f1)) ∧ w'.cell? ⟨(ad126.add ((a0).toNat * 4)).block, (ad126.add ((a0).toNat * 4)).off + 2, none⟩ = some (.slice A128_2 ((Y1 y123 a0).f2).length c128_2) ∧ w'.cell? ⟨(ad126.add ((a0).toNat * 4)).block, (ad126.add ((a0).toNat * 4)).off + 3, none⟩ = some (.slice A128_3 ((Y1 y123 a0).f3).length c128_3)) (ds := []) bz23_0 Z4 rfl rfl ⟨(Y2 BK101.out 0).trans rfl, (Y2 BK101.out 1).trans rfl, (Y2 BK101.out 2).trans rfl, (Y2 BK101.out 3).trans rfl, hx126_0, hx126_1, hx126_2, hx126_3, hx128_0, hx128_1, hx128_2, hx128_3⟩ (fun hHeld => ?_); refine YT triviumlaw12_QueryOdd.tab5 triviumlaw12_QueryOdd.bits5 (fun HT_ HW_ => ?_)
        generalize wc.drew = w45 at HO_4 BK101 HB HL126_2 HL126_3 HL128_2 HL128_3 HR126_2 HR126_3 HR128_2 HR128_3 hx126_0 hx126_1 hx126_2 hx126_3 hx128_0 hx128_1 hx128_2 hx128_3 hHeld ⊢
        have eq2_ := Y0.mk (Option.some.inj (hx126_2.symm.trans hx128_2))
        have eq3_ := Y0.mk (Option.some.inj (hx126_3.symm.trans hx128_3))
        refine pY 0 40 bz23_1 ?_
        refine pY 1 41 bz23_3 ?_
        refine pY 2 42 bz23_7 ?_
        refine pY 5 45 Y3E ?_
        refine pY 6 46 Y3F ?_
        refine pT 3 43 Y3G ?_
        refine Y23 (i := 4) (N := some 44) Y3H rfl rfl (Y1f HT_.out Z4) (by decide) (fun K hK => ?_)
        refine Y1G Tryd.func31 Z4 rfl #[.agg #[.int .i64 ((Y1 y123 a0).f0), .string ((Y1 y123 a0).f1), .slice A126_2 ((Y1 y123 a0).f2).length c126_2, .slice A126_3 ((Y1 y123 a0).f3).length c126_3]] (by rfl) rfl rfl Z0 ?_
        with_reducible refine (Y10.calls kj1 ((Y1 y123 a0).f0) ((Y1 y123 a0).f1) _ _ ((Y1 y123 a0).f2) _ _ ((Y1 y123 a0).f3) t127 _ ?side1 ?side2 ?side3 ?side4 ?side5 A35.out).mono ?_
        (case side1 => exact Z3)
        (case side2 => exact Z1w)
        (case side3 => exact HC126_2.out)
        (case side4 => exact Z1x)
        (case side5 => exact HC126_3.out)
        rintro e w47 ⟨rfl, hb⟩
        have HS4_ := (hb.cell (World.block_lt_of_cell? _ _ (hHeld.2.2.2.2.1))).trans (hHeld.2.2.2.2.1)
        have HS5_ := (hb.cell (World.block_lt_of_cell? _ _ (hHeld.2.2.2.2.2.1))).trans (hHeld.2.2.2.2.2.1)
        have HS6_ := (hb.cell (World.block_lt_of_cell? _ _ (hHeld.2.2.2.2.2.2.1))).trans (hHeld.2.2.2.2.2.2.1)
        have HS7_ := (hb.cell (World.block_lt_of_cell? _ _ (hHeld.2.2.2.2.2.2.2.1))).trans (hHeld.2.2.2.2.2.2.2.1)
        have HS8_ := (hb.cell (World.block_lt_of_cell? _ _ (hHeld.2.2.2.2.2.2.2.2.1))).trans (hHeld.2.2.2.2.2.2.2.2.1)
        have HS9_ := (hb.cell (World.block_lt_of_cell? _ _ (hHeld.2.2.2.2.2.2.2.2.2.1))).trans (hHeld.2.2.2.2.2.2.2.2.2.1)
        have HS10_ := (hb.cell (World.block_lt_of_cell? _ _ (hHeld.2.2.2.2.2.2.2.2.2.2.1))).trans (hHeld.2.2.2.2.2.2.2.2.2.2.1)
        have HS11_ := (hb.cell (World.block_lt_of_cell? _ _ (hHeld.2.2.2.2.2.2.2.2.2.2.2))).trans (hHeld.2.2.2.2.2.2.2.2.2.2.2)
        refine ⟨_, rfl, ?_⟩
        replace HL128_2 := Y0.mk (Kd.V_below HL128_2.out hb)
        replace HL128_3 := Y0.mk (Kd.V_below HL128_3.out hb)
        replace HR128_2 := Y0.mk (Kd.C_below HR128_2.out hb)
        replace HR128_3 := Y0.mk (Kd.C_below HR128_3.out hb)
        have n_ := Y3p (Kd.N_below ZH hb) (Kd.V_below Zy hb) (Kd.V_below Zz hb) (Yh (g := gb101) (o := .cells #[.int .i64 1, .string (⟨#[97]⟩ : ByteArray), .slice none 0 0, .slice none 0 0] 37 (0, 0)) QQ hb) (Kd.C_below Zc hb) (Kd.C_below Zd hb) (Y5 QB hb)
        clear HO_4
        clear HL126_2
        clear HL126_3
        clear BK101
        clear HR126_2
        clear HR126_3
        clear HB
        obtain ⟨HO_4, HL126_2, HL126_3, BK101, HR126_2, HR126_3, HB⟩ := n_
        (try clear hb)
        (try clear hb2)
        (try clear hk)
        (try clear hi)
        refine hK.out _ _ ⟨(Y2 BK101.out 0).trans rfl, (Y2 BK101.out 1).trans rfl, (Y2 BK101.out 2).trans rfl, (Y2 BK101.out 3).trans rfl, HS4_, HS5_, HS6_, HS7_, HS8_, HS9_, HS10_, HS11_⟩ (fun hHeld => ?_)
        clear hK K
        refine Y1w (a' := ?_) ?_ ?_
        rotate_left
        ·show Act.put _ (some 44) _ = _
         simp only [Act.put, List.setIfInBounds_toArray, List.set_cons_zero, List.set_cons_succ, Y11, Y18]
         rfl
        refine pY 7 47 Y3I ?_
        refine pY 8 48 Y30 ?_
        refine pY 9 49 Y31 ?_
        refine pY 10 50 Y32 ?_
        refine pY 11 51 Y33 ?_
        refine pY 15 55 Y3i ?_
        refine pY 16 56 Y2T ?_
        refine pT 12 52 Y2U ?_
        refine pT 13 53 Y2V ?_
        refine Y23 (i := 14) (N := some 54) Y2o rfl rfl (Y1f HT_.out Z4) (by decide) (fun K hK => ?_)
        refine Y1G Tryd.func30 Z4 rfl #[.agg #[.int .i64 ((Y1 y123 a0).f0), .string ((Y1 y123 a0).f1), .slice A128_2 ((Y1 y123 a0).f2).length c128_2, .slice A128_3 ((Y1 y123 a0).f3).length c128_3], .agg #[.int .i64 1, .string (⟨#[97]⟩ : ByteArray), .slice none 0 0, .slice none 0 0]] (by rfl) rfl rfl Z12 ?_
        refine (Yz.calls kj1 ((Y1 y123 a0).f0) ((Y1 y123 a0).f1) _ _ ((Y1 y123 a0).f2) _ _ ((Y1 y123 a0).f3) 1 (⟨#[97]⟩ : ByteArray) _ _ ([] : List ByteArray) _ _ ([] : List (S37)) t129 _ ?side1 ?side2 ?side3 ?side4 ?side5 ?side6 ?side7 ?side8 A37.out).mono ?_
        (case side1 => exact Z1A)
        (case side2 => exact HC128_2.out)
        (case side3 => exact Z1B)
        (case side4 => exact HC128_3.out)
        (case side5 => exact Kd.C_nil _ _)
        (case side6 => exact Nat.le_refl _)
        (case side7 => exact Kd.C_nil _ _)
        (case side8 => exact Nat.le_refl _)
        rintro e w48 ⟨rfl, hb⟩
        have HS4_ := (hb.cell (World.block_lt_of_cell? _ _ (hHeld.2.2.2.2.1))).trans (hHeld.2.2.2.2.1)
        have HS5_ := (hb.cell (World.block_lt_of_cell? _ _ (hHeld.2.2.2.2.2.1))).trans (hHeld.2.2.2.2.2.1)
        have HS6_ := (hb.cell (World.block_lt_of_cell? _ _ (hHeld.2.2.2.2.2.2.1))).trans (hHeld.2.2.2.2.2.2.1)
        have HS7_ := (hb.cell (World.block_lt_of_cell? _ _ (hHeld.2.2.2.2.2.2.2.1))).trans (hHeld.2.2.2.2.2.2.2.1)
        have HS8_ := (hb.cell (World.block_lt_of_cell? _ _ (hHeld.2.2.2.2.2.2.2.2.1))).trans (hHeld.2.2.2.2.2.2.2.2.1)
        have HS9_ := (hb.cell (World.block_lt_of_cell? _ _ (hHeld.2.2.2.2.2.2.2.2.2.1))).trans (hHeld.2.2.2.2.2.2.2.2.2.1)
        have HS10_ := (hb.cell (World.block_lt_of_cell? _ _ (hHeld.2.2.2.2.2.2.2.2.2.2.1))).trans (hHeld.2.2.2.2.2.2.2.2.2.2.1)
        have HS11_ := (hb.cell (World.block_lt_of_cell? _ _ (hHeld.2.2.2.2.2.2.2.2.2.2.2))).trans (hHeld.2.2.2.2.2.2.2.2.2.2.2)
        refine ⟨_, rfl, ?_⟩
        have n0_ := Y0.mk (Kd.N_below ZH hb)
        have n1_ := Y0.mk (Kd.V_below Zy hb)
        have n2_ := Y0.mk (Kd.V_below Zz hb)
        have n3_ := Y0.mk (Kd.V_below Z16 hb)
        have n4_ := Y0.mk (Kd.V_below Z17 hb)
        have n5_ := Y0.mk (Yh (g := gb101) (o := .cells #[.int .i64 1, .string (⟨#[97]⟩ : ByteArray), .slice none 0 0, .slice none 0 0] 37 (0, 0)) QQ hb)
        have n6_ := Y0.mk (Kd.C_below Zc hb)
        have n7_ := Y0.mk (Kd.C_below Zd hb)
        have n8_ := Y0.mk (Kd.C_below Zq hb)
        have n9_ := Y0.mk (Kd.C_below Zr hb)
        have n10_ := Y0.mk (Y5 QB hb)
        clear HO_4
        clear HL126_2
        clear HL126_3
        clear HL128_2
        clear HL128_3
        clear BK101
        clear HR126_2
        clear HR126_3
        clear HR128_2
        clear HR128_3
        clear HB
        have HO_4 := n0_
        have HL126_2 := n1_
        have HL126_3 := n2_
        have HL128_2 := n3_
        have HL128_3 := n4_
        have BK101 := n5_
        have HR126_2 := n6_
        have HR126_3 := n7_
        have HR128_2 := n8_
        have HR128_3 := n9_
        have HB := n10_
        clear n0_ n1_ n2_ n3_ n4_ n5_ n6_ n7_ n8_ n9_ n10_
        (try clear hb)
        (try clear hb2)
        (try clear hk)
        (try clear hi)
        refine hK.out _ _ ⟨(Y2 BK101.out 0).trans rfl, (Y2 BK101.out 1).trans rfl, (Y2 BK101.out 2).trans rfl, (Y2 BK101.out 3).trans rfl, HS4_, HS5_, HS6_, HS7_, HS8_, HS9_, HS10_, HS11_⟩ (fun hHeld => ?_)
        clear hK K
        refine Y1w (a' := ?_) ?_ ?_
        rotate_left
        ·show Act.put _ (some 54) _ = _
         simp only [Act.put, List.setIfInBounds_toArray, List.set_cons_zero, List.set_cons_succ, Y11, Y18]
         rfl
        refine pY 17 57 Y2p ?_
        refine pY 18 58 Y2q ?_
        refine pY 19 59 Y2r ?_
        refine pU 20 60 Y2e ?_
        refine pY 21 61 Y2f ?_
        refine pY 22 2 Y2g ?_
        refine Y1Q (Y1n HT_.out Z4) ?_
        try go_wp2
        go_ret
        exact Z1y
      ·rw [if_neg c36] at H
       have c36b0 : (t127 == (a0 == 0)) = false := by simpa using c36
       (try (have c36b1 : ((t127 = (a0 = 0))) = False := eq_false (by simpa using c36)))
       (try (have c36b2 : decide (t127 = (a0 == 0)) = false := by simpa using c36))
       (try (have c36b3 : (t127 == (a0 == 0)) = false := by simpa using c36))
       (try (have c36b4 : ¬ (t127 = (a0 == 0)) := by simpa using c36))
       (try rw [show (t127 == (a0 == 0)) = false from by first | simpa using c36 | simpa [show ∀ l_ : List UInt8, (l_ != ([] : List UInt8)) = !l_.isEmpty from fun l_ => by cases l_ <;> rfl, show ∀ l_ : List UInt8, (l_ == ([] : List UInt8)) = l_.isEmpty from fun l_ => by cases l_ <;> rfl] using c36])
       clear c36
       obtain rfl := Option.some.inj H
       try go_wp2
       have n_ := Y1X (Kd.N_drew HO_4.out) (Y8 BK101.out) (YI HB.out)
       clear HO_4
       clear BK101
       clear HB
       obtain ⟨HO_4, BK101, HB⟩ := n_
       obtain ⟨Ao50, co50, eo50⟩ := Kd.N_slice HO_4.out
       (first | subst eo50 | (injection eo50 with f1_ f2_ f3_; have f4_ := f1_.symm; have f5_ := f3_.symm; clear f1_ f2_ f3_; subst f4_; subst f5_))
       have p126 : 0 ≤ (a0 : Int) := of_decide_eq_true Z5
       have q126 : a0 < (y123.length : Int) := of_decide_eq_true Z5
       obtain ⟨ad126, A126_2, c126_2, A126_3, c126_3, e126, hx126_0, hx126_1, hx126_2, hx126_3, hl126_2, hi126_2, hl126_3, hi126_3⟩ := Y1x (Kd.N_reads' HO_4.out).2.2 a0 p126 q126
       cases e126
       obtain ⟨ce126, hce126, hMe126, hcc126⟩ := Kd.N_get HO_4.out z37 a0 p126 Z1z
       obtain ⟨ua126_2, uc126_2, ua126_3, uc126_3, rfl, ul126_2, ge126_2, ul126_3, ge126_3⟩ := Y22 hMe126
       have hv126_2 := hcc126 2 _ rfl
       rw [Y1m _ _ 2 (by omega)] at hv126_2
       replace hv126_2 := Option.some.inj (hv126_2.symm.trans hx126_2)
       injection hv126_2 with hva_ hvn_ hvc_
       rw [hva_] at ge126_2
       rw [hvc_] at ul126_2
       have HL126_2 := Y0.mk (show Kd.V Kd.string 9 _ w.heap.size _ _ ((Y1 y123 a0).f2) from Kd.V_mk ul126_2 ge126_2)
       clear hva_ hvn_ hvc_ ge126_2 ul126_2
       have hv126_3 := hcc126 3 _ rfl
       rw [Y1m _ _ 3 (by omega)] at hv126_3
       replace hv126_3 := Option.some.inj (hv126_3.symm.trans hx126_3)
       injection hv126_3 with hva_ hvn_ hvc_
       rw [hva_] at ge126_3
       rw [hvc_] at ul126_3
       have HL126_3 := Y0.mk (show Kd.V k37 37 _ w.heap.size _ _ ((Y1 y123 a0).f3) from Kd.V_mk ul126_3 ge126_3)
       clear hva_ hvn_ hvc_ ge126_3 ul126_3
       clear hcc126 hce126
       have HR126_2 := Y0.mk hi126_2
       have HC126_2 := Y0.mk hl126_2
       clear hi126_2 hl126_2
       have HR126_3 := Y0.mk hi126_3
       have HC126_3 := Y0.mk hl126_3
       clear hi126_3 hl126_3
       replace p126 := eq_true p126
       replace q126 := eq_true q126
       refine Y1v (n := 23) (S := fun w' => w'.cell? (ad126.add ((a0).toNat * 4)) = some (.int .i64 ((Y1 y123 a0).f0)) ∧ w'.cell? ⟨(ad126.add ((a0).toNat * 4)).block, (ad126.add ((a0).toNat * 4)).off + 1, none⟩ = some (.string ((Y1 y123 a0).f1)) ∧ w'.cell? ⟨(ad126.add ((a0).toNat * 4)).block, (ad126.add ((a0).toNat * 4)).off + 2, none⟩ = some (.slice A126_2 ((Y1 y123 a0).f2).length c126_2) ∧ w'.cell? ⟨(ad126.add ((a0).toNat * 4)).block, (ad126.add ((a0).toNat * 4)).off + 3, none⟩ = some (.slice A126_3 ((Y1 y123 a0).f3).length c126_3)) (ds := []) bz23_0 Z4 rfl rfl ⟨hx126_0, hx126_1, hx126_2, hx126_3⟩ (fun hHeld => ?_); refine YT triviumlaw12_QueryOdd.tab5 triviumlaw12_QueryOdd.bits5 (fun HT_ HW_ => ?_)
       generalize wc.drew = w49 at HO_4 BK101 HB HL126_2 HL126_3 HR126_2 HR126_3 hx126_0 hx126_1 hx126_2 hx126_3 hHeld ⊢
       refine pY 0 40 bz23_1 ?_
       refine pY 1 41 bz23_3 ?_
       refine pY 2 42 bz23_7 ?_
       refine pY 5 45 Y3E ?_
       refine pY 6 46 Y3F ?_
       refine pT 3 43 Y3G ?_
       refine Y23 (i := 4) (N := some 44) Y3H rfl rfl (Y1f HT_.out Z4) (by decide) (fun K hK => ?_)
       refine Y1G Tryd.func31 Z4 rfl #[.agg #[.int .i64 ((Y1 y123 a0).f0), .string ((Y1 y123 a0).f1), .slice A126_2 ((Y1 y123 a0).f2).length c126_2, .slice A126_3 ((Y1 y123 a0).f3).length c126_3]] (by rfl) rfl rfl Z0 ?_
       with_reducible refine (Y10.calls kj1 ((Y1 y123 a0).f0) ((Y1 y123 a0).f1) _ _ ((Y1 y123 a0).f2) _ _ ((Y1 y123 a0).f3) t127 _ ?side1 ?side2 ?side3 ?side4 ?side5 A35.out).mono ?_
       (case side1 => exact Z3)
       (case side2 => exact Z1w)
       (case side3 => exact HC126_2.out)
       (case side4 => exact Z1x)
       (case side5 => exact HC126_3.out)
       rintro e w51 ⟨rfl, hb⟩
       have HS0_ := (hb.cell (World.block_lt_of_cell? _ _ (hHeld.1))).trans (hHeld.1)
       have HS1_ := (hb.cell (World.block_lt_of_cell? _ _ (hHeld.2.1))).trans (hHeld.2.1)
       have HS2_ := (hb.cell (World.block_lt_of_cell? _ _ (hHeld.2.2.1))).trans (hHeld.2.2.1)
       have HS3_ := (hb.cell (World.block_lt_of_cell? _ _ (hHeld.2.2.2))).trans (hHeld.2.2.2)
       refine ⟨_, rfl, ?_⟩
       have n_ := Y3p (Kd.N_below ZH hb) (Kd.V_below Zy hb) (Kd.V_below Zz hb) (Yh (g := gb101) (o := .cells #[.int .i64 1, .string (⟨#[97]⟩ : ByteArray), .slice none 0 0, .slice none 0 0] 37 (0, 0)) QQ hb) (Kd.C_below Zc hb) (Kd.C_below Zd hb) (Y5 QB hb)
       clear HO_4
       clear HL126_2
       clear HL126_3
       clear BK101
       clear HR126_2
       clear HR126_3
       clear HB
       obtain ⟨HO_4, HL126_2, HL126_3, BK101, HR126_2, HR126_3, HB⟩ := n_
       (try clear hb)
       (try clear hb2)
       (try clear hk)
       (try clear hi)
       refine hK.out _ _ ⟨HS0_, HS1_, HS2_, HS3_⟩ (fun hHeld => ?_)
       clear hK K
       refine Y1w (a' := ?_) ?_ ?_
       rotate_left
       ·show Act.put _ (some 44) _ = _
        simp only [Act.put, List.setIfInBounds_toArray, List.set_cons_zero, List.set_cons_succ, Y11, Y18]
        rfl
       refine pY 7 47 Y3I ?_
       refine pY 8 48 Y30 ?_
       refine pU 9 49 Y31 ?_
       refine pU 10 50 Y32 ?_
       refine pU 11 51 Y33 ?_
       refine pU 12 52 bz23_1fff ?_
       refine pU 13 53 bz23_3fff ?_
       refine pU 14 54 bz23_7fff ?_
       refine pU 15 55 bz23_ffff ?_
       refine pU 16 56 Y2o ?_
       refine pU 17 57 Y2p ?_
       refine pY 18 58 Y2q ?_
       refine pY 19 59 Y2r ?_
       refine pU 20 60 Y2e ?_
       refine pY 21 61 Y2f ?_
       refine pY 22 2 Y2g ?_
       refine Y1Q (Y1n HT_.out Z4) ?_
       try go_wp2
       go_ret
       exact Z1y
     ·rw [if_neg c34] at H
      exact Zt
    ·rw [if_neg c33] at H
     exact Zt
end Go.Proofs.YtbpbfboaofkpaaaDoor.Print
end
section
set_option linter.unusedVariables false
set_option linter.unusedSimpArgs false
namespace Go.Proofs.YtbpbfboaofkpaaaDoor.Print
open Go.RowKit Go.Shelf Go.Lib Go.Proofs.YtbpbfboaofkpaaaDoorW.PrintWords
set_option maxRecDepth 100000 in
theorem odd_all : ∀ n : Fin 14, triviumlaw12_QueryOdd.f 300 (Int.ofNat n.val) = some true := by decide +kernel
theorem odd_out (a : Int) (l : List S37) (x : Int) : triviumlaw12_QueryOdd.j0 300 a l true x = some true := by
 rw [show (300 : Nat) = 299 + 1 from rfl]
 simp [triviumlaw12_QueryOdd.j0]
theorem odd_far (a : Int) (l : List S37) (hl : l.length = 14) (x : Int) (h : a ≥ 14) : triviumlaw12_QueryOdd.j0 300 a l (decide (a ≥ (l.length : Int))) x = some true := by
 have : decide (a ≥ (l.length : Int)) = true := decide_eq_true (by omega)
 rw [this]
 exact odd_out a l x
theorem law_odd (a : Int) : ∃ k, triviumlaw12_QueryOdd.f k a = some true := by
 refine ⟨300, ?_⟩
 by_cases h0 : a < 0
 ·unfold triviumlaw12_QueryOdd.f
  simp only [Option.bind_some, if_pos h0]
  exact odd_out _ _ _
 ·by_cases h1 : a ≥ 14
  ·unfold triviumlaw12_QueryOdd.f
   simp only [Option.bind_some, if_neg h0]
   exact odd_far _ _ rfl _ h1
  ·obtain ⟨m, rfl⟩ := Int.eq_ofNat_of_zero_le (by omega : 0 ≤ a)
   exact odd_all ⟨m, by omega⟩
end Go.Proofs.YtbpbfboaofkpaaaDoor.Print
end
section
set_option linter.unusedVariables false
namespace Go.Proofs.YtbpbfboaofkpaaaDoor
open Go.ChangeShapes Go.WideShapes Go.ChangeAt Go.RowKit
open Go.ChangeMaps (open_string shut_string)
set_option maxRecDepth 100000 in
theorem Y2H (os : Os) (started : os.Started) (H : Type) (enc : TypeId × Value → H) :
  ReturnsInHanded {} Tryd.checked os 12 .any (fun w args => (Rows.queryOddSpec.pre enc Tryd.prog Tryd.f12 [] false w args ∧ laidMetH Tryd.prog laid2 w) ∧ sizedMet enc Tryd.prog Tryd.f12 (OpenSpec.ofChange Rows.queryOddSpec) false w args)
   (Rows.queryOddSpec.post enc Tryd.prog Tryd.f12 false true false false) := by
 refine Y3v (C := Tryd.checked) (X := fun w _ => laidMetH Tryd.prog laid2 w) (fun _ _ _ hh h => h.of_heap hh) own started Z4 Tryd.func12
  (ChangeSpec.witness_at (enc := enc) (C := Tryd.checked) (os := os) (X := fun w _ => laidMetH Tryd.prog laid2 w) false (Y3l os) #[.int .i64 0] 8 rfl Z4 Z4 Z4 Z4 Z4 (Y36 os _)) ?_
 intro W base args ds gs before hval0 hW hL hsh
 have hval : ∀ (j : Nat) t v, Tryd.f12.params[j]? = some t → args[j]? = some v → Value.okWide Tryd.prog W .any base t v := hval0
 have hW' := hW
 obtain ⟨p, q, hA0, hV, rfl, hfz, hnd⟩ := hW
 have hA : DataW.TrodAll enc Tryd.prog W 0 (fun _ => true) true Tryd.f12.params.toList args.toList ds p := hA0
 rw [Tryd.params12] at hA hval
 obtain ⟨v0, vs0, d0, ds0, p0, q0, hargs, rfl, rfl, h0, r0⟩ := trodAll_cons hA
 obtain ⟨rfl, rfl, rfl⟩ := trodAll_nil r0
 obtain rfl : args = #[v0] := by cases args; simp_all
 obtain ⟨rfl, rfl⟩ := trodVars_none hV
 obtain ⟨a0, rfl, rfl, rfl, w0⟩ := open_int Tryd.underlying3 (hval 0 3 v0 rfl rfl) h0
 clear hA0 hval0
 obtain ⟨k, hk⟩ := Print.law_odd a0
 refine (Print.triviumlaw12_QueryOdd.calls k a0 true W (Y3x hL hsh)  hk).mono fun e W' ⟨he, bel⟩ => ?_
 subst he
 exact ⟨_, rfl, _, _, _, [], _, [], hW', trodAll_mk1 (shut_bool Tryd.underlying4 _), (trodAll_cons_mk (shut_int Tryd.underlying3 w0) trodAll_mk0), rfl, bel.frame _, fun h => by cases h⟩
theorem queryOdd_holds : Rows.QueryOddSaid :=
 OpenClaim.holds_of_wide 12 Tryd.f12 rfl rfl rfl rfl rfl rfl rfl ⟨rfl, rfl, rfl, rfl, rfl⟩ rfl rfl rfl rfl rfl Z4 Tryd.func12 Z4
  (of_decide_eq_true Z4) (by unfold Func.isWrapper; rw [if_neg (by decide +kernel)]; exact ⟨rfl, rfl⟩)
  (fun os started H enc _ => Y2H os started H enc)
theorem queryOdd_card : Rows.QueryOddCardSaid :=
 Claim7.holds_tied_plain_at .later [] [.data, .pinned] true (true, "8dc71fce747bb8b3b218677ae7dbf523581ddbbfb392b53abaf975cea163e82b") false
  queryOdd_holds (fun _ h => by cases h) Z4 (fun _ h => by cases h) queryOdd_row_tie rfl ⟨rfl, rfl⟩ Z4 rfl
  (fun f fn hf hfn => by
   obtain rfl : f = 12 := Option.some.inj ((show Tryd.prog.funcNamed "trivium/triviumlaw12.QueryOdd" = some 12 by kernel_rfl).symm.trans hf) |>.symm
   obtain rfl : fn = Tryd.f12 := (Option.some.inj (Tryd.func12.symm.trans hfn)).symm
   exact ⟨by kernel_rfl, fun j t ht => by
    rw [Tryd.params12] at ht
    rcases j with _ | j
    ·obtain rfl : t = 3 := by simpa using ht.symm
     exact (show Tryd.prog.wantsStandIn 3 = false by kernel_rfl)
    ·simp at ht⟩)
  Z4
#print axioms queryOdd_card
end Go.Proofs.YtbpbfboaofkpaaaDoor
end
