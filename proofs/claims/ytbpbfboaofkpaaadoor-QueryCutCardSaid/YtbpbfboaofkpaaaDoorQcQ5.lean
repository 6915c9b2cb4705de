/- Proofs for this claim: printed by our driver and joined by pack.py; the last text holds the statement. -/
import Derived.Test.YtbpbfboaofkpaaaDoorQcQ4
section
namespace Go.Proofs.YtbpbfboaofkpaaaDoor.Print
open Go.RowKit Go.Proofs.YtbpbfboaofkpaaaDoorW.PrintWords Go.Proofs.YtbpbfboaofkpaaaDoorW.PrintLast Go.Proofs.YtbpbfboaofkpaaaDoorW.PrintMore
attribute [local go_sem] max2_int min2_int max_two min_two max_three min_three max_four min_four
set_option linter.unusedVariables false
set_option linter.unusedSimpArgs false
set_option maxHeartbeats 8000000 in
set_option maxRecDepth 100000 in
theorem Ye.calls (k : Nat) (g : Nat) (s0_0 : ByteArray) (s0_1 : Int) (s0_2 : Int) (s0_3 : Int) (r1 : Int) (r2 : ByteArray) (r3 : Int) (r4 : Int) (r5 : Int) (w0 w : World) (hI : YC w0 w g s0_0 s0_1 s0_2 s0_3) (hB : Below w0.heap.size w0 w) (h : Ye.f k s0_0 s0_1 s0_2 s0_3 = some (r1, r2, r3, r4, r5)) :
  Calls Tryd.prog 56 #[.pointer (some ⟨g, 0, none⟩)] w fun e w' => e = .returned (.int .u8 r1) ∧ YC w0 w' g r2 r3 r4 r5 ∧ Below w0.heap.size w0 w' ∧ Y1 w w' g none := by
 have HI0 := Y0.mk hI
 have HK := Y0.mk (Y1.refl w g none)
 have HL := Y0.mk hB.size
 clear hI
 have HW0 := Y0.mk hB.size
 have HB := Y0.mk hB
 clear hB
 have H : (Ye.l0 k s0_0 s0_1 s0_2 s0_3) = some (r1, r2, r3, r4, r5) := h
 clear h
 have H' := Y0.mk H
 clear H
 go_enter Tryd.func56, Tryd.ntmps56
 go_wp2
 repeat (go_quiet (fail); try go_wp2)
 go_loopg [] k (fun kq w' => ∃ (x1001_1 : Int), Y0 (Ye.l0 kq s0_0 x1001_1 s0_2 s0_3 = some (r1, r2, r3, r4, r5)) ∧ Y0 (kq ≤ k) ∧ Y0 (YC w0 w' g s0_0 x1001_1 s0_2 s0_3) ∧ Y0 (Y1 w w' g none) ∧ Y0 (Below w0.heap.size w0 w'))
 case atStart => exact ⟨(s0_1), H', ⟨Nat.le_refl _⟩, ⟨QI81_0⟩, ⟨QK⟩, ⟨QB⟩⟩
 case round =>
  clear H'
  obtain ⟨x1001_1, HA, HK1, HI0, HK, HB⟩ := hrel
  cases gk with
  | zero => exact absurd HA.out (by simp [Ye.l0])
  | succ k1 =>
   have H := HA.out
   clear HA
   simp only [Ye.l0] at H
   by_cases c2 : x1001_1 < (s0_0.size : Int)
   ·rw [if_pos c2] at H
    have c2b0 : decide (x1001_1 < (s0_0.size : Int)) = true := decide_eq_true c2
    clear c2
    by_cases c3 : 0 ≤ x1001_1
    ·rw [if_pos c3] at H
     have c3b0 : decide (0 ≤ x1001_1) = true := decide_eq_true c3
     clear c3
     by_cases c5 : (bt s0_0 x1001_1) = 32
     ·rw [if_pos c5] at H
      have c5b0 : ((bt s0_0 x1001_1) == 32) = true := beq_iff_eq.mpr c5
      have c5b1 : ((bt s0_0 x1001_1) != 32) = false := bne_eq_false_iff_eq.mpr c5
      clear c5
      have H' := Y0.mk H
      clear H
      obtain ⟨hcz6_0, hcz6_1, hcz6_2, hcz6_3, hfz6_0, hfz6_1, hfz6_2, hfz6_3⟩ := YA HI0.out.1
      have p4 : 0 ≤ (x1001_1 : Int) := of_decide_eq_true Za
      have q4 : x1001_1 < (s0_0.size : Int) := of_decide_eq_true Za
      have hx4 := Y47 s0_0 x1001_1
      replace p4 := eq_true p4
      replace q4 := eq_true q4
      go_wp2
      repeat (go_quiet (fail); try go_wp2)
      go_roundg k1
      case measure => have := HK1.out; omega
      case rel => exact ⟨(wrap64 (x1001_1 + 1)), H', ⟨ZV⟩, ⟨QI81_0⟩, ⟨QK⟩, ⟨QB⟩⟩
     ·rw [if_neg c5] at H
      have c5b0 : ((bt s0_0 x1001_1) == 32) = false := beq_eq_false_iff_ne.mpr c5
      have c5b1 : ((bt s0_0 x1001_1) != 32) = true := bne_iff_ne.mpr c5
      by_cases c7 : s0_2 = 0
      ·rw [if_pos c7] at H
       have c7b0 : (s0_2 == 0) = true := beq_iff_eq.mpr c7
       have c7b1 : (s0_2 != 0) = false := bne_eq_false_iff_eq.mpr c7
       clear c7
       by_cases c8 : x1001_1 ≥ (s0_0.size : Int)
       ·rw [if_pos c8] at H
        have c8b0 : decide ((s0_0.size : Int) ≤ x1001_1) = true := decide_eq_true c8
        clear c8
        simp only [Option.some.injEq, Prod.mk.injEq] at H
        obtain ⟨rfl, rfl, rfl, rfl, rfl⟩ := H
        obtain ⟨hcz9_0, hcz9_1, hcz9_2, hcz9_3, hfz9_0, hfz9_1, hfz9_2, hfz9_3⟩ := YA HI0.out.1
        have p4 : 0 ≤ (x1001_1 : Int) := of_decide_eq_true Za
        have q4 : x1001_1 < (s0_0.size : Int) := of_decide_eq_true Za
        have hx4 := Y47 s0_0 x1001_1
        replace p4 := eq_true p4
        replace q4 := eq_true q4
        go_wp2
        repeat (go_quiet (fail); try go_wp2)
        go_ret
        exact Z2v
       ·rw [if_neg c8] at H
        have c8b0 : decide ((s0_0.size : Int) ≤ x1001_1) = false := decide_eq_false c8
        clear c8
        simp only [Option.some.injEq, Prod.mk.injEq] at H
        obtain ⟨rfl, rfl, rfl, rfl, rfl⟩ := H
        obtain ⟨hcz11_0, hcz11_1, hcz11_2, hcz11_3, hfz11_0, hfz11_1, hfz11_2, hfz11_3⟩ := YA HI0.out.1
        have p4 : 0 ≤ (x1001_1 : Int) := of_decide_eq_true Za
        have q4 : x1001_1 < (s0_0.size : Int) := of_decide_eq_true Za
        have hx4 := Y47 s0_0 x1001_1
        replace p4 := eq_true p4
        replace q4 := eq_true q4
        have p10 : 0 ≤ (x1001_1 : Int) := of_decide_eq_true Za
        have q10 : x1001_1 < (s0_0.size : Int) := of_decide_eq_true Za
        have hx10 := Y47 s0_0 x1001_1
        replace p10 := eq_true p10
        replace q10 := eq_true q10
        go_wp2
        repeat (go_quiet (fail); try go_wp2)
        go_ret
        exact Z2v
      ·rw [if_neg c7] at H
       have c7b0 : (s0_2 == 0) = false := beq_eq_false_iff_ne.mpr c7
       have c7b1 : (s0_2 != 0) = true := bne_iff_ne.mpr c7
       simp only [Option.some.injEq, Prod.mk.injEq] at H
       obtain ⟨rfl, rfl, rfl, rfl, rfl⟩ := H
       obtain ⟨hcz12_0, hcz12_1, hcz12_2, hcz12_3, hfz12_0, hfz12_1, hfz12_2, hfz12_3⟩ := YA HI0.out.1
       have p4 : 0 ≤ (x1001_1 : Int) := of_decide_eq_true Za
       have q4 : x1001_1 < (s0_0.size : Int) := of_decide_eq_true Za
       have hx4 := Y47 s0_0 x1001_1
       replace p4 := eq_true p4
       replace q4 := eq_true q4
       go_wp2
       repeat (go_quiet (fail); try go_wp2)
       go_ret
       exact Z2v
    ·rw [if_neg c3] at H
     exact Zn
   ·rw [if_neg c2] at H
    have c2b0 : decide (x1001_1 < (s0_0.size : Int)) = false := decide_eq_false c2
    clear c2
    by_cases c13 : s0_2 = 0
    ·rw [if_pos c13] at H
     have c13b0 : (s0_2 == 0) = true := beq_iff_eq.mpr c13
     have c13b1 : (s0_2 != 0) = false := bne_eq_false_iff_eq.mpr c13
     clear c13
     by_cases c14 : x1001_1 ≥ (s0_0.size : Int)
     ·rw [if_pos c14] at H
      have c14b0 : decide ((s0_0.size : Int) ≤ x1001_1) = true := decide_eq_true c14
      clear c14
      simp only [Option.some.injEq, Prod.mk.injEq] at H
      obtain ⟨rfl, rfl, rfl, rfl, rfl⟩ := H
      obtain ⟨hcz15_0, hcz15_1, hcz15_2, hcz15_3, hfz15_0, hfz15_1, hfz15_2, hfz15_3⟩ := YA HI0.out.1
      go_wp2
      repeat (go_quiet (fail); try go_wp2)
      go_ret
      exact Z2v
     ·rw [if_neg c14] at H
      have c14b0 : decide ((s0_0.size : Int) ≤ x1001_1) = false := decide_eq_false c14
      clear c14
      by_cases c16 : 0 ≤ x1001_1
      ·rw [if_pos c16] at H
       exact Zn
      ·rw [if_neg c16] at H
       exact Zn
    ·rw [if_neg c13] at H
     have c13b0 : (s0_2 == 0) = false := beq_eq_false_iff_ne.mpr c13
     have c13b1 : (s0_2 != 0) = true := bne_iff_ne.mpr c13
     simp only [Option.some.injEq, Prod.mk.injEq] at H
     obtain ⟨rfl, rfl, rfl, rfl, rfl⟩ := H
     obtain ⟨hcz17_0, hcz17_1, hcz17_2, hcz17_3, hfz17_0, hfz17_1, hfz17_2, hfz17_3⟩ := YA HI0.out.1
     go_wp2
     repeat (go_quiet (fail); try go_wp2)
     go_ret
     exact Z2v
def Yu.f (s0_0 : ByteArray) (s0_1 : Int) (s0_2 : Int) (s0_3 : Int) (a1 : Int) (a2 : Int) : Option (Int × ByteArray × List ByteArray × (List (S37)) × ByteArray × Int × Int × Int) := if s0_2 = 0 then (some (0, (⟨#[]⟩ : ByteArray), ([] : List ByteArray), ([] : List (S37)), s0_0, s0_1, a2, a1)) else (some (0, (⟨#[]⟩ : ByteArray), ([] : List ByteArray), ([] : List (S37)), s0_0, s0_1, s0_2, s0_3))
set_option maxHeartbeats 8000000 in
set_option maxRecDepth 100000 in
theorem Yu.calls (g : Nat) (s0_0 : ByteArray) (s0_1 : Int) (s0_2 : Int) (s0_3 : Int) (a1 : Int) (a2 : Int) (r1 : Int) (r2 : ByteArray) (r3 : List ByteArray) (r4 : List (S37)) (r5 : ByteArray) (r6 : Int) (r7 : Int) (r8 : Int) (w0 w : World) (hI : YC w0 w g s0_0 s0_1 s0_2 s0_3) (hB : Below w0.heap.size w0 w) (h : Yu.f s0_0 s0_1 s0_2 s0_3 a1 a2 = some (r1, r2, r3, r4, r5, r6, r7, r8)) :
  Calls Tryd.prog 57 #[.pointer (some ⟨g, 0, none⟩), .int .i64 a1, .int .i64 a2] w fun e w' => ∃ v2_ v3_ : Value, e = .returned (.agg #[.int .i64 r1, .string r2, v2_, v3_]) ∧ Kd.R Kd.string 9 w' w.heap.size (fun k_ => (w.heap.size ≤ k_)) v2_ r3 ∧ Kd.N k37 37 w' w.heap.size (fun k_ => (w.heap.size ≤ k_) ∧ some k_ ≠ (v2_ : Value).ownBlock) v3_ r4 ∧ YC w0 w' g r5 r6 r7 r8 ∧ Below w0.heap.size w0 w' ∧ Y1 w w' g none := by
 have hu37 := Tryd.underlying37
 have HI0 := Y0.mk hI
 have HK := Y0.mk (Y1.refl w g none)
 have HL := Y0.mk hB.size
 clear hI
 have HW0 := Y0.mk hB.size
 have HB := Y0.mk hB
 clear hB
 have H : (if s0_2 = 0 then (some (0, (⟨#[]⟩ : ByteArray), ([] : List ByteArray), ([] : List (S37)), s0_0, s0_1, a2, a1)) else (some (0, (⟨#[]⟩ : ByteArray), ([] : List ByteArray), ([] : List (S37)), s0_0, s0_1, s0_2, s0_3))) = some (r1, r2, r3, r4, r5, r6, r7, r8) := h
 clear h
 by_cases c4 : s0_2 = 0
 ·rw [if_pos c4] at H
  have c4b0 : (s0_2 == 0) = true := beq_iff_eq.mpr c4
  have c4b1 : (s0_2 != 0) = false := bne_eq_false_iff_eq.mpr c4
  clear c4
  simp only [Option.some.injEq, Prod.mk.injEq] at H
  obtain ⟨rfl, rfl, rfl, rfl, rfl, rfl, rfl, rfl⟩ := H
  go_enter Tryd.func57, Tryd.ntmps57
  go_wp2_with (first | ((with_reducible refine YF (N := 6) rfl ?_); refine YD ?hg (N := 6) ?hd (cs := #[.int .i64 0, .string (⟨#[]⟩ : ByteArray), .slice none 0 0, .slice none 0 0]) (t := 37) ?hr ?_; (case hd => rfl); (case hg => rfl); (case hr => exact Zb); intro gb101 hg w5 hbox hb; have n_ := Y4q (YC.below QI81_0 hb) (Y1.trans QK (Y1.of_below hb g none) (.inl rfl)) (Y8 QB hb) (hbox) ((by rw [hg]; exact (Y7 (w := w) (g := g) (row := none) QK) : w.heap.size ≤ gb101)) ((Nat.le_trans HW0.out (by rw [hg]; exact (Y7 (w := w) (g := g) (row := none) QK) : w.heap.size ≤ gb101) : w0.heap.size ≤ gb101)) ((by rw [hg]; exact Nat.ne_of_lt (YC.lt (show YC w0 _ g s0_0 s0_1 s0_2 s0_3 from QI81_0)) : g ≠ gb101)) ((by rw [hg]; exact Nat.ne_of_gt (YC.lt (show YC w0 _ g s0_0 s0_1 s0_2 s0_3 from QI81_0)) : gb101 ≠ g)); clear HI0 HK HB; obtain ⟨HI0, HK, HB, BK101, GW101, GE101, NB0_101, NB101_0⟩ := n_; clear hb hbox hg; obtain ⟨HGz6, hgz6⟩ := HI0.out; have hcz6_0 := Y1r HGz6; have hcz6_1 := Y1s HGz6; have hcz6_2 := Y1t HGz6; have hcz6_3 := Y1u HGz6; have hfz6_0 := Y6 HGz6 0; have hfz6_1 := Y6 HGz6 1; have hfz6_2 := Y6 HGz6 2; have hfz6_3 := Y6 HGz6 3; clear HGz6 hgz6; have hnb7 := NB101_0.out; have hnc7 := NB0_101.out; obtain ⟨hcz8_0, hcz8_1, hcz8_2, hcz8_3, hfz8_0, hfz8_1, hfz8_2, hfz8_3⟩ := YA BK101.out))
  refine bodyPost_ret (results_cell_row rfl _ _ gb101 37 #[.int .i64 0, .string (⟨#[]⟩ : ByteArray), .slice none 0 0, .slice none 0 0] (0, 0) _ rfl Zp Tryd.underlying37 rfl Z4) rfl ?_
  exact ⟨_, _, Z2, Z5, Z5, QI81_0, QB, QK⟩
 ·rw [if_neg c4] at H
  have c4b0 : (s0_2 == 0) = false := beq_eq_false_iff_ne.mpr c4
  have c4b1 : (s0_2 != 0) = true := bne_iff_ne.mpr c4
  simp only [Option.some.injEq, Prod.mk.injEq] at H
  obtain ⟨rfl, rfl, rfl, rfl, rfl, rfl, rfl, rfl⟩ := H
  go_enter Tryd.func57, Tryd.ntmps57
  go_wp2_with (first | ((with_reducible refine YF (N := 6) rfl ?_); refine YD ?hg (N := 6) ?hd (cs := #[.int .i64 0, .string (⟨#[]⟩ : ByteArray), .slice none 0 0, .slice none 0 0]) (t := 37) ?hr ?_; (case hd => rfl); (case hg => rfl); (case hr => exact Zb); intro gb101 hg w9 hbox hb; have n_ := Y4q (YC.below QI81_0 hb) (Y1.trans QK (Y1.of_below hb g none) (.inl rfl)) (Y8 QB hb) (hbox) ((by rw [hg]; exact (Y7 (w := w) (g := g) (row := none) QK) : w.heap.size ≤ gb101)) ((Nat.le_trans HW0.out (by rw [hg]; exact (Y7 (w := w) (g := g) (row := none) QK) : w.heap.size ≤ gb101) : w0.heap.size ≤ gb101)) ((by rw [hg]; exact Nat.ne_of_lt (YC.lt (show YC w0 _ g s0_0 s0_1 s0_2 s0_3 from QI81_0)) : g ≠ gb101)) ((by rw [hg]; exact Nat.ne_of_gt (YC.lt (show YC w0 _ g s0_0 s0_1 s0_2 s0_3 from QI81_0)) : gb101 ≠ g)); clear HI0 HK HB; obtain ⟨HI0, HK, HB, BK101, GW101, GE101, NB0_101, NB101_0⟩ := n_; clear hb hbox hg; obtain ⟨HGz10, hgz10⟩ := HI0.out; have hcz10_0 := Y1r HGz10; have hcz10_1 := Y1s HGz10; have hcz10_2 := Y1t HGz10; have hcz10_3 := Y1u HGz10; have hfz10_0 := Y6 HGz10 0; have hfz10_1 := Y6 HGz10 1; have hfz10_2 := Y6 HGz10 2; have hfz10_3 := Y6 HGz10 3; clear HGz10 hgz10; have hnb11 := NB101_0.out; have hnc11 := NB0_101.out; obtain ⟨hcz12_0, hcz12_1, hcz12_2, hcz12_3, hfz12_0, hfz12_1, hfz12_2, hfz12_3⟩ := YA BK101.out))
  refine bodyPost_ret (results_cell_row rfl _ _ gb101 37 #[.int .i64 0, .string (⟨#[]⟩ : ByteArray), .slice none 0 0, .slice none 0 0] (0, 0) _ rfl Z2a Tryd.underlying37 rfl Z4) rfl ?_
  exact ⟨_, _, Z2, Z5, Z5, QI81_0, QB, QK⟩
mutual
def Y3.j1 : Nat → Int → ByteArray → Int → Int → Int → Option (ByteArray × ByteArray × Int × Int × Int)
 | 0, _, _, _, _, _ => none
 | k + 1, x3, x1000, x1001, x1002, x1003 => if x3 ≥ (x1000.size : Int) then ((Yu.f x1000 x1001 x1002 x1003 x1001 2).bind fun bt118 => (some ((⟨#[]⟩ : ByteArray), bt118.2.2.2.2.1, bt118.2.2.2.2.2.1, bt118.2.2.2.2.2.2.1, bt118.2.2.2.2.2.2.2))) else (if 0 ≤ (wrap64 (x1001 + 1)) then (if (wrap64 (x1001 + 1)) ≤ x3 then (if x3 ≤ (x1000.size : Int) then ((YU.f (x1000.extract ((wrap64 (x1001 + 1)) : Int).toNat (x3 : Int).toNat)).bind fun t130 => (if t130 = true then (some (x1000.extract ((wrap64 (x1001 + 1)) : Int).toNat (x3 : Int).toNat, x1000, wrap64 (x3 + 1), x1002, x1003)) else ((Yu.f x1000 x1001 x1002 x1003 x1001 2).bind fun bt131 => (some ((⟨#[]⟩ : ByteArray), bt131.2.2.2.2.1, bt131.2.2.2.2.2.1, bt131.2.2.2.2.2.2.1, bt131.2.2.2.2.2.2.2))))) else (none)) else (none)) else (none))
def Y3.l0 : Nat → Int → ByteArray → Int → Int → Int → Option (ByteArray × ByteArray × Int × Int × Int)
 | 0, _, _, _, _, _ => none
 | k + 1, x3, x1000, x1001, x1002, x1003 => if x3 < (x1000.size : Int) then (if 0 ≤ x3 then (if (bt x1000 x3) = 62 then (Y3.j1 k x3 x1000 x1001 x1002 x1003) else (Y3.l0 k (wrap64 (x3 + 1)) x1000 x1001 x1002 x1003)) else (none)) else (Y3.j1 k x3 x1000 x1001 x1002 x1003)
end
def Y3.f (k : Nat) (s0_0 : ByteArray) (s0_1 : Int) (s0_2 : Int) (s0_3 : Int) : Option (ByteArray × ByteArray × Int × Int × Int) := (Ye.f k s0_0 s0_1 s0_2 s0_3).bind fun bt101 => (if bt101.1 = 60 then (Y3.l0 k (wrap64 (bt101.2.2.1 + 1)) bt101.2.1 bt101.2.2.1 bt101.2.2.2.1 bt101.2.2.2.2) else ((Yu.f bt101.2.1 bt101.2.2.1 bt101.2.2.2.1 bt101.2.2.2.2 bt101.2.2.1 2).bind fun bt106 => (some ((⟨#[]⟩ : ByteArray), bt106.2.2.2.2.1, bt106.2.2.2.2.2.1, bt106.2.2.2.2.2.2.1, bt106.2.2.2.2.2.2.2))))
theorem Y3.mono_l : ∀ k, (∀ y0 y1 y2 y3 y4, LeO (Y3.j1 k y0 y1 y2 y3 y4) (Y3.j1 (k + 1) y0 y1 y2 y3 y4)) ∧ (∀ y0 y1 y2 y3 y4, LeO (Y3.l0 k y0 y1 y2 y3 y4) (Y3.l0 (k + 1) y0 y1 y2 y3 y4))
 | 0 => ⟨fun _ _ _ _ _ r h => by simp [Y3.j1] at h, fun _ _ _ _ _ r h => by simp [Y3.l0] at h⟩
 | k + 1 => by
  obtain ⟨ih0, ih1⟩ := Y3.mono_l k
  refine ⟨?_, ?_⟩
  ·intro y0 y1 y2 y3 y4
   unfold Y3.j1
   exact QM
  ·intro y0 y1 y2 y3 y4
   unfold Y3.l0
   exact QM
theorem Y3.mono : ∀ a0 a1 a2 a3 k, LeO (Y3.f k a0 a1 a2 a3) (Y3.f (k + 1) a0 a1 a2 a3) := by
 intro a0 a1 a2 a3 k
 obtain ⟨ih0, ih1⟩ := Y3.mono_l k
 unfold Y3.f
 exact QM
def Y3.T7 : Bool × List (List Nat × List Nat) := (true, [([], []), ([], []), ([1], [1]), ([2], [2]), ([3], [3]), ([4], [4]), ([0, 5], [0, 5]), ([6], [6]), ([7], [7]), ([8, 7], [7, 8]), ([9, 7], [7, 9]), ([10, 7], [7, 10]), ([7], [7]), ([12, 7], [7, 12]), ([13, 7], [7, 13]), ([14, 7], [7, 14]), ([15, 7], [7, 15]), ([7], [7]), ([11, 16, 17, 7], [7, 11, 16, 17]), ([18, 7, 7], [7, 18]), ([19, 7], [7, 19]), ([7, 20], [7, 20])])
def Y3.B7 : List Nat := [0, 0, 2, 6, 14, 30, 63, 127, 255, 511, 1023, 2047, 255, 4351, 12543, 28927, 61695, 255, 262143, 524287, 1048575, 2097151]
theorem Y3.tab7 : Y3x .any (Y3P Tryd.f136 7) = Y3.T7 := by kernel_rfl
theorem Y3.bits7 : Y1Y Y3.T7.2 Y3.B7 = true := by kernel_rfl
def Y3.T10 : Bool × List (List Nat × List Nat) := (true, [([], []), ([0], [0]), ([1], [1]), ([2], [2]), ([], []), ([4], [4]), ([5], [5]), ([6], [6]), ([7], [7]), ([], []), ([3, 8, 9], [3, 8, 9]), ([10, 0, 1, 2, 3, 4, 5, 6, 7, 8, 9, 10], [10])])
def Y3.B10 : List Nat := [0, 1, 3, 7, 0, 16, 48, 112, 240, 0, 1023, 2047]
theorem Y3.tab10 : Y3x .any (Y3P Tryd.f136 10) = Y3.T10 := by kernel_rfl
theorem Y3.bits10 : Y1Y Y3.T10.2 Y3.B10 = true := by kernel_rfl
set_option maxHeartbeats 8000000 in
set_option maxRecDepth 100000 in
theorem Y3.calls (k : Nat) (g : Nat) (s0_0 : ByteArray) (s0_1 : Int) (s0_2 : Int) (s0_3 : Int) (r1 : ByteArray) (r2 : ByteArray) (r3 : Int) (r4 : Int) (r5 : Int) (w0 w : World) (hI : YC w0 w g s0_0 s0_1 s0_2 s0_3) (hB : Below w0.heap.size w0 w) (hT : Tabs w0) (h : Y3.f k s0_0 s0_1 s0_2 s0_3 = some (r1, r2, r3, r4, r5)) :
  Calls Tryd.prog 136 #[.pointer (some ⟨g, 0, none⟩)] w fun e w' => e = .returned (.string r1) ∧ YC w0 w' g r2 r3 r4 r5 ∧ Below w0.heap.size w0 w' ∧ Y1 w w' g none := by
 have HT := Y0.mk hT
 clear hT
 have HI0 := Y0.mk hI
 have HK := Y0.mk (Y1.refl w g none)
 have HL := Y0.mk hB.size
 clear hI
 have HW0 := Y0.mk hB.size
 have HB := Y0.mk hB
 clear hB
 have H : ((Ye.f k s0_0 s0_1 s0_2 s0_3).bind fun bt101 => (if bt101.1 = 60 then (Y3.l0 k (wrap64 (bt101.2.2.1 + 1)) bt101.2.1 bt101.2.2.1 bt101.2.2.2.1 bt101.2.2.2.2) else ((Yu.f bt101.2.1 bt101.2.2.1 bt101.2.2.2.1 bt101.2.2.2.2 bt101.2.2.1 2).bind fun bt106 => (some ((⟨#[]⟩ : ByteArray), bt106.2.2.2.2.1, bt106.2.2.2.2.2.1, bt106.2.2.2.2.2.2.1, bt106.2.2.2.2.2.2.2))))) = some (r1, r2, r3, r4, r5) := h
 clear h
 replace H := Option.bind_eq_some_iff.mp H
 obtain ⟨⟨t101, t102, t103, t104, t105⟩, A20, H⟩ := H
 replace H : (if t101 = 60 then (Y3.l0 k (wrap64 (t103 + 1)) t102 t103 t104 t105) else ((Yu.f t102 t103 t104 t105 t103 2).bind fun bt106 => (some ((⟨#[]⟩ : ByteArray), bt106.2.2.2.2.1, bt106.2.2.2.2.2.1, bt106.2.2.2.2.2.2.1, bt106.2.2.2.2.2.2.2)))) = some (r1, r2, r3, r4, r5) := H
 have A2 := Y0.mk A20
 clear A20
 by_cases c3 : t101 = 60
 ·rw [if_pos c3] at H
  have c3b0 : (t101 == 60) = true := beq_iff_eq.mpr c3
  have c3b1 : (t101 != 60) = false := bne_eq_false_iff_eq.mpr c3
  clear c3
  have HC4 := Y0.mk H
  clear H
  go_enter Tryd.func136, Tryd.ntmps136
  go_upto_block 0 with (first | ((with_reducible refine Yl (f := 56) rfl ?_); refine YO (some 6) rfl rfl Tryd.func56 Z4 rfl #[.pointer (some ⟨g, 0, none⟩)] rfl Z0 ?_; (with_reducible refine (Ye.calls k g s0_0 s0_1 s0_2 s0_3 t101 t102 t103 t104 t105 w0 _ ?side1 ?side2 A2.out).mono ?_); (case side1 => exact Z1u); (case side2 => exact QB); rintro e w5 ⟨rfl, hi, hb, hk⟩; refine ⟨_, rfl, ?_⟩; have n_ := Y38 (Y1.trans QK hk (.inl rfl)) (hb) (hi); clear HK HB HI0; obtain ⟨HK, HB, HI0⟩ := n_; (try clear hb); (try clear hb2); (try clear hk); (try clear hi); obtain ⟨HGz6, hgz6⟩ := HI0.out; have hcz6_0 := Y1r HGz6; have hcz6_1 := Y1s HGz6; have hcz6_2 := Y1t HGz6; have hcz6_3 := Y1u HGz6; have hfz6_0 := Y6 HGz6 0; have hfz6_1 := Y6 HGz6 1; have hfz6_2 := Y6 HGz6 2; have hfz6_3 := Y6 HGz6 3; clear HGz6 hgz6))
  (try simp only [Act.put, List.setIfInBounds_toArray, List.set_cons_zero, List.set_cons_succ])
  go_cut [3] (fun v3 wc => ∃ (kq : Nat) (x3_3 : Int), v3 = .int .i64 x3_3 ∧ Y0 (Y3.j1 kq x3_3 t102 t103 t104 t105 = some (r1, r2, r3, r4, r5)) ∧ Y0 (kq ≤ k) ∧ Y0 (YC w0 wc g t102 t103 t104 t105) ∧ Y0 (Y1 w wc g none) ∧ Y0 (Below w0.heap.size w0 wc))
  case first =>
   have H := HC4.out
   clear HC4
   have H' := Y0.mk H
   clear H
   go_wp2
   go_loopg [3] k (fun kq v3 w' => ∃ (x3_1 : Int), v3 = .int .i64 x3_1 ∧ Y0 (Y3.l0 kq x3_1 t102 t103 t104 t105 = some (r1, r2, r3, r4, r5)) ∧ Y0 (kq ≤ k) ∧ Y0 (YC w0 w' g t102 t103 t104 t105) ∧ Y0 (Y1 w w' g none) ∧ Y0 (Below w0.heap.size w0 w'))
   case atStart => exact ⟨(wrap64 (t103 + 1)), Z8, H', ⟨Nat.le_refl _⟩, ⟨QI81_0⟩, ⟨QK⟩, ⟨QB⟩⟩
   case round =>
    clear H'
    try clear c1
    try clear p2
    try clear c3
    try clear c3b0
    try clear c3b1
    try clear c5
    try clear p6
    try clear hcz6_0 hcz6_1 hcz6_2 hcz6_3 hfz6_0 hfz6_1 hfz6_2 hfz6_3
    obtain ⟨x3_1, rfl, HA, HK1, HI0, HK, HB⟩ := hrel
    cases gk with
    | zero => exact absurd HA.out (by simp [Y3.l0])
    | succ k1 =>
     have H := HA.out
     clear HA
     simp only [Y3.l0] at H
     by_cases c7 : x3_1 < (t102.size : Int)
     ·rw [if_pos c7] at H
      have c7b0 : decide (x3_1 < (t102.size : Int)) = true := decide_eq_true c7
      clear c7
      (first | rw [c7b0] | (simp only [Y16, Y17]; rw [c7b0]) | skip)
      by_cases c8 : 0 ≤ x3_1
      ·rw [if_pos c8] at H
       have c8b0 : decide (0 ≤ x3_1) = true := decide_eq_true c8
       clear c8
       by_cases c10 : (bt t102 x3_1) = 62
       ·rw [if_pos c10] at H
        have c10b0 : ((bt t102 x3_1) == 62) = true := beq_iff_eq.mpr c10
        have c10b1 : ((bt t102 x3_1) != 62) = false := bne_eq_false_iff_eq.mpr c10
        clear c10
        have H' := Y0.mk H
        clear H
        obtain ⟨hcz11_0, hcz11_1, hcz11_2, hcz11_3, hfz11_0, hfz11_1, hfz11_2, hfz11_3⟩ := YA HI0.out.1
        have p9 : 0 ≤ (x3_1 : Int) := of_decide_eq_true Za
        have q9 : x3_1 < (t102.size : Int) := of_decide_eq_true Za
        have hx9 := Y47 t102 x3_1
        replace p9 := eq_true p9
        replace q9 := eq_true q9
        go_wp2
        go_meet
        case rel => exact ⟨_, (x3_1), Z8, H', ⟨Z2w⟩, ⟨QI81_0⟩, ⟨QK⟩, ⟨QB⟩⟩
       ·rw [if_neg c10] at H
        have c10b0 : ((bt t102 x3_1) == 62) = false := beq_eq_false_iff_ne.mpr c10
        have c10b1 : ((bt t102 x3_1) != 62) = true := bne_iff_ne.mpr c10
        have H' := Y0.mk H
        clear H
        obtain ⟨hcz12_0, hcz12_1, hcz12_2, hcz12_3, hfz12_0, hfz12_1, hfz12_2, hfz12_3⟩ := YA HI0.out.1
        have p9 : 0 ≤ (x3_1 : Int) := of_decide_eq_true Za
        have q9 : x3_1 < (t102.size : Int) := of_decide_eq_true Za
        have hx9 := Y47 t102 x3_1
        replace p9 := eq_true p9
        replace q9 := eq_true q9
        go_wp2
        go_roundg k1
        case measure => have := HK1.out; omega
        case rel => exact ⟨(wrap64 (x3_1 + 1)), Z8, H', ⟨ZV⟩, ⟨QI81_0⟩, ⟨QK⟩, ⟨QB⟩⟩
      ·rw [if_neg c8] at H
       exact Zn
     ·rw [if_neg c7] at H
      have c7b0 : decide (x3_1 < (t102.size : Int)) = false := decide_eq_false c7
      clear c7
      (first | rw [c7b0] | (simp only [Y16, Y17]; rw [c7b0]) | skip)
      have H' := Y0.mk H
      clear H
      obtain ⟨hcz13_0, hcz13_1, hcz13_2, hcz13_3, hfz13_0, hfz13_1, hfz13_2, hfz13_3⟩ := YA HI0.out.1
      go_wp2
      go_meet
      case rel => exact ⟨_, (x3_1), Z8, H', ⟨Z2w⟩, ⟨QI81_0⟩, ⟨QK⟩, ⟨QB⟩⟩
  case rest =>
   clear HC4
   try clear c1
   try clear p2
   try clear c3
   try clear c3b0
   try clear c3b1
   try clear c5
   try clear p6
   try clear c7
   try clear c7b0
   try clear c8
   try clear c8b0
   try clear p9
   try clear q9
   try clear hx9
   try clear c10
   try clear c10b0
   try clear c10b1
   try clear c13
   try clear hcz11_0 hcz11_1 hcz11_2 hcz11_3
   try clear hcz12_0 hcz12_1 hcz12_2 hcz12_3
   try clear hcz13_0 hcz13_1 hcz13_2 hcz13_3
   try clear hcz6_0 hcz6_1 hcz6_2 hcz6_3
   try clear hfz11_0
   try clear hfz11_1
   try clear hfz11_2
   try clear hfz11_3
   try clear hfz12_0
   try clear hfz12_1
   try clear hfz12_2
   try clear hfz12_3
   try clear hfz13_0
   try clear hfz13_1
   try clear hfz13_2
   try clear hfz13_3
   try clear hfz6_0
   try clear hfz6_1
   try clear hfz6_2
   try clear hfz6_3
   try clear p2
   try clear p6
   try clear p9
   try clear q9
   obtain ⟨kq, x3_3, rfl, HA, HJ3, HI0, HK, HB⟩ := hcut
   cases kq with
   | zero => exact absurd HA.out (by simp [Y3.j1])
   | succ kj3 =>
    have H := HA.out
    clear HA
    simp only [Y3.j1] at H
    by_cases c14 : x3_3 ≥ (t102.size : Int)
    ·rw [if_pos c14] at H
     have c14b0 : decide ((t102.size : Int) ≤ x3_3) = true := decide_eq_true c14
     clear c14
     replace H := Option.bind_eq_some_iff.mp H
     obtain ⟨⟨t118, t119, t120, t123, t126, t127, t128, t129⟩, A150, H⟩ := H
     replace H : (some ((⟨#[]⟩ : ByteArray), t126, t127, t128, t129)) = some (r1, r2, r3, r4, r5) := H
     have A15 := Y0.mk A150
     clear A150
     simp only [Option.some.injEq, Prod.mk.injEq] at H
     obtain ⟨rfl, rfl, rfl, rfl, rfl⟩ := H
     try go_wp2
     have n_ := Y38 (YC.drew HI0.out) (Y1G HK.out) (YP HB.out)
     clear HI0
     clear HK
     clear HB
     obtain ⟨HI0, HK, HB⟩ := n_
     refine Y1m (n := 22) (S := fun w' => w'.cell? ⟨g, 0, none⟩ = some (.string t102) ∧ w'.cell? ⟨g, 1, none⟩ = some (.int .i64 t103) ∧ w'.cell? ⟨g, 2, none⟩ = some (.int .i64 t104) ∧ w'.cell? ⟨g, 3, none⟩ = some (.int .i64 t105)) (ds := []) Y4x Z4 rfl rfl ⟨Y1r HI0.out.1, Y1s HI0.out.1, Y1t HI0.out.1, Y1u HI0.out.1⟩ (fun hHeld => ?_); refine Y11 Y3.tab7 Y3.bits7 (fun HT_ HW_ => ?_)
     generalize wc.drew = w16 at HI0 HK HB hHeld ⊢
     refine pY 0 37 Y4y ?_
     refine pY 1 38 Y4z ?_
     refine pY 2 39 Y4A ?_
     refine pY 3 40 bz22_f ?_
     refine pT 4 41 Y66 ?_
     refine pY 5 42 Y67 ?_
     refine pY 6 43 Y3I ?_
     refine pY 7 44 Y3J ?_
     refine pU 8 45 Y3b ?_
     refine pU 9 46 Y3c ?_
     refine pU 10 47 Y3d ?_
     refine pU 11 48 Y3V ?_
     refine pU 12 49 Y3q ?_
     refine pU 13 50 Y3r ?_
     refine pU 14 51 Y4B ?_
     refine pU 15 52 Y4C ?_
     refine pU 16 53 Y48 ?_
     refine pU 17 54 Y2A ?_
     refine pU 18 55 Y2B ?_
     refine pU 19 56 Y2C ?_
     refine pU 20 57 Y2o ?_
     refine pY 21 58 Y2p ?_
     refine Y1S (Y1a HT_.out Z4) ?_
     obtain ⟨hcz17_0, hcz17_1, hcz17_2, hcz17_3, hfz17_0, hfz17_1, hfz17_2, hfz17_3⟩ := YA HI0.out.1
     try go_wp2_with (first | ((with_reducible refine Yl (f := 57) rfl ?_); refine YO (some 64) rfl rfl Tryd.func57 Z4 rfl #[.pointer (some ⟨g, 0, none⟩), .int .i64 t103, .int .i64 2] rfl Z0 ?_; (with_reducible refine (Yu.calls g t102 t103 t104 t105 t103 2 t118 t119 t120 t123 t126 t127 t128 t129 w0 _ ?side1 ?side2 A15.out).mono ?_); (case side1 => exact Z1u); (case side2 => exact QB); rintro e w18 ⟨v121, v124, rfl, ho0, ho1, hi, hb, hk⟩; refine ⟨_, rfl, ?_⟩; have n_ := Y4L (Kd.R_lower (Kd.R_mono (ok' := fun k_ => True) ho0 (fun _ hk_ => trivial)) (Y7 (w := w) (g := g) (row := none) QK)) (Kd.N_lower (Kd.N_mono (ok' := fun k_ => some k_ ≠ (v121 : Value).ownBlock ∧ k_ ≠ g) ho1 (fun k_ hk_ => ⟨hk_.2, (YC.fresh QI81_0 k_ hk_.1)⟩)) (Y7 (w := w) (g := g) (row := none) QK)) (Y1.trans QK hk (.inl rfl)) (hb) (hi); clear HK HB HI0; obtain ⟨HO122, HO125, HK, HB, HI0⟩ := n_; (try clear hb); (try clear hb2); (try clear hk); (try clear hi); (try clear ho0); (try clear ho1)))
     go_ret
     exact Z2v
    ·rw [if_neg c14] at H
     have c14b0 : decide ((t102.size : Int) ≤ x3_3) = false := decide_eq_false c14
     clear c14
     obtain ⟨ji19, hji19⟩ : ∃ j_ : Int, (wrap64 (t103 + 1)) = j_ := ⟨_, rfl⟩
     replace H : (if 0 ≤ (ji19) then (if (ji19) ≤ x3_3 then (if x3_3 ≤ (t102.size : Int) then ((YU.f (t102.extract ((ji19) : Int).toNat (x3_3 : Int).toNat)).bind fun t130 => (if t130 = true then (some (t102.extract ((ji19) : Int).toNat (x3_3 : Int).toNat, t102, wrap64 (x3_3 + 1), t104, t105)) else ((Yu.f t102 t103 t104 t105 t103 2).bind fun bt131 => (some ((⟨#[]⟩ : ByteArray), bt131.2.2.2.2.1, bt131.2.2.2.2.2.1, bt131.2.2.2.2.2.2.1, bt131.2.2.2.2.2.2.2))))) else (none)) else (none)) else (none)) = some (r1, r2, r3, r4, r5) := by first | (rw [hji19] at H; exact H) | (simp only [hji19] at H ⊢; exact H)
     have hji19w : (IntKind.i64.wrap (t103 + 1)) = ji19 := (Y16 _).trans hji19
     by_cases c20 : 0 ≤ (ji19)
     ·rw [if_pos c20] at H
      have c20b0 := eq_true c20
      have c20b1 : decide (0 ≤ (ji19)) = true := decide_eq_true c20
      clear c20
      by_cases c21 : (ji19) ≤ x3_3
      ·rw [if_pos c21] at H
       have c21b0 := eq_true c21
       have c21b1 : decide ((ji19) ≤ x3_3) = true := decide_eq_true c21
       clear c21
       by_cases c22 : x3_3 ≤ (t102.size : Int)
       ·rw [if_pos c22] at H
        have c22b0 := eq_true c22
        have c22b1 : decide (x3_3 ≤ (t102.size : Int)) = true := decide_eq_true c22
        clear c22
        replace H := Option.bind_eq_some_iff.mp H
        obtain ⟨t130, A230, H⟩ := H
        replace H : (if t130 = true then (some (t102.extract ((ji19) : Int).toNat (x3_3 : Int).toNat, t102, wrap64 (x3_3 + 1), t104, t105)) else ((Yu.f t102 t103 t104 t105 t103 2).bind fun bt131 => (some ((⟨#[]⟩ : ByteArray), bt131.2.2.2.2.1, bt131.2.2.2.2.2.1, bt131.2.2.2.2.2.2.1, bt131.2.2.2.2.2.2.2)))) = some (r1, r2, r3, r4, r5) := H
        have A23 := Y0.mk A230
        clear A230
        by_cases c24 : t130 = true
        ·subst c24
         have H1 : (some (t102.extract ((ji19) : Int).toNat (x3_3 : Int).toNat, t102, wrap64 (x3_3 + 1), t104, t105)) = some (r1, r2, r3, r4, r5) := by rw [if_pos rfl] at H; exact H
         clear H
         have H := H1
         clear H1
         have c25b0 := eq_true (of_decide_eq_true Za : 0 ≤ (ji19))
         have c26b0 := eq_true (of_decide_eq_true Za : (ji19) ≤ x3_3)
         have c27b0 := eq_true (of_decide_eq_true Za : x3_3 ≤ (t102.size : Int))
         simp only [Option.some.injEq, Prod.mk.injEq] at H
         obtain ⟨rfl, rfl, rfl, rfl, rfl⟩ := H
         try go_wp2
         have n_ := Y38 (YC.drew HI0.out) (Y1G HK.out) (YP HB.out)
         clear HI0
         clear HK
         clear HB
         obtain ⟨HI0, HK, HB⟩ := n_
         refine Y1m (n := 22) (S := fun w' => w'.cell? ⟨g, 0, none⟩ = some (.string t102) ∧ w'.cell? ⟨g, 1, none⟩ = some (.int .i64 t103) ∧ w'.cell? ⟨g, 2, none⟩ = some (.int .i64 t104) ∧ w'.cell? ⟨g, 3, none⟩ = some (.int .i64 t105)) (ds := []) Y4x Z4 rfl rfl ⟨Y1r HI0.out.1, Y1s HI0.out.1, Y1t HI0.out.1, Y1u HI0.out.1⟩ (fun hHeld => ?_); refine Y11 Y3.tab7 Y3.bits7 (fun HT_ HW_ => ?_)
         generalize wc.drew = w28 at HI0 HK HB hHeld ⊢
         refine pY 0 37 Y4y ?_
         refine pY 1 38 Y4z ?_
         refine pY 2 39 Y4A ?_
         refine pY 3 40 bz22_f ?_
         refine pT 4 41 Y66 ?_
         refine pY 5 42 Y67 ?_
         refine pY 6 43 Y3I ?_
         refine pY 7 44 Y3J ?_
         refine pY 8 45 Y3b ?_
         refine pY 9 46 Y3c ?_
         refine pY 10 47 Y3d ?_
         refine pY 12 49 Y5K ?_
         refine pY 13 50 Y5L ?_
         refine pY 14 51 Y5M ?_
         refine pY 17 54 Y54 ?_
         refine pT 11 48 Y55 ?_
         refine pT 15 52 Y56 ?_
         refine pY 16 53 Y2A ?_
         refine pY 18 55 Y2B ?_
         refine Y2Q (i := 19) (N := some 56) Y2C rfl rfl (Y1b HT_.out Z4) (by decide) (fun K hK => ?_)
         refine Y1Q Tryd.func45 Z4 rfl #[.string (t102.extract ((ji19) : Int).toNat (x3_3 : Int).toNat)] (by rfl) rfl rfl Z1s ?_
         with_reducible refine (YU.calls (t102.extract ((ji19) : Int).toNat (x3_3 : Int).toNat) true _ ?side1 A23.out).mono ?_
         (case side1 => exact Z3)
         rintro e w29 ⟨rfl, hb⟩
         refine ⟨_, rfl, ?_⟩
         have n_ := Y38 (YC.below QI81_0 hb) (Y1.trans QK (Y1.of_below hb g none) (.inl rfl)) (Y8 QB hb)
         clear HI0
         clear HK
         clear HB
         obtain ⟨HI0, HK, HB⟩ := n_
         (try clear hb)
         (try clear hb2)
         (try clear hk)
         (try clear hi)
         refine hK.out _ _ ⟨Y1r HI0.out.1, Y1s HI0.out.1, Y1t HI0.out.1, Y1u HI0.out.1⟩ (fun hHeld => ?_)
         clear hK K
         refine Y1A (a' := ?_) ?_ ?_
         rotate_left
         ·show Act.put _ (some 56) _ = _
          simp only [Act.put, List.setIfInBounds_toArray, List.set_cons_zero, List.set_cons_succ, Y16, Y17]
          rfl
         refine pY 20 57 Y2o ?_
         refine pY 21 58 Y2p ?_
         refine Y1S (Y1a HT_.out Z4) ?_
         try go_wp2
         have n_ := Y38 (YC.drew HI0.out) (Y1G HK.out) (YP HB.out)
         clear HI0
         clear HK
         clear HB
         obtain ⟨HI0, HK, HB⟩ := n_
         refine Y1m (n := 12) (S := fun w' => w'.cell? ⟨g, 0, none⟩ = some (.string t102) ∧ w'.cell? ⟨g, 1, none⟩ = some (.int .i64 t103) ∧ w'.cell? ⟨g, 2, none⟩ = some (.int .i64 t104) ∧ w'.cell? ⟨g, 3, none⟩ = some (.int .i64 t105)) (ds := []) Y5G Z4 rfl rfl ⟨Y1r HI0.out.1, Y1s HI0.out.1, Y1t HI0.out.1, Y1u HI0.out.1⟩ (fun hHeld => ?_); refine Y11 Y3.tab10 Y3.bits10 (fun HT_ HW_ => ?_)
         generalize w29.drew = w30 at HI0 HK HB hHeld ⊢
         refine pY 0 65 Y5H ?_
         refine pY 1 66 Y5I ?_
         refine pY 2 67 Y5J ?_
         refine pY 4 69 bz12_17 ?_
         refine pY 5 70 bz12_37 ?_
         refine pY 6 71 bz12_77 ?_
         refine pY 9 74 bz12_277 ?_
         refine pT 3 68 bz12_27f ?_
         refine pT 7 72 bz12_2ff ?_
         refine pY 8 73 Y3R ?_
         refine pY 10 75 Y3S ?_
         refine pY 11 4 Y3T ?_
         refine Y1S (Y1a HT_.out Z4) ?_
         obtain ⟨hcz31_0, hcz31_1, hcz31_2, hcz31_3, hfz31_0, hfz31_1, hfz31_2, hfz31_3⟩ := YA HI0.out.1
         try go_wp2
         go_ret
         exact Z1r
        ·replace c24 := Bool.eq_false_iff.mpr c24
         subst c24
         have H1 : ((Yu.f t102 t103 t104 t105 t103 2).bind fun bt131 => (some ((⟨#[]⟩ : ByteArray), bt131.2.2.2.2.1, bt131.2.2.2.2.2.1, bt131.2.2.2.2.2.2.1, bt131.2.2.2.2.2.2.2))) = some (r1, r2, r3, r4, r5) := by rw [if_neg (show ¬ (false = true) by decide)] at H; exact H
         clear H
         have H := H1
         clear H1
         replace H := Option.bind_eq_some_iff.mp H
         obtain ⟨⟨t131, t132, t133, t136, t139, t140, t141, t142⟩, A320, H⟩ := H
         replace H : (some ((⟨#[]⟩ : ByteArray), t139, t140, t141, t142)) = some (r1, r2, r3, r4, r5) := H
         have A32 := Y0.mk A320
         clear A320
         simp only [Option.some.injEq, Prod.mk.injEq] at H
         obtain ⟨rfl, rfl, rfl, rfl, rfl⟩ := H
         try go_wp2
         have n_ := Y38 (YC.drew HI0.out) (Y1G HK.out) (YP HB.out)
         clear HI0
         clear HK
         clear HB
         obtain ⟨HI0, HK, HB⟩ := n_
         refine Y1m (n := 22) (S := fun w' => w'.cell? ⟨g, 0, none⟩ = some (.string t102) ∧ w'.cell? ⟨g, 1, none⟩ = some (.int .i64 t103) ∧ w'.cell? ⟨g, 2, none⟩ = some (.int .i64 t104) ∧ w'.cell? ⟨g, 3, none⟩ = some (.int .i64 t105)) (ds := []) Y4x Z4 rfl rfl ⟨Y1r HI0.out.1, Y1s HI0.out.1, Y1t HI0.out.1, Y1u HI0.out.1⟩ (fun hHeld => ?_); refine Y11 Y3.tab7 Y3.bits7 (fun HT_ HW_ => ?_)
         generalize wc.drew = w33 at HI0 HK HB hHeld ⊢
         refine pY 0 37 Y4y ?_
         refine pY 1 38 Y4z ?_
         refine pY 2 39 Y4A ?_
         refine pY 3 40 bz22_f ?_
         refine pT 4 41 Y66 ?_
         refine pY 5 42 Y67 ?_
         refine pY 6 43 Y3I ?_
         refine pY 7 44 Y3J ?_
         refine pY 8 45 Y3b ?_
         refine pY 9 46 Y3c ?_
         refine pY 10 47 Y3d ?_
         refine pY 12 49 Y5K ?_
         refine pY 13 50 Y5L ?_
         refine pY 14 51 Y5M ?_
         refine pY 17 54 Y54 ?_
         refine pT 11 48 Y55 ?_
         refine pT 15 52 Y56 ?_
         refine pY 16 53 Y2A ?_
         refine pY 18 55 Y2B ?_
         refine Y2Q (i := 19) (N := some 56) Y2C rfl rfl (Y1b HT_.out Z4) (by decide) (fun K hK => ?_)
         refine Y1Q Tryd.func45 Z4 rfl #[.string (t102.extract ((ji19) : Int).toNat (x3_3 : Int).toNat)] (by rfl) rfl rfl Z1s ?_
         with_reducible refine (YU.calls (t102.extract ((ji19) : Int).toNat (x3_3 : Int).toNat) false _ ?side1 A23.out).mono ?_
         (case side1 => exact Z3)
         rintro e w34 ⟨rfl, hb⟩
         refine ⟨_, rfl, ?_⟩
         have n_ := Y38 (YC.below QI81_0 hb) (Y1.trans QK (Y1.of_below hb g none) (.inl rfl)) (Y8 QB hb)
         clear HI0
         clear HK
         clear HB
         obtain ⟨HI0, HK, HB⟩ := n_
         (try clear hb)
         (try clear hb2)
         (try clear hk)
         (try clear hi)
         refine hK.out _ _ ⟨Y1r HI0.out.1, Y1s HI0.out.1, Y1t HI0.out.1, Y1u HI0.out.1⟩ (fun hHeld => ?_)
         clear hK K
         refine Y1A (a' := ?_) ?_ ?_
         rotate_left
         ·show Act.put _ (some 56) _ = _
          simp only [Act.put, List.setIfInBounds_toArray, List.set_cons_zero, List.set_cons_succ, Y16, Y17]
          rfl
         refine pY 20 57 Y2o ?_
         refine pY 21 58 Y2p ?_
         refine Y1S (Y1a HT_.out Z4) ?_
         obtain ⟨hcz35_0, hcz35_1, hcz35_2, hcz35_3, hfz35_0, hfz35_1, hfz35_2, hfz35_3⟩ := YA HI0.out.1
         try go_wp2_with (first | ((with_reducible refine Yl (f := 57) rfl ?_); refine YO (some 64) rfl rfl Tryd.func57 Z4 rfl #[.pointer (some ⟨g, 0, none⟩), .int .i64 t103, .int .i64 2] rfl Z0 ?_; (with_reducible refine (Yu.calls g t102 t103 t104 t105 t103 2 t131 t132 t133 t136 t139 t140 t141 t142 w0 _ ?side1 ?side2 A32.out).mono ?_); (case side1 => exact Z1u); (case side2 => exact QB); rintro e w36 ⟨v134, v137, rfl, ho0, ho1, hi, hb, hk⟩; refine ⟨_, rfl, ?_⟩; have n_ := Y4L (Kd.R_lower (Kd.R_mono (ok' := fun k_ => True) ho0 (fun _ hk_ => trivial)) (Y7 (w := w) (g := g) (row := none) QK)) (Kd.N_lower (Kd.N_mono (ok' := fun k_ => some k_ ≠ (v134 : Value).ownBlock ∧ k_ ≠ g) ho1 (fun k_ hk_ => ⟨hk_.2, (YC.fresh QI81_0 k_ hk_.1)⟩)) (Y7 (w := w) (g := g) (row := none) QK)) (Y1.trans QK hk (.inl rfl)) (hb) (hi); clear HK HB HI0; obtain ⟨HO135, HO138, HK, HB, HI0⟩ := n_; (try clear hb); (try clear hb2); (try clear hk); (try clear hi); (try clear ho0); (try clear ho1)))
         go_ret
         exact Z1r
       ·rw [if_neg c22] at H
        exact Zn
      ·rw [if_neg c21] at H
       exact Zn
     ·rw [if_neg c20] at H
      exact Zn
 ·rw [if_neg c3] at H
  have c3b0 : (t101 == 60) = false := beq_eq_false_iff_ne.mpr c3
  have c3b1 : (t101 != 60) = true := bne_iff_ne.mpr c3
  replace H := Option.bind_eq_some_iff.mp H
  obtain ⟨⟨t106, t107, t108, t111, t114, t115, t116, t117⟩, A370, H⟩ := H
  replace H : (some ((⟨#[]⟩ : ByteArray), t114, t115, t116, t117)) = some (r1, r2, r3, r4, r5) := H
  have A37 := Y0.mk A370
  clear A370
  simp only [Option.some.injEq, Prod.mk.injEq] at H
  obtain ⟨rfl, rfl, rfl, rfl, rfl⟩ := H
  go_enter Tryd.func136, Tryd.ntmps136
  go_wp2_with (first | ((with_reducible refine Yl (f := 56) rfl ?_); refine YO (some 6) rfl rfl Tryd.func56 Z4 rfl #[.pointer (some ⟨g, 0, none⟩)] rfl Z0 ?_; (with_reducible refine (Ye.calls k g s0_0 s0_1 s0_2 s0_3 t101 t102 t103 t104 t105 w0 _ ?side1 ?side2 A2.out).mono ?_); (case side1 => exact Z1u); (case side2 => exact QB); rintro e w38 ⟨rfl, hi, hb, hk⟩; refine ⟨_, rfl, ?_⟩; have n_ := Y38 (Y1.trans QK hk (.inl rfl)) (hb) (hi); clear HK HB HI0; obtain ⟨HK, HB, HI0⟩ := n_; (try clear hb); (try clear hb2); (try clear hk); (try clear hi); obtain ⟨HGz39, hgz39⟩ := HI0.out; have hcz39_0 := Y1r HGz39; have hcz39_1 := Y1s HGz39; have hcz39_2 := Y1t HGz39; have hcz39_3 := Y1u HGz39; have hfz39_0 := Y6 HGz39 0; have hfz39_1 := Y6 HGz39 1; have hfz39_2 := Y6 HGz39 2; have hfz39_3 := Y6 HGz39 3; clear HGz39 hgz39) | ((with_reducible refine Yl (f := 57) rfl ?_); refine YO (some 13) rfl rfl Tryd.func57 Z4 rfl #[.pointer (some ⟨g, 0, none⟩), .int .i64 t103, .int .i64 2] rfl Z0 ?_; (with_reducible refine (Yu.calls g t102 t103 t104 t105 t103 2 t106 t107 t108 t111 t114 t115 t116 t117 w0 _ ?side1 ?side2 A37.out).mono ?_); (case side1 => exact Z1u); (case side2 => exact QB); rintro e w40 ⟨v109, v112, rfl, ho0, ho1, hi, hb, hk⟩; refine ⟨_, rfl, ?_⟩; have n_ := Y4L (Kd.R_lower (Kd.R_mono (ok' := fun k_ => True) ho0 (fun _ hk_ => trivial)) (Y7 (w := w) (g := g) (row := none) QK)) (Kd.N_lower (Kd.N_mono (ok' := fun k_ => some k_ ≠ (v109 : Value).ownBlock ∧ k_ ≠ g) ho1 (fun k_ hk_ => ⟨hk_.2, (YC.fresh QI81_0 k_ hk_.1)⟩)) (Y7 (w := w) (g := g) (row := none) QK)) (Y1.trans QK hk (.inl rfl)) (hb) (hi); clear HK HB HI0; obtain ⟨HO110, HO113, HK, HB, HI0⟩ := n_; (try clear hb); (try clear hb2); (try clear hk); (try clear hi); (try clear ho0); (try clear ho1)))
  go_ret
  exact Z2v
def Yn.f (k : Nat) (s0_0 : ByteArray) (s0_1 : Int) (s0_2 : Int) (s0_3 : Int) (a1 : Int) : Option (Bool × ByteArray × Int × Int × Int) := (Ye.f k s0_0 s0_1 s0_2 s0_3).bind fun bt101 => (if bt101.1 = a1 then (some (true, bt101.2.1, wrap64 (bt101.2.2.1 + 1), bt101.2.2.2.1, bt101.2.2.2.2)) else (some (false, bt101.2.1, bt101.2.2.1, bt101.2.2.2.1, bt101.2.2.2.2)))
theorem Yn.mono : ∀ a0 a1 a2 a3 a4 k, LeO (Yn.f k a0 a1 a2 a3 a4) (Yn.f (k + 1) a0 a1 a2 a3 a4) := by
 intro a0 a1 a2 a3 a4 k
 unfold Yn.f
 exact QM
set_option maxHeartbeats 8000000 in
set_option maxRecDepth 100000 in
theorem Yn.calls (k : Nat) (g : Nat) (s0_0 : ByteArray) (s0_1 : Int) (s0_2 : Int) (s0_3 : Int) (a1 : Int) (r1 : Bool) (r2 : ByteArray) (r3 : Int) (r4 : Int) (r5 : Int) (w0 w : World) (hI : YC w0 w g s0_0 s0_1 s0_2 s0_3) (hB : Below w0.heap.size w0 w) (h : Yn.f k s0_0 s0_1 s0_2 s0_3 a1 = some (r1, r2, r3, r4, r5)) :
  Calls Tryd.prog 97 #[.pointer (some ⟨g, 0, none⟩), .int .u8 a1] w fun e w' => e = .returned (.bool r1) ∧ YC w0 w' g r2 r3 r4 r5 ∧ Below w0.heap.size w0 w' ∧ Y1 w w' g none := by
 have HI0 := Y0.mk hI
 have HK := Y0.mk (Y1.refl w g none)
 have HL := Y0.mk hB.size
 clear hI
 have HW0 := Y0.mk hB.size
 have HB := Y0.mk hB
 clear hB
 have H : ((Ye.f k s0_0 s0_1 s0_2 s0_3).bind fun bt101 => (if bt101.1 = a1 then (some (true, bt101.2.1, wrap64 (bt101.2.2.1 + 1), bt101.2.2.2.1, bt101.2.2.2.2)) else (some (false, bt101.2.1, bt101.2.2.1, bt101.2.2.2.1, bt101.2.2.2.2)))) = some (r1, r2, r3, r4, r5) := h
 clear h
 replace H := Option.bind_eq_some_iff.mp H
 obtain ⟨⟨t101, t102, t103, t104, t105⟩, A30, H⟩ := H
 replace H : (if t101 = a1 then (some (true, t102, wrap64 (t103 + 1), t104, t105)) else (some (false, t102, t103, t104, t105))) = some (r1, r2, r3, r4, r5) := H
 have A3 := Y0.mk A30
 clear A30
 by_cases c4 : t101 = a1
 ·rw [if_pos c4] at H
  have c4b0 : (t101 == a1) = true := beq_iff_eq.mpr c4
  have c4b1 : (t101 != a1) = false := bne_eq_false_iff_eq.mpr c4
  clear c4
  simp only [Option.some.injEq, Prod.mk.injEq] at H
  obtain ⟨rfl, rfl, rfl, rfl, rfl⟩ := H
  go_enter Tryd.func97, Tryd.ntmps97
  go_wp2_with (first | ((with_reducible refine Yl (f := 56) rfl ?_); refine YO (some 6) rfl rfl Tryd.func56 Z4 rfl #[.pointer (some ⟨g, 0, none⟩)] rfl Z0 ?_; (with_reducible refine (Ye.calls k g s0_0 s0_1 s0_2 s0_3 t101 t102 t103 t104 t105 w0 _ ?side1 ?side2 A3.out).mono ?_); (case side1 => exact Z1u); (case side2 => exact QB); rintro e w5 ⟨rfl, hi, hb, hk⟩; refine ⟨_, rfl, ?_⟩; have n_ := Y38 (Y1.trans QK hk (.inl rfl)) (hb) (hi); clear HK HB HI0; obtain ⟨HK, HB, HI0⟩ := n_; (try clear hb); (try clear hb2); (try clear hk); (try clear hi); obtain ⟨HGz6, hgz6⟩ := HI0.out; have hcz6_0 := Y1r HGz6; have hcz6_1 := Y1s HGz6; have hcz6_2 := Y1t HGz6; have hcz6_3 := Y1u HGz6; have hfz6_0 := Y6 HGz6 0; have hfz6_1 := Y6 HGz6 1; have hfz6_2 := Y6 HGz6 2; have hfz6_3 := Y6 HGz6 3; clear HGz6 hgz6))
  go_ret
  exact Z2v
 ·rw [if_neg c4] at H
  have c4b0 : (t101 == a1) = false := beq_eq_false_iff_ne.mpr c4
  have c4b1 : (t101 != a1) = true := bne_iff_ne.mpr c4
  simp only [Option.some.injEq, Prod.mk.injEq] at H
  obtain ⟨rfl, rfl, rfl, rfl, rfl⟩ := H
  go_enter Tryd.func97, Tryd.ntmps97
  go_wp2_with (first | ((with_reducible refine Yl (f := 56) rfl ?_); refine YO (some 6) rfl rfl Tryd.func56 Z4 rfl #[.pointer (some ⟨g, 0, none⟩)] rfl Z0 ?_; (with_reducible refine (Ye.calls k g s0_0 s0_1 s0_2 s0_3 t101 t102 t103 t104 t105 w0 _ ?side1 ?side2 A3.out).mono ?_); (case side1 => exact Z1u); (case side2 => exact QB); rintro e w7 ⟨rfl, hi, hb, hk⟩; refine ⟨_, rfl, ?_⟩; have n_ := Y38 (Y1.trans QK hk (.inl rfl)) (hb) (hi); clear HK HB HI0; obtain ⟨HK, HB, HI0⟩ := n_; (try clear hb); (try clear hb2); (try clear hk); (try clear hi)))
  go_ret
  exact Z2v
mutual
def Y4.j0 : Nat → Bool → ByteArray → Int → Int → Int → Int → Option (Int × ByteArray × List ByteArray × (List (S37)) × ByteArray × Int × Int × Int)
 | 0, _, _, _, _, _, _ => none
 | k + 1, x26, x1000, x1001, x1002, x1003, x103000 => if x26 = true then ((Y3.f k x1000 (wrap64 (x1001 + 1)) x1002 x1003).bind fun bt103 => (Y4.l0 k bt103.2.1 bt103.2.2.1 bt103.2.2.2.1 bt103.2.2.2.2 x103000 (([bt103.1] : List ByteArray)))) else ((Y3.f k x1000 x1001 x1002 x1003).bind fun bt141 => (some (x103000, (⟨#[]⟩ : ByteArray), (([bt141.1] : List ByteArray)), ([] : List (S37)), bt141.2.1, bt141.2.2.1, bt141.2.2.2.1, bt141.2.2.2.2)))
def Y4.l0 : Nat → ByteArray → Int → Int → Int → Int → List ByteArray → Option (Int × ByteArray × List ByteArray × (List (S37)) × ByteArray × Int × Int × Int)
 | 0, _, _, _, _, _, _ => none
 | k + 1, x1000, x1001, x1002, x1003, x103000, x103002 => (Yn.f k x1000 x1001 x1002 x1003 124).bind fun bt111 => (if bt111.1 = true then ((Y3.f k bt111.2.1 bt111.2.2.1 bt111.2.2.2.1 bt111.2.2.2.2).bind fun bt116 => (if x103002.length < 8796093022208 then (Y4.l0 k bt116.2.1 bt116.2.2.1 bt116.2.2.2.1 bt116.2.2.2.2 x103000 (x103002 ++ [bt116.1])) else (none))) else ((Yn.f k bt111.2.1 bt111.2.2.1 bt111.2.2.2.1 bt111.2.2.2.2 41).bind fun bt124 => (if bt124.1 = true then (some (x103000, (⟨#[]⟩ : ByteArray), x103002, ([] : List (S37)), bt124.2.1, bt124.2.2.1, bt124.2.2.2.1, bt124.2.2.2.2)) else ((Yu.f bt124.2.1 bt124.2.2.1 bt124.2.2.2.1 bt124.2.2.2.2 bt124.2.2.1 2).bind fun bt129 => (some (bt129.1, bt129.2.1, bt129.2.2.1, bt129.2.2.2.1, bt129.2.2.2.2.1, bt129.2.2.2.2.2.1, bt129.2.2.2.2.2.2.1, bt129.2.2.2.2.2.2.2))))))
end
def Y4.f (k : Nat) (s0_0 : ByteArray) (s0_1 : Int) (s0_2 : Int) (s0_3 : Int) : Option (Int × ByteArray × List ByteArray × (List (S37)) × ByteArray × Int × Int × Int) := if s0_1 < (s0_0.size : Int) then (if 0 ≤ s0_1 then (Y4.j0 k ((bt s0_0 s0_1) == 40) s0_0 s0_1 s0_2 s0_3 8) else (none)) else (Y4.j0 k false s0_0 s0_1 s0_2 s0_3 8)
theorem Y4.mono_l : ∀ k, (∀ y0 y1 y2 y3 y4 y5, LeO (Y4.j0 k y0 y1 y2 y3 y4 y5) (Y4.j0 (k + 1) y0 y1 y2 y3 y4 y5)) ∧ (∀ y0 y1 y2 y3 y4 y5, LeO (Y4.l0 k y0 y1 y2 y3 y4 y5) (Y4.l0 (k + 1) y0 y1 y2 y3 y4 y5))
 | 0 => ⟨fun _ _ _ _ _ _ r h => by simp [Y4.j0] at h, fun _ _ _ _ _ _ r h => by simp [Y4.l0] at h⟩
 | k + 1 => by
  obtain ⟨ih0, ih1⟩ := Y4.mono_l k
  refine ⟨?_, ?_⟩
  ·intro y0 y1 y2 y3 y4 y5
   unfold Y4.j0
   exact QM
  ·intro y0 y1 y2 y3 y4 y5
   unfold Y4.l0
   exact QM
theorem Y4.mono : ∀ a0 a1 a2 a3 k, LeO (Y4.f k a0 a1 a2 a3) (Y4.f (k + 1) a0 a1 a2 a3) := by
 intro a0 a1 a2 a3 k
 obtain ⟨ih0, ih1⟩ := Y4.mono_l k
 unfold Y4.f
 exact QM
def Y4.T2 : Bool × List (List Nat × List Nat) := (true, [([], []), ([0], [0]), ([1], [1]), ([2], [2]), ([], []), ([4], [4]), ([5], [5]), ([6], [6]), ([7], [7]), ([3, 8], [3, 8]), ([9], [9]), ([10], [10]), ([11, 10], [10, 11]), ([12, 10], [10, 12]), ([13, 10], [10, 13]), ([10], [10]), ([15, 10], [10, 15]), ([16, 10], [10, 16]), ([17, 10], [10, 17]), ([14, 18, 10], [10, 14, 18]), ([19, 10], [10, 19]), ([10, 20], [10, 20])])
def Y4.B2 : List Nat := [0, 1, 3, 7, 0, 16, 48, 112, 240, 511, 1023, 2047, 4095, 8191, 16383, 2047, 34815, 100351, 231423, 524287, 1048575, 2097151]
theorem Y4.tab2 : Y3x .any (Y3P Tryd.f135 2) = Y4.T2 := by kernel_rfl
theorem Y4.bits2 : Y1Y Y4.T2.2 Y4.B2 = true := by kernel_rfl
def Y4.T6 : Bool × List (List Nat × List Nat) := (true, [([], []), ([0], [0]), ([], []), ([2], [2]), ([3], [3]), ([1, 4, 3], [1, 4]), ([0, 1, 2, 3, 4, 5], []), ([6, 5, 5, 0, 1, 2, 3, 4, 5], [5, 6])])
def Y4.B6 : List Nat := [0, 1, 0, 4, 12, 31, 63, 127]
theorem Y4.tab6 : Y3x .any (Y3P Tryd.f135 6) = Y4.T6 := by kernel_rfl
theorem Y4.bits6 : Y1Y Y4.T6.2 Y4.B6 = true := by kernel_rfl
set_option maxHeartbeats 8000000 in
set_option maxRecDepth 100000 in
theorem Y4.calls (k : Nat) (g : Nat) (s0_0 : ByteArray) (s0_1 : Int) (s0_2 : Int) (s0_3 : Int) (r1 : Int) (r2 : ByteArray) (r3 : List ByteArray) (r4 : List (S37)) (r5 : ByteArray) (r6 : Int) (r7 : Int) (r8 : Int) (w0 w : World) (hI : YC w0 w g s0_0 s0_1 s0_2 s0_3) (hB : Below w0.heap.size w0 w) (hT : Tabs w0) (h : Y4.f k s0_0 s0_1 s0_2 s0_3 = some (r1, r2, r3, r4, r5, r6, r7, r8)) :
  Calls Tryd.prog 135 #[.pointer (some ⟨g, 0, none⟩)] w fun e w' => ∃ v2_ v3_ : Value, e = .returned (.agg #[.int .i64 r1, .string r2, v2_, v3_]) ∧ Kd.R Kd.string 9 w' w.heap.size (fun k_ => (w.heap.size ≤ k_)) v2_ r3 ∧ Kd.N k37 37 w' w.heap.size (fun k_ => (w.heap.size ≤ k_) ∧ some k_ ≠ (v2_ : Value).ownBlock) v3_ r4 ∧ YC w0 w' g r5 r6 r7 r8 ∧ Below w0.heap.size w0 w' ∧ Y1 w w' g none := by
 have HT := Y0.mk hT
 clear hT
 have hu37 := Tryd.underlying37
 have HI0 := Y0.mk hI
 have HK := Y0.mk (Y1.refl w g none)
 have HL := Y0.mk hB.size
 clear hI
 have HW0 := Y0.mk hB.size
 have HB := Y0.mk hB
 clear hB
 have H : (if s0_1 < (s0_0.size : Int) then (if 0 ≤ s0_1 then (Y4.j0 k ((bt s0_0 s0_1) == 40) s0_0 s0_1 s0_2 s0_3 8) else (none)) else (Y4.j0 k false s0_0 s0_1 s0_2 s0_3 8)) = some (r1, r2, r3, r4, r5, r6, r7, r8) := h
 clear h
 have HC2 := Y0.mk H
 clear H
 go_enter Tryd.func135, Tryd.ntmps135
 go_upto_region 2 with (first | ((with_reducible refine YF (N := 2) rfl ?_); refine YD ?hg (N := 2) ?hd (cs := #[.int .i64 0, .string (⟨#[]⟩ : ByteArray), .slice none 0 0, .slice none 0 0]) (t := 37) ?hr ?_; (case hd => rfl); (case hg => rfl); (case hr => exact Zb); intro gb101 hg w3 hbox hb; have n_ := Y4q (YC.below QI81_0 hb) (Y1.trans QK (Y1.of_below hb g none) (.inl rfl)) (Y8 QB hb) (hbox) ((by rw [hg]; exact (Y7 (w := w) (g := g) (row := none) QK) : w.heap.size ≤ gb101)) ((Nat.le_trans HW0.out (by rw [hg]; exact (Y7 (w := w) (g := g) (row := none) QK) : w.heap.size ≤ gb101) : w0.heap.size ≤ gb101)) ((by rw [hg]; exact Nat.ne_of_lt (YC.lt (show YC w0 _ g s0_0 s0_1 s0_2 s0_3 from QI81_0)) : g ≠ gb101)) ((by rw [hg]; exact Nat.ne_of_gt (YC.lt (show YC w0 _ g s0_0 s0_1 s0_2 s0_3 from QI81_0)) : gb101 ≠ g)); clear HI0 HK HB; obtain ⟨HI0, HK, HB, BK101, GW101, GE101, NB0_101, NB101_0⟩ := n_; clear hb hbox hg) | ((with_reducible refine YF (N := 3) rfl ?_); refine YD ?hg (N := 3) ?hd (cs := #[.int .i64 0, .string (⟨#[]⟩ : ByteArray), .slice none 0 0, .slice none 0 0]) (t := 37) ?hr ?_; (case hd => rfl); (case hg => rfl); (case hr => exact Zb); intro gb102 hg w4 hbox hb; have n0_ := Y0.mk (YC.below QI81_0 hb); have n1_ := Y0.mk (Yt (g := gb101) (o := .cells #[.int .i64 0, .string (⟨#[]⟩ : ByteArray), .slice none 0 0, .slice none 0 0] 37 (0, 0)) QQ hb); have n2_ := Y0.mk (Y1.trans QK (Y1.of_below hb g none) (.inl rfl)); have n3_ := Y0.mk (Y8 QB hb); have n4_ := Y0.mk (hbox); have n5_ := Y0.mk ((by rw [hg]; exact (Y7 (w := w) (g := g) (row := none) QK) : w.heap.size ≤ gb102)); have n6_ := Y0.mk ((Nat.le_trans HW0.out (by rw [hg]; exact (Y7 (w := w) (g := g) (row := none) QK) : w.heap.size ≤ gb102) : w0.heap.size ≤ gb102)); have n7_ := Y0.mk ((by rw [hg]; exact Nat.ne_of_lt (Y14 (g := gb101) (o := .cells #[.int .i64 0, .string (⟨#[]⟩ : ByteArray), .slice none 0 0, .slice none 0 0] 37 (0, 0)) QQ) : gb101 ≠ gb102)); have n8_ := Y0.mk ((by rw [hg]; exact Nat.ne_of_gt (Y14 (g := gb101) (o := .cells #[.int .i64 0, .string (⟨#[]⟩ : ByteArray), .slice none 0 0, .slice none 0 0] 37 (0, 0)) QQ) : gb102 ≠ gb101)); have n9_ := Y0.mk ((by rw [hg]; exact Nat.ne_of_lt (YC.lt (show YC w0 _ g s0_0 s0_1 s0_2 s0_3 from QI81_0)) : g ≠ gb102)); have n10_ := Y0.mk ((by rw [hg]; exact Nat.ne_of_gt (YC.lt (show YC w0 _ g s0_0 s0_1 s0_2 s0_3 from QI81_0)) : gb102 ≠ g)); clear HI0 BK101 HK HB; have HI0 := n0_; have BK101 := n1_; have HK := n2_; have HB := n3_; have BK102 := n4_; have GW102 := n5_; have GE102 := n6_; have NB101_102 := n7_; have NB102_101 := n8_; have NB0_102 := n9_; have NB102_0 := n10_; clear n0_ n1_ n2_ n3_ n4_ n5_ n6_ n7_ n8_ n9_ n10_ hb hbox hg; have hnb5 := NB102_101.out; have hnc5 := NB101_102.out; have hnb6 := NB102_0.out; have hnc6 := NB0_102.out; obtain ⟨hcz7_0, hcz7_1, hcz7_2, hcz7_3, hfz7_0, hfz7_1, hfz7_2, hfz7_3⟩ := YA BK102.out))
 (try simp only [Act.put, List.setIfInBounds_toArray, List.set_cons_zero, List.set_cons_succ])
 go_cut [26] (fun v26 wc => ∃ (kq : Nat) (x26_1 : Bool), v26 = .bool x26_1 ∧ Y0 (Y4.j0 kq x26_1 s0_0 s0_1 s0_2 s0_3 8 = some (r1, r2, r3, r4, r5, r6, r7, r8)) ∧ Y0 (kq ≤ k) ∧ Y0 (wc.heap[gb101]? = some (.cells #[.int .i64 0, .string (⟨#[]⟩ : ByteArray), (.slice none 0 0), (.slice none 0 0)] 37 (0, 0))) ∧ Y0 (wc.heap[gb102]? = some (.cells #[.int .i64 8, .string (⟨#[]⟩ : ByteArray), (.slice none 0 0), (.slice none 0 0)] 37 (0, 0))) ∧ Y0 (YC w0 wc g s0_0 s0_1 s0_2 s0_3) ∧ Y0 (Y1 w wc g none) ∧ Y0 (Below w0.heap.size w0 wc))
 case first =>
  have H := HC2.out
  clear HC2
  by_cases c8 : s0_1 < (s0_0.size : Int)
  ·rw [if_pos c8] at H
   have c8b0 : decide (s0_1 < (s0_0.size : Int)) = true := decide_eq_true c8
   clear c8
   (first | rw [c8b0] | (simp only [Y16, Y17]; rw [c8b0]) | skip)
   by_cases c9 : 0 ≤ s0_1
   ·rw [if_pos c9] at H
    have c9b0 : decide (0 ≤ s0_1) = true := decide_eq_true c9
    clear c9
    have H' := Y0.mk H
    clear H
    try go_wp2
    have n0_ : Y0 (((((w4.setCell ⟨gb102, 0, none⟩ (.int .i64 8)).setCell ⟨gb102, 1, none⟩ (.string (⟨#[]⟩ : ByteArray))).setCell ⟨gb102, 2, none⟩ (.slice none 0 0)).setCell ⟨gb102, 3, none⟩ (.slice none 0 0)).heap[gb101]? = some (.cells #[.int .i64 0, .string (⟨#[]⟩ : ByteArray), .slice none 0 0, .slice none 0 0] 37 (0, 0))) := ⟨Zg⟩
    have n1_ : Y0 (((((w4.setCell ⟨gb102, 0, none⟩ (.int .i64 8)).setCell ⟨gb102, 1, none⟩ (.string (⟨#[]⟩ : ByteArray))).setCell ⟨gb102, 2, none⟩ (.slice none 0 0)).setCell ⟨gb102, 3, none⟩ (.slice none 0 0)).heap[gb102]? = some (.cells #[.int .i64 8, .string (⟨#[]⟩ : ByteArray), .slice none 0 0, .slice none 0 0] 37 (0, 0))) := ⟨Z2B⟩
    have n2_ : Y0 (YC w0 ((((w4.setCell ⟨gb102, 0, none⟩ (.int .i64 8)).setCell ⟨gb102, 1, none⟩ (.string (⟨#[]⟩ : ByteArray))).setCell ⟨gb102, 2, none⟩ (.slice none 0 0)).setCell ⟨gb102, 3, none⟩ (.slice none 0 0)) g s0_0 s0_1 s0_2 s0_3) := ⟨QI81_0⟩
    have n3_ : Y0 (Y1 w ((((w4.setCell ⟨gb102, 0, none⟩ (.int .i64 8)).setCell ⟨gb102, 1, none⟩ (.string (⟨#[]⟩ : ByteArray))).setCell ⟨gb102, 2, none⟩ (.slice none 0 0)).setCell ⟨gb102, 3, none⟩ (.slice none 0 0)) g none) := ⟨QK⟩
    have n4_ : Y0 (Below w0.heap.size w0 ((((w4.setCell ⟨gb102, 0, none⟩ (.int .i64 8)).setCell ⟨gb102, 1, none⟩ (.string (⟨#[]⟩ : ByteArray))).setCell ⟨gb102, 2, none⟩ (.slice none 0 0)).setCell ⟨gb102, 3, none⟩ (.slice none 0 0))) := ⟨QB⟩
    (try clear BK101)
    (try clear BK102)
    (try clear HI0)
    (try clear HK)
    (try clear HB)
    generalize ((((w4.setCell ⟨gb102, 0, none⟩ (.int .i64 8)).setCell ⟨gb102, 1, none⟩ (.string (⟨#[]⟩ : ByteArray))).setCell ⟨gb102, 2, none⟩ (.slice none 0 0)).setCell ⟨gb102, 3, none⟩ (.slice none 0 0)) = w11 at n0_ n1_ n2_ n3_ n4_ ⊢
    have BK101 := n0_
    have BK102 := n1_
    have HI0 := n2_
    have HK := n3_
    have HB := n4_
    clear n0_ n1_ n2_ n3_ n4_
    have n_ := Y4L (Yb BK101.out) (Yb BK102.out) (YC.drew HI0.out) (Y1G HK.out) (YP HB.out)
    clear BK101
    clear BK102
    clear HI0
    clear HK
    clear HB
    obtain ⟨BK101, BK102, HI0, HK, HB⟩ := n_
    have p10 : 0 ≤ (s0_1 : Int) := of_decide_eq_true Za
    have q10 : s0_1 < (s0_0.size : Int) := of_decide_eq_true Za
    have hx10 := Y47 s0_0 s0_1
    replace p10 := eq_true p10
    replace q10 := eq_true q10
    refine Y1m (n := 22) (S := fun w' => w'.cell? ⟨g, 0, none⟩ = some (.string s0_0) ∧ w'.cell? ⟨g, 1, none⟩ = some (.int .i64 s0_1) ∧ w'.cell? ⟨g, 2, none⟩ = some (.int .i64 s0_2) ∧ w'.cell? ⟨g, 3, none⟩ = some (.int .i64 s0_3)) (ds := []) Y4x Z4 rfl rfl ⟨Y1r HI0.out.1, Y1s HI0.out.1, Y1t HI0.out.1, Y1u HI0.out.1⟩ (fun hHeld => ?_); refine Y11 Y4.tab2 Y4.bits2 (fun HT_ HW_ => ?_)
    generalize w11.drew = w12 at BK101 BK102 HI0 HK HB hHeld ⊢
    refine pY 0 5 Y4y ?_
    refine pY 1 6 Y4z ?_
    refine pY 2 7 Y4A ?_
    refine pY 4 9 Y5o ?_
    refine pY 5 10 Y5p ?_
    refine pY 6 11 Y5q ?_
    refine pT 3 8 Y3I ?_
    refine pT 7 12 Y3J ?_
    refine pY 8 13 Y3b ?_
    refine pY 9 14 Y3c ?_
    refine pY 10 15 Y3d ?_
    refine pY 11 16 Y3V ?_
    refine pY 12 17 Y3q ?_
    refine pY 13 18 Y3r ?_
    refine pY 15 20 Y5N ?_
    refine pY 16 21 Y53 ?_
    refine pY 17 22 Y57 ?_
    refine pT 14 19 Y2A ?_
    refine pT 18 23 Y2B ?_
    refine pT 19 24 Y2C ?_
    refine pY 20 25 Y2o ?_
    refine pY 21 26 Y2p ?_
    refine Y1S (Y1a HT_.out Z4) ?_
    try go_wp2
    go_meet
    case rel => exact ⟨_, (((bt s0_0 s0_1) == 40)), Z8, H', ⟨Zr⟩, ⟨Z6⟩, ⟨Z1e⟩, ⟨QI81_0⟩, ⟨QK⟩, ⟨QB⟩⟩
   ·rw [if_neg c9] at H
    exact Zn
  ·rw [if_neg c8] at H
   have c8b0 : decide (s0_1 < (s0_0.size : Int)) = false := decide_eq_false c8
   clear c8
   (first | rw [c8b0] | (simp only [Y16, Y17]; rw [c8b0]) | skip)
   have H' := Y0.mk H
   clear H
   try go_wp2
   have n0_ : Y0 (((((w4.setCell ⟨gb102, 0, none⟩ (.int .i64 8)).setCell ⟨gb102, 1, none⟩ (.string (⟨#[]⟩ : ByteArray))).setCell ⟨gb102, 2, none⟩ (.slice none 0 0)).setCell ⟨gb102, 3, none⟩ (.slice none 0 0)).heap[gb101]? = some (.cells #[.int .i64 0, .string (⟨#[]⟩ : ByteArray), .slice none 0 0, .slice none 0 0] 37 (0, 0))) := ⟨Zg⟩
   have n1_ : Y0 (((((w4.setCell ⟨gb102, 0, none⟩ (.int .i64 8)).setCell ⟨gb102, 1, none⟩ (.string (⟨#[]⟩ : ByteArray))).setCell ⟨gb102, 2, none⟩ (.slice none 0 0)).setCell ⟨gb102, 3, none⟩ (.slice none 0 0)).heap[gb102]? = some (.cells #[.int .i64 8, .string (⟨#[]⟩ : ByteArray), .slice none 0 0, .slice none 0 0] 37 (0, 0))) := ⟨Z2B⟩
   have n2_ : Y0 (YC w0 ((((w4.setCell ⟨gb102, 0, none⟩ (.int .i64 8)).setCell ⟨gb102, 1, none⟩ (.string (⟨#[]⟩ : ByteArray))).setCell ⟨gb102, 2, none⟩ (.slice none 0 0)).setCell ⟨gb102, 3, none⟩ (.slice none 0 0)) g s0_0 s0_1 s0_2 s0_3) := ⟨QI81_0⟩
   have n3_ : Y0 (Y1 w ((((w4.setCell ⟨gb102, 0, none⟩ (.int .i64 8)).setCell ⟨gb102, 1, none⟩ (.string (⟨#[]⟩ : ByteArray))).setCell ⟨gb102, 2, none⟩ (.slice none 0 0)).setCell ⟨gb102, 3, none⟩ (.slice none 0 0)) g none) := ⟨QK⟩
   have n4_ : Y0 (Below w0.heap.size w0 ((((w4.setCell ⟨gb102, 0, none⟩ (.int .i64 8)).setCell ⟨gb102, 1, none⟩ (.string (⟨#[]⟩ : ByteArray))).setCell ⟨gb102, 2, none⟩ (.slice none 0 0)).setCell ⟨gb102, 3, none⟩ (.slice none 0 0))) := ⟨QB⟩
   (try clear BK101)
   (try clear BK102)
   (try clear HI0)
   (try clear HK)
   (try clear HB)
   generalize ((((w4.setCell ⟨gb102, 0, none⟩ (.int .i64 8)).setCell ⟨gb102, 1, none⟩ (.string (⟨#[]⟩ : ByteArray))).setCell ⟨gb102, 2, none⟩ (.slice none 0 0)).setCell ⟨gb102, 3, none⟩ (.slice none 0 0)) = w13 at n0_ n1_ n2_ n3_ n4_ ⊢
   have BK101 := n0_
   have BK102 := n1_
   have HI0 := n2_
   have HK := n3_
   have HB := n4_
   clear n0_ n1_ n2_ n3_ n4_
   have n_ := Y4L (Yb BK101.out) (Yb BK102.out) (YC.drew HI0.out) (Y1G HK.out) (YP HB.out)
   clear BK101
   clear BK102
   clear HI0
   clear HK
   clear HB
   obtain ⟨BK101, BK102, HI0, HK, HB⟩ := n_
   refine Y1m (n := 22) (S := fun w' => w'.cell? ⟨g, 0, none⟩ = some (.string s0_0) ∧ w'.cell? ⟨g, 1, none⟩ = some (.int .i64 s0_1) ∧ w'.cell? ⟨g, 2, none⟩ = some (.int .i64 s0_2) ∧ w'.cell? ⟨g, 3, none⟩ = some (.int .i64 s0_3)) (ds := []) Y4x Z4 rfl rfl ⟨Y1r HI0.out.1, Y1s HI0.out.1, Y1t HI0.out.1, Y1u HI0.out.1⟩ (fun hHeld => ?_); refine Y11 Y4.tab2 Y4.bits2 (fun HT_ HW_ => ?_)
   generalize w13.drew = w14 at BK101 BK102 HI0 HK HB hHeld ⊢
   refine pY 0 5 Y4y ?_
   refine pY 1 6 Y4z ?_
   refine pY 2 7 Y4A ?_
   refine pY 4 9 Y5o ?_
   refine pY 5 10 Y5p ?_
   refine pY 6 11 Y5q ?_
   refine pT 3 8 Y3I ?_
   refine pT 7 12 Y3J ?_
   refine pY 8 13 Y3b ?_
   refine pY 9 14 Y3c ?_
   refine pY 10 15 Y3d ?_
   refine pU 11 16 Y3V ?_
   refine pU 12 17 Y3q ?_
   refine pU 13 18 Y3r ?_
   refine pU 14 19 Y4B ?_
   refine pU 15 20 Y4C ?_
   refine pU 16 21 Y48 ?_
   refine pU 17 22 Y2A ?_
   refine pU 18 23 Y2B ?_
   refine pU 19 24 Y2C ?_
   refine pU 20 25 Y2o ?_
   refine pY 21 26 Y2p ?_
   refine Y1S (Y1a HT_.out Z4) ?_
   try go_wp2
   go_meet
   case rel => exact ⟨_, (false), Z8, H', ⟨Zr⟩, ⟨Z6⟩, ⟨Z1e⟩, ⟨QI81_0⟩, ⟨QK⟩, ⟨QB⟩⟩
 case rest =>
  clear HC2
  try clear c1
  try clear p1
  try clear q1
  try clear hx1
  try clear p2
  try clear c5
  try clear c6
  try clear c8
  try clear c8b0
  try clear c9
  try clear c9b0
  try clear p10
  try clear q10
  try clear hx10
  try clear c13
  try clear hcz7_0 hcz7_1 hcz7_2 hcz7_3 hfz7_0 hfz7_1 hfz7_2 hfz7_3
  try clear p10
  try clear q10
  obtain ⟨kq, x26_1, rfl, HA, HJ1, BK101, BK102, HI0, HK, HB⟩ := hcut
  cases kq with
  | zero => exact absurd HA.out (by simp [Y4.j0])
  | succ kj1 =>
   have H := HA.out
   clear HA
   simp only [Y4.j0] at H
   by_cases c15 : x26_1 = true
   ·subst c15
    have H1 : ((Y3.f kj1 s0_0 (wrap64 (s0_1 + 1)) s0_2 s0_3).bind fun bt103 => (Y4.l0 kj1 bt103.2.1 bt103.2.2.1 bt103.2.2.2.1 bt103.2.2.2.2 8 (([bt103.1] : List ByteArray)))) = some (r1, r2, r3, r4, r5, r6, r7, r8) := by rw [if_pos rfl] at H; exact H
    clear H
    have H := H1
    clear H1
    replace H := Option.bind_eq_some_iff.mp H
    obtain ⟨⟨t103, t104, t105, t106, t107⟩, A160, H⟩ := H
    replace H : (Y4.l0 kj1 t104 t105 t106 t107 8 (([t103] : List ByteArray))) = some (r1, r2, r3, r4, r5, r6, r7, r8) := H
    have A16 := Y0.mk A160
    clear A160
    obtain ⟨y108, hy108⟩ : ∃ y_ : List ByteArray, y_ = (([t103] : List ByteArray)) := ⟨_, rfl⟩
    replace H : (Y4.l0 kj1 t104 t105 t106 t107 8 y108) = some (r1, r2, r3, r4, r5, r6, r7, r8) := by first | (rw [hy108]; with_reducible exact H) | (have H2_ := (Option.bind_some _ _).symm.trans H; rw [hy108]; with_reducible exact H2_) | (have H2_ := (Option.bind_some _ _).symm.trans H; with_reducible exact H2_) | with_reducible exact H | (rw [hy108]; exact H) | exact H
    have Ny108 := Y0.mk hy108
    clear hy108
    have H' := Y0.mk H
    clear H
    obtain ⟨hcz17_0, hcz17_1, hcz17_2, hcz17_3, hfz17_0, hfz17_1, hfz17_2, hfz17_3⟩ := YA HI0.out.1
    go_wp2_with (first | ((with_reducible refine Yl (f := 136) rfl ?_); refine YO (some 35) rfl rfl Tryd.func136 Z4 rfl #[.pointer (some ⟨g, 0, none⟩)] rfl Z0 ?_; (with_reducible refine (Y3.calls kj1 g s0_0 (wrap64 (s0_1 + 1)) s0_2 s0_3 t103 t104 t105 t106 t107 w0 _ ?side1 ?side2 ?side3 A16.out).mono ?_); (case side1 => exact Z1u); (case side2 => exact QB); (case side3 => exact Z22); rintro e w18 ⟨rfl, hi, hb, hk⟩; refine ⟨_, rfl, ?_⟩; have n_ := Y4L (Y1.blk hk (g' := gb101) (o := .cells #[.int .i64 0, .string (⟨#[]⟩ : ByteArray), .slice none 0 0, .slice none 0 0] 37 (0, 0)) Z2q NB101_0.out (by simp)) (Y1.blk hk (g' := gb102) (o := .cells #[.int .i64 8, .string (⟨#[]⟩ : ByteArray), .slice none 0 0, .slice none 0 0] 37 (0, 0)) Z1N NB102_0.out (by simp)) (Y1.trans QK hk (.inl rfl)) (hb) (hi); clear BK101 BK102 HK HB HI0; obtain ⟨BK101, BK102, HK, HB, HI0⟩ := n_; (try clear hb); (try clear hb2); (try clear hk); (try clear hi)) | ((with_reducible refine YF (N := 36) rfl ?_); refine Kd.R_lit Kd.string _ 9 ?hg (N := 36) ?hd (xs := ([t103] : List ByteArray)) (inner := [.string t103]) (ok := fun _ => True) (okp := fun _ => True) ?hr ?hp (fun _ hk => hk) trivial (Below.refl _ _) (Nat.le_refl _) (by simp) ?_; (case hd => rfl); (case hg => rfl); (case hr => exact Zb); (case hp => exact Z28); intro v109 w19 ho20 hb hg_ hnew_; clear hg_ hnew_; (first | rw [← Ny108.out] at ho20 | (simp only [Int.reduceToNat] at ho20; rw [← Ny108.out] at ho20)); have n_ := Y3t (Kd.R_lower (Kd.R_newM (M := fun k_ => (w.heap.size ≤ k_)) ho20 (Y7 (w := w) (g := g) (row := none) QK) (fun k_ h_ => h_)) (Y7 (w := w) (g := g) (row := none) QK)) (Yt (g := gb101) (o := .cells #[.int .i64 0, .string (⟨#[]⟩ : ByteArray), .slice none 0 0, .slice none 0 0] 37 (0, 0)) QQ hb) (Yt (g := gb102) (o := .cells #[.int .i64 8, .string (⟨#[]⟩ : ByteArray), .slice none 0 0, .slice none 0 0] 37 (0, 0)) QQ hb) (YC.below QI81_0 hb) (Y1.trans QK (Y1.of_below hb g none) (.inl rfl)) (Y8 QB hb); clear BK101 BK102 HI0 HK HB; obtain ⟨HO110, BK101, BK102, HI0, HK, HB⟩ := n_; clear hb ho20; obtain ⟨Ao21, co21, eo21⟩ := Kd.R_slice HO110.out; subst eo21; have hnb22 := NB102_101.out; have hnc22 := NB101_102.out; have hnb23 := NB102_0.out; have hnc23 := NB0_102.out; obtain ⟨hcz24_0, hcz24_1, hcz24_2, hcz24_3, hfz24_0, hfz24_1, hfz24_2, hfz24_3⟩ := YA BK102.out))
    go_loopg [] kj1 (fun kq w' => ∃ (x1000_2 : ByteArray) (x1001_2 : Int) (x1002_2 : Int) (x1003_2 : Int) (x103002_2 : List ByteArray) (u103002 : Value), Y0 (Y4.l0 kq x1000_2 x1001_2 x1002_2 x1003_2 8 x103002_2 = some (r1, r2, r3, r4, r5, r6, r7, r8)) ∧ Y0 (kq ≤ kj1) ∧ Y0 (Kd.R Kd.string 9 w' w.heap.size (fun k_ => (w.heap.size ≤ k_)) u103002 x103002_2) ∧ Y0 (w'.heap[gb101]? = some (.cells #[.int .i64 0, .string (⟨#[]⟩ : ByteArray), (.slice none 0 0), (.slice none 0 0)] 37 (0, 0))) ∧ Y0 (w'.heap[gb102]? = some (.cells #[.int .i64 8, .string (⟨#[]⟩ : ByteArray), u103002, (.slice none 0 0)] 37 (0, 0))) ∧ Y0 (YC w0 w' g x1000_2 x1001_2 x1002_2 x1003_2) ∧ Y0 (Y1 w w' g none) ∧ Y0 (Below w0.heap.size w0 w'))
    case atStart => exact ⟨(t104), (t105), (t106), (t107), (y108), (.slice Ao21 y108.length co21), H', ⟨Nat.le_refl _⟩, ⟨by (with_reducible repeat (first | apply Kd.R_alloc | apply Kd.R_drewN | apply Kd.R_drew)); exact Kd.R_mono (Kd.R_far (p := ⟨gb102, 2, none⟩) (Kd.R_types HO110.out BK102.out (by decide)) (fun _ hk => hk.2) (.slice Ao21 y108.length co21)) (fun _ hk => hk.1.1)⟩, ⟨Z2g⟩, ⟨Z1p⟩, ⟨QI81_0⟩, ⟨QK⟩, ⟨QB⟩⟩
    case round =>
     clear H'
     try clear c1
     try clear p1
     try clear q1
     try clear hx1
     try clear c2
     try clear p2
     try clear c5
     try clear c6
     try clear p6
     try clear c8
     try clear c8b0
     try clear c9
     try clear c9b0
     try clear p10
     try clear q10
     try clear hx10
     try clear c13
     try clear c15
     try clear c22
     try clear c23
     try clear hcz17_0 hcz17_1 hcz17_2 hcz17_3
     try clear hcz24_0 hcz24_1 hcz24_2 hcz24_3
     try clear hcz7_0 hcz7_1 hcz7_2 hcz7_3
     try clear hfz17_0
     try clear hfz17_1
     try clear hfz17_2
     try clear hfz17_3
     try clear hfz24_0
     try clear hfz24_1
     try clear hfz24_2
     try clear hfz24_3
     try clear hfz7_0
     try clear hfz7_1
     try clear hfz7_2
     try clear hfz7_3
     try clear p1
     try clear p10
     try clear p2
     try clear q1
     try clear q10
     obtain ⟨x1000_2, x1001_2, x1002_2, x1003_2, x103002_2, u103002, HA, HK2, HO_103002, BK101, BK102, HI0, HK, HB⟩ := hrel
     cases gk with
     | zero => exact absurd HA.out (by simp [Y4.l0])
     | succ k2 =>
      have H := HA.out
      clear HA
      simp only [Y4.l0] at H
      replace H := Option.bind_eq_some_iff.mp H
      obtain ⟨⟨t111, t112, t113, t114, t115⟩, A250, H⟩ := H
      replace H : (if t111 = true then ((Y3.f k2 t112 t113 t114 t115).bind fun bt116 => (if x103002_2.length < 8796093022208 then (Y4.l0 k2 bt116.2.1 bt116.2.2.1 bt116.2.2.2.1 bt116.2.2.2.2 8 (x103002_2 ++ [bt116.1])) else (none))) else ((Yn.f k2 t112 t113 t114 t115 41).bind fun bt124 => (if bt124.1 = true then (some (8, (⟨#[]⟩ : ByteArray), x103002_2, ([] : List (S37)), bt124.2.1, bt124.2.2.1, bt124.2.2.2.1, bt124.2.2.2.2)) else ((Yu.f bt124.2.1 bt124.2.2.1 bt124.2.2.2.1 bt124.2.2.2.2 bt124.2.2.1 2).bind fun bt129 => (some (bt129.1, bt129.2.1, bt129.2.2.1, bt129.2.2.2.1, bt129.2.2.2.2.1, bt129.2.2.2.2.2.1, bt129.2.2.2.2.2.2.1, bt129.2.2.2.2.2.2.2)))))) = some (r1, r2, r3, r4, r5, r6, r7, r8) := H
      have A25 := Y0.mk A250
      clear A250
      by_cases c26 : t111 = true
      ·subst c26
       have H1 : ((Y3.f k2 t112 t113 t114 t115).bind fun bt116 => (if x103002_2.length < 8796093022208 then (Y4.l0 k2 bt116.2.1 bt116.2.2.1 bt116.2.2.2.1 bt116.2.2.2.2 8 (x103002_2 ++ [bt116.1])) else (none))) = some (r1, r2, r3, r4, r5, r6, r7, r8) := by rw [if_pos rfl] at H; exact H
       clear H
       have H := H1
       clear H1
       replace H := Option.bind_eq_some_iff.mp H
       obtain ⟨⟨t116, t117, t118, t119, t120⟩, A270, H⟩ := H
       replace H : (if x103002_2.length < 8796093022208 then (Y4.l0 k2 t117 t118 t119 t120 8 (x103002_2 ++ [t116])) else (none)) = some (r1, r2, r3, r4, r5, r6, r7, r8) := H
       have A27 := Y0.mk A270
       clear A270
       by_cases c28 : x103002_2.length < 8796093022208
       ·rw [if_pos c28] at H
        have LMc28 := Y0.mk c28
        clear c28
        obtain ⟨y121, hy121⟩ : ∃ y_ : List ByteArray, y_ = (x103002_2 ++ [t116]) := ⟨_, rfl⟩
        replace H : (Y4.l0 k2 t117 t118 t119 t120 8 y121) = some (r1, r2, r3, r4, r5, r6, r7, r8) := by first | (rw [hy121]; with_reducible exact H) | (have H2_ := (Option.bind_some _ _).symm.trans H; rw [hy121]; with_reducible exact H2_) | (have H2_ := (Option.bind_some _ _).symm.trans H; with_reducible exact H2_) | with_reducible exact H | (rw [hy121]; exact H) | exact H
        have Ny121 := Y0.mk hy121
        clear hy121
        have H' := Y0.mk H
        clear H
        try go_wp2_with (first | ((with_reducible refine Yl (f := 97) rfl ?_); refine YO (some 39) rfl rfl Tryd.func97 Z4 rfl #[.pointer (some ⟨g, 0, none⟩), .int .u8 124] rfl Z0 ?_; (with_reducible refine (Yn.calls k2 g x1000_2 x1001_2 x1002_2 x1003_2 124 true t112 t113 t114 t115 w0 _ ?side1 ?side2 A25.out).mono ?_); (case side1 => exact Z1u); (case side2 => exact QB); rintro e w29 ⟨rfl, hi, hb, hk⟩; refine ⟨_, rfl, ?_⟩; have n_ := Y3t (Kd.R_mono (Kd.R_keep (YC.apart (show YC w0 _ g x1000_2 x1001_2 x1002_2 x1003_2 from QI81_0) Zj (by decide)) hk (fun _ h => h.2)) (fun _ h => h.1)) (Y1.blk hk (g' := gb101) (o := .cells #[.int .i64 0, .string (⟨#[]⟩ : ByteArray), .slice none 0 0, .slice none 0 0] 37 (0, 0)) QQ NB101_0.out (by simp)) (Y1.blk hk (g' := gb102) (o := .cells #[.int .i64 8, .string (⟨#[]⟩ : ByteArray), u103002, .slice none 0 0] 37 (0, 0)) QQ NB102_0.out (by simp)) (Y1.trans QK hk (.inl rfl)) (hb) (hi); clear HO_103002 BK101 BK102 HK HB HI0; obtain ⟨HO_103002, BK101, BK102, HK, HB, HI0⟩ := n_; (try clear hb); (try clear hb2); (try clear hk); (try clear hi)))
        have n_ := Y3t (Kd.R_drew HO_103002.out) (Yb BK101.out) (Yb BK102.out) (YC.drew HI0.out) (Y1G HK.out) (YP HB.out)
        clear HO_103002
        clear BK101
        clear BK102
        clear HI0
        clear HK
        clear HB
        obtain ⟨HO_103002, BK101, BK102, HI0, HK, HB⟩ := n_
        refine Y1m (n := 8) (S := fun w' => w'.cell? ⟨gb102, 0, none⟩ = some (.int .i64 8) ∧ w'.cell? ⟨gb102, 1, none⟩ = some (.string (⟨#[]⟩ : ByteArray)) ∧ w'.cell? ⟨gb102, 2, none⟩ = some (u103002) ∧ w'.cell? ⟨gb102, 3, none⟩ = some (.slice none 0 0)) (ds := [7]) bz8_0 Z4 rfl rfl ⟨(Y2 BK102.out 0).trans rfl, (Y2 BK102.out 1).trans rfl, (Y2 BK102.out 2).trans rfl, (Y2 BK102.out 3).trans rfl⟩ (fun hHeld => ?_); refine Y11 Y4.tab6 Y4.bits6 (fun HT_ HW_ => ?_)
        generalize w29.drew = w30 at HO_103002 BK101 BK102 HI0 HK HB hHeld ⊢
        refine pY 0 40 bz8_1 ?_
        refine pY 2 42 bz8_5 ?_
        refine pT 1 41 bz8_7 ?_
        refine Y2Q (i := 3) (N := some 43) bz8_f rfl rfl (Y1b HT_.out Z4) (by decide) (fun K hK => ?_)
        refine Y1Q Tryd.func136 Z4 rfl #[.pointer (some ⟨g, 0, none⟩)] (by rfl) rfl rfl Z0 ?_
        with_reducible refine (Y3.calls k2 g t112 t113 t114 t115 t116 t117 t118 t119 t120 w0 _ ?side1 ?side2 ?side3 A27.out).mono ?_
        (case side1 => exact Z1u)
        (case side2 => exact QB)
        (case side3 => exact Z22)
        rintro e w31 ⟨rfl, hi, hb, hk⟩
        refine ⟨_, rfl, ?_⟩
        have n_ := Y3t (Kd.R_mono (Kd.R_keep (YC.apart (show YC w0 _ g t112 t113 t114 t115 from QI81_0) Zj (by decide)) hk (fun _ h => h.2)) (fun _ h => h.1)) (Y1.blk hk (g' := gb101) (o := .cells #[.int .i64 0, .string (⟨#[]⟩ : ByteArray), .slice none 0 0, .slice none 0 0] 37 (0, 0)) QQ NB101_0.out (by simp)) (Y1.blk hk (g' := gb102) (o := .cells #[.int .i64 8, .string (⟨#[]⟩ : ByteArray), u103002, .slice none 0 0] 37 (0, 0)) QQ NB102_0.out (by simp)) (Y1.trans QK hk (.inl rfl)) (hb) (hi)
        clear HO_103002
        clear BK101
        clear BK102
        clear HK
        clear HB
        clear HI0
        obtain ⟨HO_103002, BK101, BK102, HK, HB, HI0⟩ := n_
        (try clear hb)
        (try clear hb2)
        (try clear hk)
        (try clear hi)
        refine hK.out _ _ ⟨(Y2 BK102.out 0).trans rfl, (Y2 BK102.out 1).trans rfl, (Y2 BK102.out 2).trans rfl, (Y2 BK102.out 3).trans rfl⟩ (fun hHeld => ?_)
        clear hK K
        refine Y1A (a' := ?_) ?_ ?_
        rotate_left
        ·show Act.put _ (some 43) _ = _
         simp only [Act.put, List.setIfInBounds_toArray, List.set_cons_zero, List.set_cons_succ, Y16, Y17]
         rfl
        refine Y2Q (i := 4) (N := some 44) bz8_1f rfl rfl (Y1b HT_.out Z4) (by decide) (fun K hK => ?_)
        refine value_ (w1 := ?_) (v := ?_) (by rfl) rfl ?_ ?_
        rotate_left 2
        ·go_simp
         constructor
         ·rfl
         ·rfl
        refine hK.out _ _ ⟨(Y2 (Yd BK102.out _) 0).trans rfl, (Y2 (Yd BK102.out _) 1).trans rfl, (Y2 (Yd BK102.out _) 2).trans rfl, (Y2 (Yd BK102.out _) 3).trans rfl⟩ (fun hHeld => ?_)
        clear hK K
        refine Y1A (a' := ?_) ?_ ?_
        rotate_left
        ·show Act.put _ (some 44) _ = _
         simp only [Act.put, List.setIfInBounds_toArray, List.set_cons_zero, List.set_cons_succ, Y16, Y17]
         rfl
        refine Y2Q (i := 5) (N := some 45) bz8_3f rfl rfl (Y1b HT_.out Z4) (by decide) (fun K hK => ?_)
        refine Kd.R_append_step Kd.string w.heap.size (by rfl) (.tmp 41) (.tmp 44) 34 9 (.string ⟨#[]⟩) 16 rfl Tryd.underlying34 info9 rfl (by decide) (by omega) u103002 x103002_2 t116 [.string t116] (fun k_ => (w.heap.size ≤ k_)) (fun _ => False) rfl rfl ?aP (fun _ hk => hk.elim) ?aF ?aO (Below.refl _ _) ?aS ?aL ?_
        (case aP => exact rfl)
        (case aF => exact (fun k_ hk => (Nat.le_trans (Y7 (w := w) (g := g) (row := none) QK) hk)))
        (case aO => exact Zj)
        (case aS => exact (Y7 (w := w) (g := g) (row := none) QK))
        (case aL => have := LMc28.out; omega)
        intro v122 w32 ho hb hg hat
        rw [← Ny121.out] at ho
        have n_ := Y3t (Y37 (g := gb101) (o := .cells #[.int .i64 0, .string (⟨#[]⟩ : ByteArray), .slice none 0 0, .slice none 0 0] 37 (0, 0)) QQ hg (Kd.R_ne HO_103002.out BK101.out (by decide))) (Y37 (g := gb102) (o := .cells #[.int .i64 8, .string (⟨#[]⟩ : ByteArray), u103002, .slice none 0 0] 37 (0, 0)) QQ hg (Kd.R_ne HO_103002.out BK102.out (by decide))) (YC.grown QI81_0 hg (YC.Y5a HI0.out HO_103002.out (by decide))) (Y4e QB HL.out hb) (Y1.trans QK (Y1.of_grown hg g) (Kd.R_base2 HO_103002.out)) (ho)
        clear BK101
        clear BK102
        clear HI0
        clear HB
        clear HK
        clear HO_103002
        obtain ⟨BK101, BK102, HI0, HB, HK, HO123⟩ := n_
        clear ho hb hg hat
        obtain ⟨Ao33, co33, eo33⟩ := Kd.R_slice HO123.out
        (first | subst eo33 | (injection eo33 with f1_ f2_ f3_; have f4_ := f1_.symm; have f5_ := f3_.symm; clear f1_ f2_ f3_; subst f4_; subst f5_))
        refine hK.out _ _ ⟨(Y2 BK102.out 0).trans rfl, (Y2 BK102.out 1).trans rfl, (Y2 BK102.out 2).trans rfl, (Y2 BK102.out 3).trans rfl⟩ (fun hHeld => ?_)
        clear hK K
        refine Y1A (a' := ?_) ?_ ?_
        rotate_left
        ·show Act.put _ (some 45) _ = _
         simp only [Act.put, List.setIfInBounds_toArray, List.set_cons_zero, List.set_cons_succ, Y16, Y17]
         rfl
        refine pY 6 46 bz8_7f ?_
        refine Y6H (i := 7) (N := none) bz8_ff rfl rfl (Y1b HT_.out Z4) (by decide) (fun K hK => ?_)
        have hs34 : w32.cell? ⟨gb102, 2, none⟩ = some (u103002) := (Y2 BK102.out 2).trans rfl
        have hfs34 := Y6 BK102.out 2
        have hns34_0 := NB101_102.out
        have hms34_0 := NB102_101.out
        refine Y4W (w1 := ?_) (by rfl) rfl ?_ ?_
        rotate_left
        ·go_simp
         rfl
        refine hK.out _ _ ?_
        clear hK K
        refine Y1S (Y1a HT_.out Z4) ?_
        try go_wp2
        go_roundg k2
        case measure => have := HJ1.out; have := HK2.out; omega
        case rel => exact ⟨(t117), (t118), (t119), (t120), (y121), (.slice Ao33 y121.length co33), H', ⟨by have := HJ1.out; have := HK2.out; omega⟩, ⟨by (with_reducible repeat (first | apply Kd.R_alloc | apply Kd.R_drewN | apply Kd.R_drew)); exact Kd.R_mono (Kd.R_far (p := ⟨gb102, 2, none⟩) (Kd.R_types HO123.out BK102.out (by decide)) (fun _ hk => hk.2) (.slice Ao33 y121.length co33)) (fun _ hk => hk.1)⟩, ⟨Z2g⟩, ⟨Z1q⟩, ⟨QI81_0⟩, ⟨QK⟩, ⟨QB⟩⟩
       ·rw [if_neg c28] at H
        exact Zn
      ·replace c26 := Bool.eq_false_iff.mpr c26
       subst c26
       have H1 : ((Yn.f k2 t112 t113 t114 t115 41).bind fun bt124 => (if bt124.1 = true then (some (8, (⟨#[]⟩ : ByteArray), x103002_2, ([] : List (S37)), bt124.2.1, bt124.2.2.1, bt124.2.2.2.1, bt124.2.2.2.2)) else ((Yu.f bt124.2.1 bt124.2.2.1 bt124.2.2.2.1 bt124.2.2.2.2 bt124.2.2.1 2).bind fun bt129 => (some (bt129.1, bt129.2.1, bt129.2.2.1, bt129.2.2.2.1, bt129.2.2.2.2.1, bt129.2.2.2.2.2.1, bt129.2.2.2.2.2.2.1, bt129.2.2.2.2.2.2.2))))) = some (r1, r2, r3, r4, r5, r6, r7, r8) := by rw [if_neg (show ¬ (false = true) by decide)] at H; exact H
       clear H
       have H := H1
       clear H1
       replace H := Option.bind_eq_some_iff.mp H
       obtain ⟨⟨t124, t125, t126, t127, t128⟩, A350, H⟩ := H
       replace H : (if t124 = true then (some (8, (⟨#[]⟩ : ByteArray), x103002_2, ([] : List (S37)), t125, t126, t127, t128)) else ((Yu.f t125 t126 t127 t128 t126 2).bind fun bt129 => (some (bt129.1, bt129.2.1, bt129.2.2.1, bt129.2.2.2.1, bt129.2.2.2.2.1, bt129.2.2.2.2.2.1, bt129.2.2.2.2.2.2.1, bt129.2.2.2.2.2.2.2)))) = some (r1, r2, r3, r4, r5, r6, r7, r8) := H
       have A35 := Y0.mk A350
       clear A350
       by_cases c36 : t124 = true
       ·subst c36
        have H1 : (some (8, (⟨#[]⟩ : ByteArray), x103002_2, ([] : List (S37)), t125, t126, t127, t128)) = some (r1, r2, r3, r4, r5, r6, r7, r8) := by rw [if_pos rfl] at H; exact H
        clear H
        have H := H1
        clear H1
        simp only [Option.some.injEq, Prod.mk.injEq] at H
        obtain ⟨rfl, rfl, rfl, rfl, rfl, rfl, rfl, rfl⟩ := H
        go_wp2_with (first | ((with_reducible refine Yl (f := 97) rfl ?_); refine YO (some 39) rfl rfl Tryd.func97 Z4 rfl #[.pointer (some ⟨g, 0, none⟩), .int .u8 124] rfl Z0 ?_; (with_reducible refine (Yn.calls k2 g x1000_2 x1001_2 x1002_2 x1003_2 124 false t112 t113 t114 t115 w0 _ ?side1 ?side2 A25.out).mono ?_); (case side1 => exact Z1u); (case side2 => exact QB); rintro e w37 ⟨rfl, hi, hb, hk⟩; refine ⟨_, rfl, ?_⟩; have n_ := Y3t (Kd.R_mono (Kd.R_keep (YC.apart (show YC w0 _ g x1000_2 x1001_2 x1002_2 x1003_2 from QI81_0) Zj (by decide)) hk (fun _ h => h.2)) (fun _ h => h.1)) (Y1.blk hk (g' := gb101) (o := .cells #[.int .i64 0, .string (⟨#[]⟩ : ByteArray), .slice none 0 0, .slice none 0 0] 37 (0, 0)) QQ NB101_0.out (by simp)) (Y1.blk hk (g' := gb102) (o := .cells #[.int .i64 8, .string (⟨#[]⟩ : ByteArray), u103002, .slice none 0 0] 37 (0, 0)) QQ NB102_0.out (by simp)) (Y1.trans QK hk (.inl rfl)) (hb) (hi); clear HO_103002 BK101 BK102 HK HB HI0; obtain ⟨HO_103002, BK101, BK102, HK, HB, HI0⟩ := n_; (try clear hb); (try clear hb2); (try clear hk); (try clear hi)) | ((with_reducible refine Yl (f := 97) rfl ?_); refine YO (some 48) rfl rfl Tryd.func97 Z4 rfl #[.pointer (some ⟨g, 0, none⟩), .int .u8 41] rfl Z0 ?_; (with_reducible refine (Yn.calls k2 g t112 t113 t114 t115 41 true t125 t126 t127 t128 w0 _ ?side1 ?side2 A35.out).mono ?_); (case side1 => exact Z1u); (case side2 => exact QB); rintro e w38 ⟨rfl, hi, hb, hk⟩; refine ⟨_, rfl, ?_⟩; have n_ := Y3t (Kd.R_mono (Kd.R_keep (YC.apart (show YC w0 _ g t112 t113 t114 t115 from QI81_0) Zj (by decide)) hk (fun _ h => h.2)) (fun _ h => h.1)) (Y1.blk hk (g' := gb101) (o := .cells #[.int .i64 0, .string (⟨#[]⟩ : ByteArray), .slice none 0 0, .slice none 0 0] 37 (0, 0)) QQ NB101_0.out (by simp)) (Y1.blk hk (g' := gb102) (o := .cells #[.int .i64 8, .string (⟨#[]⟩ : ByteArray), u103002, .slice none 0 0] 37 (0, 0)) QQ NB102_0.out (by simp)) (Y1.trans QK hk (.inl rfl)) (hb) (hi); clear HO_103002 BK101 BK102 HK HB HI0; obtain ⟨HO_103002, BK101, BK102, HK, HB, HI0⟩ := n_; (try clear hb); (try clear hb2); (try clear hk); (try clear hi); have hnb39 := NB102_101.out; have hnc39 := NB101_102.out; have hnb40 := NB102_0.out; have hnc40 := NB0_102.out; obtain ⟨hcz41_0, hcz41_1, hcz41_2, hcz41_3, hfz41_0, hfz41_1, hfz41_2, hfz41_3⟩ := YA BK102.out; have hnb42 := NB101_0.out; have hnc42 := NB0_101.out; obtain ⟨hcz43_0, hcz43_1, hcz43_2, hcz43_3, hfz43_0, hfz43_1, hfz43_2, hfz43_3⟩ := YA BK101.out; obtain ⟨Ao44, co44, eo44⟩ := Kd.R_slice HO_103002.out; subst eo44))
        refine bodyPost_ret (results_cell_row rfl _ _ gb101 37 #[.int .i64 8, .string (⟨#[]⟩ : ByteArray), .slice Ao44 x103002_2.length co44, .slice none 0 0] (0, 0) _ rfl (by (with_reducible repeat (first | refine Yh ?_ _ | refine Yb ?_ | refine Yd ?_ _)); exact YE (cs := #[.int .i64 8, .string (⟨#[]⟩ : ByteArray), .slice Ao44 x103002_2.length co44, .slice none 0 0]) Z2d 3 _ rfl) Tryd.underlying37 rfl Z4) rfl ?_
        exact ⟨_, _, Z2, by (with_reducible repeat (first | apply Kd.R_alloc | apply Kd.R_drewN | apply Kd.R_drew)); exact Kd.R_mono (Kd.R_far (p := ⟨gb101, 3, none⟩) (Kd.R_far (p := ⟨gb101, 2, none⟩) (Kd.R_far (p := ⟨gb101, 1, none⟩) (Kd.R_far (p := ⟨gb101, 0, none⟩) (Kd.R_types HO_103002.out BK101.out (by decide)) (fun _ hk => hk.2) (.int .i64 8)) (fun _ hk => hk.2) (.string (⟨#[]⟩ : ByteArray))) (fun _ hk => hk.2) (.slice Ao44 x103002_2.length co44)) (fun _ hk => hk.2) (.slice none 0 0)) (fun _ hk => hk.1), Z5, QI81_0, QB, QK⟩
       ·replace c36 := Bool.eq_false_iff.mpr c36
        subst c36
        have H1 : ((Yu.f t125 t126 t127 t128 t126 2).bind fun bt129 => (some (bt129.1, bt129.2.1, bt129.2.2.1, bt129.2.2.2.1, bt129.2.2.2.2.1, bt129.2.2.2.2.2.1, bt129.2.2.2.2.2.2.1, bt129.2.2.2.2.2.2.2))) = some (r1, r2, r3, r4, r5, r6, r7, r8) := by rw [if_neg (show ¬ (false = true) by decide)] at H; exact H
        clear H
        have H := H1
        clear H1
        replace H := Option.bind_eq_some_iff.mp H
        obtain ⟨⟨t129, t130, t131, t134, t137, t138, t139, t140⟩, A450, H⟩ := H
        replace H : (some (t129, t130, t131, t134, t137, t138, t139, t140)) = some (r1, r2, r3, r4, r5, r6, r7, r8) := H
        have A45 := Y0.mk A450
        clear A450
        simp only [Option.some.injEq, Prod.mk.injEq] at H
        obtain ⟨rfl, rfl, rfl, rfl, rfl, rfl, rfl, rfl⟩ := H
        go_wp2_with (first | ((with_reducible refine Yl (f := 97) rfl ?_); refine YO (some 39) rfl rfl Tryd.func97 Z4 rfl #[.pointer (some ⟨g, 0, none⟩), .int .u8 124] rfl Z0 ?_; (with_reducible refine (Yn.calls k2 g x1000_2 x1001_2 x1002_2 x1003_2 124 false t112 t113 t114 t115 w0 _ ?side1 ?side2 A25.out).mono ?_); (case side1 => exact Z1u); (case side2 => exact QB); rintro e w46 ⟨rfl, hi, hb, hk⟩; refine ⟨_, rfl, ?_⟩; have n_ := Y3t (Kd.R_mono (Kd.R_keep (YC.apart (show YC w0 _ g x1000_2 x1001_2 x1002_2 x1003_2 from QI81_0) Zj (by decide)) hk (fun _ h => h.2)) (fun _ h => h.1)) (Y1.blk hk (g' := gb101) (o := .cells #[.int .i64 0, .string (⟨#[]⟩ : ByteArray), .slice none 0 0, .slice none 0 0] 37 (0, 0)) QQ NB101_0.out (by simp)) (Y1.blk hk (g' := gb102) (o := .cells #[.int .i64 8, .string (⟨#[]⟩ : ByteArray), u103002, .slice none 0 0] 37 (0, 0)) QQ NB102_0.out (by simp)) (Y1.trans QK hk (.inl rfl)) (hb) (hi); clear HO_103002 BK101 BK102 HK HB HI0; obtain ⟨HO_103002, BK101, BK102, HK, HB, HI0⟩ := n_; (try clear hb); (try clear hb2); (try clear hk); (try clear hi)) | ((with_reducible refine Yl (f := 97) rfl ?_); refine YO (some 48) rfl rfl Tryd.func97 Z4 rfl #[.pointer (some ⟨g, 0, none⟩), .int .u8 41] rfl Z0 ?_; (with_reducible refine (Yn.calls k2 g t112 t113 t114 t115 41 false t125 t126 t127 t128 w0 _ ?side1 ?side2 A35.out).mono ?_); (case side1 => exact Z1u); (case side2 => exact QB); rintro e w47 ⟨rfl, hi, hb, hk⟩; refine ⟨_, rfl, ?_⟩; have n_ := Y3t (Kd.R_mono (Kd.R_keep (YC.apart (show YC w0 _ g t112 t113 t114 t115 from QI81_0) Zj (by decide)) hk (fun _ h => h.2)) (fun _ h => h.1)) (Y1.blk hk (g' := gb101) (o := .cells #[.int .i64 0, .string (⟨#[]⟩ : ByteArray), .slice none 0 0, .slice none 0 0] 37 (0, 0)) QQ NB101_0.out (by simp)) (Y1.blk hk (g' := gb102) (o := .cells #[.int .i64 8, .string (⟨#[]⟩ : ByteArray), u103002, .slice none 0 0] 37 (0, 0)) QQ NB102_0.out (by simp)) (Y1.trans QK hk (.inl rfl)) (hb) (hi); clear HO_103002 BK101 BK102 HK HB HI0; obtain ⟨HO_103002, BK101, BK102, HK, HB, HI0⟩ := n_; (try clear hb); (try clear hb2); (try clear hk); (try clear hi); obtain ⟨HGz48, hgz48⟩ := HI0.out; have hcz48_0 := Y1r HGz48; have hcz48_1 := Y1s HGz48; have hcz48_2 := Y1t HGz48; have hcz48_3 := Y1u HGz48; have hfz48_0 := Y6 HGz48 0; have hfz48_1 := Y6 HGz48 1; have hfz48_2 := Y6 HGz48 2; have hfz48_3 := Y6 HGz48 3; clear HGz48 hgz48) | ((with_reducible refine Yl (f := 57) rfl ?_); refine YO (some 55) rfl rfl Tryd.func57 Z4 rfl #[.pointer (some ⟨g, 0, none⟩), .int .i64 t126, .int .i64 2] rfl Z0 ?_; (with_reducible refine (Yu.calls g t125 t126 t127 t128 t126 2 t129 t130 t131 t134 t137 t138 t139 t140 w0 _ ?side1 ?side2 A45.out).mono ?_); (case side1 => exact Z1u); (case side2 => exact QB); rintro e w49 ⟨v132, v135, rfl, ho0, ho1, hi, hb, hk⟩; refine ⟨_, rfl, ?_⟩; have n0_ := Y0.mk (Kd.R_mono (Kd.R_told (Kd.R_oldK (YC.apart (show YC w0 _ g t125 t126 t127 t128 from QI81_0) Zj (by decide)) hk) (Kd.R_base ho0)) (fun _ h_ => h_.1)); have n1_ := Y0.mk (Y1.blk hk (g' := gb101) (o := .cells #[.int .i64 0, .string (⟨#[]⟩ : ByteArray), .slice none 0 0, .slice none 0 0] 37 (0, 0)) QQ NB101_0.out (by simp)); have n2_ := Y0.mk (Y1.blk hk (g' := gb102) (o := .cells #[.int .i64 8, .string (⟨#[]⟩ : ByteArray), u103002, .slice none 0 0] 37 (0, 0)) QQ NB102_0.out (by simp)); have n3_ := Y0.mk (Kd.R_lower (Kd.R_new' (Kd.R_newM (M := fun k_ => (w.heap.size ≤ k_)) (Kd.R_mono (ok' := fun k_ => True) ho0 (fun _ hk_ => trivial)) (Y7 (w := w) (g := g) (row := none) QK) (fun k_ h_ => h_)) (Kd.R_lt Zj)) (Y7 (w := w) (g := g) (row := none) QK)); have n4_ := Y0.mk (Kd.N_lower (Kd.N_mono (ok' := fun k_ => (w.heap.size ≤ k_) ∧ some k_ ≠ (v132 : Value).ownBlock ∧ some k_ ≠ (u103002 : Value).ownBlock ∧ k_ ≠ gb101 ∧ k_ ≠ gb102 ∧ k_ ≠ g) ho1 (fun k_ hk_ => ⟨(Nat.le_trans (Y7 (w := w) (g := g) (row := none) QK) hk_.1), hk_.2, (Kd.fresh' (Kd.R_lt Zj) k_ hk_.1), (Kd.freshB (g := gb101) (o := .cells #[.int .i64 0, .string (⟨#[]⟩ : ByteArray), .slice none 0 0, .slice none 0 0] 37 (0, 0)) QQ k_ hk_.1), (Kd.freshB (g := gb102) (o := .cells #[.int .i64 8, .string (⟨#[]⟩ : ByteArray), u103002, .slice none 0 0] 37 (0, 0)) QQ k_ hk_.1), (YC.fresh QI81_0 k_ hk_.1)⟩)) (Y7 (w := w) (g := g) (row := none) QK)); have n5_ := Y0.mk (Y1.trans QK hk (.inl rfl)); have n6_ := Y0.mk (hb); have n7_ := Y0.mk (hi); clear HO_103002 BK101 BK102 HK HB HI0; have HO_103002 := n0_; have BK101 := n1_; have BK102 := n2_; have HO133 := n3_; have HO136 := n4_; have HK := n5_; have HB := n6_; have HI0 := n7_; clear n0_ n1_ n2_ n3_ n4_ n5_ n6_ n7_; (try clear hb); (try clear hb2); (try clear hk); (try clear hi); (try clear ho0); (try clear ho1); have hnb50 := NB101_102.out; have hnc50 := NB102_101.out; have hnb51 := NB101_0.out; have hnc51 := NB0_101.out; obtain ⟨hcz52_0, hcz52_1, hcz52_2, hcz52_3, hfz52_0, hfz52_1, hfz52_2, hfz52_3⟩ := YA BK101.out; obtain ⟨Ao53, co53, eo53⟩ := Kd.R_slice HO133.out; subst eo53; obtain ⟨Ao54, co54, eo54⟩ := Kd.N_slice HO136.out; subst eo54))
        refine bodyPost_ret (results_cell_row rfl _ _ gb101 37 #[.int .i64 t129, .string t130, .slice Ao53 t131.length co53, .slice Ao54 t134.length co54] (0, 0) _ rfl (by (with_reducible repeat (first | refine Yh ?_ _ | refine Yb ?_ | refine Yd ?_ _)); exact YE (cs := #[.int .i64 t129, .string t130, .slice Ao53 t131.length co53, .slice none 0 0]) (by (with_reducible repeat (first | refine Yh ?_ _ | refine Yb ?_ | refine Yd ?_ _)); exact YE (cs := #[.int .i64 t129, .string t130, .slice none 0 0, .slice none 0 0]) (by (with_reducible repeat (first | refine Yh ?_ _ | refine Yb ?_ | refine Yd ?_ _)); exact YE (cs := #[.int .i64 t129, .string (⟨#[]⟩ : ByteArray), .slice none 0 0, .slice none 0 0]) Z1 1 _ rfl) 2 _ rfl) 3 _ rfl) Tryd.underlying37 rfl Z4) rfl ?_
        exact ⟨_, _, Z2, by (with_reducible repeat (first | apply Kd.R_alloc | apply Kd.R_drewN | apply Kd.R_drew)); exact Kd.R_mono (Kd.R_far (p := ⟨gb101, 3, none⟩) (Kd.R_far (p := ⟨gb101, 2, none⟩) (Kd.R_far (p := ⟨gb101, 1, none⟩) (Kd.R_far (p := ⟨gb101, 0, none⟩) (Kd.R_types HO133.out BK101.out (by decide)) (fun _ hk => hk.2) (.int .i64 t129)) (fun _ hk => hk.2) (.string t130)) (fun _ hk => hk.2) (.slice Ao53 t131.length co53)) (fun _ hk => hk.2) (.slice Ao54 t134.length co54)) (fun _ hk => hk.1.1.1), by (with_reducible repeat (first | apply Kd.N_alloc | apply Kd.N_drewN | apply Kd.N_drew)); exact Kd.N_mono (Kd.N_far (p := ⟨gb101, 3, none⟩) (Kd.N_far (p := ⟨gb101, 2, none⟩) (Kd.N_far (p := ⟨gb101, 1, none⟩) (Kd.N_far (p := ⟨gb101, 0, none⟩) (Kd.N_mono HO136.out (fun k_ hk => (⟨hk, hk.2.2.2.1⟩ : _ ∧ k_ ≠ gb101))) (fun _ hk => hk.2) (.int .i64 t129)) (fun _ hk => hk.2) (.string t130)) (fun _ hk => hk.2) (.slice Ao53 t131.length co53)) (fun _ hk => hk.2) (.slice Ao54 t134.length co54)) (fun _ hk => ⟨hk.1.1, hk.1.2.1⟩), QI81_0, QB, QK⟩
   ·replace c15 := Bool.eq_false_iff.mpr c15
    subst c15
    have H1 : ((Y3.f kj1 s0_0 s0_1 s0_2 s0_3).bind fun bt141 => (some (8, (⟨#[]⟩ : ByteArray), (([bt141.1] : List ByteArray)), ([] : List (S37)), bt141.2.1, bt141.2.2.1, bt141.2.2.2.1, bt141.2.2.2.2))) = some (r1, r2, r3, r4, r5, r6, r7, r8) := by rw [if_neg (show ¬ (false = true) by decide)] at H; exact H
    clear H
    have H := H1
    clear H1
    replace H := Option.bind_eq_some_iff.mp H
    obtain ⟨⟨t141, t142, t143, t144, t145⟩, A550, H⟩ := H
    replace H : (some (8, (⟨#[]⟩ : ByteArray), (([t141] : List ByteArray)), ([] : List (S37)), t142, t143, t144, t145)) = some (r1, r2, r3, r4, r5, r6, r7, r8) := H
    have A55 := Y0.mk A550
    clear A550
    obtain ⟨y146, hy146⟩ : ∃ y_ : List ByteArray, y_ = (([t141] : List ByteArray)) := ⟨_, rfl⟩
    replace H : (some (8, (⟨#[]⟩ : ByteArray), y146, ([] : List (S37)), t142, t143, t144, t145)) = some (r1, r2, r3, r4, r5, r6, r7, r8) := by first | (rw [hy146]; with_reducible exact H) | (have H2_ := (Option.bind_some _ _).symm.trans H; rw [hy146]; with_reducible exact H2_) | (have H2_ := (Option.bind_some _ _).symm.trans H; with_reducible exact H2_) | with_reducible exact H | (rw [hy146]; exact H) | exact H
    have Ny146 := Y0.mk hy146
    clear hy146
    simp only [Option.some.injEq, Prod.mk.injEq] at H
    obtain ⟨rfl, rfl, rfl, rfl, rfl, rfl, rfl, rfl⟩ := H
    go_wp2_with (first | ((with_reducible refine Yl (f := 136) rfl ?_); refine YO (some 58) rfl rfl Tryd.func136 Z4 rfl #[.pointer (some ⟨g, 0, none⟩)] rfl Z0 ?_; (with_reducible refine (Y3.calls kj1 g s0_0 s0_1 s0_2 s0_3 t141 t142 t143 t144 t145 w0 _ ?side1 ?side2 ?side3 A55.out).mono ?_); (case side1 => exact Z1u); (case side2 => exact QB); (case side3 => exact Z22); rintro e w56 ⟨rfl, hi, hb, hk⟩; refine ⟨_, rfl, ?_⟩; have n_ := Y4L (Y1.blk hk (g' := gb101) (o := .cells #[.int .i64 0, .string (⟨#[]⟩ : ByteArray), .slice none 0 0, .slice none 0 0] 37 (0, 0)) QQ NB101_0.out (by simp)) (Y1.blk hk (g' := gb102) (o := .cells #[.int .i64 8, .string (⟨#[]⟩ : ByteArray), .slice none 0 0, .slice none 0 0] 37 (0, 0)) QQ NB102_0.out (by simp)) (Y1.trans QK hk (.inl rfl)) (hb) (hi); clear BK101 BK102 HK HB HI0; obtain ⟨BK101, BK102, HK, HB, HI0⟩ := n_; (try clear hb); (try clear hb2); (try clear hk); (try clear hi)) | ((with_reducible refine YF (N := 59) rfl ?_); refine Kd.R_lit Kd.string _ 9 ?hg (N := 59) ?hd (xs := ([t141] : List ByteArray)) (inner := [.string t141]) (ok := fun _ => True) (okp := fun _ => True) ?hr ?hp (fun _ hk => hk) trivial (Below.refl _ _) (Nat.le_refl _) (by simp) ?_; (case hd => rfl); (case hg => rfl); (case hr => exact Zb); (case hp => exact (Y1F.one (show Kd.M Kd.string _ _ _ t141 [.string t141] from rfl) (Y1F.none _ _))); intro v147 w57 ho58 hb hg_ hnew_; clear hg_ hnew_; (first | rw [← Ny146.out] at ho58 | (simp only [Int.reduceToNat] at ho58; rw [← Ny146.out] at ho58)); have n_ := Y3t (Kd.R_lower (Kd.R_newM (M := fun k_ => (w.heap.size ≤ k_)) ho58 (Y7 (w := w) (g := g) (row := none) QK) (fun k_ h_ => h_)) (Y7 (w := w) (g := g) (row := none) QK)) (Yt (g := gb101) (o := .cells #[.int .i64 0, .string (⟨#[]⟩ : ByteArray), .slice none 0 0, .slice none 0 0] 37 (0, 0)) QQ hb) (Yt (g := gb102) (o := .cells #[.int .i64 8, .string (⟨#[]⟩ : ByteArray), .slice none 0 0, .slice none 0 0] 37 (0, 0)) QQ hb) (YC.below QI81_0 hb) (Y1.trans QK (Y1.of_below hb g none) (.inl rfl)) (Y8 QB hb); clear BK101 BK102 HI0 HK HB; obtain ⟨HO148, BK101, BK102, HI0, HK, HB⟩ := n_; clear hb ho58; obtain ⟨Ao59, co59, eo59⟩ := Kd.R_slice HO148.out; subst eo59; have hnb60 := NB102_101.out; have hnc60 := NB101_102.out; have hnb61 := NB102_0.out; have hnc61 := NB0_102.out; obtain ⟨hcz62_0, hcz62_1, hcz62_2, hcz62_3, hfz62_0, hfz62_1, hfz62_2, hfz62_3⟩ := YA BK102.out; have hnb63 := NB101_0.out; have hnc63 := NB0_101.out; obtain ⟨hcz64_0, hcz64_1, hcz64_2, hcz64_3, hfz64_0, hfz64_1, hfz64_2, hfz64_3⟩ := YA BK101.out))
    refine bodyPost_ret (results_cell_row rfl _ _ gb101 37 #[.int .i64 8, .string (⟨#[]⟩ : ByteArray), .slice Ao59 y146.length co59, .slice none 0 0] (0, 0) _ rfl (by (with_reducible repeat (first | refine Yh ?_ _ | refine Yb ?_ | refine Yd ?_ _)); exact YE (cs := #[.int .i64 8, .string (⟨#[]⟩ : ByteArray), .slice Ao59 y146.length co59, .slice none 0 0]) ZD 3 _ rfl) Tryd.underlying37 rfl Z4) rfl ?_
    exact ⟨_, _, Z2, by (with_reducible repeat (first | apply Kd.R_alloc | apply Kd.R_drewN | apply Kd.R_drew)); exact Kd.R_mono (Kd.R_far (p := ⟨gb101, 3, none⟩) (Kd.R_far (p := ⟨gb101, 2, none⟩) (Kd.R_far (p := ⟨gb101, 1, none⟩) (Kd.R_far (p := ⟨gb101, 0, none⟩) (Kd.R_far (p := ⟨gb102, 2, none⟩) (Kd.R_types (Kd.R_types HO148.out BK102.out (by decide)) BK101.out (by decide)) (fun _ hk => hk.1.2) (.slice Ao59 y146.length co59)) (fun _ hk => hk.2) (.int .i64 8)) (fun _ hk => hk.2) (.string (⟨#[]⟩ : ByteArray))) (fun _ hk => hk.2) (.slice Ao59 y146.length co59)) (fun _ hk => hk.2) (.slice none 0 0)) (fun _ hk => hk.1.1.1), Z5, QI81_0, QB, QK⟩
mutual
def Yj.l0 : Nat → Int → ByteArray → Int → Int → Int → Int → ByteArray → List ByteArray → List (S37) → Option (Int × ByteArray × List ByteArray × (List (S37)) × ByteArray × Int × Int × Int)
 | 0, _, _, _, _, _, _, _, _, _ => none
 | k + 1, x1, x1000, x1001, x1002, x1003, x115000, x115001, x115002, x115003 => (Yn.f k x1000 x1001 x1002 x1003 124).bind fun bt115 => (if bt115.1 = true then ((Yp.f k bt115.2.1 bt115.2.2.1 bt115.2.2.2.1 bt115.2.2.2.2 x1).bind fun bt120 => (Yj.l0 k x1 bt120.2.2.2.2.1 bt120.2.2.2.2.2.1 bt120.2.2.2.2.2.2.1 bt120.2.2.2.2.2.2.2 4 (⟨#[]⟩ : ByteArray) ([] : List ByteArray) (([(⟨x115000, x115001, x115002, x115003⟩ : S37), (⟨bt120.1, bt120.2.1, bt120.2.2.1, bt120.2.2.2.1⟩ : S37)] : List (S37))))) else (some (x115000, x115001, x115002, x115003, bt115.2.1, bt115.2.2.1, bt115.2.2.2.1, bt115.2.2.2.2)))
def Yj.f : Nat → ByteArray → Int → Int → Int → Int → Option (Int × ByteArray × List ByteArray × (List (S37)) × ByteArray × Int × Int × Int)
 | 0, _, _, _, _, _ => none
 | k + 1, s0_0, s0_1, s0_2, s0_3, a1 => (Yp.f k s0_0 s0_1 s0_2 s0_3 a1).bind fun bt102 => (Yj.l0 k a1 bt102.2.2.2.2.1 bt102.2.2.2.2.2.1 bt102.2.2.2.2.2.2.1 bt102.2.2.2.2.2.2.2 bt102.1 bt102.2.1 bt102.2.2.1 bt102.2.2.2.1)
def Yp.l0 : Nat → Int → ByteArray → Int → Int → Int → Int → ByteArray → List ByteArray → List (S37) → Option (Int × ByteArray × List ByteArray × (List (S37)) × ByteArray × Int × Int × Int)
 | 0, _, _, _, _, _, _, _, _, _ => none
 | k + 1, x1, x1000, x1001, x1002, x1003, x149000, x149001, x149002, x149003 => (Yn.f k x1000 x1001 x1002 x1003 47).bind fun bt149 => (if bt149.1 = true then ((Y9.f k bt149.2.1 bt149.2.2.1 bt149.2.2.2.1 bt149.2.2.2.2 x1).bind fun bt154 => (Yp.l0 k x1 bt154.2.2.2.2.1 bt154.2.2.2.2.2.1 bt154.2.2.2.2.2.2.1 bt154.2.2.2.2.2.2.2 3 (⟨#[]⟩ : ByteArray) ([] : List ByteArray) (([(⟨x149000, x149001, x149002, x149003⟩ : S37), (⟨bt154.1, bt154.2.1, bt154.2.2.1, bt154.2.2.2.1⟩ : S37)] : List (S37))))) else (some (x149000, x149001, x149002, x149003, bt149.2.1, bt149.2.2.1, bt149.2.2.2.1, bt149.2.2.2.2)))
def Yp.f : Nat → ByteArray → Int → Int → Int → Int → Option (Int × ByteArray × List ByteArray × (List (S37)) × ByteArray × Int × Int × Int)
 | 0, _, _, _, _, _ => none
 | k + 1, s0_0, s0_1, s0_2, s0_3, a1 => (Y9.f k s0_0 s0_1 s0_2 s0_3 a1).bind fun bt136 => (Yp.l0 k a1 bt136.2.2.2.2.1 bt136.2.2.2.2.2.1 bt136.2.2.2.2.2.2.1 bt136.2.2.2.2.2.2.2 bt136.1 bt136.2.1 bt136.2.2.1 bt136.2.2.2.1)
def Y9.l0 : Nat → ByteArray → Int → Int → Int → Int → ByteArray → List ByteArray → List (S37) → Option (Int × ByteArray × List ByteArray × (List (S37)) × ByteArray × Int × Int × Int)
 | 0, _, _, _, _, _, _, _, _ => none
 | k + 1, x1000, x1001, x1002, x1003, x183000, x183001, x183002, x183003 => (Yn.f k x1000 x1001 x1002 x1003 42).bind fun bt183 => (if bt183.1 = true then (Y9.l0 k bt183.2.1 bt183.2.2.1 bt183.2.2.2.1 bt183.2.2.2.2 5 (⟨#[]⟩ : ByteArray) ([] : List ByteArray) (([(⟨x183000, x183001, x183002, x183003⟩ : S37)] : List (S37)))) else ((Yn.f k bt183.2.1 bt183.2.2.1 bt183.2.2.2.1 bt183.2.2.2.2 43).bind fun bt191 => (if bt191.1 = true then (Y9.l0 k bt191.2.1 bt191.2.2.1 bt191.2.2.2.1 bt191.2.2.2.2 6 (⟨#[]⟩ : ByteArray) ([] : List ByteArray) (([(⟨x183000, x183001, x183002, x183003⟩ : S37)] : List (S37)))) else ((Yn.f k bt191.2.1 bt191.2.2.1 bt191.2.2.2.1 bt191.2.2.2.2 63).bind fun bt199 => (if bt199.1 = true then (Y9.l0 k bt199.2.1 bt199.2.2.1 bt199.2.2.2.1 bt199.2.2.2.2 7 (⟨#[]⟩ : ByteArray) ([] : List ByteArray) (([(⟨x183000, x183001, x183002, x183003⟩ : S37)] : List (S37)))) else (some (x183000, x183001, x183002, x183003, bt199.2.1, bt199.2.2.1, bt199.2.2.2.1, bt199.2.2.2.2)))))))
def Y9.f : Nat → ByteArray → Int → Int → Int → Int → Option (Int × ByteArray × List ByteArray × (List (S37)) × ByteArray × Int × Int × Int)
 | 0, _, _, _, _, _ => none
 | k + 1, s0_0, s0_1, s0_2, s0_3, a1 => (Ya.f k s0_0 s0_1 s0_2 s0_3 a1).bind fun bt170 => (Y9.l0 k bt170.2.2.2.2.1 bt170.2.2.2.2.2.1 bt170.2.2.2.2.2.2.1 bt170.2.2.2.2.2.2.2 bt170.1 bt170.2.1 bt170.2.2.1 bt170.2.2.2.1)
def Ya.j0 : Nat → Int → Int → Int → Bool → ByteArray → Int → Int → Int → Option (Int × ByteArray × List ByteArray × (List (S37)) × ByteArray × Int × Int × Int)
 | 0, _, _, _, _, _, _, _, _ => none
 | k + 1, x1, x5, x9, x10, x1000, x1001, x1002, x1003 => if x10 = true then (if x1 ≥ 5 then ((Yu.f x1000 x1001 x1002 x1003 x1001 3).bind fun bt213 => (some (bt213.1, bt213.2.1, bt213.2.2.1, bt213.2.2.2.1, bt213.2.2.2.2.1, bt213.2.2.2.2.2.1, bt213.2.2.2.2.2.2.1, bt213.2.2.2.2.2.2.2))) else (if x5 = 94 then ((Ya.f k x1000 (wrap64 (x1001 + 1)) x1002 x1003 (wrap64 (x1 + 1))).bind fun bt225 => (some (2, (⟨#[]⟩ : ByteArray), ([] : List ByteArray), (([(⟨bt225.1, bt225.2.1, bt225.2.2.1, bt225.2.2.2.1⟩ : S37)] : List (S37))), bt225.2.2.2.2.1, bt225.2.2.2.2.2.1, bt225.2.2.2.2.2.2.1, bt225.2.2.2.2.2.2.2))) else ((Yj.f k x1000 (wrap64 (x1001 + 1)) x1002 x1003 (wrap64 (x1 + 1))).bind fun bt240 => ((Yn.f k bt240.2.2.2.2.1 bt240.2.2.2.2.2.1 bt240.2.2.2.2.2.2.1 bt240.2.2.2.2.2.2.2 41).bind fun bt253 => (if bt253.1 = true then (some (bt240.1, bt240.2.1, bt240.2.2.1, bt240.2.2.2.1, bt253.2.1, bt253.2.2.1, bt253.2.2.2.1, bt253.2.2.2.2)) else ((Yu.f bt253.2.1 bt253.2.2.1 bt253.2.2.2.1 bt253.2.2.2.2 bt253.2.2.1 2).bind fun bt258 => (some (bt258.1, bt258.2.1, bt258.2.2.1, bt258.2.2.2.1, bt258.2.2.2.2.1, bt258.2.2.2.2.2.1, bt258.2.2.2.2.2.2.1, bt258.2.2.2.2.2.2.2)))))))) else (if x9 = 33 then ((Y4.f k x1000 (wrap64 (x1001 + 1)) x1002 x1003).bind fun bt270 => (some (bt270.1, bt270.2.1, bt270.2.2.1, bt270.2.2.2.1, bt270.2.2.2.2.1, bt270.2.2.2.2.2.1, bt270.2.2.2.2.2.2.1, bt270.2.2.2.2.2.2.2))) else ((Y3.f k x1000 x1001 x1002 x1003).bind fun bt282 => (some (1, bt282.1, ([] : List ByteArray), ([] : List (S37)), bt282.2.1, bt282.2.2.1, bt282.2.2.2.1, bt282.2.2.2.2))))
def Ya.f : Nat → ByteArray → Int → Int → Int → Int → Option (Int × ByteArray × List ByteArray × (List (S37)) × ByteArray × Int × Int × Int)
 | 0, _, _, _, _, _ => none
 | k + 1, s0_0, s0_1, s0_2, s0_3, a1 => (Ye.f k s0_0 s0_1 s0_2 s0_3).bind fun bt208 => (if bt208.1 = 94 then (Ya.j0 k a1 bt208.1 bt208.1 (bt208.1 == 94) bt208.2.1 bt208.2.2.1 bt208.2.2.2.1 bt208.2.2.2.2) else (Ya.j0 k a1 bt208.1 bt208.1 (bt208.1 == 40) bt208.2.1 bt208.2.2.1 bt208.2.2.2.1 bt208.2.2.2.2))
end
theorem Yj.mono_j : ∀ k, (∀ y0 y1 y2 y3 y4, LeO (Yj.f k y0 y1 y2 y3 y4) (Yj.f (k + 1) y0 y1 y2 y3 y4)) ∧ (∀ y0 y1 y2 y3 y4 y5 y6 y7 y8, LeO (Yj.l0 k y0 y1 y2 y3 y4 y5 y6 y7 y8) (Yj.l0 (k + 1) y0 y1 y2 y3 y4 y5 y6 y7 y8)) ∧ (∀ y0 y1 y2 y3 y4, LeO (Yp.f k y0 y1 y2 y3 y4) (Yp.f (k + 1) y0 y1 y2 y3 y4)) ∧ (∀ y0 y1 y2 y3 y4 y5 y6 y7 y8, LeO (Yp.l0 k y0 y1 y2 y3 y4 y5 y6 y7 y8) (Yp.l0 (k + 1) y0 y1 y2 y3 y4 y5 y6 y7 y8)) ∧ (∀ y0 y1 y2 y3 y4, LeO (Y9.f k y0 y1 y2 y3 y4) (Y9.f (k + 1) y0 y1 y2 y3 y4)) ∧ (∀ y0 y1 y2 y3 y4 y5 y6 y7, LeO (Y9.l0 k y0 y1 y2 y3 y4 y5 y6 y7) (Y9.l0 (k + 1) y0 y1 y2 y3 y4 y5 y6 y7)) ∧ (∀ y0 y1 y2 y3 y4, LeO (Ya.f k y0 y1 y2 y3 y4) (Ya.f (k + 1) y0 y1 y2 y3 y4)) ∧ (∀ y0 y1 y2 y3 y4 y5 y6 y7, LeO (Ya.j0 k y0 y1 y2 y3 y4 y5 y6 y7) (Ya.j0 (k + 1) y0 y1 y2 y3 y4 y5 y6 y7))
 | 0 => ⟨fun _ _ _ _ _ r h => by simp [Yj.f] at h, fun _ _ _ _ _ _ _ _ _ r h => by simp [Yj.l0] at h, fun _ _ _ _ _ r h => by simp [Yp.f] at h, fun _ _ _ _ _ _ _ _ _ r h => by simp [Yp.l0] at h, fun _ _ _ _ _ r h => by simp [Y9.f] at h, fun _ _ _ _ _ _ _ _ r h => by simp [Y9.l0] at h, fun _ _ _ _ _ r h => by simp [Ya.f] at h, fun _ _ _ _ _ _ _ _ r h => by simp [Ya.j0] at h⟩
 | k + 1 => by
  obtain ⟨ih0, ih1, ih2, ih3, ih4, ih5, ih6, ih7⟩ := Yj.mono_j k
  refine ⟨?_, ?_, ?_, ?_, ?_, ?_, ?_, ?_⟩
  ·intro y0 y1 y2 y3 y4
   unfold Yj.f
   exact QM
  ·intro y0 y1 y2 y3 y4 y5 y6 y7 y8
   unfold Yj.l0
   exact QM
  ·intro y0 y1 y2 y3 y4
   unfold Yp.f
   exact QM
  ·intro y0 y1 y2 y3 y4 y5 y6 y7 y8
   unfold Yp.l0
   exact QM
  ·intro y0 y1 y2 y3 y4
   unfold Y9.f
   exact QM
  ·intro y0 y1 y2 y3 y4 y5 y6 y7
   unfold Y9.l0
   exact QM
  ·intro y0 y1 y2 y3 y4
   unfold Ya.f
   exact QM
  ·intro y0 y1 y2 y3 y4 y5 y6 y7
   unfold Ya.j0
   exact QM
abbrev Yj.Spec (k : Nat) : Prop := ∀ (g : Nat) (s0_0 : ByteArray) (s0_1 : Int) (s0_2 : Int) (s0_3 : Int) (a1 : Int) (r1 : Int) (r2 : ByteArray) (r3 : List ByteArray) (r4 : List (S37)) (r5 : ByteArray) (r6 : Int) (r7 : Int) (r8 : Int) (w0 w : World) (hI : YC w0 w g s0_0 s0_1 s0_2 s0_3) (hB : Below w0.heap.size w0 w) (hT : Tabs w0) (h : Yj.f k s0_0 s0_1 s0_2 s0_3 a1 = some (r1, r2, r3, r4, r5, r6, r7, r8)),
  Calls Tryd.prog 55 #[.pointer (some ⟨g, 0, none⟩), .int .i64 a1] w fun e w' => ∃ v2_ v3_ : Value, e = .returned (.agg #[.int .i64 r1, .string r2, v2_, v3_]) ∧ Kd.R Kd.string 9 w' w.heap.size (fun k_ => (w.heap.size ≤ k_)) v2_ r3 ∧ Kd.N k37 37 w' w.heap.size (fun k_ => (w.heap.size ≤ k_) ∧ some k_ ≠ (v2_ : Value).ownBlock) v3_ r4 ∧ YC w0 w' g r5 r6 r7 r8 ∧ Below w0.heap.size w0 w' ∧ Y1 w w' g none
abbrev Yp.Spec (k : Nat) : Prop := ∀ (g : Nat) (s0_0 : ByteArray) (s0_1 : Int) (s0_2 : Int) (s0_3 : Int) (a1 : Int) (r1 : Int) (r2 : ByteArray) (r3 : List ByteArray) (r4 : List (S37)) (r5 : ByteArray) (r6 : Int) (r7 : Int) (r8 : Int) (w0 w : World) (hI : YC w0 w g s0_0 s0_1 s0_2 s0_3) (hB : Below w0.heap.size w0 w) (hT : Tabs w0) (h : Yp.f k s0_0 s0_1 s0_2 s0_3 a1 = some (r1, r2, r3, r4, r5, r6, r7, r8)),
  Calls Tryd.prog 96 #[.pointer (some ⟨g, 0, none⟩), .int .i64 a1] w fun e w' => ∃ v2_ v3_ : Value, e = .returned (.agg #[.int .i64 r1, .string r2, v2_, v3_]) ∧ Kd.R Kd.string 9 w' w.heap.size (fun k_ => (w.heap.size ≤ k_)) v2_ r3 ∧ Kd.N k37 37 w' w.heap.size (fun k_ => (w.heap.size ≤ k_) ∧ some k_ ≠ (v2_ : Value).ownBlock) v3_ r4 ∧ YC w0 w' g r5 r6 r7 r8 ∧ Below w0.heap.size w0 w' ∧ Y1 w w' g none
abbrev Y9.Spec (k : Nat) : Prop := ∀ (g : Nat) (s0_0 : ByteArray) (s0_1 : Int) (s0_2 : Int) (s0_3 : Int) (a1 : Int) (r1 : Int) (r2 : ByteArray) (r3 : List ByteArray) (r4 : List (S37)) (r5 : ByteArray) (r6 : Int) (r7 : Int) (r8 : Int) (w0 w : World) (hI : YC w0 w g s0_0 s0_1 s0_2 s0_3) (hB : Below w0.heap.size w0 w) (hT : Tabs w0) (h : Y9.f k s0_0 s0_1 s0_2 s0_3 a1 = some (r1, r2, r3, r4, r5, r6, r7, r8)),
  Calls Tryd.prog 113 #[.pointer (some ⟨g, 0, none⟩), .int .i64 a1] w fun e w' => ∃ v2_ v3_ : Value, e = .returned (.agg #[.int .i64 r1, .string r2, v2_, v3_]) ∧ Kd.R Kd.string 9 w' w.heap.size (fun k_ => (w.heap.size ≤ k_)) v2_ r3 ∧ Kd.N k37 37 w' w.heap.size (fun k_ => (w.heap.size ≤ k_) ∧ some k_ ≠ (v2_ : Value).ownBlock) v3_ r4 ∧ YC w0 w' g r5 r6 r7 r8 ∧ Below w0.heap.size w0 w' ∧ Y1 w w' g none
abbrev Ya.Spec (k : Nat) : Prop := ∀ (g : Nat) (s0_0 : ByteArray) (s0_1 : Int) (s0_2 : Int) (s0_3 : Int) (a1 : Int) (r1 : Int) (r2 : ByteArray) (r3 : List ByteArray) (r4 : List (S37)) (r5 : ByteArray) (r6 : Int) (r7 : Int) (r8 : Int) (w0 w : World) (hI : YC w0 w g s0_0 s0_1 s0_2 s0_3) (hB : Below w0.heap.size w0 w) (hT : Tabs w0) (h : Ya.f k s0_0 s0_1 s0_2 s0_3 a1 = some (r1, r2, r3, r4, r5, r6, r7, r8)),
  Calls Tryd.prog 124 #[.pointer (some ⟨g, 0, none⟩), .int .i64 a1] w fun e w' => ∃ v2_ v3_ : Value, e = .returned (.agg #[.int .i64 r1, .string r2, v2_, v3_]) ∧ Kd.R Kd.string 9 w' w.heap.size (fun k_ => (w.heap.size ≤ k_)) v2_ r3 ∧ Kd.N k37 37 w' w.heap.size (fun k_ => (w.heap.size ≤ k_) ∧ some k_ ≠ (v2_ : Value).ownBlock) v3_ r4 ∧ YC w0 w' g r5 r6 r7 r8 ∧ Below w0.heap.size w0 w' ∧ Y1 w w' g none
set_option maxHeartbeats 8000000 in
set_option maxRecDepth 100000 in
theorem Yj.step (k : Nat) (ih : ∀ j_ < k, Yj.Spec j_ ∧ Yp.Spec j_ ∧ Y9.Spec j_ ∧ Ya.Spec j_) : ∀ (g : Nat) (s0_0 : ByteArray) (s0_1 : Int) (s0_2 : Int) (s0_3 : Int) (a1 : Int) (r1 : Int) (r2 : ByteArray) (r3 : List ByteArray) (r4 : List (S37)) (r5 : ByteArray) (r6 : Int) (r7 : Int) (r8 : Int) (w0 w : World) (hI : YC w0 w g s0_0 s0_1 s0_2 s0_3) (hB : Below w0.heap.size w0 w) (hT : Tabs w0) (h : Yj.f k s0_0 s0_1 s0_2 s0_3 a1 = some (r1, r2, r3, r4, r5, r6, r7, r8)),
  Calls Tryd.prog 55 #[.pointer (some ⟨g, 0, none⟩), .int .i64 a1] w fun e w' => ∃ v2_ v3_ : Value, e = .returned (.agg #[.int .i64 r1, .string r2, v2_, v3_]) ∧ Kd.R Kd.string 9 w' w.heap.size (fun k_ => (w.heap.size ≤ k_)) v2_ r3 ∧ Kd.N k37 37 w' w.heap.size (fun k_ => (w.heap.size ≤ k_) ∧ some k_ ≠ (v2_ : Value).ownBlock) v3_ r4 ∧ YC w0 w' g r5 r6 r7 r8 ∧ Below w0.heap.size w0 w' ∧ Y1 w w' g none := by
 intro g s0_0 s0_1 s0_2 s0_3 a1 r1 r2 r3 r4 r5 r6 r7 r8 w0 w hI hB hT h
 cases k with
 | zero => exact absurd h (by simp [Yj.f])
 | succ k =>
 simp only [Yj.f] at h
 have HT := Y0.mk hT
 clear hT
 have hu37 := Tryd.underlying37
 have HI0 := Y0.mk hI
 have HK := Y0.mk (Y1.refl w g none)
 have HL := Y0.mk hB.size
 clear hI
 have HW0 := Y0.mk hB.size
 have HB := Y0.mk hB
 clear hB
 have H : ((Yp.f k s0_0 s0_1 s0_2 s0_3 a1).bind fun bt102 => (Yj.l0 k a1 bt102.2.2.2.2.1 bt102.2.2.2.2.2.1 bt102.2.2.2.2.2.2.1 bt102.2.2.2.2.2.2.2 bt102.1 bt102.2.1 bt102.2.2.1 bt102.2.2.2.1)) = some (r1, r2, r3, r4, r5, r6, r7, r8) := h
 clear h
 replace H := Option.bind_eq_some_iff.mp H
 obtain ⟨⟨t102, t103, t104, t107, t110, t111, t112, t113⟩, A30, H⟩ := H
 replace H : (Yj.l0 k a1 t110 t111 t112 t113 t102 t103 t104 t107) = some (r1, r2, r3, r4, r5, r6, r7, r8) := H
 have A3 := Y0.mk A30
 clear A30
 have H' := Y0.mk H
 clear H
 go_enter Tryd.func55, Tryd.ntmps55
 go_wp2_with (first | ((with_reducible refine YF (N := 4) rfl ?_); refine YD ?hg (N := 4) ?hd (cs := #[.int .i64 0, .string (⟨#[]⟩ : ByteArray), .slice none 0 0, .slice none 0 0]) (t := 37) ?hr ?_; (case hd => rfl); (case hg => rfl); (case hr => exact Zb); intro gb101 hg w4 hbox hb; have n_ := Y4q (YC.below QI81_0 hb) (Y1.trans QK (Y1.of_below hb g none) (.inl rfl)) (Y8 QB hb) (hbox) ((by rw [hg]; exact (Y7 (w := w) (g := g) (row := none) QK) : w.heap.size ≤ gb101)) ((Nat.le_trans HW0.out (by rw [hg]; exact (Y7 (w := w) (g := g) (row := none) QK) : w.heap.size ≤ gb101) : w0.heap.size ≤ gb101)) ((by rw [hg]; exact Nat.ne_of_lt (YC.lt (show YC w0 _ g s0_0 s0_1 s0_2 s0_3 from QI81_0)) : g ≠ gb101)) ((by rw [hg]; exact Nat.ne_of_gt (YC.lt (show YC w0 _ g s0_0 s0_1 s0_2 s0_3 from QI81_0)) : gb101 ≠ g)); clear HI0 HK HB; obtain ⟨HI0, HK, HB, BK101, GW101, GE101, NB0_101, NB101_0⟩ := n_; clear hb hbox hg) | ((with_reducible refine Yl (f := 96) rfl ?_); refine YO (some 8) rfl rfl Tryd.func96 Z4 rfl #[.pointer (some ⟨g, 0, none⟩), .int .i64 a1] rfl Z0 ?_; (with_reducible refine ((ih k (by omega)).2.1 g s0_0 s0_1 s0_2 s0_3 a1 t102 t103 t104 t107 t110 t111 t112 t113 w0 _ ?side1 ?side2 ?side3 A3.out).mono ?_); (case side1 => exact Z1u); (case side2 => exact QB); (case side3 => exact Z22); rintro e w5 ⟨v105, v108, rfl, ho0, ho1, hi, hb, hk⟩; refine ⟨_, rfl, ?_⟩; have n0_ := Y0.mk (Y1.blk hk (g' := gb101) (o := .cells #[.int .i64 0, .string (⟨#[]⟩ : ByteArray), .slice none 0 0, .slice none 0 0] 37 (0, 0)) QQ NB101_0.out (by simp)); have n1_ := Y0.mk (Kd.R_lower (Kd.R_newM (M := fun k_ => (w.heap.size ≤ k_)) (Kd.R_mono (ok' := fun k_ => True) ho0 (fun _ hk_ => trivial)) (Y7 (w := w) (g := g) (row := none) QK) (fun k_ h_ => h_)) (Y7 (w := w) (g := g) (row := none) QK)); have n2_ := Y0.mk (Kd.N_lower (Kd.N_mono (ok' := fun k_ => (w.heap.size ≤ k_) ∧ some k_ ≠ (v105 : Value).ownBlock ∧ k_ ≠ gb101 ∧ k_ ≠ g) ho1 (fun k_ hk_ => ⟨(Nat.le_trans (Y7 (w := w) (g := g) (row := none) QK) hk_.1), hk_.2, (Kd.freshB (g := gb101) (o := .cells #[.int .i64 0, .string (⟨#[]⟩ : ByteArray), .slice none 0 0, .slice none 0 0] 37 (0, 0)) QQ k_ hk_.1), (YC.fresh QI81_0 k_ hk_.1)⟩)) (Y7 (w := w) (g := g) (row := none) QK)); have n3_ := Y0.mk (Y1.trans QK hk (.inl rfl)); have n4_ := Y0.mk (hb); have n5_ := Y0.mk (hi); clear BK101 HK HB HI0; have BK101 := n0_; have HO106 := n1_; have HO109 := n2_; have HK := n3_; have HB := n4_; have HI0 := n5_; clear n0_ n1_ n2_ n3_ n4_ n5_; (try clear hb); (try clear hb2); (try clear hk); (try clear hi); (try clear ho0); (try clear ho1)) | ((with_reducible refine YF (N := 5) rfl ?_); refine YD ?hg (N := 5) ?hd (cs := #[.int .i64 0, .string (⟨#[]⟩ : ByteArray), .slice none 0 0, .slice none 0 0]) (t := 37) ?hr ?_; (case hd => rfl); (case hg => rfl); (case hr => exact Zb); intro gb114 hg w6 hbox hb; have n0_ := Y0.mk (Kd.R_below Z1Y hb); have n1_ := Y0.mk (Kd.N_below (Kd.N_elderB Z1V gb114 (Nat.le_of_eq hg.symm)) hb); have n2_ := Y0.mk (YC.below QI81_0 hb); have n3_ := Y0.mk (Yt (g := gb101) (o := .cells #[.int .i64 0, .string (⟨#[]⟩ : ByteArray), .slice none 0 0, .slice none 0 0] 37 (0, 0)) QQ hb); have n4_ := Y0.mk (Y1.trans QK (Y1.of_below hb g none) (.inl rfl)); have n5_ := Y0.mk (Y8 QB hb); have n6_ := Y0.mk (hbox); have n7_ := Y0.mk ((by rw [hg]; exact (Y7 (w := w) (g := g) (row := none) QK) : w.heap.size ≤ gb114)); have n8_ := Y0.mk ((Nat.le_trans HW0.out (by rw [hg]; exact (Y7 (w := w) (g := g) (row := none) QK) : w.heap.size ≤ gb114) : w0.heap.size ≤ gb114)); have n9_ := Y0.mk ((by rw [hg]; exact Nat.ne_of_lt (Y14 (g := gb101) (o := .cells #[.int .i64 0, .string (⟨#[]⟩ : ByteArray), .slice none 0 0, .slice none 0 0] 37 (0, 0)) QQ) : gb101 ≠ gb114)); have n10_ := Y0.mk ((by rw [hg]; exact Nat.ne_of_gt (Y14 (g := gb101) (o := .cells #[.int .i64 0, .string (⟨#[]⟩ : ByteArray), .slice none 0 0, .slice none 0 0] 37 (0, 0)) QQ) : gb114 ≠ gb101)); have n11_ := Y0.mk ((by rw [hg]; exact Nat.ne_of_lt (YC.lt (show YC w0 _ g t110 t111 t112 t113 from QI81_0)) : g ≠ gb114)); have n12_ := Y0.mk ((by rw [hg]; exact Nat.ne_of_gt (YC.lt (show YC w0 _ g t110 t111 t112 t113 from QI81_0)) : gb114 ≠ g)); clear HO106 HO109 HI0 BK101 HK HB; have HO106 := n0_; have HO109 := n1_; have HI0 := n2_; have BK101 := n3_; have HK := n4_; have HB := n5_; have BK114 := n6_; have GW114 := n7_; have GE114 := n8_; have NB101_114 := n9_; have NB114_101 := n10_; have NB0_114 := n11_; have NB114_0 := n12_; clear n0_ n1_ n2_ n3_ n4_ n5_ n6_ n7_ n8_ n9_ n10_ n11_ n12_ hb hbox hg; have hnb7 := NB114_101.out; have hnc7 := NB101_114.out; have hnb8 := NB114_0.out; have hnc8 := NB0_114.out; obtain ⟨hcz9_0, hcz9_1, hcz9_2, hcz9_3, hfz9_0, hfz9_1, hfz9_2, hfz9_3⟩ := YA BK114.out; obtain ⟨Ao10, co10, eo10⟩ := Kd.R_slice HO106.out; subst eo10; obtain ⟨Ao11, co11, eo11⟩ := Kd.N_slice HO109.out; subst eo11))
 go_loopg [] k (fun kq w' => ∃ (x1000_1 : ByteArray) (x1001_1 : Int) (x1002_1 : Int) (x1003_1 : Int) (x115000_1 : Int) (x115001_1 : ByteArray) (x115002_1 : List ByteArray) (x115003_1 : List (S37)) (u115002 : Value) (u115003 : Value), Y0 (Yj.l0 kq a1 x1000_1 x1001_1 x1002_1 x1003_1 x115000_1 x115001_1 x115002_1 x115003_1 = some (r1, r2, r3, r4, r5, r6, r7, r8)) ∧ Y0 (kq ≤ k) ∧ Y0 (Kd.R Kd.string 9 w' w.heap.size (fun k_ => (w.heap.size ≤ k_)) u115002 x115002_1) ∧ Y0 (Kd.N k37 37 w' w.heap.size (fun k_ => (w.heap.size ≤ k_) ∧ some k_ ≠ (u115002 : Value).ownBlock ∧ k_ ≠ gb101 ∧ k_ ≠ gb114 ∧ k_ ≠ g) u115003 x115003_1) ∧ Y0 (w'.heap[gb101]? = some (.cells #[.int .i64 0, .string (⟨#[]⟩ : ByteArray), (.slice none 0 0), (.slice none 0 0)] 37 (0, 0))) ∧ Y0 (w'.heap[gb114]? = some (.cells #[.int .i64 x115000_1, .string x115001_1, u115002, u115003] 37 (0, 0))) ∧ Y0 (YC w0 w' g x1000_1 x1001_1 x1002_1 x1003_1) ∧ Y0 (Y1 w w' g none) ∧ Y0 (Below w0.heap.size w0 w'))
 case atStart => exact ⟨(t110), (t111), (t112), (t113), (t102), (t103), (t104), (t107), (.slice Ao10 t104.length co10), (.slice Ao11 t107.length co11), H', ⟨Nat.le_refl _⟩, ⟨Z17⟩, ⟨ZK⟩, ⟨Zh⟩, ⟨Z2l⟩, ⟨QI81_0⟩, ⟨QK⟩, ⟨QB⟩⟩
 case round =>
  clear H'
  try clear p2
  try clear c5
  try clear c7
  try clear c8
  try clear c9
  try clear hcz9_0 hcz9_1 hcz9_2 hcz9_3 hfz9_0 hfz9_1 hfz9_2 hfz9_3
  obtain ⟨x1000_1, x1001_1, x1002_1, x1003_1, x115000_1, x115001_1, x115002_1, x115003_1, u115002, u115003, HA, HK1, HO_115002, HO_115003, BK101, BK114, HI0, HK, HB⟩ := hrel
  cases gk with
  | zero => exact absurd HA.out (by simp [Yj.l0])
  | succ k1 =>
   have H := HA.out
   clear HA
   simp only [Yj.l0] at H
   replace H := Option.bind_eq_some_iff.mp H
   obtain ⟨⟨t115, t116, t117, t118, t119⟩, A120, H⟩ := H
   replace H : (if t115 = true then ((Yp.f k1 t116 t117 t118 t119 a1).bind fun bt120 => (Yj.l0 k1 a1 bt120.2.2.2.2.1 bt120.2.2.2.2.2.1 bt120.2.2.2.2.2.2.1 bt120.2.2.2.2.2.2.2 4 (⟨#[]⟩ : ByteArray) ([] : List ByteArray) (([(⟨x115000_1, x115001_1, x115002_1, x115003_1⟩ : S37), (⟨bt120.1, bt120.2.1, bt120.2.2.1, bt120.2.2.2.1⟩ : S37)] : List (S37))))) else (some (x115000_1, x115001_1, x115002_1, x115003_1, t116, t117, t118, t119))) = some (r1, r2, r3, r4, r5, r6, r7, r8) := H
   have A12 := Y0.mk A120
   clear A120
   by_cases c13 : t115 = true
   ·subst c13
    have H1 : ((Yp.f k1 t116 t117 t118 t119 a1).bind fun bt120 => (Yj.l0 k1 a1 bt120.2.2.2.2.1 bt120.2.2.2.2.2.1 bt120.2.2.2.2.2.2.1 bt120.2.2.2.2.2.2.2 4 (⟨#[]⟩ : ByteArray) ([] : List ByteArray) (([(⟨x115000_1, x115001_1, x115002_1, x115003_1⟩ : S37), (⟨bt120.1, bt120.2.1, bt120.2.2.1, bt120.2.2.2.1⟩ : S37)] : List (S37))))) = some (r1, r2, r3, r4, r5, r6, r7, r8) := by rw [if_pos rfl] at H; exact H
    clear H
    have H := H1
    clear H1
    replace H := Option.bind_eq_some_iff.mp H
    obtain ⟨⟨t120, t121, t122, t125, t128, t129, t130, t131⟩, A140, H⟩ := H
    replace H : (Yj.l0 k1 a1 t128 t129 t130 t131 4 (⟨#[]⟩ : ByteArray) ([] : List ByteArray) (([(⟨x115000_1, x115001_1, x115002_1, x115003_1⟩ : S37), (⟨t120, t121, t122, t125⟩ : S37)] : List (S37)))) = some (r1, r2, r3, r4, r5, r6, r7, r8) := H
    have A14 := Y0.mk A140
    clear A140
    obtain ⟨y132, hy132⟩ : ∃ y_ : List (S37), y_ = (([(⟨x115000_1, x115001_1, x115002_1, x115003_1⟩ : S37), (⟨t120, t121, t122, t125⟩ : S37)] : List (S37))) := ⟨_, rfl⟩
    replace H : (Yj.l0 k1 a1 t128 t129 t130 t131 4 (⟨#[]⟩ : ByteArray) ([] : List ByteArray) y132) = some (r1, r2, r3, r4, r5, r6, r7, r8) := by first | (rw [hy132]; with_reducible exact H) | (have H2_ := (Option.bind_some _ _).symm.trans H; rw [hy132]; with_reducible exact H2_) | (have H2_ := (Option.bind_some _ _).symm.trans H; with_reducible exact H2_) | with_reducible exact H | (rw [hy132]; exact H) | exact H
    have Ny132 := Y0.mk hy132
    clear hy132
    have H' := Y0.mk H
    clear H
    try go_wp2_with (first | ((with_reducible refine Yl (f := 97) rfl ?_); refine YO (some 10) rfl rfl Tryd.func97 Z4 rfl #[.pointer (some ⟨g, 0, none⟩), .int .u8 124] rfl Z0 ?_; (with_reducible refine (Yn.calls k1 g x1000_1 x1001_1 x1002_1 x1003_1 124 true t116 t117 t118 t119 w0 _ ?side1 ?side2 A12.out).mono ?_); (case side1 => exact Z1u); (case side2 => exact QB); rintro e w15 ⟨rfl, hi, hb, hk⟩; refine ⟨_, rfl, ?_⟩; have n0_ := Y0.mk (Kd.R_mono (Kd.R_keep (YC.apart (show YC w0 _ g x1000_1 x1001_1 x1002_1 x1003_1 from QI81_0) Zs (by decide)) hk (fun _ h => h.2)) (fun _ h => h.1)); have n1_ := Y0.mk (Kd.N_mono (Kd.N_keep (Kd.N_mono (ok := fun k_ => (((w.heap.size ≤ k_)) ∧ (some k_ ≠ (u115002 : Value).ownBlock ∧ (k_ ≠ gb101 ∧ (k_ ≠ gb114 ∧ k_ ≠ g))))) ZE (fun k_ hk_ => (⟨hk_, hk_.2.2.2.2⟩ : _ ∧ k_ ≠ g))) hk (fun _ h => h.2)) (fun _ h => h.1)); have n2_ := Y0.mk (Y1.blk hk (g' := gb101) (o := .cells #[.int .i64 0, .string (⟨#[]⟩ : ByteArray), .slice none 0 0, .slice none 0 0] 37 (0, 0)) QQ NB101_0.out (by simp)); have n3_ := Y0.mk (Y1.blk hk (g' := gb114) (o := .cells #[.int .i64 x115000_1, .string x115001_1, u115002, u115003] 37 (0, 0)) QQ NB114_0.out (by simp)); have n4_ := Y0.mk (Y1.trans QK hk (.inl rfl)); have n5_ := Y0.mk (hb); have n6_ := Y0.mk (hi); clear HO_115002 HO_115003 BK101 BK114 HK HB HI0; have HO_115002 := n0_; have HO_115003 := n1_; have BK101 := n2_; have BK114 := n3_; have HK := n4_; have HB := n5_; have HI0 := n6_; clear n0_ n1_ n2_ n3_ n4_ n5_ n6_; (try clear hb); (try clear hb2); (try clear hk); (try clear hi)))
    have n_ := put7 (Kd.R_drew HO_115002.out) (Kd.N_drew HO_115003.out) (Yb BK101.out) (Yb BK114.out) (YC.drew HI0.out) (Y1G HK.out) (YP HB.out)
    clear HO_115002
    clear HO_115003
    clear BK101
    clear BK114
    clear HI0
    clear HK
    clear HB
    obtain ⟨HO_115002, HO_115003, BK101, BK114, HI0, HK, HB⟩ := n_
    refine Y1m (n := 7) (S := fun w' => w'.cell? ⟨gb114, 0, none⟩ = some (.int .i64 x115000_1) ∧ w'.cell? ⟨gb114, 1, none⟩ = some (.string x115001_1) ∧ w'.cell? ⟨gb114, 2, none⟩ = some (u115002) ∧ w'.cell? ⟨gb114, 3, none⟩ = some (u115003)) (ds := [6]) bz7_0 Z4 rfl rfl ⟨(Y2 BK114.out 0).trans rfl, (Y2 BK114.out 1).trans rfl, (Y2 BK114.out 2).trans rfl, (Y2 BK114.out 3).trans rfl⟩ (fun hHeld => ?_)
    generalize w15.drew = w16 at HO_115002 HO_115003 BK101 BK114 HI0 HK HB hHeld ⊢
    refine Y3Z (i := 1) (N := some 12) (v := ?_) (a' := ?_) bz7_2 rfl rfl Z4 (fun _ _ _ h => h) (Or.inl ⟨by rfl, ?_⟩) ?_ ?_
    rotate_left
    ·intro w'
     go_simp
     with_reducible rfl
    rotate_left
    ·simp only [Act.put, List.setIfInBounds_toArray, List.set_cons_zero, List.set_cons_succ, Y16, Y17]
     rfl
    refine Y3Z (i := 2) (N := some 13) (v := ?_) (a' := ?_) bz7_6 rfl rfl Z4 (fun _ _ _ h => h) (Or.inl ⟨by rfl, ?_⟩) ?_ ?_
    rotate_left
    ·intro w'
     go_simp
     with_reducible rfl
    rotate_left
    ·simp only [Act.put, List.setIfInBounds_toArray, List.set_cons_zero, List.set_cons_succ, Y16, Y17]
     rfl
    refine Y6c (i := 0) (N := some 11) (v := ?_) (a' := ?_) bz7_7 rfl rfl Z4 (fun _ _ _ h => h) (Or.inl ⟨by rfl, ?_⟩) hHeld ?_ ?_
    rotate_left
    ·rintro w' ⟨s0, s1, s2, s3⟩
     go_simp
     with_reducible rfl
    rotate_left
    ·simp only [Act.put, List.setIfInBounds_toArray, List.set_cons_zero, List.set_cons_succ, Y16, Y17]
     rfl
    refine Y2Q (i := 3) (N := some 14) bz7_f rfl rfl Z4 (by decide) (fun K hK => ?_)
    refine Y1Q Tryd.func96 Z4 rfl #[.pointer (some ⟨g, 0, none⟩), .int .i64 a1] (by rfl) rfl rfl Z0 ?_
    with_reducible refine ((ih k1 ZV).2.1 g t116 t117 t118 t119 a1 t120 t121 t122 t125 t128 t129 t130 t131 w0 _ ?side1 ?side2 ?side3 A14.out).mono ?_
    (case side1 => exact Z1u)
    (case side2 => exact QB)
    (case side3 => exact Z22)
    rintro e w17 ⟨v123, v126, rfl, ho0, ho1, hi, hb, hk⟩
    refine ⟨_, rfl, ?_⟩
    have n0_ := Y0.mk (Kd.R_mono (Kd.R_told (Kd.R_oldK (YC.apart (show YC w0 _ g t116 t117 t118 t119 from QI81_0) Zs (by decide)) hk) (Kd.R_base ho0)) (fun _ h_ => h_.1))
    have n1_ := Y0.mk (Kd.N_mono (Kd.N_told (Kd.N_told (Kd.N_oldK (Kd.N_mono (ok := fun k_ => (((w.heap.size ≤ k_)) ∧ (some k_ ≠ (u115002 : Value).ownBlock ∧ (k_ ≠ gb101 ∧ (k_ ≠ gb114 ∧ k_ ≠ g))))) ZE (fun k_ hk_ => (⟨hk_, hk_.2.2.2.2⟩ : _ ∧ k_ ≠ g))) hk) (Kd.R_base ho0)) (Kd.N_base ho1)) (fun _ h_ => h_.1))
    have n2_ := Y0.mk (Y1.blk hk (g' := gb101) (o := .cells #[.int .i64 0, .string (⟨#[]⟩ : ByteArray), .slice none 0 0, .slice none 0 0] 37 (0, 0)) QQ NB101_0.out (by simp))
    have n3_ := Y0.mk (Y1.blk hk (g' := gb114) (o := .cells #[.int .i64 x115000_1, .string x115001_1, u115002, u115003] 37 (0, 0)) QQ NB114_0.out (by simp))
    have n4_ := Y0.mk (Kd.R_lower (Kd.R_new' (Kd.R_newM (M := fun k_ => (w.heap.size ≤ k_)) (Kd.R_mono (ok' := fun k_ => True) ho0 (fun _ hk_ => trivial)) (Y7 (w := w) (g := g) (row := none) QK) (fun k_ h_ => h_)) (Kd.R_lt Zs)) (Y7 (w := w) (g := g) (row := none) QK))
    have n5_ := Y0.mk (Kd.N_lower (Kd.N_mono (ok' := fun k_ => (w.heap.size ≤ k_) ∧ some k_ ≠ (v123 : Value).ownBlock ∧ some k_ ≠ (u115002 : Value).ownBlock ∧ some k_ ≠ (u115003 : Value).ownBlock ∧ k_ ≠ gb101 ∧ k_ ≠ gb114 ∧ k_ ≠ g) ho1 (fun k_ hk_ => ⟨(Nat.le_trans (Y7 (w := w) (g := g) (row := none) QK) hk_.1), hk_.2, (Kd.fresh' (Kd.R_lt Zs) k_ hk_.1), (Kd.fresh' (Kd.N_lt ZE) k_ hk_.1), (Kd.freshB (g := gb101) (o := .cells #[.int .i64 0, .string (⟨#[]⟩ : ByteArray), .slice none 0 0, .slice none 0 0] 37 (0, 0)) QQ k_ hk_.1), (Kd.freshB (g := gb114) (o := .cells #[.int .i64 x115000_1, .string x115001_1, u115002, u115003] 37 (0, 0)) QQ k_ hk_.1), (YC.fresh QI81_0 k_ hk_.1)⟩)) (Y7 (w := w) (g := g) (row := none) QK))
    have n6_ := Y0.mk (Y1.trans QK hk (.inl rfl))
    have n7_ := Y0.mk (hb)
    have n8_ := Y0.mk (hi)
    clear HO_115002
    clear HO_115003
    clear BK101
    clear BK114
    clear HK
    clear HB
    clear HI0
    have HO_115002 := n0_
    have HO_115003 := n1_
    have BK101 := n2_
    have BK114 := n3_
    have HO124 := n4_
    have HO127 := n5_
    have HK := n6_
    have HB := n7_
    have HI0 := n8_
    clear n0_ n1_ n2_ n3_ n4_ n5_ n6_ n7_ n8_
    (try clear hb)
    (try clear hb2)
    (try clear hk)
    (try clear hi)
    (try clear ho0)
    (try clear ho1)
    obtain ⟨Ao18, co18, eo18⟩ := Kd.R_slice HO_115002.out
    (first | subst eo18 | (injection eo18 with f1_ f2_ f3_; have f4_ := f1_.symm; have f5_ := f3_.symm; clear f1_ f2_ f3_; subst f4_; subst f5_))
    obtain ⟨Ao19, co19, eo19⟩ := Kd.N_slice HO_115003.out
    (first | subst eo19 | (injection eo19 with f1_ f2_ f3_; have f4_ := f1_.symm; have f5_ := f3_.symm; clear f1_ f2_ f3_; subst f4_; subst f5_))
    obtain ⟨Ao20, co20, eo20⟩ := Kd.R_slice HO124.out
    (first | subst eo20 | (injection eo20 with f1_ f2_ f3_; have f4_ := f1_.symm; have f5_ := f3_.symm; clear f1_ f2_ f3_; subst f4_; subst f5_))
    obtain ⟨Ao21, co21, eo21⟩ := Kd.N_slice HO127.out
    (first | subst eo21 | (injection eo21 with f1_ f2_ f3_; have f4_ := f1_.symm; have f5_ := f3_.symm; clear f1_ f2_ f3_; subst f4_; subst f5_))
    refine hK.out _ _ ⟨(Y2 BK114.out 0).trans rfl, (Y2 BK114.out 1).trans rfl, (Y2 BK114.out 2).trans rfl, (Y2 BK114.out 3).trans rfl⟩ (fun hHeld => ?_)
    clear hK K
    refine Y1A (a' := ?_) ?_ ?_
    rotate_left
    ·show Act.put _ (some 14) _ = _
     simp only [Act.put, List.setIfInBounds_toArray, List.set_cons_zero, List.set_cons_succ, Y16, Y17]
     rfl
    refine Y2Q (i := 4) (N := some 15) Y6n rfl rfl Z4 (by decide) (fun K hK => ?_)
    refine Kd.N_lit_step k37 _ 37 ?hg (N' := 15) ?hd (xs := ([(⟨x115000_1, x115001_1, x115002_1, x115003_1⟩ : S37), (⟨t120, t121, t122, t125⟩ : S37)] : List (S37))) (inner := [.int .i64 x115000_1, .string x115001_1, .slice Ao18 x115002_1.length co18, .slice Ao19 x115003_1.length co19, .int .i64 t120, .string t121, .slice Ao20 t122.length co20, .slice Ao21 t125.length co21]) (ok := (fun k_ => (w.heap.size ≤ k_) ∧ k_ ≠ gb101 ∧ k_ ≠ gb114 ∧ k_ ≠ g)) (okp := (fun k_ => (w.heap.size ≤ k_) ∧ k_ ≠ gb101 ∧ k_ ≠ gb114 ∧ k_ ≠ g)) ?hr ?hp (fun _ hk => hk) ((show ∀ k_, w17.heap.size ≤ k_ → (fun k_ => (w.heap.size ≤ k_) ∧ k_ ≠ gb101 ∧ k_ ≠ gb114 ∧ k_ ≠ g) k_ from fun k_ hk => ⟨(Nat.le_trans (Y7 (w := w) (g := g) (row := none) QK) hk), Kd.freshB (g := gb101) (o := .cells #[.int .i64 0, .string (⟨#[]⟩ : ByteArray), .slice none 0 0, .slice none 0 0] 37 (0, 0)) QQ k_ hk, Kd.freshB (g := gb114) (o := .cells #[.int .i64 x115000_1, .string x115001_1, .slice Ao18 x115002_1.length co18, .slice Ao19 x115003_1.length co19] 37 (0, 0)) QQ k_ hk, YC.fresh QI81_0 k_ hk⟩) _ (Nat.le_refl _)) (Below.refl _ _) (Nat.le_refl _) (by simp) ?_; (case hd => rfl); (case hg => rfl); (case hr => exact Zb); (case hp => exact (Y1F.c4 (show Kd.FK k37 _ _ (⟨x115000_1, x115001_1, x115002_1, x115003_1⟩ : S37) [.int .i64 x115000_1, .string x115001_1, .slice Ao18 x115002_1.length co18, .slice Ao19 x115003_1.length co19] from (Y2g _ _ (⟨x115000_1, x115001_1, x115002_1, x115003_1⟩ : S37) (Kd.R_reads' (Kd.R_mono (ok' := (fun k_ => (w.heap.size ≤ k_) ∧ k_ ≠ gb101 ∧ k_ ≠ gb114 ∧ k_ ≠ g)) (YC.apart HI0.out (Kd.R_types (Kd.R_types (HO_115002.out) BK101.out (by decide)) BK114.out (by decide)) (by decide)) (fun k_ hk => ⟨hk.1.1.1.1, ⟨hk.1.1.2, ⟨hk.1.2, hk.2⟩⟩⟩))).2.1 (Kd.R_F (Kd.R_mono (ok' := (fun k_ => (w.heap.size ≤ k_) ∧ k_ ≠ gb101 ∧ k_ ≠ gb114 ∧ k_ ≠ g)) (YC.apart HI0.out (Kd.R_types (Kd.R_types (HO_115002.out) BK101.out (by decide)) BK114.out (by decide)) (by decide)) (fun k_ hk => ⟨hk.1.1.1.1, ⟨hk.1.1.2, ⟨hk.1.2, hk.2⟩⟩⟩))) (Kd.N_reads' (Kd.N_mono (ok' := (fun k_ => (w.heap.size ≤ k_) ∧ k_ ≠ gb101 ∧ k_ ≠ gb114 ∧ k_ ≠ g)) (HO_115003.out) (fun k_ hk => ⟨hk.1.1.1, ⟨hk.1.1.2.2.1, ⟨hk.1.1.2.2.2.1, hk.1.1.2.2.2.2⟩⟩⟩))).2.1 (Kd.N_F (Kd.N_mono (ok' := (fun k_ => (w.heap.size ≤ k_) ∧ k_ ≠ gb101 ∧ k_ ≠ gb114 ∧ k_ ≠ g)) (HO_115003.out) (fun k_ hk => ⟨hk.1.1.1, ⟨hk.1.1.2.2.1, ⟨hk.1.1.2.2.2.1, hk.1.1.2.2.2.2⟩⟩⟩))))) (Y1F.c4 (show Kd.FK k37 _ _ (⟨t120, t121, t122, t125⟩ : S37) [.int .i64 t120, .string t121, .slice Ao20 t122.length co20, .slice Ao21 t125.length co21] from (Y2g _ _ (⟨t120, t121, t122, t125⟩ : S37) (Kd.R_reads' (Kd.R_mono (ok' := (fun k_ => (w.heap.size ≤ k_) ∧ k_ ≠ gb101 ∧ k_ ≠ gb114 ∧ k_ ≠ g)) (YC.apart HI0.out (Kd.R_types (Kd.R_types (HO124.out) BK101.out (by decide)) BK114.out (by decide)) (by decide)) (fun k_ hk => ⟨hk.1.1.1.1.1, ⟨hk.1.1.2, ⟨hk.1.2, hk.2⟩⟩⟩))).2.1 (Kd.R_F (Kd.R_mono (ok' := (fun k_ => (w.heap.size ≤ k_) ∧ k_ ≠ gb101 ∧ k_ ≠ gb114 ∧ k_ ≠ g)) (YC.apart HI0.out (Kd.R_types (Kd.R_types (HO124.out) BK101.out (by decide)) BK114.out (by decide)) (by decide)) (fun k_ hk => ⟨hk.1.1.1.1.1, ⟨hk.1.1.2, ⟨hk.1.2, hk.2⟩⟩⟩))) (Kd.N_reads' (Kd.N_mono (ok' := (fun k_ => (w.heap.size ≤ k_) ∧ k_ ≠ gb101 ∧ k_ ≠ gb114 ∧ k_ ≠ g)) (HO127.out) (fun k_ hk => ⟨hk.1, ⟨hk.2.2.2.2.1, ⟨hk.2.2.2.2.2.1, hk.2.2.2.2.2.2⟩⟩⟩))).2.1 (Kd.N_F (Kd.N_mono (ok' := (fun k_ => (w.heap.size ≤ k_) ∧ k_ ≠ gb101 ∧ k_ ≠ gb114 ∧ k_ ≠ g)) (HO127.out) (fun k_ hk => ⟨hk.1, ⟨hk.2.2.2.2.1, ⟨hk.2.2.2.2.2.1, hk.2.2.2.2.2.2⟩⟩⟩))))) (Y1F.none _ _))))
    intro v133 w22 ho23 hb hg_ hnew_
    clear hg_ hnew_
    (first | rw [← Ny132.out] at ho23 | (simp only [Int.reduceToNat] at ho23; rw [← Ny132.out] at ho23))
    have n_ := Y3t (Kd.N_lower ho23 (Y7 (w := w) (g := g) (row := none) QK)) (Yt (g := gb101) (o := .cells #[.int .i64 0, .string (⟨#[]⟩ : ByteArray), .slice none 0 0, .slice none 0 0] 37 (0, 0)) QQ hb) (Yt (g := gb114) (o := .cells #[.int .i64 x115000_1, .string x115001_1, .slice Ao18 x115002_1.length co18, .slice Ao19 x115003_1.length co19] 37 (0, 0)) QQ hb) (YC.below QI81_0 hb) (Y1.trans QK (Y1.of_below hb g none) (.inl rfl)) (Y8 QB hb)
    clear BK101
    clear BK114
    clear HI0
    clear HK
    clear HB
    clear HO124
    clear HO127
    clear HO_115002
    clear HO_115003
    obtain ⟨HO134, BK101, BK114, HI0, HK, HB⟩ := n_
    clear hb ho23
    obtain ⟨Ao24, co24, eo24⟩ := Kd.N_slice HO134.out
    (first | subst eo24 | (injection eo24 with f1_ f2_ f3_; have f4_ := f1_.symm; have f5_ := f3_.symm; clear f1_ f2_ f3_; subst f4_; subst f5_))
    refine hK.out _ _ ⟨(Y2 BK114.out 0).trans rfl, (Y2 BK114.out 1).trans rfl, (Y2 BK114.out 2).trans rfl, (Y2 BK114.out 3).trans rfl⟩ (fun hHeld => ?_)
    clear hK K
    refine Y1A (a' := ?_) ?_ ?_
    rotate_left
    ·show Act.put _ (some 15) _ = _
     simp only [Act.put, List.setIfInBounds_toArray, List.set_cons_zero, List.set_cons_succ, Y16, Y17]
     rfl
    refine Y3Z (i := 5) (N := some 16) (v := ?_) (a' := ?_) Y6o rfl rfl Z4 (fun _ _ _ h => h) (Or.inl ⟨by rfl, ?_⟩) ?_ ?_
    rotate_left
    ·intro w'
     go_simp
     with_reducible rfl
    rotate_left
    ·simp only [Act.put, List.setIfInBounds_toArray, List.set_cons_zero, List.set_cons_succ, Y16, Y17]
     rfl
    refine Y6H (i := 6) (N := none) Y6p rfl rfl Z4 (by decide) (fun K hK => ?_)
    have hs25 : w22.cell? ⟨gb114, 0, none⟩ = some (.int .i64 x115000_1) := (Y2 BK114.out 0).trans rfl
    have hfs25 := Y6 BK114.out 0
    have hns25_0 := NB101_114.out
    have hms25_0 := NB114_101.out
    have hs26 : w22.cell? ⟨gb114, 1, none⟩ = some (.string x115001_1) := (Y2 BK114.out 1).trans rfl
    have hfs26 := Y6 BK114.out 1
    have hns26_0 := NB101_114.out
    have hms26_0 := NB114_101.out
    have hs27 : w22.cell? ⟨gb114, 2, none⟩ = some (.slice Ao18 x115002_1.length co18) := (Y2 BK114.out 2).trans rfl
    have hfs27 := Y6 BK114.out 2
    have hns27_0 := NB101_114.out
    have hms27_0 := NB114_101.out
    have hs28 : w22.cell? ⟨gb114, 3, none⟩ = some (.slice Ao19 x115003_1.length co19) := (Y2 BK114.out 3).trans rfl
    have hfs28 := Y6 BK114.out 3
    have hns28_0 := NB101_114.out
    have hms28_0 := NB114_101.out
    refine Y4W (w1 := ?_) (by rfl) rfl ?_ ?_
    rotate_left
    ·go_simp
     rfl
    refine hK.out _ _ ?_
    clear hK K
    refine Y1S Z4 ?_
    try go_wp2
    go_roundg k1
    case measure => have := HK1.out; omega
    case rel => exact ⟨(t128), (t129), (t130), (t131), (4), ((⟨#[]⟩ : ByteArray)), (([] : List ByteArray)), (y132), (.slice none 0 0), (.slice Ao24 y132.length co24), H', ⟨ZV⟩, ⟨Z5⟩, ⟨ZI⟩, ⟨Zh⟩, ⟨Zv⟩, ⟨QI81_0⟩, ⟨QK⟩, ⟨QB⟩⟩
   ·replace c13 := Bool.eq_false_iff.mpr c13
    subst c13
    have H1 : (some (x115000_1, x115001_1, x115002_1, x115003_1, t116, t117, t118, t119)) = some (r1, r2, r3, r4, r5, r6, r7, r8) := by rw [if_neg (show ¬ (false = true) by decide)] at H; exact H
    clear H
    have H := H1
    clear H1
    simp only [Option.some.injEq, Prod.mk.injEq] at H
    obtain ⟨rfl, rfl, rfl, rfl, rfl, rfl, rfl, rfl⟩ := H
    go_wp2_with (first | ((with_reducible refine Yl (f := 97) rfl ?_); refine YO (some 10) rfl rfl Tryd.func97 Z4 rfl #[.pointer (some ⟨g, 0, none⟩), .int .u8 124] rfl Z0 ?_; (with_reducible refine (Yn.calls k1 g x1000_1 x1001_1 x1002_1 x1003_1 124 false t116 t117 t118 t119 w0 _ ?side1 ?side2 A12.out).mono ?_); (case side1 => exact Z1u); (case side2 => exact QB); rintro e w29 ⟨rfl, hi, hb, hk⟩; refine ⟨_, rfl, ?_⟩; have n0_ := Y0.mk (Kd.R_mono (Kd.R_keep (YC.apart (show YC w0 _ g x1000_1 x1001_1 x1002_1 x1003_1 from QI81_0) Zs (by decide)) hk (fun _ h => h.2)) (fun _ h => h.1)); have n1_ := Y0.mk (Kd.N_mono (Kd.N_keep (Kd.N_mono (ok := fun k_ => (((w.heap.size ≤ k_)) ∧ (some k_ ≠ (u115002 : Value).ownBlock ∧ (k_ ≠ gb101 ∧ (k_ ≠ gb114 ∧ k_ ≠ g))))) ZE (fun k_ hk_ => (⟨hk_, hk_.2.2.2.2⟩ : _ ∧ k_ ≠ g))) hk (fun _ h => h.2)) (fun _ h => h.1)); have n2_ := Y0.mk (Y1.blk hk (g' := gb101) (o := .cells #[.int .i64 0, .string (⟨#[]⟩ : ByteArray), .slice none 0 0, .slice none 0 0] 37 (0, 0)) QQ NB101_0.out (by simp)); have n3_ := Y0.mk (Y1.blk hk (g' := gb114) (o := .cells #[.int .i64 x115000_1, .string x115001_1, u115002, u115003] 37 (0, 0)) QQ NB114_0.out (by simp)); have n4_ := Y0.mk (Y1.trans QK hk (.inl rfl)); have n5_ := Y0.mk (hb); have n6_ := Y0.mk (hi); clear HO_115002 HO_115003 BK101 BK114 HK HB HI0; have HO_115002 := n0_; have HO_115003 := n1_; have BK101 := n2_; have BK114 := n3_; have HK := n4_; have HB := n5_; have HI0 := n6_; clear n0_ n1_ n2_ n3_ n4_ n5_ n6_; (try clear hb); (try clear hb2); (try clear hk); (try clear hi); have hnb30 := NB114_101.out; have hnc30 := NB101_114.out; have hnb31 := NB114_0.out; have hnc31 := NB0_114.out; obtain ⟨hcz32_0, hcz32_1, hcz32_2, hcz32_3, hfz32_0, hfz32_1, hfz32_2, hfz32_3⟩ := YA BK114.out; have hnb33 := NB101_0.out; have hnc33 := NB0_101.out; obtain ⟨hcz34_0, hcz34_1, hcz34_2, hcz34_3, hfz34_0, hfz34_1, hfz34_2, hfz34_3⟩ := YA BK101.out; obtain ⟨Ao35, co35, eo35⟩ := Kd.R_slice HO_115002.out; subst eo35; obtain ⟨Ao36, co36, eo36⟩ := Kd.N_slice HO_115003.out; subst eo36))
    refine bodyPost_ret (results_cell_row rfl _ _ gb101 37 #[.int .i64 x115000_1, .string x115001_1, .slice Ao35 x115002_1.length co35, .slice Ao36 x115003_1.length co36] (0, 0) _ rfl Z2h Tryd.underlying37 rfl Z4) rfl ?_
    exact ⟨_, _, Z2, Z11, ZO, QI81_0, QB, QK⟩
set_option maxHeartbeats 8000000 in
set_option maxRecDepth 100000 in
theorem Yp.step (k : Nat) (ih : ∀ j_ < k, Yj.Spec j_ ∧ Yp.Spec j_ ∧ Y9.Spec j_ ∧ Ya.Spec j_) : ∀ (g : Nat) (s0_0 : ByteArray) (s0_1 : Int) (s0_2 : Int) (s0_3 : Int) (a1 : Int) (r1 : Int) (r2 : ByteArray) (r3 : List ByteArray) (r4 : List (S37)) (r5 : ByteArray) (r6 : Int) (r7 : Int) (r8 : Int) (w0 w : World) (hI : YC w0 w g s0_0 s0_1 s0_2 s0_3) (hB : Below w0.heap.size w0 w) (hT : Tabs w0) (h : Yp.f k s0_0 s0_1 s0_2 s0_3 a1 = some (r1, r2, r3, r4, r5, r6, r7, r8)),
  Calls Tryd.prog 96 #[.pointer (some ⟨g, 0, none⟩), .int .i64 a1] w fun e w' => ∃ v2_ v3_ : Value, e = .returned (.agg #[.int .i64 r1, .string r2, v2_, v3_]) ∧ Kd.R Kd.string 9 w' w.heap.size (fun k_ => (w.heap.size ≤ k_)) v2_ r3 ∧ Kd.N k37 37 w' w.heap.size (fun k_ => (w.heap.size ≤ k_) ∧ some k_ ≠ (v2_ : Value).ownBlock) v3_ r4 ∧ YC w0 w' g r5 r6 r7 r8 ∧ Below w0.heap.size w0 w' ∧ Y1 w w' g none := by
 intro g s0_0 s0_1 s0_2 s0_3 a1 r1 r2 r3 r4 r5 r6 r7 r8 w0 w hI hB hT h
 cases k with
 | zero => exact absurd h (by simp [Yp.f])
 | succ k =>
 simp only [Yp.f] at h
 have HT := Y0.mk hT
 clear hT
 have hu37 := Tryd.underlying37
 have HI0 := Y0.mk hI
 have HK := Y0.mk (Y1.refl w g none)
 have HL := Y0.mk hB.size
 clear hI
 have HW0 := Y0.mk hB.size
 have HB := Y0.mk hB
 clear hB
 have H : ((Y9.f k s0_0 s0_1 s0_2 s0_3 a1).bind fun bt136 => (Yp.l0 k a1 bt136.2.2.2.2.1 bt136.2.2.2.2.2.1 bt136.2.2.2.2.2.2.1 bt136.2.2.2.2.2.2.2 bt136.1 bt136.2.1 bt136.2.2.1 bt136.2.2.2.1)) = some (r1, r2, r3, r4, r5, r6, r7, r8) := h
 clear h
 replace H := Option.bind_eq_some_iff.mp H
 obtain ⟨⟨t136, t137, t138, t141, t144, t145, t146, t147⟩, A30, H⟩ := H
 replace H : (Yp.l0 k a1 t144 t145 t146 t147 t136 t137 t138 t141) = some (r1, r2, r3, r4, r5, r6, r7, r8) := H
 have A3 := Y0.mk A30
 clear A30
 have H' := Y0.mk H
 clear H
 go_enter Tryd.func96, Tryd.ntmps96
 go_wp2_with (first | ((with_reducible refine YF (N := 4) rfl ?_); refine YD ?hg (N := 4) ?hd (cs := #[.int .i64 0, .string (⟨#[]⟩ : ByteArray), .slice none 0 0, .slice none 0 0]) (t := 37) ?hr ?_; (case hd => rfl); (case hg => rfl); (case hr => exact Zb); intro gb135 hg w4 hbox hb; have n_ := Y4q (YC.below QI81_0 hb) (Y1.trans QK (Y1.of_below hb g none) (.inl rfl)) (Y8 QB hb) (hbox) ((by rw [hg]; exact (Y7 (w := w) (g := g) (row := none) QK) : w.heap.size ≤ gb135)) ((Nat.le_trans HW0.out (by rw [hg]; exact (Y7 (w := w) (g := g) (row := none) QK) : w.heap.size ≤ gb135) : w0.heap.size ≤ gb135)) ((by rw [hg]; exact Nat.ne_of_lt (YC.lt (show YC w0 _ g s0_0 s0_1 s0_2 s0_3 from QI81_0)) : g ≠ gb135)) ((by rw [hg]; exact Nat.ne_of_gt (YC.lt (show YC w0 _ g s0_0 s0_1 s0_2 s0_3 from QI81_0)) : gb135 ≠ g)); clear HI0 HK HB; obtain ⟨HI0, HK, HB, BK135, GW135, GE135, NB0_135, NB135_0⟩ := n_; clear hb hbox hg) | ((with_reducible refine Yl (f := 113) rfl ?_); refine YO (some 8) rfl rfl Tryd.func113 Z4 rfl #[.pointer (some ⟨g, 0, none⟩), .int .i64 a1] rfl Z0 ?_; (with_reducible refine ((ih k (by omega)).2.2.1 g s0_0 s0_1 s0_2 s0_3 a1 t136 t137 t138 t141 t144 t145 t146 t147 w0 _ ?side1 ?side2 ?side3 A3.out).mono ?_); (case side1 => exact Z1u); (case side2 => exact QB); (case side3 => exact Z22); rintro e w5 ⟨v139, v142, rfl, ho0, ho1, hi, hb, hk⟩; refine ⟨_, rfl, ?_⟩; have n0_ := Y0.mk (Y1.blk hk (g' := gb135) (o := .cells #[.int .i64 0, .string (⟨#[]⟩ : ByteArray), .slice none 0 0, .slice none 0 0] 37 (0, 0)) QQ NB135_0.out (by simp)); have n1_ := Y0.mk (Kd.R_lower (Kd.R_newM (M := fun k_ => (w.heap.size ≤ k_)) (Kd.R_mono (ok' := fun k_ => True) ho0 (fun _ hk_ => trivial)) (Y7 (w := w) (g := g) (row := none) QK) (fun k_ h_ => h_)) (Y7 (w := w) (g := g) (row := none) QK)); have n2_ := Y0.mk (Kd.N_lower (Kd.N_mono (ok' := fun k_ => (w.heap.size ≤ k_) ∧ some k_ ≠ (v139 : Value).ownBlock ∧ k_ ≠ gb135 ∧ k_ ≠ g) ho1 (fun k_ hk_ => ⟨(Nat.le_trans (Y7 (w := w) (g := g) (row := none) QK) hk_.1), hk_.2, (Kd.freshB (g := gb135) (o := .cells #[.int .i64 0, .string (⟨#[]⟩ : ByteArray), .slice none 0 0, .slice none 0 0] 37 (0, 0)) QQ k_ hk_.1), (YC.fresh QI81_0 k_ hk_.1)⟩)) (Y7 (w := w) (g := g) (row := none) QK)); have n3_ := Y0.mk (Y1.trans QK hk (.inl rfl)); have n4_ := Y0.mk (hb); have n5_ := Y0.mk (hi); clear BK135 HK HB HI0; have BK135 := n0_; have HO140 := n1_; have HO143 := n2_; have HK := n3_; have HB := n4_; have HI0 := n5_; clear n0_ n1_ n2_ n3_ n4_ n5_; (try clear hb); (try clear hb2); (try clear hk); (try clear hi); (try clear ho0); (try clear ho1)) | ((with_reducible refine YF (N := 5) rfl ?_); refine YD ?hg (N := 5) ?hd (cs := #[.int .i64 0, .string (⟨#[]⟩ : ByteArray), .slice none 0 0, .slice none 0 0]) (t := 37) ?hr ?_; (case hd => rfl); (case hg => rfl); (case hr => exact Zb); intro gb148 hg w6 hbox hb; have n0_ := Y0.mk (Kd.R_below Z20 hb); have n1_ := Y0.mk (Kd.N_below (Kd.N_elderB Z1X gb148 (Nat.le_of_eq hg.symm)) hb); have n2_ := Y0.mk (YC.below QI81_0 hb); have n3_ := Y0.mk (Yt (g := gb135) (o := .cells #[.int .i64 0, .string (⟨#[]⟩ : ByteArray), .slice none 0 0, .slice none 0 0] 37 (0, 0)) QQ hb); have n4_ := Y0.mk (Y1.trans QK (Y1.of_below hb g none) (.inl rfl)); have n5_ := Y0.mk (Y8 QB hb); have n6_ := Y0.mk (hbox); have n7_ := Y0.mk ((by rw [hg]; exact (Y7 (w := w) (g := g) (row := none) QK) : w.heap.size ≤ gb148)); have n8_ := Y0.mk ((Nat.le_trans HW0.out (by rw [hg]; exact (Y7 (w := w) (g := g) (row := none) QK) : w.heap.size ≤ gb148) : w0.heap.size ≤ gb148)); have n9_ := Y0.mk ((by rw [hg]; exact Nat.ne_of_lt (Y14 (g := gb135) (o := .cells #[.int .i64 0, .string (⟨#[]⟩ : ByteArray), .slice none 0 0, .slice none 0 0] 37 (0, 0)) QQ) : gb135 ≠ gb148)); have n10_ := Y0.mk ((by rw [hg]; exact Nat.ne_of_gt (Y14 (g := gb135) (o := .cells #[.int .i64 0, .string (⟨#[]⟩ : ByteArray), .slice none 0 0, .slice none 0 0] 37 (0, 0)) QQ) : gb148 ≠ gb135)); have n11_ := Y0.mk ((by rw [hg]; exact Nat.ne_of_lt (YC.lt (show YC w0 _ g t144 t145 t146 t147 from QI81_0)) : g ≠ gb148)); have n12_ := Y0.mk ((by rw [hg]; exact Nat.ne_of_gt (YC.lt (show YC w0 _ g t144 t145 t146 t147 from QI81_0)) : gb148 ≠ g)); clear HO140 HO143 HI0 BK135 HK HB; have HO140 := n0_; have HO143 := n1_; have HI0 := n2_; have BK135 := n3_; have HK := n4_; have HB := n5_; have BK148 := n6_; have GW148 := n7_; have GE148 := n8_; have NB135_148 := n9_; have NB148_135 := n10_; have NB0_148 := n11_; have NB148_0 := n12_; clear n0_ n1_ n2_ n3_ n4_ n5_ n6_ n7_ n8_ n9_ n10_ n11_ n12_ hb hbox hg; have hnb7 := NB148_135.out; have hnc7 := NB135_148.out; have hnb8 := NB148_0.out; have hnc8 := NB0_148.out; obtain ⟨hcz9_0, hcz9_1, hcz9_2, hcz9_3, hfz9_0, hfz9_1, hfz9_2, hfz9_3⟩ := YA BK148.out; obtain ⟨Ao10, co10, eo10⟩ := Kd.R_slice HO140.out; subst eo10; obtain ⟨Ao11, co11, eo11⟩ := Kd.N_slice HO143.out; subst eo11))
 go_loopg [] k (fun kq w' => ∃ (x1000_1 : ByteArray) (x1001_1 : Int) (x1002_1 : Int) (x1003_1 : Int) (x149000_1 : Int) (x149001_1 : ByteArray) (x149002_1 : List ByteArray) (x149003_1 : List (S37)) (u149002 : Value) (u149003 : Value), Y0 (Yp.l0 kq a1 x1000_1 x1001_1 x1002_1 x1003_1 x149000_1 x149001_1 x149002_1 x149003_1 = some (r1, r2, r3, r4, r5, r6, r7, r8)) ∧ Y0 (kq ≤ k) ∧ Y0 (Kd.R Kd.string 9 w' w.heap.size (fun k_ => (w.heap.size ≤ k_)) u149002 x149002_1) ∧ Y0 (Kd.N k37 37 w' w.heap.size (fun k_ => (w.heap.size ≤ k_) ∧ some k_ ≠ (u149002 : Value).ownBlock ∧ k_ ≠ gb135 ∧ k_ ≠ gb148 ∧ k_ ≠ g) u149003 x149003_1) ∧ Y0 (w'.heap[gb135]? = some (.cells #[.int .i64 0, .string (⟨#[]⟩ : ByteArray), (.slice none 0 0), (.slice none 0 0)] 37 (0, 0))) ∧ Y0 (w'.heap[gb148]? = some (.cells #[.int .i64 x149000_1, .string x149001_1, u149002, u149003] 37 (0, 0))) ∧ Y0 (YC w0 w' g x1000_1 x1001_1 x1002_1 x1003_1) ∧ Y0 (Y1 w w' g none) ∧ Y0 (Below w0.heap.size w0 w'))
 case atStart => exact ⟨(t144), (t145), (t146), (t147), (t136), (t137), (t138), (t141), (.slice Ao10 t138.length co10), (.slice Ao11 t141.length co11), H', ⟨Nat.le_refl _⟩, ⟨Z18⟩, ⟨ZL⟩, ⟨Zi⟩, ⟨Z2m⟩, ⟨QI81_0⟩, ⟨QK⟩, ⟨QB⟩⟩
 case round =>
  clear H'
  try clear c1
  try clear p2
  try clear c7
  try clear c8
  try clear c9
  try clear c11
  try clear hcz9_0 hcz9_1 hcz9_2 hcz9_3 hfz9_0 hfz9_1 hfz9_2 hfz9_3
  obtain ⟨x1000_1, x1001_1, x1002_1, x1003_1, x149000_1, x149001_1, x149002_1, x149003_1, u149002, u149003, HA, HK1, HO_149002, HO_149003, BK135, BK148, HI0, HK, HB⟩ := hrel
  cases gk with
  | zero => exact absurd HA.out (by simp [Yp.l0])
  | succ k1 =>
   have H := HA.out
   clear HA
   simp only [Yp.l0] at H
   replace H := Option.bind_eq_some_iff.mp H
   obtain ⟨⟨t149, t150, t151, t152, t153⟩, A120, H⟩ := H
   replace H : (if t149 = true then ((Y9.f k1 t150 t151 t152 t153 a1).bind fun bt154 => (Yp.l0 k1 a1 bt154.2.2.2.2.1 bt154.2.2.2.2.2.1 bt154.2.2.2.2.2.2.1 bt154.2.2.2.2.2.2.2 3 (⟨#[]⟩ : ByteArray) ([] : List ByteArray) (([(⟨x149000_1, x149001_1, x149002_1, x149003_1⟩ : S37), (⟨bt154.1, bt154.2.1, bt154.2.2.1, bt154.2.2.2.1⟩ : S37)] : List (S37))))) else (some (x149000_1, x149001_1, x149002_1, x149003_1, t150, t151, t152, t153))) = some (r1, r2, r3, r4, r5, r6, r7, r8) := H
   have A12 := Y0.mk A120
   clear A120
   by_cases c13 : t149 = true
   ·subst c13
    have H1 : ((Y9.f k1 t150 t151 t152 t153 a1).bind fun bt154 => (Yp.l0 k1 a1 bt154.2.2.2.2.1 bt154.2.2.2.2.2.1 bt154.2.2.2.2.2.2.1 bt154.2.2.2.2.2.2.2 3 (⟨#[]⟩ : ByteArray) ([] : List ByteArray) (([(⟨x149000_1, x149001_1, x149002_1, x149003_1⟩ : S37), (⟨bt154.1, bt154.2.1, bt154.2.2.1, bt154.2.2.2.1⟩ : S37)] : List (S37))))) = some (r1, r2, r3, r4, r5, r6, r7, r8) := by rw [if_pos rfl] at H; exact H
    clear H
    have H := H1
    clear H1
    replace H := Option.bind_eq_some_iff.mp H
    obtain ⟨⟨t154, t155, t156, t159, t162, t163, t164, t165⟩, A140, H⟩ := H
    replace H : (Yp.l0 k1 a1 t162 t163 t164 t165 3 (⟨#[]⟩ : ByteArray) ([] : List ByteArray) (([(⟨x149000_1, x149001_1, x149002_1, x149003_1⟩ : S37), (⟨t154, t155, t156, t159⟩ : S37)] : List (S37)))) = some (r1, r2, r3, r4, r5, r6, r7, r8) := H
    have A14 := Y0.mk A140
    clear A140
    obtain ⟨y166, hy166⟩ : ∃ y_ : List (S37), y_ = (([(⟨x149000_1, x149001_1, x149002_1, x149003_1⟩ : S37), (⟨t154, t155, t156, t159⟩ : S37)] : List (S37))) := ⟨_, rfl⟩
    replace H : (Yp.l0 k1 a1 t162 t163 t164 t165 3 (⟨#[]⟩ : ByteArray) ([] : List ByteArray) y166) = some (r1, r2, r3, r4, r5, r6, r7, r8) := by first | (rw [hy166]; with_reducible exact H) | (have H2_ := (Option.bind_some _ _).symm.trans H; rw [hy166]; with_reducible exact H2_) | (have H2_ := (Option.bind_some _ _).symm.trans H; with_reducible exact H2_) | with_reducible exact H | (rw [hy166]; exact H) | exact H
    have Ny166 := Y0.mk hy166
    clear hy166
    have H' := Y0.mk H
    clear H
    try go_wp2_with (first | ((with_reducible refine Yl (f := 97) rfl ?_); refine YO (some 10) rfl rfl Tryd.func97 Z4 rfl #[.pointer (some ⟨g, 0, none⟩), .int .u8 47] rfl Z0 ?_; (with_reducible refine (Yn.calls k1 g x1000_1 x1001_1 x1002_1 x1003_1 47 true t150 t151 t152 t153 w0 _ ?side1 ?side2 A12.out).mono ?_); (case side1 => exact Z1u); (case side2 => exact QB); rintro e w15 ⟨rfl, hi, hb, hk⟩; refine ⟨_, rfl, ?_⟩; have n0_ := Y0.mk (Kd.R_mono (Kd.R_keep (YC.apart (show YC w0 _ g x1000_1 x1001_1 x1002_1 x1003_1 from QI81_0) Zt (by decide)) hk (fun _ h => h.2)) (fun _ h => h.1)); have n1_ := Y0.mk (Kd.N_mono (Kd.N_keep (Kd.N_mono (ok := fun k_ => (((w.heap.size ≤ k_)) ∧ (some k_ ≠ (u149002 : Value).ownBlock ∧ (k_ ≠ gb135 ∧ (k_ ≠ gb148 ∧ k_ ≠ g))))) ZG (fun k_ hk_ => (⟨hk_, hk_.2.2.2.2⟩ : _ ∧ k_ ≠ g))) hk (fun _ h => h.2)) (fun _ h => h.1)); have n2_ := Y0.mk (Y1.blk hk (g' := gb135) (o := .cells #[.int .i64 0, .string (⟨#[]⟩ : ByteArray), .slice none 0 0, .slice none 0 0] 37 (0, 0)) QQ NB135_0.out (by simp)); have n3_ := Y0.mk (Y1.blk hk (g' := gb148) (o := .cells #[.int .i64 x149000_1, .string x149001_1, u149002, u149003] 37 (0, 0)) QQ NB148_0.out (by simp)); have n4_ := Y0.mk (Y1.trans QK hk (.inl rfl)); have n5_ := Y0.mk (hb); have n6_ := Y0.mk (hi); clear HO_149002 HO_149003 BK135 BK148 HK HB HI0; have HO_149002 := n0_; have HO_149003 := n1_; have BK135 := n2_; have BK148 := n3_; have HK := n4_; have HB := n5_; have HI0 := n6_; clear n0_ n1_ n2_ n3_ n4_ n5_ n6_; (try clear hb); (try clear hb2); (try clear hk); (try clear hi)))
    have n_ := put7 (Kd.R_drew HO_149002.out) (Kd.N_drew HO_149003.out) (Yb BK135.out) (Yb BK148.out) (YC.drew HI0.out) (Y1G HK.out) (YP HB.out)
    clear HO_149002
    clear HO_149003
    clear BK135
    clear BK148
    clear HI0
    clear HK
    clear HB
    obtain ⟨HO_149002, HO_149003, BK135, BK148, HI0, HK, HB⟩ := n_
    refine Y1m (n := 7) (S := fun w' => w'.cell? ⟨gb148, 0, none⟩ = some (.int .i64 x149000_1) ∧ w'.cell? ⟨gb148, 1, none⟩ = some (.string x149001_1) ∧ w'.cell? ⟨gb148, 2, none⟩ = some (u149002) ∧ w'.cell? ⟨gb148, 3, none⟩ = some (u149003)) (ds := [6]) bz7_0 Z4 rfl rfl ⟨(Y2 BK148.out 0).trans rfl, (Y2 BK148.out 1).trans rfl, (Y2 BK148.out 2).trans rfl, (Y2 BK148.out 3).trans rfl⟩ (fun hHeld => ?_)
    generalize w15.drew = w16 at HO_149002 HO_149003 BK135 BK148 HI0 HK HB hHeld ⊢
    refine Y3Z (i := 1) (N := some 12) (v := ?_) (a' := ?_) bz7_2 rfl rfl Z4 (fun _ _ _ h => h) (Or.inl ⟨by rfl, ?_⟩) ?_ ?_
    rotate_left
    ·intro w'
     go_simp
     with_reducible rfl
    rotate_left
    ·simp only [Act.put, List.setIfInBounds_toArray, List.set_cons_zero, List.set_cons_succ, Y16, Y17]
     rfl
    refine Y3Z (i := 2) (N := some 13) (v := ?_) (a' := ?_) bz7_6 rfl rfl Z4 (fun _ _ _ h => h) (Or.inl ⟨by rfl, ?_⟩) ?_ ?_
    rotate_left
    ·intro w'
     go_simp
     with_reducible rfl
    rotate_left
    ·simp only [Act.put, List.setIfInBounds_toArray, List.set_cons_zero, List.set_cons_succ, Y16, Y17]
     rfl
    refine Y6c (i := 0) (N := some 11) (v := ?_) (a' := ?_) bz7_7 rfl rfl Z4 (fun _ _ _ h => h) (Or.inl ⟨by rfl, ?_⟩) hHeld ?_ ?_
    rotate_left
    ·rintro w' ⟨s0, s1, s2, s3⟩
     go_simp
     with_reducible rfl
    rotate_left
    ·simp only [Act.put, List.setIfInBounds_toArray, List.set_cons_zero, List.set_cons_succ, Y16, Y17]
     rfl
    refine Y2Q (i := 3) (N := some 14) bz7_f rfl rfl Z4 (by decide) (fun K hK => ?_)
    refine Y1Q Tryd.func113 Z4 rfl #[.pointer (some ⟨g, 0, none⟩), .int .i64 a1] (by rfl) rfl rfl Z0 ?_
    with_reducible refine ((ih k1 ZV).2.2.1 g t150 t151 t152 t153 a1 t154 t155 t156 t159 t162 t163 t164 t165 w0 _ ?side1 ?side2 ?side3 A14.out).mono ?_
    (case side1 => exact Z1u)
    (case side2 => exact QB)
    (case side3 => exact Z22)
    rintro e w17 ⟨v157, v160, rfl, ho0, ho1, hi, hb, hk⟩
    refine ⟨_, rfl, ?_⟩
    have n0_ := Y0.mk (Kd.R_mono (Kd.R_told (Kd.R_oldK (YC.apart (show YC w0 _ g t150 t151 t152 t153 from QI81_0) Zt (by decide)) hk) (Kd.R_base ho0)) (fun _ h_ => h_.1))
    have n1_ := Y0.mk (Kd.N_mono (Kd.N_told (Kd.N_told (Kd.N_oldK (Kd.N_mono (ok := fun k_ => (((w.heap.size ≤ k_)) ∧ (some k_ ≠ (u149002 : Value).ownBlock ∧ (k_ ≠ gb135 ∧ (k_ ≠ gb148 ∧ k_ ≠ g))))) ZG (fun k_ hk_ => (⟨hk_, hk_.2.2.2.2⟩ : _ ∧ k_ ≠ g))) hk) (Kd.R_base ho0)) (Kd.N_base ho1)) (fun _ h_ => h_.1))
    have n2_ := Y0.mk (Y1.blk hk (g' := gb135) (o := .cells #[.int .i64 0, .string (⟨#[]⟩ : ByteArray), .slice none 0 0, .slice none 0 0] 37 (0, 0)) QQ NB135_0.out (by simp))
    have n3_ := Y0.mk (Y1.blk hk (g' := gb148) (o := .cells #[.int .i64 x149000_1, .string x149001_1, u149002, u149003] 37 (0, 0)) QQ NB148_0.out (by simp))
    have n4_ := Y0.mk (Kd.R_lower (Kd.R_new' (Kd.R_newM (M := fun k_ => (w.heap.size ≤ k_)) (Kd.R_mono (ok' := fun k_ => True) ho0 (fun _ hk_ => trivial)) (Y7 (w := w) (g := g) (row := none) QK) (fun k_ h_ => h_)) (Kd.R_lt Zt)) (Y7 (w := w) (g := g) (row := none) QK))
    have n5_ := Y0.mk (Kd.N_lower (Kd.N_mono (ok' := fun k_ => (w.heap.size ≤ k_) ∧ some k_ ≠ (v157 : Value).ownBlock ∧ some k_ ≠ (u149002 : Value).ownBlock ∧ some k_ ≠ (u149003 : Value).ownBlock ∧ k_ ≠ gb135 ∧ k_ ≠ gb148 ∧ k_ ≠ g) ho1 (fun k_ hk_ => ⟨(Nat.le_trans (Y7 (w := w) (g := g) (row := none) QK) hk_.1), hk_.2, (Kd.fresh' (Kd.R_lt Zt) k_ hk_.1), (Kd.fresh' (Kd.N_lt ZG) k_ hk_.1), (Kd.freshB (g := gb135) (o := .cells #[.int .i64 0, .string (⟨#[]⟩ : ByteArray), .slice none 0 0, .slice none 0 0] 37 (0, 0)) QQ k_ hk_.1), (Kd.freshB (g := gb148) (o := .cells #[.int .i64 x149000_1, .string x149001_1, u149002, u149003] 37 (0, 0)) QQ k_ hk_.1), (YC.fresh QI81_0 k_ hk_.1)⟩)) (Y7 (w := w) (g := g) (row := none) QK))
    have n6_ := Y0.mk (Y1.trans QK hk (.inl rfl))
    have n7_ := Y0.mk (hb)
    have n8_ := Y0.mk (hi)
    clear HO_149002
    clear HO_149003
    clear BK135
    clear BK148
    clear HK
    clear HB
    clear HI0
    have HO_149002 := n0_
    have HO_149003 := n1_
    have BK135 := n2_
    have BK148 := n3_
    have HO158 := n4_
    have HO161 := n5_
    have HK := n6_
    have HB := n7_
    have HI0 := n8_
    clear n0_ n1_ n2_ n3_ n4_ n5_ n6_ n7_ n8_
    (try clear hb)
    (try clear hb2)
    (try clear hk)
    (try clear hi)
    (try clear ho0)
    (try clear ho1)
    obtain ⟨Ao18, co18, eo18⟩ := Kd.R_slice HO_149002.out
    (first | subst eo18 | (injection eo18 with f1_ f2_ f3_; have f4_ := f1_.symm; have f5_ := f3_.symm; clear f1_ f2_ f3_; subst f4_; subst f5_))
    obtain ⟨Ao19, co19, eo19⟩ := Kd.N_slice HO_149003.out
    (first | subst eo19 | (injection eo19 with f1_ f2_ f3_; have f4_ := f1_.symm; have f5_ := f3_.symm; clear f1_ f2_ f3_; subst f4_; subst f5_))
    obtain ⟨Ao20, co20, eo20⟩ := Kd.R_slice HO158.out
    (first | subst eo20 | (injection eo20 with f1_ f2_ f3_; have f4_ := f1_.symm; have f5_ := f3_.symm; clear f1_ f2_ f3_; subst f4_; subst f5_))
    obtain ⟨Ao21, co21, eo21⟩ := Kd.N_slice HO161.out
    (first | subst eo21 | (injection eo21 with f1_ f2_ f3_; have f4_ := f1_.symm; have f5_ := f3_.symm; clear f1_ f2_ f3_; subst f4_; subst f5_))
    refine hK.out _ _ ⟨(Y2 BK148.out 0).trans rfl, (Y2 BK148.out 1).trans rfl, (Y2 BK148.out 2).trans rfl, (Y2 BK148.out 3).trans rfl⟩ (fun hHeld => ?_)
    clear hK K
    refine Y1A (a' := ?_) ?_ ?_
    rotate_left
    ·show Act.put _ (some 14) _ = _
     simp only [Act.put, List.setIfInBounds_toArray, List.set_cons_zero, List.set_cons_succ, Y16, Y17]
     rfl
    refine Y2Q (i := 4) (N := some 15) Y6n rfl rfl Z4 (by decide) (fun K hK => ?_)
    refine Kd.N_lit_step k37 _ 37 ?hg (N' := 15) ?hd (xs := ([(⟨x149000_1, x149001_1, x149002_1, x149003_1⟩ : S37), (⟨t154, t155, t156, t159⟩ : S37)] : List (S37))) (inner := [.int .i64 x149000_1, .string x149001_1, .slice Ao18 x149002_1.length co18, .slice Ao19 x149003_1.length co19, .int .i64 t154, .string t155, .slice Ao20 t156.length co20, .slice Ao21 t159.length co21]) (ok := (fun k_ => (w.heap.size ≤ k_) ∧ k_ ≠ gb135 ∧ k_ ≠ gb148 ∧ k_ ≠ g)) (okp := (fun k_ => (w.heap.size ≤ k_) ∧ k_ ≠ gb135 ∧ k_ ≠ gb148 ∧ k_ ≠ g)) ?hr ?hp (fun _ hk => hk) ((show ∀ k_, w17.heap.size ≤ k_ → (fun k_ => (w.heap.size ≤ k_) ∧ k_ ≠ gb135 ∧ k_ ≠ gb148 ∧ k_ ≠ g) k_ from fun k_ hk => ⟨(Nat.le_trans (Y7 (w := w) (g := g) (row := none) QK) hk), Kd.freshB (g := gb135) (o := .cells #[.int .i64 0, .string (⟨#[]⟩ : ByteArray), .slice none 0 0, .slice none 0 0] 37 (0, 0)) QQ k_ hk, Kd.freshB (g := gb148) (o := .cells #[.int .i64 x149000_1, .string x149001_1, .slice Ao18 x149002_1.length co18, .slice Ao19 x149003_1.length co19] 37 (0, 0)) QQ k_ hk, YC.fresh QI81_0 k_ hk⟩) _ (Nat.le_refl _)) (Below.refl _ _) (Nat.le_refl _) (by simp) ?_; (case hd => rfl); (case hg => rfl); (case hr => exact Zb); (case hp => exact (Y1F.c4 (show Kd.FK k37 _ _ (⟨x149000_1, x149001_1, x149002_1, x149003_1⟩ : S37) [.int .i64 x149000_1, .string x149001_1, .slice Ao18 x149002_1.length co18, .slice Ao19 x149003_1.length co19] from (Y2g _ _ (⟨x149000_1, x149001_1, x149002_1, x149003_1⟩ : S37) (Kd.R_reads' (Kd.R_mono (ok' := (fun k_ => (w.heap.size ≤ k_) ∧ k_ ≠ gb135 ∧ k_ ≠ gb148 ∧ k_ ≠ g)) (YC.apart HI0.out (Kd.R_types (Kd.R_types (HO_149002.out) BK135.out (by decide)) BK148.out (by decide)) (by decide)) (fun k_ hk => ⟨hk.1.1.1.1, ⟨hk.1.1.2, ⟨hk.1.2, hk.2⟩⟩⟩))).2.1 (Kd.R_F (Kd.R_mono (ok' := (fun k_ => (w.heap.size ≤ k_) ∧ k_ ≠ gb135 ∧ k_ ≠ gb148 ∧ k_ ≠ g)) (YC.apart HI0.out (Kd.R_types (Kd.R_types (HO_149002.out) BK135.out (by decide)) BK148.out (by decide)) (by decide)) (fun k_ hk => ⟨hk.1.1.1.1, ⟨hk.1.1.2, ⟨hk.1.2, hk.2⟩⟩⟩))) (Kd.N_reads' (Kd.N_mono (ok' := (fun k_ => (w.heap.size ≤ k_) ∧ k_ ≠ gb135 ∧ k_ ≠ gb148 ∧ k_ ≠ g)) (HO_149003.out) (fun k_ hk => ⟨hk.1.1.1, ⟨hk.1.1.2.2.1, ⟨hk.1.1.2.2.2.1, hk.1.1.2.2.2.2⟩⟩⟩))).2.1 (Kd.N_F (Kd.N_mono (ok' := (fun k_ => (w.heap.size ≤ k_) ∧ k_ ≠ gb135 ∧ k_ ≠ gb148 ∧ k_ ≠ g)) (HO_149003.out) (fun k_ hk => ⟨hk.1.1.1, ⟨hk.1.1.2.2.1, ⟨hk.1.1.2.2.2.1, hk.1.1.2.2.2.2⟩⟩⟩))))) (Y1F.c4 (show Kd.FK k37 _ _ (⟨t154, t155, t156, t159⟩ : S37) [.int .i64 t154, .string t155, .slice Ao20 t156.length co20, .slice Ao21 t159.length co21] from (Y2g _ _ (⟨t154, t155, t156, t159⟩ : S37) (Kd.R_reads' (Kd.R_mono (ok' := (fun k_ => (w.heap.size ≤ k_) ∧ k_ ≠ gb135 ∧ k_ ≠ gb148 ∧ k_ ≠ g)) (YC.apart HI0.out (Kd.R_types (Kd.R_types (HO158.out) BK135.out (by decide)) BK148.out (by decide)) (by decide)) (fun k_ hk => ⟨hk.1.1.1.1.1, ⟨hk.1.1.2, ⟨hk.1.2, hk.2⟩⟩⟩))).2.1 (Kd.R_F (Kd.R_mono (ok' := (fun k_ => (w.heap.size ≤ k_) ∧ k_ ≠ gb135 ∧ k_ ≠ gb148 ∧ k_ ≠ g)) (YC.apart HI0.out (Kd.R_types (Kd.R_types (HO158.out) BK135.out (by decide)) BK148.out (by decide)) (by decide)) (fun k_ hk => ⟨hk.1.1.1.1.1, ⟨hk.1.1.2, ⟨hk.1.2, hk.2⟩⟩⟩))) (Kd.N_reads' (Kd.N_mono (ok' := (fun k_ => (w.heap.size ≤ k_) ∧ k_ ≠ gb135 ∧ k_ ≠ gb148 ∧ k_ ≠ g)) (HO161.out) (fun k_ hk => ⟨hk.1, ⟨hk.2.2.2.2.1, ⟨hk.2.2.2.2.2.1, hk.2.2.2.2.2.2⟩⟩⟩))).2.1 (Kd.N_F (Kd.N_mono (ok' := (fun k_ => (w.heap.size ≤ k_) ∧ k_ ≠ gb135 ∧ k_ ≠ gb148 ∧ k_ ≠ g)) (HO161.out) (fun k_ hk => ⟨hk.1, ⟨hk.2.2.2.2.1, ⟨hk.2.2.2.2.2.1, hk.2.2.2.2.2.2⟩⟩⟩))))) (Y1F.none _ _))))
    intro v167 w22 ho23 hb hg_ hnew_
    clear hg_ hnew_
    (first | rw [← Ny166.out] at ho23 | (simp only [Int.reduceToNat] at ho23; rw [← Ny166.out] at ho23))
    have n_ := Y3t (Kd.N_lower ho23 (Y7 (w := w) (g := g) (row := none) QK)) (Yt (g := gb135) (o := .cells #[.int .i64 0, .string (⟨#[]⟩ : ByteArray), .slice none 0 0, .slice none 0 0] 37 (0, 0)) QQ hb) (Yt (g := gb148) (o := .cells #[.int .i64 x149000_1, .string x149001_1, .slice Ao18 x149002_1.length co18, .slice Ao19 x149003_1.length co19] 37 (0, 0)) QQ hb) (YC.below QI81_0 hb) (Y1.trans QK (Y1.of_below hb g none) (.inl rfl)) (Y8 QB hb)
    clear BK135
    clear BK148
    clear HI0
    clear HK
    clear HB
    clear HO158
    clear HO161
    clear HO_149002
    clear HO_149003
    obtain ⟨HO168, BK135, BK148, HI0, HK, HB⟩ := n_
    clear hb ho23
    obtain ⟨Ao24, co24, eo24⟩ := Kd.N_slice HO168.out
    (first | subst eo24 | (injection eo24 with f1_ f2_ f3_; have f4_ := f1_.symm; have f5_ := f3_.symm; clear f1_ f2_ f3_; subst f4_; subst f5_))
    refine hK.out _ _ ⟨(Y2 BK148.out 0).trans rfl, (Y2 BK148.out 1).trans rfl, (Y2 BK148.out 2).trans rfl, (Y2 BK148.out 3).trans rfl⟩ (fun hHeld => ?_)
    clear hK K
    refine Y1A (a' := ?_) ?_ ?_
    rotate_left
    ·show Act.put _ (some 15) _ = _
     simp only [Act.put, List.setIfInBounds_toArray, List.set_cons_zero, List.set_cons_succ, Y16, Y17]
     rfl
    refine Y3Z (i := 5) (N := some 16) (v := ?_) (a' := ?_) Y6o rfl rfl Z4 (fun _ _ _ h => h) (Or.inl ⟨by rfl, ?_⟩) ?_ ?_
    rotate_left
    ·intro w'
     go_simp
     with_reducible rfl
    rotate_left
    ·simp only [Act.put, List.setIfInBounds_toArray, List.set_cons_zero, List.set_cons_succ, Y16, Y17]
     rfl
    refine Y6H (i := 6) (N := none) Y6p rfl rfl Z4 (by decide) (fun K hK => ?_)
    have hs25 : w22.cell? ⟨gb148, 0, none⟩ = some (.int .i64 x149000_1) := (Y2 BK148.out 0).trans rfl
    have hfs25 := Y6 BK148.out 0
    have hns25_0 := NB135_148.out
    have hms25_0 := NB148_135.out
    have hs26 : w22.cell? ⟨gb148, 1, none⟩ = some (.string x149001_1) := (Y2 BK148.out 1).trans rfl
    have hfs26 := Y6 BK148.out 1
    have hns26_0 := NB135_148.out
    have hms26_0 := NB148_135.out
    have hs27 : w22.cell? ⟨gb148, 2, none⟩ = some (.slice Ao18 x149002_1.length co18) := (Y2 BK148.out 2).trans rfl
    have hfs27 := Y6 BK148.out 2
    have hns27_0 := NB135_148.out
    have hms27_0 := NB148_135.out
    have hs28 : w22.cell? ⟨gb148, 3, none⟩ = some (.slice Ao19 x149003_1.length co19) := (Y2 BK148.out 3).trans rfl
    have hfs28 := Y6 BK148.out 3
    have hns28_0 := NB135_148.out
    have hms28_0 := NB148_135.out
    refine Y4W (w1 := ?_) (by rfl) rfl ?_ ?_
    rotate_left
    ·go_simp
     rfl
    refine hK.out _ _ ?_
    clear hK K
    refine Y1S Z4 ?_
    try go_wp2
    go_roundg k1
    case measure => have := HK1.out; omega
    case rel => exact ⟨(t162), (t163), (t164), (t165), (3), ((⟨#[]⟩ : ByteArray)), (([] : List ByteArray)), (y166), (.slice none 0 0), (.slice Ao24 y166.length co24), H', ⟨ZV⟩, ⟨Z5⟩, ⟨ZJ⟩, ⟨Zi⟩, ⟨Zu⟩, ⟨QI81_0⟩, ⟨QK⟩, ⟨QB⟩⟩
   ·replace c13 := Bool.eq_false_iff.mpr c13
    subst c13
    have H1 : (some (x149000_1, x149001_1, x149002_1, x149003_1, t150, t151, t152, t153)) = some (r1, r2, r3, r4, r5, r6, r7, r8) := by rw [if_neg (show ¬ (false = true) by decide)] at H; exact H
    clear H
    have H := H1
    clear H1
    simp only [Option.some.injEq, Prod.mk.injEq] at H
    obtain ⟨rfl, rfl, rfl, rfl, rfl, rfl, rfl, rfl⟩ := H
    go_wp2_with (first | ((with_reducible refine Yl (f := 97) rfl ?_); refine YO (some 10) rfl rfl Tryd.func97 Z4 rfl #[.pointer (some ⟨g, 0, none⟩), .int .u8 47] rfl Z0 ?_; (with_reducible refine (Yn.calls k1 g x1000_1 x1001_1 x1002_1 x1003_1 47 false t150 t151 t152 t153 w0 _ ?side1 ?side2 A12.out).mono ?_); (case side1 => exact Z1u); (case side2 => exact QB); rintro e w29 ⟨rfl, hi, hb, hk⟩; refine ⟨_, rfl, ?_⟩; have n0_ := Y0.mk (Kd.R_mono (Kd.R_keep (YC.apart (show YC w0 _ g x1000_1 x1001_1 x1002_1 x1003_1 from QI81_0) Zt (by decide)) hk (fun _ h => h.2)) (fun _ h => h.1)); have n1_ := Y0.mk (Kd.N_mono (Kd.N_keep (Kd.N_mono (ok := fun k_ => (((w.heap.size ≤ k_)) ∧ (some k_ ≠ (u149002 : Value).ownBlock ∧ (k_ ≠ gb135 ∧ (k_ ≠ gb148 ∧ k_ ≠ g))))) ZG (fun k_ hk_ => (⟨hk_, hk_.2.2.2.2⟩ : _ ∧ k_ ≠ g))) hk (fun _ h => h.2)) (fun _ h => h.1)); have n2_ := Y0.mk (Y1.blk hk (g' := gb135) (o := .cells #[.int .i64 0, .string (⟨#[]⟩ : ByteArray), .slice none 0 0, .slice none 0 0] 37 (0, 0)) QQ NB135_0.out (by simp)); have n3_ := Y0.mk (Y1.blk hk (g' := gb148) (o := .cells #[.int .i64 x149000_1, .string x149001_1, u149002, u149003] 37 (0, 0)) QQ NB148_0.out (by simp)); have n4_ := Y0.mk (Y1.trans QK hk (.inl rfl)); have n5_ := Y0.mk (hb); have n6_ := Y0.mk (hi); clear HO_149002 HO_149003 BK135 BK148 HK HB HI0; have HO_149002 := n0_; have HO_149003 := n1_; have BK135 := n2_; have BK148 := n3_; have HK := n4_; have HB := n5_; have HI0 := n6_; clear n0_ n1_ n2_ n3_ n4_ n5_ n6_; (try clear hb); (try clear hb2); (try clear hk); (try clear hi); have hnb30 := NB148_135.out; have hnc30 := NB135_148.out; have hnb31 := NB148_0.out; have hnc31 := NB0_148.out; obtain ⟨hcz32_0, hcz32_1, hcz32_2, hcz32_3, hfz32_0, hfz32_1, hfz32_2, hfz32_3⟩ := YA BK148.out; have hnb33 := NB135_0.out; have hnc33 := NB0_135.out; obtain ⟨hcz34_0, hcz34_1, hcz34_2, hcz34_3, hfz34_0, hfz34_1, hfz34_2, hfz34_3⟩ := YA BK135.out; obtain ⟨Ao35, co35, eo35⟩ := Kd.R_slice HO_149002.out; subst eo35; obtain ⟨Ao36, co36, eo36⟩ := Kd.N_slice HO_149003.out; subst eo36))
    refine bodyPost_ret (results_cell_row rfl _ _ gb135 37 #[.int .i64 x149000_1, .string x149001_1, .slice Ao35 x149002_1.length co35, .slice Ao36 x149003_1.length co36] (0, 0) _ rfl Z2i Tryd.underlying37 rfl Z4) rfl ?_
    exact ⟨_, _, Z2, Z12, ZP, QI81_0, QB, QK⟩
set_option maxHeartbeats 8000000 in
set_option maxRecDepth 100000 in
theorem Y9.step (k : Nat) (ih : ∀ j_ < k, Yj.Spec j_ ∧ Yp.Spec j_ ∧ Y9.Spec j_ ∧ Ya.Spec j_) : ∀ (g : Nat) (s0_0 : ByteArray) (s0_1 : Int) (s0_2 : Int) (s0_3 : Int) (a1 : Int) (r1 : Int) (r2 : ByteArray) (r3 : List ByteArray) (r4 : List (S37)) (r5 : ByteArray) (r6 : Int) (r7 : Int) (r8 : Int) (w0 w : World) (hI : YC w0 w g s0_0 s0_1 s0_2 s0_3) (hB : Below w0.heap.size w0 w) (hT : Tabs w0) (h : Y9.f k s0_0 s0_1 s0_2 s0_3 a1 = some (r1, r2, r3, r4, r5, r6, r7, r8)),
  Calls Tryd.prog 113 #[.pointer (some ⟨g, 0, none⟩), .int .i64 a1] w fun e w' => ∃ v2_ v3_ : Value, e = .returned (.agg #[.int .i64 r1, .string r2, v2_, v3_]) ∧ Kd.R Kd.string 9 w' w.heap.size (fun k_ => (w.heap.size ≤ k_)) v2_ r3 ∧ Kd.N k37 37 w' w.heap.size (fun k_ => (w.heap.size ≤ k_) ∧ some k_ ≠ (v2_ : Value).ownBlock) v3_ r4 ∧ YC w0 w' g r5 r6 r7 r8 ∧ Below w0.heap.size w0 w' ∧ Y1 w w' g none := by
 intro g s0_0 s0_1 s0_2 s0_3 a1 r1 r2 r3 r4 r5 r6 r7 r8 w0 w hI hB hT h
 cases k with
 | zero => exact absurd h (by simp [Y9.f])
 | succ k =>
 simp only [Y9.f] at h
 have HT := Y0.mk hT
 clear hT
 have hu37 := Tryd.underlying37
 have HI0 := Y0.mk hI
 have HK := Y0.mk (Y1.refl w g none)
 have HL := Y0.mk hB.size
 clear hI
 have HW0 := Y0.mk hB.size
 have HB := Y0.mk hB
 clear hB
 have H : ((Ya.f k s0_0 s0_1 s0_2 s0_3 a1).bind fun bt170 => (Y9.l0 k bt170.2.2.2.2.1 bt170.2.2.2.2.2.1 bt170.2.2.2.2.2.2.1 bt170.2.2.2.2.2.2.2 bt170.1 bt170.2.1 bt170.2.2.1 bt170.2.2.2.1)) = some (r1, r2, r3, r4, r5, r6, r7, r8) := h
 clear h
 replace H := Option.bind_eq_some_iff.mp H
 obtain ⟨⟨t170, t171, t172, t175, t178, t179, t180, t181⟩, A30, H⟩ := H
 replace H : (Y9.l0 k t178 t179 t180 t181 t170 t171 t172 t175) = some (r1, r2, r3, r4, r5, r6, r7, r8) := H
 have A3 := Y0.mk A30
 clear A30
 have H' := Y0.mk H
 clear H
 go_enter Tryd.func113, Tryd.ntmps113
 go_wp2_with (first | ((with_reducible refine YF (N := 4) rfl ?_); refine YD ?hg (N := 4) ?hd (cs := #[.int .i64 0, .string (⟨#[]⟩ : ByteArray), .slice none 0 0, .slice none 0 0]) (t := 37) ?hr ?_; (case hd => rfl); (case hg => rfl); (case hr => exact Zb); intro gb169 hg w4 hbox hb; have n_ := Y4q (YC.below QI81_0 hb) (Y1.trans QK (Y1.of_below hb g none) (.inl rfl)) (Y8 QB hb) (hbox) ((by rw [hg]; exact (Y7 (w := w) (g := g) (row := none) QK) : w.heap.size ≤ gb169)) ((Nat.le_trans HW0.out (by rw [hg]; exact (Y7 (w := w) (g := g) (row := none) QK) : w.heap.size ≤ gb169) : w0.heap.size ≤ gb169)) ((by rw [hg]; exact Nat.ne_of_lt (YC.lt (show YC w0 _ g s0_0 s0_1 s0_2 s0_3 from QI81_0)) : g ≠ gb169)) ((by rw [hg]; exact Nat.ne_of_gt (YC.lt (show YC w0 _ g s0_0 s0_1 s0_2 s0_3 from QI81_0)) : gb169 ≠ g)); clear HI0 HK HB; obtain ⟨HI0, HK, HB, BK169, GW169, GE169, NB0_169, NB169_0⟩ := n_; clear hb hbox hg) | ((with_reducible refine Yl (f := 124) rfl ?_); refine YO (some 8) rfl rfl Tryd.func124 Z4 rfl #[.pointer (some ⟨g, 0, none⟩), .int .i64 a1] rfl Z0 ?_; (with_reducible refine ((ih k (by omega)).2.2.2 g s0_0 s0_1 s0_2 s0_3 a1 t170 t171 t172 t175 t178 t179 t180 t181 w0 _ ?side1 ?side2 ?side3 A3.out).mono ?_); (case side1 => exact Z1u); (case side2 => exact QB); (case side3 => exact Z22); rintro e w5 ⟨v173, v176, rfl, ho0, ho1, hi, hb, hk⟩; refine ⟨_, rfl, ?_⟩; have n0_ := Y0.mk (Y1.blk hk (g' := gb169) (o := .cells #[.int .i64 0, .string (⟨#[]⟩ : ByteArray), .slice none 0 0, .slice none 0 0] 37 (0, 0)) QQ NB169_0.out (by simp)); have n1_ := Y0.mk (Kd.R_lower (Kd.R_newM (M := fun k_ => (w.heap.size ≤ k_)) (Kd.R_mono (ok' := fun k_ => True) ho0 (fun _ hk_ => trivial)) (Y7 (w := w) (g := g) (row := none) QK) (fun k_ h_ => h_)) (Y7 (w := w) (g := g) (row := none) QK)); have n2_ := Y0.mk (Kd.N_lower (Kd.N_mono (ok' := fun k_ => (w.heap.size ≤ k_) ∧ some k_ ≠ (v173 : Value).ownBlock ∧ k_ ≠ gb169 ∧ k_ ≠ g) ho1 (fun k_ hk_ => ⟨(Nat.le_trans (Y7 (w := w) (g := g) (row := none) QK) hk_.1), hk_.2, (Kd.freshB (g := gb169) (o := .cells #[.int .i64 0, .string (⟨#[]⟩ : ByteArray), .slice none 0 0, .slice none 0 0] 37 (0, 0)) QQ k_ hk_.1), (YC.fresh QI81_0 k_ hk_.1)⟩)) (Y7 (w := w) (g := g) (row := none) QK)); have n3_ := Y0.mk (Y1.trans QK hk (.inl rfl)); have n4_ := Y0.mk (hb); have n5_ := Y0.mk (hi); clear BK169 HK HB HI0; have BK169 := n0_; have HO174 := n1_; have HO177 := n2_; have HK := n3_; have HB := n4_; have HI0 := n5_; clear n0_ n1_ n2_ n3_ n4_ n5_; (try clear hb); (try clear hb2); (try clear hk); (try clear hi); (try clear ho0); (try clear ho1)) | ((with_reducible refine YF (N := 5) rfl ?_); refine YD ?hg (N := 5) ?hd (cs := #[.int .i64 0, .string (⟨#[]⟩ : ByteArray), .slice none 0 0, .slice none 0 0]) (t := 37) ?hr ?_; (case hd => rfl); (case hg => rfl); (case hr => exact Zb); intro gb182 hg w6 hbox hb; have n0_ := Y0.mk (Kd.R_below Z1o hb); have n1_ := Y0.mk (Kd.N_below (Kd.N_elderB Z1m gb182 (Nat.le_of_eq hg.symm)) hb); have n2_ := Y0.mk (YC.below QI81_0 hb); have n3_ := Y0.mk (Yt (g := gb169) (o := .cells #[.int .i64 0, .string (⟨#[]⟩ : ByteArray), .slice none 0 0, .slice none 0 0] 37 (0, 0)) QQ hb); have n4_ := Y0.mk (Y1.trans QK (Y1.of_below hb g none) (.inl rfl)); have n5_ := Y0.mk (Y8 QB hb); have n6_ := Y0.mk (hbox); have n7_ := Y0.mk ((by rw [hg]; exact (Y7 (w := w) (g := g) (row := none) QK) : w.heap.size ≤ gb182)); have n8_ := Y0.mk ((Nat.le_trans HW0.out (by rw [hg]; exact (Y7 (w := w) (g := g) (row := none) QK) : w.heap.size ≤ gb182) : w0.heap.size ≤ gb182)); have n9_ := Y0.mk ((by rw [hg]; exact Nat.ne_of_lt (Y14 (g := gb169) (o := .cells #[.int .i64 0, .string (⟨#[]⟩ : ByteArray), .slice none 0 0, .slice none 0 0] 37 (0, 0)) QQ) : gb169 ≠ gb182)); have n10_ := Y0.mk ((by rw [hg]; exact Nat.ne_of_gt (Y14 (g := gb169) (o := .cells #[.int .i64 0, .string (⟨#[]⟩ : ByteArray), .slice none 0 0, .slice none 0 0] 37 (0, 0)) QQ) : gb182 ≠ gb169)); have n11_ := Y0.mk ((by rw [hg]; exact Nat.ne_of_lt (YC.lt (show YC w0 _ g t178 t179 t180 t181 from QI81_0)) : g ≠ gb182)); have n12_ := Y0.mk ((by rw [hg]; exact Nat.ne_of_gt (YC.lt (show YC w0 _ g t178 t179 t180 t181 from QI81_0)) : gb182 ≠ g)); clear HO174 HO177 HI0 BK169 HK HB; have HO174 := n0_; have HO177 := n1_; have HI0 := n2_; have BK169 := n3_; have HK := n4_; have HB := n5_; have BK182 := n6_; have GW182 := n7_; have GE182 := n8_; have NB169_182 := n9_; have NB182_169 := n10_; have NB0_182 := n11_; have NB182_0 := n12_; clear n0_ n1_ n2_ n3_ n4_ n5_ n6_ n7_ n8_ n9_ n10_ n11_ n12_ hb hbox hg; have hnb7 := NB182_169.out; have hnc7 := NB169_182.out; have hnb8 := NB182_0.out; have hnc8 := NB0_182.out; obtain ⟨hcz9_0, hcz9_1, hcz9_2, hcz9_3, hfz9_0, hfz9_1, hfz9_2, hfz9_3⟩ := YA BK182.out; obtain ⟨Ao10, co10, eo10⟩ := Kd.R_slice HO174.out; subst eo10; obtain ⟨Ao11, co11, eo11⟩ := Kd.N_slice HO177.out; subst eo11))
 go_loopg [] k (fun kq w' => ∃ (x1000_1 : ByteArray) (x1001_1 : Int) (x1002_1 : Int) (x1003_1 : Int) (x170000_1 : Int) (x170001_1 : ByteArray) (x183000_1 : Int) (x183001_1 : ByteArray) (x183002_1 : List ByteArray) (x183003_1 : List (S37)) (u183002 : Value) (u183003 : Value), Y0 (Y9.l0 kq x1000_1 x1001_1 x1002_1 x1003_1 x183000_1 x183001_1 x183002_1 x183003_1 = some (r1, r2, r3, r4, r5, r6, r7, r8)) ∧ Y0 (kq ≤ k) ∧ Y0 (Kd.R Kd.string 9 w' w.heap.size (fun k_ => (w.heap.size ≤ k_)) u183002 x183002_1) ∧ Y0 (Kd.N k37 37 w' w.heap.size (fun k_ => (w.heap.size ≤ k_) ∧ some k_ ≠ (u183002 : Value).ownBlock ∧ k_ ≠ gb169 ∧ k_ ≠ gb182 ∧ k_ ≠ g) u183003 x183003_1) ∧ Y0 (w'.heap[gb169]? = some (.cells #[.int .i64 x170000_1, .string x170001_1, (.slice none 0 0), (.slice none 0 0)] 37 (0, 0))) ∧ Y0 (w'.heap[gb182]? = some (.cells #[.int .i64 x183000_1, .string x183001_1, u183002, u183003] 37 (0, 0))) ∧ Y0 (YC w0 w' g x1000_1 x1001_1 x1002_1 x1003_1) ∧ Y0 (Y1 w w' g none) ∧ Y0 (Below w0.heap.size w0 w'))
 case atStart => exact ⟨(t178), (t179), (t180), (t181), (0), ((⟨#[]⟩ : ByteArray)), (t170), (t171), (t172), (t175), (.slice Ao10 t172.length co10), (.slice Ao11 t175.length co11), H', ⟨Nat.le_refl _⟩, ⟨Z19⟩, ⟨ZM⟩, ⟨Z9⟩, ⟨Z2n⟩, ⟨QI81_0⟩, ⟨QK⟩, ⟨QB⟩⟩
 case round =>
  clear H'
  try clear c1
  try clear p2
  try clear c7
  try clear c8
  try clear c11
  try clear hcz9_0 hcz9_1 hcz9_2 hcz9_3 hfz9_0 hfz9_1 hfz9_2 hfz9_3
  obtain ⟨x1000_1, x1001_1, x1002_1, x1003_1, x170000_1, x170001_1, x183000_1, x183001_1, x183002_1, x183003_1, u183002, u183003, HA, HK1, HO_183002, HO_183003, BK169, BK182, HI0, HK, HB⟩ := hrel
  cases gk with
  | zero => exact absurd HA.out (by simp [Y9.l0])
  | succ k1 =>
   have H := HA.out
   clear HA
   simp only [Y9.l0] at H
   replace H := Option.bind_eq_some_iff.mp H
   obtain ⟨⟨t183, t184, t185, t186, t187⟩, A120, H⟩ := H
   replace H : (if t183 = true then (Y9.l0 k1 t184 t185 t186 t187 5 (⟨#[]⟩ : ByteArray) ([] : List ByteArray) (([(⟨x183000_1, x183001_1, x183002_1, x183003_1⟩ : S37)] : List (S37)))) else ((Yn.f k1 t184 t185 t186 t187 43).bind fun bt191 => (if bt191.1 = true then (Y9.l0 k1 bt191.2.1 bt191.2.2.1 bt191.2.2.2.1 bt191.2.2.2.2 6 (⟨#[]⟩ : ByteArray) ([] : List ByteArray) (([(⟨x183000_1, x183001_1, x183002_1, x183003_1⟩ : S37)] : List (S37)))) else ((Yn.f k1 bt191.2.1 bt191.2.2.1 bt191.2.2.2.1 bt191.2.2.2.2 63).bind fun bt199 => (if bt199.1 = true then (Y9.l0 k1 bt199.2.1 bt199.2.2.1 bt199.2.2.2.1 bt199.2.2.2.2 7 (⟨#[]⟩ : ByteArray) ([] : List ByteArray) (([(⟨x183000_1, x183001_1, x183002_1, x183003_1⟩ : S37)] : List (S37)))) else (some (x183000_1, x183001_1, x183002_1, x183003_1, bt199.2.1, bt199.2.2.1, bt199.2.2.2.1, bt199.2.2.2.2))))))) = some (r1, r2, r3, r4, r5, r6, r7, r8) := H
   have A12 := Y0.mk A120
   clear A120
   by_cases c13 : t183 = true
   ·subst c13
    have H1 : (Y9.l0 k1 t184 t185 t186 t187 5 (⟨#[]⟩ : ByteArray) ([] : List ByteArray) (([(⟨x183000_1, x183001_1, x183002_1, x183003_1⟩ : S37)] : List (S37)))) = some (r1, r2, r3, r4, r5, r6, r7, r8) := by rw [if_pos rfl] at H; exact H
    clear H
    have H := H1
    clear H1
    obtain ⟨y188, hy188⟩ : ∃ y_ : List (S37), y_ = (([(⟨x183000_1, x183001_1, x183002_1, x183003_1⟩ : S37)] : List (S37))) := ⟨_, rfl⟩
    replace H : (Y9.l0 k1 t184 t185 t186 t187 5 (⟨#[]⟩ : ByteArray) ([] : List ByteArray) y188) = some (r1, r2, r3, r4, r5, r6, r7, r8) := by first | (rw [hy188]; with_reducible exact H) | (have H2_ := (Option.bind_some _ _).symm.trans H; rw [hy188]; with_reducible exact H2_) | (have H2_ := (Option.bind_some _ _).symm.trans H; with_reducible exact H2_) | with_reducible exact H | (rw [hy188]; exact H) | exact H
    have Ny188 := Y0.mk hy188
    clear hy188
    have H' := Y0.mk H
    clear H
    go_wp2_with (first | ((with_reducible refine Yl (f := 97) rfl ?_); refine YO (some 12) rfl rfl Tryd.func97 Z4 rfl #[.pointer (some ⟨g, 0, none⟩), .int .u8 42] rfl Z0 ?_; (with_reducible refine (Yn.calls k1 g x1000_1 x1001_1 x1002_1 x1003_1 42 true t184 t185 t186 t187 w0 _ ?side1 ?side2 A12.out).mono ?_); (case side1 => exact Z1u); (case side2 => exact QB); rintro e w14 ⟨rfl, hi, hb, hk⟩; refine ⟨_, rfl, ?_⟩; have n0_ := Y0.mk (Kd.R_mono (Kd.R_keep (YC.apart (show YC w0 _ g x1000_1 x1001_1 x1002_1 x1003_1 from QI81_0) Zm (by decide)) hk (fun _ h => h.2)) (fun _ h => h.1)); have n1_ := Y0.mk (Kd.N_mono (Kd.N_keep (Kd.N_mono (ok := fun k_ => (((w.heap.size ≤ k_)) ∧ (some k_ ≠ (u183002 : Value).ownBlock ∧ (k_ ≠ gb169 ∧ (k_ ≠ gb182 ∧ k_ ≠ g))))) Zl (fun k_ hk_ => (⟨hk_, hk_.2.2.2.2⟩ : _ ∧ k_ ≠ g))) hk (fun _ h => h.2)) (fun _ h => h.1)); have n2_ := Y0.mk (Y1.blk hk (g' := gb169) (o := .cells #[.int .i64 x170000_1, .string x170001_1, .slice none 0 0, .slice none 0 0] 37 (0, 0)) QQ NB169_0.out (by simp)); have n3_ := Y0.mk (Y1.blk hk (g' := gb182) (o := .cells #[.int .i64 x183000_1, .string x183001_1, u183002, u183003] 37 (0, 0)) QQ NB182_0.out (by simp)); have n4_ := Y0.mk (Y1.trans QK hk (.inl rfl)); have n5_ := Y0.mk (hb); have n6_ := Y0.mk (hi); clear HO_183002 HO_183003 BK169 BK182 HK HB HI0; have HO_183002 := n0_; have HO_183003 := n1_; have BK169 := n2_; have BK182 := n3_; have HK := n4_; have HB := n5_; have HI0 := n6_; clear n0_ n1_ n2_ n3_ n4_ n5_ n6_; (try clear hb); (try clear hb2); (try clear hk); (try clear hi); have hnb15 := NB182_169.out; have hnc15 := NB169_182.out; have hnb16 := NB182_0.out; have hnc16 := NB0_182.out; obtain ⟨hcz17_0, hcz17_1, hcz17_2, hcz17_3, hfz17_0, hfz17_1, hfz17_2, hfz17_3⟩ := YA BK182.out; obtain ⟨Ao18, co18, eo18⟩ := Kd.R_slice HO_183002.out; subst eo18; obtain ⟨Ao19, co19, eo19⟩ := Kd.N_slice HO_183003.out; subst eo19) | ((with_reducible refine YF (N := 14) rfl ?_); refine Kd.N_lit k37 _ 37 ?hg (N' := 14) ?hd (xs := ([(⟨x183000_1, x183001_1, x183002_1, x183003_1⟩ : S37)] : List (S37))) (inner := [.int .i64 x183000_1, .string x183001_1, .slice Ao18 x183002_1.length co18, .slice Ao19 x183003_1.length co19]) (ok := (fun k_ => (w.heap.size ≤ k_) ∧ k_ ≠ gb169 ∧ k_ ≠ gb182 ∧ k_ ≠ g)) (okp := (fun k_ => (w.heap.size ≤ k_) ∧ k_ ≠ gb169 ∧ k_ ≠ gb182 ∧ k_ ≠ g)) ?hr ?hp (fun _ hk => hk) ((show ∀ k_, w14.heap.size ≤ k_ → (fun k_ => (w.heap.size ≤ k_) ∧ k_ ≠ gb169 ∧ k_ ≠ gb182 ∧ k_ ≠ g) k_ from fun k_ hk => ⟨(Nat.le_trans (Y7 (w := w) (g := g) (row := none) QK) hk), Kd.freshB (g := gb169) (o := .cells #[.int .i64 x170000_1, .string x170001_1, .slice none 0 0, .slice none 0 0] 37 (0, 0)) QQ k_ hk, Kd.freshB (g := gb182) (o := .cells #[.int .i64 x183000_1, .string x183001_1, .slice Ao18 x183002_1.length co18, .slice Ao19 x183003_1.length co19] 37 (0, 0)) QQ k_ hk, YC.fresh QI81_0 k_ hk⟩) _ (Nat.le_refl _)) (Below.refl _ _) (Nat.le_refl _) (by simp) ?_; (case hd => rfl); (case hg => rfl); (case hr => exact Zb); (case hp => exact (Y1F.c4 (show Kd.FK k37 _ _ (⟨x183000_1, x183001_1, x183002_1, x183003_1⟩ : S37) [.int .i64 x183000_1, .string x183001_1, .slice Ao18 x183002_1.length co18, .slice Ao19 x183003_1.length co19] from (Y2g _ _ (⟨x183000_1, x183001_1, x183002_1, x183003_1⟩ : S37) (Kd.R_reads' (Kd.R_mono (ok' := (fun k_ => (w.heap.size ≤ k_) ∧ k_ ≠ gb169 ∧ k_ ≠ gb182 ∧ k_ ≠ g)) (YC.apart HI0.out (Kd.R_types (Kd.R_types (HO_183002.out) BK169.out (by decide)) BK182.out (by decide)) (by decide)) (fun k_ hk => ⟨hk.1.1.1, ⟨hk.1.1.2, ⟨hk.1.2, hk.2⟩⟩⟩))).2.1 (Kd.R_F (Kd.R_mono (ok' := (fun k_ => (w.heap.size ≤ k_) ∧ k_ ≠ gb169 ∧ k_ ≠ gb182 ∧ k_ ≠ g)) (YC.apart HI0.out (Kd.R_types (Kd.R_types (HO_183002.out) BK169.out (by decide)) BK182.out (by decide)) (by decide)) (fun k_ hk => ⟨hk.1.1.1, ⟨hk.1.1.2, ⟨hk.1.2, hk.2⟩⟩⟩))) (Kd.N_reads' (Kd.N_mono (ok' := (fun k_ => (w.heap.size ≤ k_) ∧ k_ ≠ gb169 ∧ k_ ≠ gb182 ∧ k_ ≠ g)) (HO_183003.out) (fun k_ hk => ⟨hk.1, ⟨hk.2.2.1, ⟨hk.2.2.2.1, hk.2.2.2.2⟩⟩⟩))).2.1 (Kd.N_F (Kd.N_mono (ok' := (fun k_ => (w.heap.size ≤ k_) ∧ k_ ≠ gb169 ∧ k_ ≠ gb182 ∧ k_ ≠ g)) (HO_183003.out) (fun k_ hk => ⟨hk.1, ⟨hk.2.2.1, ⟨hk.2.2.2.1, hk.2.2.2.2⟩⟩⟩))))) (Y1F.none _ _))); intro v189 w20 ho21 hb hg_ hnew_; clear hg_ hnew_; (first | rw [← Ny188.out] at ho21 | (simp only [Int.reduceToNat] at ho21; rw [← Ny188.out] at ho21)); have n_ := Y3t (Kd.N_lower ho21 (Y7 (w := w) (g := g) (row := none) QK)) (Yt (g := gb169) (o := .cells #[.int .i64 x170000_1, .string x170001_1, .slice none 0 0, .slice none 0 0] 37 (0, 0)) QQ hb) (Yt (g := gb182) (o := .cells #[.int .i64 x183000_1, .string x183001_1, .slice Ao18 x183002_1.length co18, .slice Ao19 x183003_1.length co19] 37 (0, 0)) QQ hb) (YC.below QI81_0 hb) (Y1.trans QK (Y1.of_below hb g none) (.inl rfl)) (Y8 QB hb); clear BK169 BK182 HI0 HK HB HO_183002 HO_183003; obtain ⟨HO190, BK169, BK182, HI0, HK, HB⟩ := n_; clear hb ho21; obtain ⟨Ao22, co22, eo22⟩ := Kd.N_slice HO190.out; subst eo22; obtain ⟨hcz23_0, hcz23_1, hcz23_2, hcz23_3, hfz23_0, hfz23_1, hfz23_2, hfz23_3⟩ := YA BK182.out))
    go_roundg k1
    case measure => have := HK1.out; omega
    case rel => exact ⟨(t184), (t185), (t186), (t187), (x170000_1), (x170001_1), (5), ((⟨#[]⟩ : ByteArray)), (([] : List ByteArray)), (y188), (.slice none 0 0), (.slice Ao22 y188.length co22), H', ⟨ZV⟩, ⟨Z5⟩, ⟨by (with_reducible repeat (first | apply Kd.N_alloc | apply Kd.N_drewN | apply Kd.N_drew)); exact Kd.N_mono (Kd.N_far (p := ⟨gb182, 3, none⟩) (Kd.N_far (p := ⟨gb182, 2, none⟩) (Kd.N_far (p := ⟨gb182, 1, none⟩) (Kd.N_far (p := ⟨gb182, 0, none⟩) (Kd.N_mono HO190.out (fun k_ hk => (⟨hk, hk.2.2.1⟩ : _ ∧ k_ ≠ gb182))) (fun _ hk => hk.2) (.int .i64 5)) (fun _ hk => hk.2) (.string (⟨#[]⟩ : ByteArray))) (fun _ hk => hk.2) (.slice none 0 0)) (fun _ hk => hk.2) (.slice Ao22 y188.length co22)) (fun _ hk => ⟨hk.1.1, ⟨Z2p, ⟨hk.1.2.1, ⟨hk.1.2.2.1, hk.1.2.2.2⟩⟩⟩⟩)⟩, ⟨Z9⟩, ⟨by (with_reducible repeat (first | refine Yh ?_ _ | refine Yb ?_ | refine Yd ?_ _)); exact YE (cs := #[.int .i64 5, .string (⟨#[]⟩ : ByteArray), .slice none 0 0, .slice Ao19 x183003_1.length co19]) (by (with_reducible repeat (first | refine Yh ?_ _ | refine Yb ?_ | refine Yd ?_ _)); exact YE (cs := #[.int .i64 5, .string (⟨#[]⟩ : ByteArray), .slice Ao18 x183002_1.length co18, .slice Ao19 x183003_1.length co19]) (by (with_reducible repeat (first | refine Yh ?_ _ | refine Yb ?_ | refine Yd ?_ _)); exact YE (cs := #[.int .i64 5, .string x183001_1, .slice Ao18 x183002_1.length co18, .slice Ao19 x183003_1.length co19]) (by (with_reducible repeat (first | refine Yh ?_ _ | refine Yb ?_ | refine Yd ?_ _)); exact YE (cs := #[.int .i64 x183000_1, .string x183001_1, .slice Ao18 x183002_1.length co18, .slice Ao19 x183003_1.length co19]) QQ 0 _ rfl) 1 _ rfl) 2 _ rfl) 3 _ rfl⟩, ⟨QI81_0⟩, ⟨QK⟩, ⟨QB⟩⟩
   ·replace c13 := Bool.eq_false_iff.mpr c13
    subst c13
    have H1 : ((Yn.f k1 t184 t185 t186 t187 43).bind fun bt191 => (if bt191.1 = true then (Y9.l0 k1 bt191.2.1 bt191.2.2.1 bt191.2.2.2.1 bt191.2.2.2.2 6 (⟨#[]⟩ : ByteArray) ([] : List ByteArray) (([(⟨x183000_1, x183001_1, x183002_1, x183003_1⟩ : S37)] : List (S37)))) else ((Yn.f k1 bt191.2.1 bt191.2.2.1 bt191.2.2.2.1 bt191.2.2.2.2 63).bind fun bt199 => (if bt199.1 = true then (Y9.l0 k1 bt199.2.1 bt199.2.2.1 bt199.2.2.2.1 bt199.2.2.2.2 7 (⟨#[]⟩ : ByteArray) ([] : List ByteArray) (([(⟨x183000_1, x183001_1, x183002_1, x183003_1⟩ : S37)] : List (S37)))) else (some (x183000_1, x183001_1, x183002_1, x183003_1, bt199.2.1, bt199.2.2.1, bt199.2.2.2.1, bt199.2.2.2.2)))))) = some (r1, r2, r3, r4, r5, r6, r7, r8) := by rw [if_neg (show ¬ (false = true) by decide)] at H; exact H
    clear H
    have H := H1
    clear H1
    replace H := Option.bind_eq_some_iff.mp H
    obtain ⟨⟨t191, t192, t193, t194, t195⟩, A240, H⟩ := H
    replace H : (if t191 = true then (Y9.l0 k1 t192 t193 t194 t195 6 (⟨#[]⟩ : ByteArray) ([] : List ByteArray) (([(⟨x183000_1, x183001_1, x183002_1, x183003_1⟩ : S37)] : List (S37)))) else ((Yn.f k1 t192 t193 t194 t195 63).bind fun bt199 => (if bt199.1 = true then (Y9.l0 k1 bt199.2.1 bt199.2.2.1 bt199.2.2.2.1 bt199.2.2.2.2 7 (⟨#[]⟩ : ByteArray) ([] : List ByteArray) (([(⟨x183000_1, x183001_1, x183002_1, x183003_1⟩ : S37)] : List (S37)))) else (some (x183000_1, x183001_1, x183002_1, x183003_1, bt199.2.1, bt199.2.2.1, bt199.2.2.2.1, bt199.2.2.2.2))))) = some (r1, r2, r3, r4, r5, r6, r7, r8) := H
    have A24 := Y0.mk A240
    clear A240
    by_cases c25 : t191 = true
    ·subst c25
     have H1 : (Y9.l0 k1 t192 t193 t194 t195 6 (⟨#[]⟩ : ByteArray) ([] : List ByteArray) (([(⟨x183000_1, x183001_1, x183002_1, x183003_1⟩ : S37)] : List (S37)))) = some (r1, r2, r3, r4, r5, r6, r7, r8) := by rw [if_pos rfl] at H; exact H
     clear H
     have H := H1
     clear H1
     obtain ⟨y196, hy196⟩ : ∃ y_ : List (S37), y_ = (([(⟨x183000_1, x183001_1, x183002_1, x183003_1⟩ : S37)] : List (S37))) := ⟨_, rfl⟩
     replace H : (Y9.l0 k1 t192 t193 t194 t195 6 (⟨#[]⟩ : ByteArray) ([] : List ByteArray) y196) = some (r1, r2, r3, r4, r5, r6, r7, r8) := by first | (rw [hy196]; with_reducible exact H) | (have H2_ := (Option.bind_some _ _).symm.trans H; rw [hy196]; with_reducible exact H2_) | (have H2_ := (Option.bind_some _ _).symm.trans H; with_reducible exact H2_) | with_reducible exact H | (rw [hy196]; exact H) | exact H
     have Ny196 := Y0.mk hy196
     clear hy196
     have H' := Y0.mk H
     clear H
     go_wp2_with (first | ((with_reducible refine Yl (f := 97) rfl ?_); refine YO (some 12) rfl rfl Tryd.func97 Z4 rfl #[.pointer (some ⟨g, 0, none⟩), .int .u8 42] rfl Z0 ?_; (with_reducible refine (Yn.calls k1 g x1000_1 x1001_1 x1002_1 x1003_1 42 false t184 t185 t186 t187 w0 _ ?side1 ?side2 A12.out).mono ?_); (case side1 => exact Z1u); (case side2 => exact QB); rintro e w26 ⟨rfl, hi, hb, hk⟩; refine ⟨_, rfl, ?_⟩; have n0_ := Y0.mk (Kd.R_mono (Kd.R_keep (YC.apart (show YC w0 _ g x1000_1 x1001_1 x1002_1 x1003_1 from QI81_0) Zm (by decide)) hk (fun _ h => h.2)) (fun _ h => h.1)); have n1_ := Y0.mk (Kd.N_mono (Kd.N_keep (Kd.N_mono (ok := fun k_ => (((w.heap.size ≤ k_)) ∧ (some k_ ≠ (u183002 : Value).ownBlock ∧ (k_ ≠ gb169 ∧ (k_ ≠ gb182 ∧ k_ ≠ g))))) Zl (fun k_ hk_ => (⟨hk_, hk_.2.2.2.2⟩ : _ ∧ k_ ≠ g))) hk (fun _ h => h.2)) (fun _ h => h.1)); have n2_ := Y0.mk (Y1.blk hk (g' := gb169) (o := .cells #[.int .i64 x170000_1, .string x170001_1, .slice none 0 0, .slice none 0 0] 37 (0, 0)) QQ NB169_0.out (by simp)); have n3_ := Y0.mk (Y1.blk hk (g' := gb182) (o := .cells #[.int .i64 x183000_1, .string x183001_1, u183002, u183003] 37 (0, 0)) QQ NB182_0.out (by simp)); have n4_ := Y0.mk (Y1.trans QK hk (.inl rfl)); have n5_ := Y0.mk (hb); have n6_ := Y0.mk (hi); clear HO_183002 HO_183003 BK169 BK182 HK HB HI0; have HO_183002 := n0_; have HO_183003 := n1_; have BK169 := n2_; have BK182 := n3_; have HK := n4_; have HB := n5_; have HI0 := n6_; clear n0_ n1_ n2_ n3_ n4_ n5_ n6_; (try clear hb); (try clear hb2); (try clear hk); (try clear hi)) | ((with_reducible refine Yl (f := 97) rfl ?_); refine YO (some 18) rfl rfl Tryd.func97 Z4 rfl #[.pointer (some ⟨g, 0, none⟩), .int .u8 43] rfl Z0 ?_; (with_reducible refine (Yn.calls k1 g t184 t185 t186 t187 43 true t192 t193 t194 t195 w0 _ ?side1 ?side2 A24.out).mono ?_); (case side1 => exact Z1u); (case side2 => exact QB); rintro e w27 ⟨rfl, hi, hb, hk⟩; refine ⟨_, rfl, ?_⟩; have n0_ := Y0.mk (Kd.R_mono (Kd.R_keep (YC.apart (show YC w0 _ g t184 t185 t186 t187 from QI81_0) Zm (by decide)) hk (fun _ h => h.2)) (fun _ h => h.1)); have n1_ := Y0.mk (Kd.N_mono (Kd.N_keep (Kd.N_mono (ok := fun k_ => (((w.heap.size ≤ k_)) ∧ (some k_ ≠ (u183002 : Value).ownBlock ∧ (k_ ≠ gb169 ∧ (k_ ≠ gb182 ∧ k_ ≠ g))))) Zl (fun k_ hk_ => (⟨hk_, hk_.2.2.2.2⟩ : _ ∧ k_ ≠ g))) hk (fun _ h => h.2)) (fun _ h => h.1)); have n2_ := Y0.mk (Y1.blk hk (g' := gb169) (o := .cells #[.int .i64 x170000_1, .string x170001_1, .slice none 0 0, .slice none 0 0] 37 (0, 0)) QQ NB169_0.out (by simp)); have n3_ := Y0.mk (Y1.blk hk (g' := gb182) (o := .cells #[.int .i64 x183000_1, .string x183001_1, u183002, u183003] 37 (0, 0)) QQ NB182_0.out (by simp)); have n4_ := Y0.mk (Y1.trans QK hk (.inl rfl)); have n5_ := Y0.mk (hb); have n6_ := Y0.mk (hi); clear HO_183002 HO_183003 BK169 BK182 HK HB HI0; have HO_183002 := n0_; have HO_183003 := n1_; have BK169 := n2_; have BK182 := n3_; have HK := n4_; have HB := n5_; have HI0 := n6_; clear n0_ n1_ n2_ n3_ n4_ n5_ n6_; (try clear hb); (try clear hb2); (try clear hk); (try clear hi); have hnb28 := NB182_169.out; have hnc28 := NB169_182.out; have hnb29 := NB182_0.out; have hnc29 := NB0_182.out; obtain ⟨hcz30_0, hcz30_1, hcz30_2, hcz30_3, hfz30_0, hfz30_1, hfz30_2, hfz30_3⟩ := YA BK182.out; obtain ⟨Ao31, co31, eo31⟩ := Kd.R_slice HO_183002.out; subst eo31; obtain ⟨Ao32, co32, eo32⟩ := Kd.N_slice HO_183003.out; subst eo32) | ((with_reducible refine YF (N := 20) rfl ?_); refine Kd.N_lit k37 _ 37 ?hg (N' := 20) ?hd (xs := ([(⟨x183000_1, x183001_1, x183002_1, x183003_1⟩ : S37)] : List (S37))) (inner := [.int .i64 x183000_1, .string x183001_1, .slice Ao31 x183002_1.length co31, .slice Ao32 x183003_1.length co32]) (ok := (fun k_ => (w.heap.size ≤ k_) ∧ k_ ≠ gb169 ∧ k_ ≠ gb182 ∧ k_ ≠ g)) (okp := (fun k_ => (w.heap.size ≤ k_) ∧ k_ ≠ gb169 ∧ k_ ≠ gb182 ∧ k_ ≠ g)) ?hr ?hp (fun _ hk => hk) ((show ∀ k_, w27.heap.size ≤ k_ → (fun k_ => (w.heap.size ≤ k_) ∧ k_ ≠ gb169 ∧ k_ ≠ gb182 ∧ k_ ≠ g) k_ from fun k_ hk => ⟨(Nat.le_trans (Y7 (w := w) (g := g) (row := none) QK) hk), Kd.freshB (g := gb169) (o := .cells #[.int .i64 x170000_1, .string x170001_1, .slice none 0 0, .slice none 0 0] 37 (0, 0)) QQ k_ hk, Kd.freshB (g := gb182) (o := .cells #[.int .i64 x183000_1, .string x183001_1, .slice Ao31 x183002_1.length co31, .slice Ao32 x183003_1.length co32] 37 (0, 0)) QQ k_ hk, YC.fresh QI81_0 k_ hk⟩) _ (Nat.le_refl _)) (Below.refl _ _) (Nat.le_refl _) (by simp) ?_; (case hd => rfl); (case hg => rfl); (case hr => exact Zb); (case hp => exact (Y1F.c4 (show Kd.FK k37 _ _ (⟨x183000_1, x183001_1, x183002_1, x183003_1⟩ : S37) [.int .i64 x183000_1, .string x183001_1, .slice Ao31 x183002_1.length co31, .slice Ao32 x183003_1.length co32] from (Y2g _ _ (⟨x183000_1, x183001_1, x183002_1, x183003_1⟩ : S37) (Kd.R_reads' (Kd.R_mono (ok' := (fun k_ => (w.heap.size ≤ k_) ∧ k_ ≠ gb169 ∧ k_ ≠ gb182 ∧ k_ ≠ g)) (YC.apart HI0.out (Kd.R_types (Kd.R_types (HO_183002.out) BK169.out (by decide)) BK182.out (by decide)) (by decide)) (fun k_ hk => ⟨hk.1.1.1, ⟨hk.1.1.2, ⟨hk.1.2, hk.2⟩⟩⟩))).2.1 (Kd.R_F (Kd.R_mono (ok' := (fun k_ => (w.heap.size ≤ k_) ∧ k_ ≠ gb169 ∧ k_ ≠ gb182 ∧ k_ ≠ g)) (YC.apart HI0.out (Kd.R_types (Kd.R_types (HO_183002.out) BK169.out (by decide)) BK182.out (by decide)) (by decide)) (fun k_ hk => ⟨hk.1.1.1, ⟨hk.1.1.2, ⟨hk.1.2, hk.2⟩⟩⟩))) (Kd.N_reads' (Kd.N_mono (ok' := (fun k_ => (w.heap.size ≤ k_) ∧ k_ ≠ gb169 ∧ k_ ≠ gb182 ∧ k_ ≠ g)) (HO_183003.out) (fun k_ hk => ⟨hk.1, ⟨hk.2.2.1, ⟨hk.2.2.2.1, hk.2.2.2.2⟩⟩⟩))).2.1 (Kd.N_F (Kd.N_mono (ok' := (fun k_ => (w.heap.size ≤ k_) ∧ k_ ≠ gb169 ∧ k_ ≠ gb182 ∧ k_ ≠ g)) (HO_183003.out) (fun k_ hk => ⟨hk.1, ⟨hk.2.2.1, ⟨hk.2.2.2.1, hk.2.2.2.2⟩⟩⟩))))) (Y1F.none _ _))); intro v197 w33 ho34 hb hg_ hnew_; clear hg_ hnew_; (first | rw [← Ny196.out] at ho34 | (simp only [Int.reduceToNat] at ho34; rw [← Ny196.out] at ho34)); have n_ := Y3t (Kd.N_lower ho34 (Y7 (w := w) (g := g) (row := none) QK)) (Yt (g := gb169) (o := .cells #[.int .i64 x170000_1, .string x170001_1, .slice none 0 0, .slice none 0 0] 37 (0, 0)) QQ hb) (Yt (g := gb182) (o := .cells #[.int .i64 x183000_1, .string x183001_1, .slice Ao31 x183002_1.length co31, .slice Ao32 x183003_1.length co32] 37 (0, 0)) QQ hb) (YC.below QI81_0 hb) (Y1.trans QK (Y1.of_below hb g none) (.inl rfl)) (Y8 QB hb); clear BK169 BK182 HI0 HK HB HO_183002 HO_183003; obtain ⟨HO198, BK169, BK182, HI0, HK, HB⟩ := n_; clear hb ho34; obtain ⟨Ao35, co35, eo35⟩ := Kd.N_slice HO198.out; subst eo35; obtain ⟨hcz36_0, hcz36_1, hcz36_2, hcz36_3, hfz36_0, hfz36_1, hfz36_2, hfz36_3⟩ := YA BK182.out))
     go_roundg k1
     case measure => have := HK1.out; omega
     case rel => exact ⟨(t192), (t193), (t194), (t195), (x170000_1), (x170001_1), (6), ((⟨#[]⟩ : ByteArray)), (([] : List ByteArray)), (y196), (.slice none 0 0), (.slice Ao35 y196.length co35), H', ⟨ZV⟩, ⟨Z5⟩, ⟨by (with_reducible repeat (first | apply Kd.N_alloc | apply Kd.N_drewN | apply Kd.N_drew)); exact Kd.N_mono (Kd.N_far (p := ⟨gb182, 3, none⟩) (Kd.N_far (p := ⟨gb182, 2, none⟩) (Kd.N_far (p := ⟨gb182, 1, none⟩) (Kd.N_far (p := ⟨gb182, 0, none⟩) (Kd.N_mono HO198.out (fun k_ hk => (⟨hk, hk.2.2.1⟩ : _ ∧ k_ ≠ gb182))) (fun _ hk => hk.2) (.int .i64 6)) (fun _ hk => hk.2) (.string (⟨#[]⟩ : ByteArray))) (fun _ hk => hk.2) (.slice none 0 0)) (fun _ hk => hk.2) (.slice Ao35 y196.length co35)) (fun _ hk => ⟨hk.1.1, ⟨Z2p, ⟨hk.1.2.1, ⟨hk.1.2.2.1, hk.1.2.2.2⟩⟩⟩⟩)⟩, ⟨Z9⟩, ⟨by (with_reducible repeat (first | refine Yh ?_ _ | refine Yb ?_ | refine Yd ?_ _)); exact YE (cs := #[.int .i64 6, .string (⟨#[]⟩ : ByteArray), .slice none 0 0, .slice Ao32 x183003_1.length co32]) (by (with_reducible repeat (first | refine Yh ?_ _ | refine Yb ?_ | refine Yd ?_ _)); exact YE (cs := #[.int .i64 6, .string (⟨#[]⟩ : ByteArray), .slice Ao31 x183002_1.length co31, .slice Ao32 x183003_1.length co32]) (by (with_reducible repeat (first | refine Yh ?_ _ | refine Yb ?_ | refine Yd ?_ _)); exact YE (cs := #[.int .i64 6, .string x183001_1, .slice Ao31 x183002_1.length co31, .slice Ao32 x183003_1.length co32]) (by (with_reducible repeat (first | refine Yh ?_ _ | refine Yb ?_ | refine Yd ?_ _)); exact YE (cs := #[.int .i64 x183000_1, .string x183001_1, .slice Ao31 x183002_1.length co31, .slice Ao32 x183003_1.length co32]) QQ 0 _ rfl) 1 _ rfl) 2 _ rfl) 3 _ rfl⟩, ⟨QI81_0⟩, ⟨QK⟩, ⟨QB⟩⟩
    ·replace c25 := Bool.eq_false_iff.mpr c25
     subst c25
     have H1 : ((Yn.f k1 t192 t193 t194 t195 63).bind fun bt199 => (if bt199.1 = true then (Y9.l0 k1 bt199.2.1 bt199.2.2.1 bt199.2.2.2.1 bt199.2.2.2.2 7 (⟨#[]⟩ : ByteArray) ([] : List ByteArray) (([(⟨x183000_1, x183001_1, x183002_1, x183003_1⟩ : S37)] : List (S37)))) else (some (x183000_1, x183001_1, x183002_1, x183003_1, bt199.2.1, bt199.2.2.1, bt199.2.2.2.1, bt199.2.2.2.2)))) = some (r1, r2, r3, r4, r5, r6, r7, r8) := by rw [if_neg (show ¬ (false = true) by decide)] at H; exact H
     clear H
     have H := H1
     clear H1
     replace H := Option.bind_eq_some_iff.mp H
     obtain ⟨⟨t199, t200, t201, t202, t203⟩, A370, H⟩ := H
     replace H : (if t199 = true then (Y9.l0 k1 t200 t201 t202 t203 7 (⟨#[]⟩ : ByteArray) ([] : List ByteArray) (([(⟨x183000_1, x183001_1, x183002_1, x183003_1⟩ : S37)] : List (S37)))) else (some (x183000_1, x183001_1, x183002_1, x183003_1, t200, t201, t202, t203))) = some (r1, r2, r3, r4, r5, r6, r7, r8) := H
     have A37 := Y0.mk A370
     clear A370
     by_cases c38 : t199 = true
     ·subst c38
      have H1 : (Y9.l0 k1 t200 t201 t202 t203 7 (⟨#[]⟩ : ByteArray) ([] : List ByteArray) (([(⟨x183000_1, x183001_1, x183002_1, x183003_1⟩ : S37)] : List (S37)))) = some (r1, r2, r3, r4, r5, r6, r7, r8) := by rw [if_pos rfl] at H; exact H
      clear H
      have H := H1
      clear H1
      obtain ⟨y204, hy204⟩ : ∃ y_ : List (S37), y_ = (([(⟨x183000_1, x183001_1, x183002_1, x183003_1⟩ : S37)] : List (S37))) := ⟨_, rfl⟩
      replace H : (Y9.l0 k1 t200 t201 t202 t203 7 (⟨#[]⟩ : ByteArray) ([] : List ByteArray) y204) = some (r1, r2, r3, r4, r5, r6, r7, r8) := by first | (rw [hy204]; with_reducible exact H) | (have H2_ := (Option.bind_some _ _).symm.trans H; rw [hy204]; with_reducible exact H2_) | (have H2_ := (Option.bind_some _ _).symm.trans H; with_reducible exact H2_) | with_reducible exact H | (rw [hy204]; exact H) | exact H
      have Ny204 := Y0.mk hy204
      clear hy204
      have H' := Y0.mk H
      clear H
      go_wp2_with (first | ((with_reducible refine Yl (f := 97) rfl ?_); refine YO (some 12) rfl rfl Tryd.func97 Z4 rfl #[.pointer (some ⟨g, 0, none⟩), .int .u8 42] rfl Z0 ?_; (with_reducible refine (Yn.calls k1 g x1000_1 x1001_1 x1002_1 x1003_1 42 false t184 t185 t186 t187 w0 _ ?side1 ?side2 A12.out).mono ?_); (case side1 => exact Z1u); (case side2 => exact QB); rintro e w39 ⟨rfl, hi, hb, hk⟩; refine ⟨_, rfl, ?_⟩; have n0_ := Y0.mk (Kd.R_mono (Kd.R_keep (YC.apart (show YC w0 _ g x1000_1 x1001_1 x1002_1 x1003_1 from QI81_0) Zm (by decide)) hk (fun _ h => h.2)) (fun _ h => h.1)); have n1_ := Y0.mk (Kd.N_mono (Kd.N_keep (Kd.N_mono (ok := fun k_ => (((w.heap.size ≤ k_)) ∧ (some k_ ≠ (u183002 : Value).ownBlock ∧ (k_ ≠ gb169 ∧ (k_ ≠ gb182 ∧ k_ ≠ g))))) Zl (fun k_ hk_ => (⟨hk_, hk_.2.2.2.2⟩ : _ ∧ k_ ≠ g))) hk (fun _ h => h.2)) (fun _ h => h.1)); have n2_ := Y0.mk (Y1.blk hk (g' := gb169) (o := .cells #[.int .i64 x170000_1, .string x170001_1, .slice none 0 0, .slice none 0 0] 37 (0, 0)) QQ NB169_0.out (by simp)); have n3_ := Y0.mk (Y1.blk hk (g' := gb182) (o := .cells #[.int .i64 x183000_1, .string x183001_1, u183002, u183003] 37 (0, 0)) QQ NB182_0.out (by simp)); have n4_ := Y0.mk (Y1.trans QK hk (.inl rfl)); have n5_ := Y0.mk (hb); have n6_ := Y0.mk (hi); clear HO_183002 HO_183003 BK169 BK182 HK HB HI0; have HO_183002 := n0_; have HO_183003 := n1_; have BK169 := n2_; have BK182 := n3_; have HK := n4_; have HB := n5_; have HI0 := n6_; clear n0_ n1_ n2_ n3_ n4_ n5_ n6_; (try clear hb); (try clear hb2); (try clear hk); (try clear hi)) | ((with_reducible refine Yl (f := 97) rfl ?_); refine YO (some 18) rfl rfl Tryd.func97 Z4 rfl #[.pointer (some ⟨g, 0, none⟩), .int .u8 43] rfl Z0 ?_; (with_reducible refine (Yn.calls k1 g t184 t185 t186 t187 43 false t192 t193 t194 t195 w0 _ ?side1 ?side2 A24.out).mono ?_); (case side1 => exact Z1u); (case side2 => exact QB); rintro e w40 ⟨rfl, hi, hb, hk⟩; refine ⟨_, rfl, ?_⟩; have n0_ := Y0.mk (Kd.R_mono (Kd.R_keep (YC.apart (show YC w0 _ g t184 t185 t186 t187 from QI81_0) Zm (by decide)) hk (fun _ h => h.2)) (fun _ h => h.1)); have n1_ := Y0.mk (Kd.N_mono (Kd.N_keep (Kd.N_mono (ok := fun k_ => (((w.heap.size ≤ k_)) ∧ (some k_ ≠ (u183002 : Value).ownBlock ∧ (k_ ≠ gb169 ∧ (k_ ≠ gb182 ∧ k_ ≠ g))))) Zl (fun k_ hk_ => (⟨hk_, hk_.2.2.2.2⟩ : _ ∧ k_ ≠ g))) hk (fun _ h => h.2)) (fun _ h => h.1)); have n2_ := Y0.mk (Y1.blk hk (g' := gb169) (o := .cells #[.int .i64 x170000_1, .string x170001_1, .slice none 0 0, .slice none 0 0] 37 (0, 0)) QQ NB169_0.out (by simp)); have n3_ := Y0.mk (Y1.blk hk (g' := gb182) (o := .cells #[.int .i64 x183000_1, .string x183001_1, u183002, u183003] 37 (0, 0)) QQ NB182_0.out (by simp)); have n4_ := Y0.mk (Y1.trans QK hk (.inl rfl)); have n5_ := Y0.mk (hb); have n6_ := Y0.mk (hi); clear HO_183002 HO_183003 BK169 BK182 HK HB HI0; have HO_183002 := n0_; have HO_183003 := n1_; have BK169 := n2_; have BK182 := n3_; have HK := n4_; have HB := n5_; have HI0 := n6_; clear n0_ n1_ n2_ n3_ n4_ n5_ n6_; (try clear hb); (try clear hb2); (try clear hk); (try clear hi)) | ((with_reducible refine Yl (f := 97) rfl ?_); refine YO (some 24) rfl rfl Tryd.func97 Z4 rfl #[.pointer (some ⟨g, 0, none⟩), .int .u8 63] rfl Z0 ?_; (with_reducible refine (Yn.calls k1 g t192 t193 t194 t195 63 true t200 t201 t202 t203 w0 _ ?side1 ?side2 A37.out).mono ?_); (case side1 => exact Z1u); (case side2 => exact QB); rintro e w41 ⟨rfl, hi, hb, hk⟩; refine ⟨_, rfl, ?_⟩; have n0_ := Y0.mk (Kd.R_mono (Kd.R_keep (YC.apart (show YC w0 _ g t192 t193 t194 t195 from QI81_0) Zm (by decide)) hk (fun _ h => h.2)) (fun _ h => h.1)); have n1_ := Y0.mk (Kd.N_mono (Kd.N_keep (Kd.N_mono (ok := fun k_ => (((w.heap.size ≤ k_)) ∧ (some k_ ≠ (u183002 : Value).ownBlock ∧ (k_ ≠ gb169 ∧ (k_ ≠ gb182 ∧ k_ ≠ g))))) Zl (fun k_ hk_ => (⟨hk_, hk_.2.2.2.2⟩ : _ ∧ k_ ≠ g))) hk (fun _ h => h.2)) (fun _ h => h.1)); have n2_ := Y0.mk (Y1.blk hk (g' := gb169) (o := .cells #[.int .i64 x170000_1, .string x170001_1, .slice none 0 0, .slice none 0 0] 37 (0, 0)) QQ NB169_0.out (by simp)); have n3_ := Y0.mk (Y1.blk hk (g' := gb182) (o := .cells #[.int .i64 x183000_1, .string x183001_1, u183002, u183003] 37 (0, 0)) QQ NB182_0.out (by simp)); have n4_ := Y0.mk (Y1.trans QK hk (.inl rfl)); have n5_ := Y0.mk (hb); have n6_ := Y0.mk (hi); clear HO_183002 HO_183003 BK169 BK182 HK HB HI0; have HO_183002 := n0_; have HO_183003 := n1_; have BK169 := n2_; have BK182 := n3_; have HK := n4_; have HB := n5_; have HI0 := n6_; clear n0_ n1_ n2_ n3_ n4_ n5_ n6_; (try clear hb); (try clear hb2); (try clear hk); (try clear hi); have hnb42 := NB182_169.out; have hnc42 := NB169_182.out; have hnb43 := NB182_0.out; have hnc43 := NB0_182.out; obtain ⟨hcz44_0, hcz44_1, hcz44_2, hcz44_3, hfz44_0, hfz44_1, hfz44_2, hfz44_3⟩ := YA BK182.out; obtain ⟨Ao45, co45, eo45⟩ := Kd.R_slice HO_183002.out; subst eo45; obtain ⟨Ao46, co46, eo46⟩ := Kd.N_slice HO_183003.out; subst eo46) | ((with_reducible refine YF (N := 26) rfl ?_); refine Kd.N_lit k37 _ 37 ?hg (N' := 26) ?hd (xs := ([(⟨x183000_1, x183001_1, x183002_1, x183003_1⟩ : S37)] : List (S37))) (inner := [.int .i64 x183000_1, .string x183001_1, .slice Ao45 x183002_1.length co45, .slice Ao46 x183003_1.length co46]) (ok := (fun k_ => (w.heap.size ≤ k_) ∧ k_ ≠ gb169 ∧ k_ ≠ gb182 ∧ k_ ≠ g)) (okp := (fun k_ => (w.heap.size ≤ k_) ∧ k_ ≠ gb169 ∧ k_ ≠ gb182 ∧ k_ ≠ g)) ?hr ?hp (fun _ hk => hk) ((show ∀ k_, w41.heap.size ≤ k_ → (fun k_ => (w.heap.size ≤ k_) ∧ k_ ≠ gb169 ∧ k_ ≠ gb182 ∧ k_ ≠ g) k_ from fun k_ hk => ⟨(Nat.le_trans (Y7 (w := w) (g := g) (row := none) QK) hk), Kd.freshB (g := gb169) (o := .cells #[.int .i64 x170000_1, .string x170001_1, .slice none 0 0, .slice none 0 0] 37 (0, 0)) QQ k_ hk, Kd.freshB (g := gb182) (o := .cells #[.int .i64 x183000_1, .string x183001_1, .slice Ao45 x183002_1.length co45, .slice Ao46 x183003_1.length co46] 37 (0, 0)) QQ k_ hk, YC.fresh QI81_0 k_ hk⟩) _ (Nat.le_refl _)) (Below.refl _ _) (Nat.le_refl _) (by simp) ?_; (case hd => rfl); (case hg => rfl); (case hr => exact Zb); (case hp => exact (Y1F.c4 (show Kd.FK k37 _ _ (⟨x183000_1, x183001_1, x183002_1, x183003_1⟩ : S37) [.int .i64 x183000_1, .string x183001_1, .slice Ao45 x183002_1.length co45, .slice Ao46 x183003_1.length co46] from (Y2g _ _ (⟨x183000_1, x183001_1, x183002_1, x183003_1⟩ : S37) (Kd.R_reads' (Kd.R_mono (ok' := (fun k_ => (w.heap.size ≤ k_) ∧ k_ ≠ gb169 ∧ k_ ≠ gb182 ∧ k_ ≠ g)) (YC.apart HI0.out (Kd.R_types (Kd.R_types (HO_183002.out) BK169.out (by decide)) BK182.out (by decide)) (by decide)) (fun k_ hk => ⟨hk.1.1.1, ⟨hk.1.1.2, ⟨hk.1.2, hk.2⟩⟩⟩))).2.1 (Kd.R_F (Kd.R_mono (ok' := (fun k_ => (w.heap.size ≤ k_) ∧ k_ ≠ gb169 ∧ k_ ≠ gb182 ∧ k_ ≠ g)) (YC.apart HI0.out (Kd.R_types (Kd.R_types (HO_183002.out) BK169.out (by decide)) BK182.out (by decide)) (by decide)) (fun k_ hk => ⟨hk.1.1.1, ⟨hk.1.1.2, ⟨hk.1.2, hk.2⟩⟩⟩))) (Kd.N_reads' (Kd.N_mono (ok' := (fun k_ => (w.heap.size ≤ k_) ∧ k_ ≠ gb169 ∧ k_ ≠ gb182 ∧ k_ ≠ g)) (HO_183003.out) (fun k_ hk => ⟨hk.1, ⟨hk.2.2.1, ⟨hk.2.2.2.1, hk.2.2.2.2⟩⟩⟩))).2.1 (Kd.N_F (Kd.N_mono (ok' := (fun k_ => (w.heap.size ≤ k_) ∧ k_ ≠ gb169 ∧ k_ ≠ gb182 ∧ k_ ≠ g)) (HO_183003.out) (fun k_ hk => ⟨hk.1, ⟨hk.2.2.1, ⟨hk.2.2.2.1, hk.2.2.2.2⟩⟩⟩))))) (Y1F.none _ _))); intro v205 w47 ho48 hb hg_ hnew_; clear hg_ hnew_; (first | rw [← Ny204.out] at ho48 | (simp only [Int.reduceToNat] at ho48; rw [← Ny204.out] at ho48)); have n_ := Y3t (Kd.N_lower ho48 (Y7 (w := w) (g := g) (row := none) QK)) (Yt (g := gb169) (o := .cells #[.int .i64 x170000_1, .string x170001_1, .slice none 0 0, .slice none 0 0] 37 (0, 0)) QQ hb) (Yt (g := gb182) (o := .cells #[.int .i64 x183000_1, .string x183001_1, .slice Ao45 x183002_1.length co45, .slice Ao46 x183003_1.length co46] 37 (0, 0)) QQ hb) (YC.below QI81_0 hb) (Y1.trans QK (Y1.of_below hb g none) (.inl rfl)) (Y8 QB hb); clear BK169 BK182 HI0 HK HB HO_183002 HO_183003; obtain ⟨HO206, BK169, BK182, HI0, HK, HB⟩ := n_; clear hb ho48; obtain ⟨Ao49, co49, eo49⟩ := Kd.N_slice HO206.out; subst eo49; obtain ⟨hcz50_0, hcz50_1, hcz50_2, hcz50_3, hfz50_0, hfz50_1, hfz50_2, hfz50_3⟩ := YA BK182.out))
      go_roundg k1
      case measure => have := HK1.out; omega
      case rel => exact ⟨(t200), (t201), (t202), (t203), (x170000_1), (x170001_1), (7), ((⟨#[]⟩ : ByteArray)), (([] : List ByteArray)), (y204), (.slice none 0 0), (.slice Ao49 y204.length co49), H', ⟨ZV⟩, ⟨Z5⟩, ⟨by (with_reducible repeat (first | apply Kd.N_alloc | apply Kd.N_drewN | apply Kd.N_drew)); exact Kd.N_mono (Kd.N_far (p := ⟨gb182, 3, none⟩) (Kd.N_far (p := ⟨gb182, 2, none⟩) (Kd.N_far (p := ⟨gb182, 1, none⟩) (Kd.N_far (p := ⟨gb182, 0, none⟩) (Kd.N_mono HO206.out (fun k_ hk => (⟨hk, hk.2.2.1⟩ : _ ∧ k_ ≠ gb182))) (fun _ hk => hk.2) (.int .i64 7)) (fun _ hk => hk.2) (.string (⟨#[]⟩ : ByteArray))) (fun _ hk => hk.2) (.slice none 0 0)) (fun _ hk => hk.2) (.slice Ao49 y204.length co49)) (fun _ hk => ⟨hk.1.1, ⟨Z2p, ⟨hk.1.2.1, ⟨hk.1.2.2.1, hk.1.2.2.2⟩⟩⟩⟩)⟩, ⟨Z9⟩, ⟨by (with_reducible repeat (first | refine Yh ?_ _ | refine Yb ?_ | refine Yd ?_ _)); exact YE (cs := #[.int .i64 7, .string (⟨#[]⟩ : ByteArray), .slice none 0 0, .slice Ao46 x183003_1.length co46]) (by (with_reducible repeat (first | refine Yh ?_ _ | refine Yb ?_ | refine Yd ?_ _)); exact YE (cs := #[.int .i64 7, .string (⟨#[]⟩ : ByteArray), .slice Ao45 x183002_1.length co45, .slice Ao46 x183003_1.length co46]) (by (with_reducible repeat (first | refine Yh ?_ _ | refine Yb ?_ | refine Yd ?_ _)); exact YE (cs := #[.int .i64 7, .string x183001_1, .slice Ao45 x183002_1.length co45, .slice Ao46 x183003_1.length co46]) (by (with_reducible repeat (first | refine Yh ?_ _ | refine Yb ?_ | refine Yd ?_ _)); exact YE (cs := #[.int .i64 x183000_1, .string x183001_1, .slice Ao45 x183002_1.length co45, .slice Ao46 x183003_1.length co46]) QQ 0 _ rfl) 1 _ rfl) 2 _ rfl) 3 _ rfl⟩, ⟨QI81_0⟩, ⟨QK⟩, ⟨QB⟩⟩
     ·replace c38 := Bool.eq_false_iff.mpr c38
      subst c38
      have H1 : (some (x183000_1, x183001_1, x183002_1, x183003_1, t200, t201, t202, t203)) = some (r1, r2, r3, r4, r5, r6, r7, r8) := by rw [if_neg (show ¬ (false = true) by decide)] at H; exact H
      clear H
      have H := H1
      clear H1
      simp only [Option.some.injEq, Prod.mk.injEq] at H
      obtain ⟨rfl, rfl, rfl, rfl, rfl, rfl, rfl, rfl⟩ := H
      go_wp2_with (first | ((with_reducible refine Yl (f := 97) rfl ?_); refine YO (some 12) rfl rfl Tryd.func97 Z4 rfl #[.pointer (some ⟨g, 0, none⟩), .int .u8 42] rfl Z0 ?_; (with_reducible refine (Yn.calls k1 g x1000_1 x1001_1 x1002_1 x1003_1 42 false t184 t185 t186 t187 w0 _ ?side1 ?side2 A12.out).mono ?_); (case side1 => exact Z1u); (case side2 => exact QB); rintro e w51 ⟨rfl, hi, hb, hk⟩; refine ⟨_, rfl, ?_⟩; have n0_ := Y0.mk (Kd.R_mono (Kd.R_keep (YC.apart (show YC w0 _ g x1000_1 x1001_1 x1002_1 x1003_1 from QI81_0) Zm (by decide)) hk (fun _ h => h.2)) (fun _ h => h.1)); have n1_ := Y0.mk (Kd.N_mono (Kd.N_keep (Kd.N_mono (ok := fun k_ => (((w.heap.size ≤ k_)) ∧ (some k_ ≠ (u183002 : Value).ownBlock ∧ (k_ ≠ gb169 ∧ (k_ ≠ gb182 ∧ k_ ≠ g))))) Zl (fun k_ hk_ => (⟨hk_, hk_.2.2.2.2⟩ : _ ∧ k_ ≠ g))) hk (fun _ h => h.2)) (fun _ h => h.1)); have n2_ := Y0.mk (Y1.blk hk (g' := gb169) (o := .cells #[.int .i64 x170000_1, .string x170001_1, .slice none 0 0, .slice none 0 0] 37 (0, 0)) QQ NB169_0.out (by simp)); have n3_ := Y0.mk (Y1.blk hk (g' := gb182) (o := .cells #[.int .i64 x183000_1, .string x183001_1, u183002, u183003] 37 (0, 0)) QQ NB182_0.out (by simp)); have n4_ := Y0.mk (Y1.trans QK hk (.inl rfl)); have n5_ := Y0.mk (hb); have n6_ := Y0.mk (hi); clear HO_183002 HO_183003 BK169 BK182 HK HB HI0; have HO_183002 := n0_; have HO_183003 := n1_; have BK169 := n2_; have BK182 := n3_; have HK := n4_; have HB := n5_; have HI0 := n6_; clear n0_ n1_ n2_ n3_ n4_ n5_ n6_; (try clear hb); (try clear hb2); (try clear hk); (try clear hi)) | ((with_reducible refine Yl (f := 97) rfl ?_); refine YO (some 18) rfl rfl Tryd.func97 Z4 rfl #[.pointer (some ⟨g, 0, none⟩), .int .u8 43] rfl Z0 ?_; (with_reducible refine (Yn.calls k1 g t184 t185 t186 t187 43 false t192 t193 t194 t195 w0 _ ?side1 ?side2 A24.out).mono ?_); (case side1 => exact Z1u); (case side2 => exact QB); rintro e w52 ⟨rfl, hi, hb, hk⟩; refine ⟨_, rfl, ?_⟩; have n0_ := Y0.mk (Kd.R_mono (Kd.R_keep (YC.apart (show YC w0 _ g t184 t185 t186 t187 from QI81_0) Zm (by decide)) hk (fun _ h => h.2)) (fun _ h => h.1)); have n1_ := Y0.mk (Kd.N_mono (Kd.N_keep (Kd.N_mono (ok := fun k_ => (((w.heap.size ≤ k_)) ∧ (some k_ ≠ (u183002 : Value).ownBlock ∧ (k_ ≠ gb169 ∧ (k_ ≠ gb182 ∧ k_ ≠ g))))) Zl (fun k_ hk_ => (⟨hk_, hk_.2.2.2.2⟩ : _ ∧ k_ ≠ g))) hk (fun _ h => h.2)) (fun _ h => h.1)); have n2_ := Y0.mk (Y1.blk hk (g' := gb169) (o := .cells #[.int .i64 x170000_1, .string x170001_1, .slice none 0 0, .slice none 0 0] 37 (0, 0)) QQ NB169_0.out (by simp)); have n3_ := Y0.mk (Y1.blk hk (g' := gb182) (o := .cells #[.int .i64 x183000_1, .string x183001_1, u183002, u183003] 37 (0, 0)) QQ NB182_0.out (by simp)); have n4_ := Y0.mk (Y1.trans QK hk (.inl rfl)); have n5_ := Y0.mk (hb); have n6_ := Y0.mk (hi); clear HO_183002 HO_183003 BK169 BK182 HK HB HI0; have HO_183002 := n0_; have HO_183003 := n1_; have BK169 := n2_; have BK182 := n3_; have HK := n4_; have HB := n5_; have HI0 := n6_; clear n0_ n1_ n2_ n3_ n4_ n5_ n6_; (try clear hb); (try clear hb2); (try clear hk); (try clear hi)) | ((with_reducible refine Yl (f := 97) rfl ?_); refine YO (some 24) rfl rfl Tryd.func97 Z4 rfl #[.pointer (some ⟨g, 0, none⟩), .int .u8 63] rfl Z0 ?_; (with_reducible refine (Yn.calls k1 g t192 t193 t194 t195 63 false t200 t201 t202 t203 w0 _ ?side1 ?side2 A37.out).mono ?_); (case side1 => exact Z1u); (case side2 => exact QB); rintro e w53 ⟨rfl, hi, hb, hk⟩; refine ⟨_, rfl, ?_⟩; have n0_ := Y0.mk (Kd.R_mono (Kd.R_keep (YC.apart (show YC w0 _ g t192 t193 t194 t195 from QI81_0) Zm (by decide)) hk (fun _ h => h.2)) (fun _ h => h.1)); have n1_ := Y0.mk (Kd.N_mono (Kd.N_keep (Kd.N_mono (ok := fun k_ => (((w.heap.size ≤ k_)) ∧ (some k_ ≠ (u183002 : Value).ownBlock ∧ (k_ ≠ gb169 ∧ (k_ ≠ gb182 ∧ k_ ≠ g))))) Zl (fun k_ hk_ => (⟨hk_, hk_.2.2.2.2⟩ : _ ∧ k_ ≠ g))) hk (fun _ h => h.2)) (fun _ h => h.1)); have n2_ := Y0.mk (Y1.blk hk (g' := gb169) (o := .cells #[.int .i64 x170000_1, .string x170001_1, .slice none 0 0, .slice none 0 0] 37 (0, 0)) QQ NB169_0.out (by simp)); have n3_ := Y0.mk (Y1.blk hk (g' := gb182) (o := .cells #[.int .i64 x183000_1, .string x183001_1, u183002, u183003] 37 (0, 0)) QQ NB182_0.out (by simp)); have n4_ := Y0.mk (Y1.trans QK hk (.inl rfl)); have n5_ := Y0.mk (hb); have n6_ := Y0.mk (hi); clear HO_183002 HO_183003 BK169 BK182 HK HB HI0; have HO_183002 := n0_; have HO_183003 := n1_; have BK169 := n2_; have BK182 := n3_; have HK := n4_; have HB := n5_; have HI0 := n6_; clear n0_ n1_ n2_ n3_ n4_ n5_ n6_; (try clear hb); (try clear hb2); (try clear hk); (try clear hi); have hnb54 := NB182_169.out; have hnc54 := NB169_182.out; have hnb55 := NB182_0.out; have hnc55 := NB0_182.out; obtain ⟨hcz56_0, hcz56_1, hcz56_2, hcz56_3, hfz56_0, hfz56_1, hfz56_2, hfz56_3⟩ := YA BK182.out; have hnb57 := NB169_0.out; have hnc57 := NB0_169.out; obtain ⟨hcz58_0, hcz58_1, hcz58_2, hcz58_3, hfz58_0, hfz58_1, hfz58_2, hfz58_3⟩ := YA BK169.out; obtain ⟨Ao59, co59, eo59⟩ := Kd.R_slice HO_183002.out; subst eo59; obtain ⟨Ao60, co60, eo60⟩ := Kd.N_slice HO_183003.out; subst eo60))
      refine bodyPost_ret (results_cell_row rfl _ _ gb169 37 #[.int .i64 x183000_1, .string x183001_1, .slice Ao59 x183002_1.length co59, .slice Ao60 x183003_1.length co60] (0, 0) _ rfl (by (with_reducible repeat (first | refine Yh ?_ _ | refine Yb ?_ | refine Yd ?_ _)); exact YE (cs := #[.int .i64 x183000_1, .string x183001_1, .slice Ao59 x183002_1.length co59, .slice none 0 0]) (by (with_reducible repeat (first | refine Yh ?_ _ | refine Yb ?_ | refine Yd ?_ _)); exact YE (cs := #[.int .i64 x183000_1, .string x183001_1, .slice none 0 0, .slice none 0 0]) (by (with_reducible repeat (first | refine Yh ?_ _ | refine Yb ?_ | refine Yd ?_ _)); exact YE (cs := #[.int .i64 x183000_1, .string x170001_1, .slice none 0 0, .slice none 0 0]) (by (with_reducible repeat (first | refine Yh ?_ _ | refine Yb ?_ | refine Yd ?_ _)); exact YE (cs := #[.int .i64 x170000_1, .string x170001_1, .slice none 0 0, .slice none 0 0]) QQ 0 _ rfl) 1 _ rfl) 2 _ rfl) 3 _ rfl) Tryd.underlying37 rfl Z4) rfl ?_
      exact ⟨_, _, Z2, by (with_reducible repeat (first | apply Kd.R_alloc | apply Kd.R_drewN | apply Kd.R_drew)); exact Kd.R_mono (Kd.R_far (p := ⟨gb169, 3, none⟩) (Kd.R_far (p := ⟨gb169, 2, none⟩) (Kd.R_far (p := ⟨gb169, 1, none⟩) (Kd.R_far (p := ⟨gb169, 0, none⟩) (Kd.R_types HO_183002.out BK169.out (by decide)) (fun _ hk => hk.2) (.int .i64 x183000_1)) (fun _ hk => hk.2) (.string x183001_1)) (fun _ hk => hk.2) (.slice Ao59 x183002_1.length co59)) (fun _ hk => hk.2) (.slice Ao60 x183003_1.length co60)) (fun _ hk => hk.1), by (with_reducible repeat (first | apply Kd.N_alloc | apply Kd.N_drewN | apply Kd.N_drew)); exact Kd.N_mono (Kd.N_far (p := ⟨gb169, 3, none⟩) (Kd.N_far (p := ⟨gb169, 2, none⟩) (Kd.N_far (p := ⟨gb169, 1, none⟩) (Kd.N_far (p := ⟨gb169, 0, none⟩) (Kd.N_mono HO_183003.out (fun k_ hk => (⟨hk, hk.2.2.1⟩ : _ ∧ k_ ≠ gb169))) (fun _ hk => hk.2) (.int .i64 x183000_1)) (fun _ hk => hk.2) (.string x183001_1)) (fun _ hk => hk.2) (.slice Ao59 x183002_1.length co59)) (fun _ hk => hk.2) (.slice Ao60 x183003_1.length co60)) (fun _ hk => ⟨hk.1.1, hk.1.2.1⟩), QI81_0, QB, QK⟩
end Go.Proofs.YtbpbfboaofkpaaaDoor.Print
end
