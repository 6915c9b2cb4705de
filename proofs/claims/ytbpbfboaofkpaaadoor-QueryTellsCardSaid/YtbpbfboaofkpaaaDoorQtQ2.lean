/- Proofs for this claim: printed by our driver and joined by pack.py; the last text holds the statement. -/
import Derived.Test.YtbpbfboaofkpaaaDoorQtQ1
section
namespace Go.Proofs.YtbpbfboaofkpaaaDoor.Print
open Go.RowKit Go.Shelf Go.Proofs.YtbpbfboaofkpaaaDoorW.PrintWords
set_option linter.unusedVariables false
set_option linter.unusedSimpArgs false
theorem Y1c.calls (a0 : ByteArray) (r : Bool) (w : World) (hT : Tabs w) (h : Y1c.f a0 = some r) :
  Calls Tryd.prog 39 #[.string a0] w fun e w' => e = .returned (.bool r) ∧ Below w.heap.size w w' := by
 unfold Y1c.f at h
 by_cases hs : Y4u a0 = true
 ·rw [if_pos hs] at h
  obtain rfl := Option.some.inj h
  have hz : a0.size ≤ 9223372036854775807 := of_decide_eq_true hs
  clear h hs
  unfold Y30
  rcases Nat.eq_zero_or_pos a0.size with h0 | h0
  ·obtain rfl := ba_empty h0
   clear h0 hT
   show Calls _ _ _ w fun e w' => e = .returned (.bool false) ∧ _
   go_enter Tryd.func39, Tryd.ntmps39
   go_wp2
   go_ret
   exact Z1s
  ·have n1 := ba_ne h0
   have n2 : (a0.toList == []) = false := beq_eq_false_iff_ne.mpr n1
   have n3 : (a0.toList != []) = true := bne_iff_ne.mpr n1
   have n4 : a0.toList.isEmpty = false := by cases e : a0.toList <;> simp_all
   rw [decide_eq_true h0, Bool.true_and]
   by_cases h60 : a0.size ≤ 60
   ·have m1 : decide ((a0.size : Int) ≤ 60) = true := decide_eq_true (by omega)
    have m2 : decide (a0.size ≤ 60) = true := decide_eq_true h60
    rw [decide_eq_true h60, Bool.true_and]
    have c1 := fun W (hb : Below w.heap.size w W) => Any.utf8_ValidString Tryd.lays196 a0 W hz (Y2n hT hb).u8
    have c2 := fun W => Y4h 71 (enters_of Tryd.func71 Z6 rfl) #[] Y1f a0 W (Y5x W)
    generalize Lib.validD a0.data.toList = b1 at c1 ⊢
    generalize Y2l Y1f a0 = b2 at c2 ⊢
    have C1 := Lib.hid c1
    have C2 := Lib.hid c2
    clear c1 c2 hT h0 h60 n1
    cases b1
    ·show Calls _ _ _ w fun e w' => e = .returned (.bool false) ∧ _
     go_enter Tryd.func39, Tryd.ntmps39
     go_wp2_with (go_at_call 38; refine (C1.out _ (Below.refl _ _)).mono ?_; rintro e w1 ⟨rfl, hb1⟩)
     go_ret
     exact ⟨rfl, hb1⟩
    ·show Calls _ _ _ w fun e w' => e = .returned (.bool b2) ∧ _
     go_enter Tryd.func39, Tryd.ntmps39
     go_wp2_with (first | (go_at_call 38; refine (C1.out _ (Below.refl _ _)).mono ?_; rintro e w1 ⟨rfl, hb1⟩) | (go_at_call 70; refine (C2.out _).mono ?_; rintro e w2 ⟨rfl, hb2⟩))
     go_ret
     exact ⟨rfl, hb1.trans (hb2.mono hb1.size)⟩
   ·have m1 : decide ((a0.size : Int) ≤ 60) = false := decide_eq_false (by omega)
    have m2 : decide (a0.size ≤ 60) = false := decide_eq_false h60
    rw [decide_eq_false h60, Bool.false_and]
    rw [Bool.false_and]
    clear hT h0 h60 n1
    go_enter Tryd.func39, Tryd.ntmps39
    go_wp2
    go_ret
    exact Z1s
 ·rw [if_neg hs] at h; cases h
def YX.f (a0 : ByteArray) : Option Bool := if Y4u a0 then some (Y30 a0) else none
theorem YX.calls (a0 : ByteArray) (r : Bool) (w : World) (hT : Tabs w) (h : YX.f a0 = some r) :
  Calls Tryd.prog 45 #[.string a0] w fun e w' => e = .returned (.bool r) ∧ Below w.heap.size w w' := by
 unfold YX.f at h
 by_cases hs : Y4u a0 = true
 ·rw [if_pos hs] at h
  obtain rfl := Option.some.inj h
  have e : Y3Q a0 = Y30 a0 := by
   unfold Y3Q Y30
   by_cases h1 : a0.size < 1
   ·rw [decide_eq_true h1, decide_eq_false (by omega : ¬ 0 < a0.size)]; simp
   ·by_cases h2 : 60 < a0.size
    ·rw [decide_eq_true h2, decide_eq_false (by omega : ¬ a0.size ≤ 60)]; simp
    ·rw [decide_eq_false h1, decide_eq_false h2, decide_eq_true (by omega : 0 < a0.size), decide_eq_true (by omega : a0.size ≤ 60)]; simp
  rw [← e]
  exact Y5d a0 w hT (of_decide_eq_true hs)
 ·rw [if_neg hs] at h; cases h
def strings_Cut.f (a0 a1 : ByteArray) : Option (ByteArray × ByteArray × Bool) := if langOk a0 then some (⟨(Lib.cut a0.data.toList a1.data.toList).1.toArray⟩, ⟨(Lib.cut a0.data.toList a1.data.toList).2.1.toArray⟩, (Lib.cut a0.data.toList a1.data.toList).2.2) else none
theorem strings_Cut.calls (a0 a1 : ByteArray) (r1 r2 : ByteArray) (r3 : Bool) (w : World) (hT : Tabs w) (h : strings_Cut.f a0 a1 = some (r1, r2, r3)) :
  Calls Tryd.prog 145 #[.string a0, .string a1] w fun e w' => e = .returned (.tuple #[.string r1, .string r2, .bool r3]) ∧ Y26 w w' := by
 unfold strings_Cut.f at h
 by_cases hs : langOk a0 = true
 ·rw [if_pos hs] at h
  obtain ⟨m, hm⟩ := hT.ml
  have e := Option.some.inj h
  simp only [Prod.mk.injEq] at e
  obtain ⟨rfl, rfl, rfl⟩ := e
  exact (Tryd.strings_Cut a0 a1 m w (of_decide_eq_true hs) hm).mono fun _ _ ⟨he, hw⟩ => ⟨he, ⟨hw⟩⟩
 ·rw [if_neg hs] at h; cases h
end Go.Proofs.YtbpbfboaofkpaaaDoor.Print
end
section
namespace Go.Proofs.YtbpbfboaofkpaaaDoor.Print
open Go.RowKit Go.Proofs.YtbpbfboaofkpaaaDoorW.PrintWords Go.Proofs.YtbpbfboaofkpaaaDoorW.PrintLast Go.Proofs.YtbpbfboaofkpaaaDoorW.PrintMore
attribute [local go_sem] max2_int min2_int max_two min_two max_three min_three max_four min_four
set_option linter.unusedVariables false
set_option linter.unusedSimpArgs false
def Y1l.f (a0 : ByteArray) : Option (Bool) := (Y1c.f a0).bind fun t101 => (some (!t101))
set_option maxHeartbeats 8000000 in
set_option maxRecDepth 100000 in
theorem Y1l.calls (a0 : ByteArray) (r : Bool) (w : World) (hT : Tabs w) (h : Y1l.f a0 = some r) :
  Calls Tryd.prog 99 #[.string a0] w fun e w' => e = .returned (.bool r) ∧ Below w.heap.size w w' := by
 have HT := Y0.mk hT
 clear hT
 have HB := Y0.mk (Below.refl w.heap.size w)
 have H : ((Y1c.f a0).bind fun t101 => (some (!t101))) = some r := h
 clear h
 replace H := Option.bind_eq_some_iff.mp H
 obtain ⟨t101, A20, H⟩ := H
 replace H : (some (!t101)) = some r := H
 have A2 := Y0.mk A20
 clear A20
 obtain rfl := Option.some.inj H
 go_enter Tryd.func99, Tryd.ntmps99
 go_wp2_with (first | ((with_reducible refine Yw (f := 39) rfl ?_); refine YV (some 4) rfl rfl Tryd.func39 Z6 rfl #[.string a0] rfl Z0 ?_; (with_reducible refine (Y1c.calls a0 t101 _ ?side1 A2.out).mono ?_); (case side1 => exact Zn); rintro e w3 ⟨rfl, hb⟩; refine ⟨_, rfl, ?_⟩; have n0_ := Y0.mk (Y6 QB hb); clear HB; have HB := n0_; clear n0_; (try clear hb); (try clear hb2); (try clear hk); (try clear hi)))
 go_ret
 exact Z1F
def Yf.l0 : Nat → List ByteArray → Int → Int → Option (Int)
 | 0, _, _, _ => none
 | k + 1, x0, x7, x8 => if x8 < x7 then (if 0 ≤ x8 then (if x8 < (x0.length : Int) then ((Y1l.f (Y25 ByteArray.empty x0 x8)).bind fun t102 => (if t102 = true then (some x8) else (Yf.l0 k x0 x7 (wrap64 (x8 + 1))))) else (none)) else (none)) else (some (-1))
def Yf.f (k : Nat) (l0 : List ByteArray)  : Option (Int) := Yf.l0 k l0 (l0.length : Int) 0
theorem Yf.mono_l : ∀ k, (∀ y0 y1 y2, LeO (Yf.l0 k y0 y1 y2) (Yf.l0 (k + 1) y0 y1 y2))
 | 0 => fun _ _ _ r h => by simp [Yf.l0] at h
 | k + 1 => by
  have ih0 := Yf.mono_l k
  ·intro y0 y1 y2
   unfold Yf.l0
   repeat' first
   | (with_reducible exact ih0 _ _ _)
   | (with_reducible exact LeO.refl _)
   | (with_reducible exact LeO.none _)
   | (with_reducible refine LeO.ite ?_ ?_)
   | (with_reducible refine LeO.bind ?_ (fun _ => ?_))
   | exact ih0 _ _ _
   | exact LeO.none _
   | refine LeO.ite ?_ ?_
   | refine LeO.bind ?_ (fun _ => ?_)
theorem Yf.mono : ∀ a0 k, LeO (Yf.f k a0) (Yf.f (k + 1) a0) := by
 intro a0 k
 have ih0 := Yf.mono_l k
 unfold Yf.f
 repeat' first
   | (with_reducible exact ih0 _ _ _)
   | (with_reducible exact LeO.refl _)
   | (with_reducible exact LeO.none _)
   | (with_reducible refine LeO.ite ?_ ?_)
   | (with_reducible refine LeO.bind ?_ (fun _ => ?_))
   | exact ih0 _ _ _
   | exact LeO.none _
   | refine LeO.ite ?_ ?_
   | refine LeO.bind ?_ (fun _ => ?_)
set_option maxHeartbeats 8000000 in
set_option maxRecDepth 100000 in
theorem Yf.calls (k : Nat) (A0 : Option Addr) (c0 : Nat) (l0 : List ByteArray)  (r : Int) (w : World) (hT : Tabs w) (hr0 : Kd.C Kd.string w A0 l0.length l0) (hc0 : l0.length ≤ c0) (h : Yf.f k l0 = some r) :
  Calls Tryd.prog 114 #[.slice A0 l0.length c0, .func (.func 99) #[] #[]] w fun e w' => e = .returned (.int .i64 r) ∧ Below w.heap.size w w' := by
 have HT := Y0.mk hT
 clear hT
 have HR0 := Y0.mk hr0
 have HC0 := Y0.mk hc0
 clear hr0 hc0
 have HB := Y0.mk (Below.refl w.heap.size w)
 have H : (Yf.l0 k l0 (l0.length : Int) 0) = some r := h
 clear h
 have H' := Y0.mk H
 clear H
 go_enter Tryd.func114, Tryd.ntmps114
 go_wp2
 go_loopg [8] k (fun kq v8 w' => ∃ (x8_1 : Int), v8 = .int .i64 x8_1 ∧ Y0 (Yf.l0 kq l0 (l0.length : Int) x8_1 = some r) ∧ Y0 (kq ≤ k) ∧ Y0 (Below w.heap.size w w'))
 case atStart => exact ⟨(0), Z9, H', ⟨Nat.le_refl _⟩, ⟨QB⟩⟩
 case round =>
  clear H'
  try clear c1
  try clear p2
  obtain ⟨x8_1, rfl, HA, HK1, HB⟩ := hrel
  cases gk with
  | zero => exact absurd HA.out (by simp [Yf.l0])
  | succ k1 =>
   have H := HA.out
   clear HA
   simp only [Yf.l0] at H
   by_cases c3 : x8_1 < (l0.length : Int)
   ·rw [if_pos c3] at H
    have c3b0 : decide (x8_1 < (l0.length : Int)) = true := decide_eq_true c3
    clear c3
    by_cases c4 : 0 ≤ x8_1
    ·rw [if_pos c4] at H
     have c4b0 : decide (0 ≤ x8_1) = true := decide_eq_true c4
     clear c4
     by_cases c5 : x8_1 < (l0.length : Int)
     ·rw [if_pos c5] at H
      have c5b0 : decide (x8_1 < (l0.length : Int)) = true := decide_eq_true c5
      clear c5
      replace H := Option.bind_eq_some_iff.mp H
      obtain ⟨t102, A60, H⟩ := H
      replace H : (if t102 = true then (some x8_1) else (Yf.l0 k1 l0 (l0.length : Int) (wrap64 (x8_1 + 1)))) = some r := H
      have A6 := Y0.mk A60
      clear A60
      by_cases c7 : t102 = true
      ·subst c7
       have H1 : (some x8_1) = some r := by rw [if_pos rfl] at H; exact H
       clear H
       have H := H1
       clear H1
       obtain rfl := Option.some.inj H
       have p101 : 0 ≤ (x8_1 : Int) := of_decide_eq_true Z8
       have q101 : x8_1 < (l0.length : Int) := of_decide_eq_true Z8
       obtain ⟨ad101, e101, hx101_0⟩ := Kd.at_string HR0.out x8_1 p101 q101
       cases e101
       replace hx101_0 := YT HB.out hx101_0
       replace p101 := eq_true p101
       replace q101 := eq_true q101
       go_wp2_with (first | (go_at_call 99; (with_reducible refine (Y1l.calls (Y25 ByteArray.empty l0 x8_1) true _ ?side1 A6.out).mono ?_); (case side1 => exact Z3); rintro e w8 ⟨rfl, hb⟩; have n0_ := Y0.mk (Y6 QB hb); clear HB; have HB := n0_; clear n0_; (try clear hb); (try clear hb2); (try clear hk); (try clear hi)))
       go_ret
       exact Z1F
      ·replace c7 := Bool.eq_false_iff.mpr c7
       subst c7
       have H1 : (Yf.l0 k1 l0 (l0.length : Int) (wrap64 (x8_1 + 1))) = some r := by rw [if_neg (show ¬ (false = true) by decide)] at H; exact H
       clear H
       have H := H1
       clear H1
       have H' := Y0.mk H
       clear H
       have p101 : 0 ≤ (x8_1 : Int) := of_decide_eq_true Z8
       have q101 : x8_1 < (l0.length : Int) := of_decide_eq_true Z8
       obtain ⟨ad101, e101, hx101_0⟩ := Kd.at_string HR0.out x8_1 p101 q101
       cases e101
       replace hx101_0 := YT HB.out hx101_0
       replace p101 := eq_true p101
       replace q101 := eq_true q101
       go_wp2_with (first | (go_at_call 99; (with_reducible refine (Y1l.calls (Y25 ByteArray.empty l0 x8_1) false _ ?side1 A6.out).mono ?_); (case side1 => exact Z3); rintro e w9 ⟨rfl, hb⟩; have n0_ := Y0.mk (Y6 QB hb); clear HB; have HB := n0_; clear n0_; (try clear hb); (try clear hb2); (try clear hk); (try clear hi)))
       go_roundg k1
       case measure => have := HK1.out; omega
       case rel => exact ⟨(wrap64 (x8_1 + 1)), Z9, H', ⟨ZM⟩, ⟨QB⟩⟩
     ·rw [if_neg c5] at H
      exact Zh
    ·rw [if_neg c4] at H
     exact Zh
   ·rw [if_neg c3] at H
    have c3b0 : decide (x8_1 < (l0.length : Int)) = false := decide_eq_false c3
    clear c3
    obtain rfl := Option.some.inj H
    go_wp2
    go_ret
    exact Z1F
def Ys.f (k : Nat) (l0 : List ByteArray)  : Option (Bool) := (Yf.f k l0).bind fun t101 => (some (decide (t101 ≥ 0)))
theorem Ys.mono : ∀ a0 k, LeO (Ys.f k a0) (Ys.f (k + 1) a0) := by
 intro a0 k
 unfold Ys.f
 repeat' first
   | (with_reducible exact Yf.mono _ _)
   | (with_reducible exact LeO.refl _)
   | (with_reducible exact LeO.none _)
   | (with_reducible refine LeO.ite ?_ ?_)
   | (with_reducible refine LeO.bind ?_ (fun _ => ?_))
   | exact Yf.mono _ _
   | exact LeO.none _
   | refine LeO.ite ?_ ?_
   | refine LeO.bind ?_ (fun _ => ?_)
set_option maxHeartbeats 8000000 in
set_option maxRecDepth 100000 in
theorem Ys.calls (k : Nat) (A0 : Option Addr) (c0 : Nat) (l0 : List ByteArray)  (r : Bool) (w : World) (hT : Tabs w) (hr0 : Kd.C Kd.string w A0 l0.length l0) (hc0 : l0.length ≤ c0) (h : Ys.f k l0 = some r) :
  Calls Tryd.prog 100 #[.slice A0 l0.length c0, .func (.func 99) #[] #[]] w fun e w' => e = .returned (.bool r) ∧ Below w.heap.size w w' := by
 have HT := Y0.mk hT
 clear hT
 have HR0 := Y0.mk hr0
 have HC0 := Y0.mk hc0
 clear hr0 hc0
 have HB := Y0.mk (Below.refl w.heap.size w)
 have H : ((Yf.f k l0).bind fun t101 => (some (decide (t101 ≥ 0)))) = some r := h
 clear h
 replace H := Option.bind_eq_some_iff.mp H
 obtain ⟨t101, A30, H⟩ := H
 replace H : (some (decide (t101 ≥ 0))) = some r := H
 have A3 := Y0.mk A30
 clear A30
 obtain rfl := Option.some.inj H
 go_enter Tryd.func100, Tryd.ntmps100
 go_wp2_with (first | ((with_reducible refine Yw (f := 114) rfl ?_); refine YV (some 7) rfl rfl Tryd.func114 Z6 rfl #[.slice A0 l0.length c0, .func (.func 99) #[] #[]] rfl Z0 ?_; (with_reducible refine (Yf.calls k _ _ l0  t101 _ ?side1 ?side2 ?side3 A3.out).mono ?_); (case side1 => exact Zn); (case side2 => repeat (first | exact HR0.out | (with_reducible refine Kd.C_alloc ?_ _) | (with_reducible refine Kd.C_drewN ?_ _) | (with_reducible refine Kd.C_drew ?_))); (case side3 => exact HC0.out); rintro e w4 ⟨rfl, hb⟩; refine ⟨_, rfl, ?_⟩; have n0_ := Y0.mk (Y6 QB hb); clear HB; have HB := n0_; clear n0_; (try clear hb); (try clear hb2); (try clear hk); (try clear hi)))
 go_ret
 exact Z1F
mutual
def Yu.l0 : Nat → Int → Int → List (S37) → Int → Int → Option (Int)
 | 0, _, _, _, _, _ => none
 | k + 1, x1, x7, x67, x68, x69 => if x69 < x68 then (if 0 ≤ x69 then (if x69 < (x67.length : Int) then ((Yu.f k ((Y2 x67 x69).f0) ((Y2 x67 x69).f1) ((Y2 x67 x69).f2) ((Y2 x67 x69).f3) (wrap64 (x1 + 1))).bind fun t106 => (if t106 < 0 then (some (-1)) else (Yu.l0 k x1 (wrap64 (x7 + t106)) x67 x68 (wrap64 (x69 + 1))))) else (none)) else (none)) else (some x7)
def Yu.f : Nat → Int → ByteArray → List ByteArray → List (S37) → Int → Option (Int)
 | 0, _, _, _, _, _ => none
 | k + 1, a0_0, a0_1, l0_2, l0_3, a1 => if a1 > 5 then (some (-1)) else ((YE.f k a0_0).bind fun t102 => (if (l0_3.length : Int) = t102 then (if (((a0_0 == 1) == (a0_1.toList != ([] : List UInt8))) = true) then (if (((a0_0 == 8) == (decide ((l0_2.length : Int) > 0))) = true) then (if (l0_2.length : Int) > 4 then (some (-1)) else (if a0_1.toList = ([] : List UInt8) then ((Ys.f k l0_2).bind fun t103 => (if t103 = true then (some (-1)) else (Yu.l0 k a1 1 l0_3 (l0_3.length : Int) 0))) else ((Y1l.f a0_1).bind fun t107 => (if t107 = true then (some (-1)) else ((Ys.f k l0_2).bind fun t108 => (if t108 = true then (some (-1)) else (Yu.l0 k a1 1 l0_3 (l0_3.length : Int) 0))))))) else (some (-1))) else (some (-1))) else (some (-1))))
end
theorem Yu.mono_l : ∀ k, (∀ y0 y1 y2 y3 y4, LeO (Yu.f k y0 y1 y2 y3 y4) (Yu.f (k + 1) y0 y1 y2 y3 y4)) ∧ (∀ y0 y1 y2 y3 y4, LeO (Yu.l0 k y0 y1 y2 y3 y4) (Yu.l0 (k + 1) y0 y1 y2 y3 y4))
 | 0 => ⟨fun _ _ _ _ _ r h => by simp [Yu.f] at h, fun _ _ _ _ _ r h => by simp [Yu.l0] at h⟩
 | k + 1 => by
  obtain ⟨ih0, ih1⟩ := Yu.mono_l k
  refine ⟨?_, ?_⟩
  ·intro y0 y1 y2 y3 y4
   unfold Yu.f
   repeat' first
   | (with_reducible exact ih0 _ _ _ _ _)
   | (with_reducible exact ih1 _ _ _ _ _)
   | (with_reducible exact YE.mono _ _)
   | (with_reducible exact Ys.mono _ _)
   | (with_reducible exact LeO.refl _)
   | (with_reducible exact LeO.none _)
   | (with_reducible refine LeO.ite ?_ ?_)
   | (with_reducible refine LeO.bind ?_ (fun _ => ?_))
   | exact ih0 _ _ _ _ _
   | exact ih1 _ _ _ _ _
   | exact YE.mono _ _
   | exact Ys.mono _ _
   | exact LeO.none _
   | refine LeO.ite ?_ ?_
   | refine LeO.bind ?_ (fun _ => ?_)
  ·intro y0 y1 y2 y3 y4
   unfold Yu.l0
   repeat' first
   | (with_reducible exact ih0 _ _ _ _ _)
   | (with_reducible exact ih1 _ _ _ _ _)
   | (with_reducible exact YE.mono _ _)
   | (with_reducible exact Ys.mono _ _)
   | (with_reducible exact LeO.refl _)
   | (with_reducible exact LeO.none _)
   | (with_reducible refine LeO.ite ?_ ?_)
   | (with_reducible refine LeO.bind ?_ (fun _ => ?_))
   | exact ih0 _ _ _ _ _
   | exact ih1 _ _ _ _ _
   | exact YE.mono _ _
   | exact Ys.mono _ _
   | exact LeO.none _
   | refine LeO.ite ?_ ?_
   | refine LeO.bind ?_ (fun _ => ?_)
theorem Yu.mono : ∀ a0 a1 a2 a3 a4 k, LeO (Yu.f k a0 a1 a2 a3 a4) (Yu.f (k + 1) a0 a1 a2 a3 a4) := by
 intro a0 a1 a2 a3 a4 k
 obtain ⟨ih0, ih1⟩ := Yu.mono_l k
 exact ih0 a0 a1 a2 a3 a4
def Yu.T3 : Bool × List (List Nat × List Nat) := (true, [([], []), ([0], [0]), ([1], [1]), ([2], [2]), ([3, 2], [2, 3]), ([4, 2], [2, 4]), ([2], [2]), ([6, 2], [2, 6]), ([7, 2, 2], [2, 7]), ([5, 8, 2], [2, 5, 8]), ([2, 9], [2, 9]), ([10, 8], [10]), ([11], [11]), ([12, 11], [11, 12]), ([11, 13], [11, 13]), ([14, 11], [14]), ([15], [15]), ([16, 15], [15, 16]), ([15, 17], [15, 17]), ([18, 15], [18]), ([19], [19]), ([20, 19], [19, 20]), ([21, 19], [19, 21]), ([22, 19], [19, 22]), ([19, 23], [19, 23]), ([24, 19], [24]), ([25], [25]), ([26, 25], [25, 26]), ([27, 25], [25, 27]), ([28, 25, 25], [25, 28]), ([29], [29]), ([30, 29], [29, 30]), ([31, 29, 29], [29, 31]), ([29, 32, 25], [25, 29, 32]), ([25, 33], [25, 33]), ([34, 32], [34]), ([35], [35]), ([36, 35], [35, 36]), ([37, 35, 35], [35, 37]), ([35, 38], [35, 38])])
def Yu.B3 : List Nat := [0, 1, 3, 7, 15, 31, 7, 71, 199, 511, 1023, 2047, 4095, 8191, 16383, 32767, 65535, 131071, 262143, 524287, 1048575, 2097151, 4194303, 8388607, 16777215, 33554431, 67108863, 134217727, 268435455, 536870911, 1073741823, 2147483647, 4294967295, 8589934591, 17179869183, 34359738367, 68719476735, 137438953471, 274877906943, 549755813887]
theorem Yu.tab3 : Y38 .any (Y3n Tryd.f62 3) = Yu.T3 := by kernel_rfl
theorem Yu.bits3 : Y1U Yu.T3.2 Yu.B3 = true := by kernel_rfl
set_option maxHeartbeats 8000000 in
set_option maxRecDepth 100000 in
theorem Yu.calls (k : Nat) : ∀ (a0_0 : Int) (a0_1 : ByteArray) (A0_2 : Option Addr) (c0_2 : Nat) (l0_2 : List ByteArray) (A0_3 : Option Addr) (c0_3 : Nat) (l0_3 : List (S37)) (a1 : Int) (r : Int) (w : World) (hT : Tabs w) (hr0_2 : Kd.C Kd.string w A0_2 l0_2.length l0_2) (hc0_2 : l0_2.length ≤ c0_2) (hr0_3 : Kd.C k37 w A0_3 l0_3.length l0_3) (hc0_3 : l0_3.length ≤ c0_3) (h : Yu.f k a0_0 a0_1 l0_2 l0_3 a1 = some r),
  Calls Tryd.prog 62 #[.agg #[.int .i64 a0_0, .string a0_1, .slice A0_2 l0_2.length c0_2, .slice A0_3 l0_3.length c0_3], .int .i64 a1] w fun e w' => e = .returned (.int .i64 r) ∧ Below w.heap.size w w' := by
 induction k using Nat.strongRecOn with
 | _ k ih =>
 intro a0_0 a0_1 A0_2 c0_2 l0_2 A0_3 c0_3 l0_3 a1 r w hT hr0_2 hc0_2 hr0_3 hc0_3 h
 cases k with
 | zero => exact absurd h (by simp [Yu.f])
 | succ k =>
 simp only [Yu.f] at h
 have HT := Y0.mk hT
 clear hT
 have hu37 := Tryd.underlying37
 have HR0_2 := Y0.mk hr0_2
 have HC0_2 := Y0.mk hc0_2
 clear hr0_2 hc0_2
 have HR0_3 := Y0.mk hr0_3
 have HC0_3 := Y0.mk hc0_3
 clear hr0_3 hc0_3
 have HB := Y0.mk (Below.refl w.heap.size w)
 have H : (if a1 > 5 then (some (-1)) else ((YE.f k a0_0).bind fun t102 => (if (l0_3.length : Int) = t102 then (if (((a0_0 == 1) == (a0_1.toList != ([] : List UInt8))) = true) then (if (((a0_0 == 8) == (decide ((l0_2.length : Int) > 0))) = true) then (if (l0_2.length : Int) > 4 then (some (-1)) else (if a0_1.toList = ([] : List UInt8) then ((Ys.f k l0_2).bind fun t103 => (if t103 = true then (some (-1)) else (Yu.l0 k a1 1 l0_3 (l0_3.length : Int) 0))) else ((Y1l.f a0_1).bind fun t107 => (if t107 = true then (some (-1)) else ((Ys.f k l0_2).bind fun t108 => (if t108 = true then (some (-1)) else (Yu.l0 k a1 1 l0_3 (l0_3.length : Int) 0))))))) else (some (-1))) else (some (-1))) else (some (-1))))) = some r := h
 clear h
 by_cases c3 : a1 > 5
 ·rw [if_pos c3] at H
  have c3b0 : decide (5 < a1) = true := decide_eq_true c3
  clear c3
  obtain rfl := Option.some.inj H
  go_enter Tryd.func62, Tryd.ntmps62
  try go_wp2_with (first | ((with_reducible refine YF (N := 2) rfl ?_); (try (refine Y19 (by rfl) ?_; dsimp only)); refine YA ?hg (N := 2) ?hd (cs := #[.int .i64 a0_0, .string a0_1, .slice A0_2 l0_2.length c0_2, .slice A0_3 l0_3.length c0_3]) (t := 37) ?hr ?_; (case hd => rfl); (case hg => rfl); (case hr => exact Za); intro gb101 hg w4 hbox hb; have n_ := Y2x (Y6 QB hb) (hbox) ((by rw [hg]; exact (Ya QB) : w.heap.size ≤ gb101)) ((by rw [hg]; exact (Ya QB) : w.heap.size ≤ gb101)); clear HB; obtain ⟨HB, BK101, GW101, GE101⟩ := n_; clear hb hbox hg; obtain ⟨hcz5_0, hcz5_1, hcz5_2, hcz5_3, hfz5_0, hfz5_1, hfz5_2, hfz5_3⟩ := YD BK101.out))
  have n_ := Y2i (Yc BK101.out) (YL HB.out)
  clear BK101
  clear HB
  obtain ⟨BK101, HB⟩ := n_
  refine Y1q (n := 40) (S := fun w' => True) (ds := []) Y39 Z6 rfl rfl trivial (fun hHeld => ?_); refine YW Yu.tab3 Yu.bits3 (fun HT_ HW_ => ?_)
  generalize w4.drew = w6 at BK101 HB hHeld ⊢
  refine pY 0 26 Y3a ?_
  refine pY 1 27 Y3b ?_
  refine pY 2 28 Y3c ?_
  refine pU 3 29 Y3d ?_
  refine pU 4 30 bz40_1f ?_
  refine pU 5 31 bz40_3f ?_
  refine pU 6 32 Y2K ?_
  refine pU 7 33 Y2L ?_
  refine pU 8 34 Y2t ?_
  refine pU 9 35 Y2u ?_
  refine pY 10 36 Y2v ?_
  refine pY 11 37 Y2w ?_
  refine pU 12 38 Y27 ?_
  refine pU 13 39 Y28 ?_
  refine pY 14 40 Y29 ?_
  refine pY 15 41 Y2a ?_
  refine pU 16 42 Y1Q ?_
  refine pU 17 43 Y1R ?_
  refine pY 18 44 Y1S ?_
  refine pY 19 45 Y1T ?_
  refine pU 20 46 Y1E ?_
  refine pU 21 47 Y1F ?_
  refine pU 22 48 Y1G ?_
  refine pU 23 49 Y1H ?_
  refine pY 24 50 Y1x ?_
  refine pY 25 51 Y1y ?_
  refine pU 26 52 Y1z ?_
  refine pU 27 53 Y1A ?_
  refine pU 28 54 Y1s ?_
  refine pU 29 55 Y1t ?_
  refine pU 30 56 Y1u ?_
  refine pU 31 57 Y1v ?_
  refine pU 32 58 Y1m ?_
  refine pU 33 59 Y1n ?_
  refine pY 34 60 Y1o ?_
  refine pY 35 61 Y1p ?_
  refine pU 36 62 Y1g ?_
  refine pU 37 63 Y1h ?_
  refine pU 38 64 Y1i ?_
  refine pY 39 65 Y1j ?_
  refine Y1O (Y1a HT_.out Z6) ?_
  try go_wp2
  go_ret
  exact Z1F
 ·rw [if_neg c3] at H
  have c3b0 : decide (5 < a1) = false := decide_eq_false c3
  clear c3
  replace H := Option.bind_eq_some_iff.mp H
  obtain ⟨t102, A70, H⟩ := H
  replace H : (if (l0_3.length : Int) = t102 then (if (((a0_0 == 1) == (a0_1.toList != ([] : List UInt8))) = true) then (if (((a0_0 == 8) == (decide ((l0_2.length : Int) > 0))) = true) then (if (l0_2.length : Int) > 4 then (some (-1)) else (if a0_1.toList = ([] : List UInt8) then ((Ys.f k l0_2).bind fun t103 => (if t103 = true then (some (-1)) else (Yu.l0 k a1 1 l0_3 (l0_3.length : Int) 0))) else ((Y1l.f a0_1).bind fun t107 => (if t107 = true then (some (-1)) else ((Ys.f k l0_2).bind fun t108 => (if t108 = true then (some (-1)) else (Yu.l0 k a1 1 l0_3 (l0_3.length : Int) 0))))))) else (some (-1))) else (some (-1))) else (some (-1))) = some r := H
  have A7 := Y0.mk A70
  clear A70
  by_cases c8 : (l0_3.length : Int) = t102
  ·rw [if_pos c8] at H
   have c8b0 : ((l0_3.length : Int) == t102) = true := beq_iff_eq.mpr c8
   have c8b1 : ((l0_3.length : Int) != t102) = false := bne_eq_false_iff_eq.mpr c8
   clear c8
   by_cases c9 : (((a0_0 == 1) == (a0_1.toList != ([] : List UInt8))) = true)
   ·rw [if_pos c9] at H
    have c9b0 : ((a0_0 == 1) == (a0_1.toList != ([] : List UInt8))) = true := c9
    (try (have c9b1 : ((a0_0 == 1) == !a0_1.toList.isEmpty) = true := by first | simpa using c9 | simpa [show ∀ l_ : List UInt8, (l_ != ([] : List UInt8)) = !l_.isEmpty from fun l_ => by cases l_ <;> rfl, show ∀ l_ : List UInt8, (l_ == ([] : List UInt8)) = l_.isEmpty from fun l_ => by cases l_ <;> rfl] using c9))
    (try (have c9b2 : (((a0_0 = 1) = (a0_1.toList != ([] : List UInt8)))) = True := eq_true (by simpa using c9)))
    (try (have c9b3 : decide ((a0_0 == 1) = (a0_1.toList != ([] : List UInt8))) = true := by simpa using c9))
    (try (have c9b4 : ((a0_0 == 1) == (a0_1.toList != ([] : List UInt8))) = true := by simpa using c9))
    clear c9
    by_cases c10 : (((a0_0 == 8) == (decide ((l0_2.length : Int) > 0))) = true)
    ·rw [if_pos c10] at H
     have c10b0 : ((a0_0 == 8) == (decide ((l0_2.length : Int) > 0))) = true := c10
     (try (have c10b1 : ((a0_0 == 8) == decide (0 < l0_2.length)) = true := by first | simpa using c10 | simpa [show ∀ l_ : List UInt8, (l_ != ([] : List UInt8)) = !l_.isEmpty from fun l_ => by cases l_ <;> rfl, show ∀ l_ : List UInt8, (l_ == ([] : List UInt8)) = l_.isEmpty from fun l_ => by cases l_ <;> rfl] using c10))
     (try (have c10b2 : (((a0_0 = 8) = (decide ((l0_2.length : Int) > 0)))) = True := eq_true (by simpa using c10)))
     (try (have c10b3 : decide ((a0_0 == 8) = (decide ((l0_2.length : Int) > 0))) = true := by simpa using c10))
     (try (have c10b4 : ((a0_0 == 8) == (decide ((l0_2.length : Int) > 0))) = true := by simpa using c10))
     clear c10
     by_cases c11 : (l0_2.length : Int) > 4
     ·rw [if_pos c11] at H
      have c11b0 : decide (4 < (l0_2.length : Int)) = true := decide_eq_true c11
      have c11b1 : decide (4 < l0_2.length) = true := decide_eq_true (by omega)
      clear c11
      obtain rfl := Option.some.inj H
      go_enter Tryd.func62, Tryd.ntmps62
      try go_wp2_with (first | ((with_reducible refine YF (N := 2) rfl ?_); (try (refine Y19 (by rfl) ?_; dsimp only)); refine YA ?hg (N := 2) ?hd (cs := #[.int .i64 a0_0, .string a0_1, .slice A0_2 l0_2.length c0_2, .slice A0_3 l0_3.length c0_3]) (t := 37) ?hr ?_; (case hd => rfl); (case hg => rfl); (case hr => exact Za); intro gb101 hg w12 hbox hb; have n_ := Y2x (Y6 QB hb) (hbox) ((by rw [hg]; exact (Ya QB) : w.heap.size ≤ gb101)) ((by rw [hg]; exact (Ya QB) : w.heap.size ≤ gb101)); clear HB; obtain ⟨HB, BK101, GW101, GE101⟩ := n_; clear hb hbox hg; obtain ⟨hcz13_0, hcz13_1, hcz13_2, hcz13_3, hfz13_0, hfz13_1, hfz13_2, hfz13_3⟩ := YD BK101.out))
      have n_ := Y2i (Yc BK101.out) (YL HB.out)
      clear BK101
      clear HB
      obtain ⟨BK101, HB⟩ := n_
      refine Y1q (n := 40) (S := fun w' => w'.cell? ⟨gb101, 0, none⟩ = some (.int .i64 a0_0) ∧ w'.cell? ⟨gb101, 1, none⟩ = some (.string a0_1) ∧ w'.cell? ⟨gb101, 2, none⟩ = some (.slice A0_2 l0_2.length c0_2) ∧ w'.cell? ⟨gb101, 3, none⟩ = some (.slice A0_3 l0_3.length c0_3)) (ds := []) Y39 Z6 rfl rfl ⟨(Y1 BK101.out 0).trans rfl, (Y1 BK101.out 1).trans rfl, (Y1 BK101.out 2).trans rfl, (Y1 BK101.out 3).trans rfl⟩ (fun hHeld => ?_); refine YW Yu.tab3 Yu.bits3 (fun HT_ HW_ => ?_)
      generalize w12.drew = w14 at BK101 HB hHeld ⊢
      refine pY 0 26 Y3a ?_
      refine pY 1 27 Y3b ?_
      refine pY 2 28 Y3c ?_
      refine pY 3 29 Y3d ?_
      refine pY 6 32 Y2V ?_
      refine pT 4 30 Y2W ?_
      refine pY 5 31 Y2K ?_
      refine pT 7 33 Y2L ?_
      refine Y2b (i := 8) (N := some 34) Y2t rfl rfl (Y16 HT_.out Z6) (by decide) (fun K hK => ?_)
      refine Y1r Tryd.func98 Z6 rfl #[.int .i64 a0_0] (by rfl) rfl rfl Z0 ?_
      with_reducible refine (YE.calls k a0_0 t102 _ A7.out).mono ?_
      rintro e w' ⟨rfl, ⟨nd, rfl⟩⟩
      refine ⟨_, rfl, ?_⟩
      refine hK.out _ _ ⟨(Y1 BK101.out 0).trans rfl, (Y1 BK101.out 1).trans rfl, (Y1 BK101.out 2).trans rfl, (Y1 BK101.out 3).trans rfl⟩ (fun hHeld => ?_)
      clear hK K
      refine Y1k (a' := ?_) ?_ ?_
      rotate_left
      ·show Act.put _ (some 34) _ = _
       simp only [Act.put, List.setIfInBounds_toArray, List.set_cons_zero, List.set_cons_succ, Y14, Y15]
       rfl
      refine pY 9 35 Y2u ?_
      refine pY 10 36 Y2v ?_
      refine pY 11 37 Y2w ?_
      refine pY 12 38 Y27 ?_
      refine pY 13 39 Y28 ?_
      refine pY 14 40 Y29 ?_
      refine pY 15 41 Y2a ?_
      refine pY 16 42 Y1Q ?_
      refine pY 17 43 Y1R ?_
      refine pY 18 44 Y1S ?_
      refine pY 19 45 Y1T ?_
      refine pY 20 46 Y1E ?_
      refine pT 21 47 Y1F ?_
      refine pY 22 48 Y1G ?_
      refine pY 23 49 Y1H ?_
      refine pY 24 50 Y1x ?_
      refine pY 25 51 Y1y ?_
      refine pU 26 52 Y1z ?_
      refine pU 27 53 Y1A ?_
      refine pU 28 54 Y1s ?_
      refine pU 29 55 Y1t ?_
      refine pU 30 56 Y1u ?_
      refine pU 31 57 Y1v ?_
      refine pU 32 58 Y1m ?_
      refine pU 33 59 Y1n ?_
      refine pY 34 60 Y1o ?_
      refine pY 35 61 Y1p ?_
      refine pU 36 62 Y1g ?_
      refine pU 37 63 Y1h ?_
      refine pU 38 64 Y1i ?_
      refine pY 39 65 Y1j ?_
      refine Y1O (Y1a HT_.out Z6) ?_
      try go_wp2
      go_ret
      exact Z1F
     ·rw [if_neg c11] at H
      have c11b0 : decide (4 < (l0_2.length : Int)) = false := decide_eq_false c11
      have c11b1 : decide (4 < l0_2.length) = false := decide_eq_false (by omega)
      clear c11
      by_cases c15 : a0_1.toList = ([] : List UInt8)
      ·rw [if_pos c15] at H
       have c15b0 : (a0_1.toList == ([] : List UInt8)) = true := beq_iff_eq.mpr c15
       have c15b1 : (a0_1.toList != ([] : List UInt8)) = false := bne_eq_false_iff_eq.mpr c15
       (try (have c15c9b0_true : (a0_0 == 1) = true := by have z_ := c9b0; rw [c15b1] at z_; simpa using z_))
       (try (have c15c9b0_false : (a0_0 == 1) = false := by have z_ := c9b0; rw [c15b1] at z_; simpa using z_))
       clear c15
       replace H := Option.bind_eq_some_iff.mp H
       obtain ⟨t103, A160, H⟩ := H
       replace H : (if t103 = true then (some (-1)) else (Yu.l0 k a1 1 l0_3 (l0_3.length : Int) 0)) = some r := H
       have A16 := Y0.mk A160
       clear A160
       by_cases c17 : t103 = true
       ·subst c17
        have H1 : (some (-1)) = some r := by rw [if_pos rfl] at H; exact H
        clear H
        have H := H1
        clear H1
        obtain rfl := Option.some.inj H
        go_enter Tryd.func62, Tryd.ntmps62
        try go_wp2_with (first | ((with_reducible refine YF (N := 2) rfl ?_); (try (refine Y19 (by rfl) ?_; dsimp only)); refine YA ?hg (N := 2) ?hd (cs := #[.int .i64 a0_0, .string a0_1, .slice A0_2 l0_2.length c0_2, .slice A0_3 l0_3.length c0_3]) (t := 37) ?hr ?_; (case hd => rfl); (case hg => rfl); (case hr => exact Za); intro gb101 hg w18 hbox hb; have n_ := Y2x (Y6 QB hb) (hbox) ((by rw [hg]; exact (Ya QB) : w.heap.size ≤ gb101)) ((by rw [hg]; exact (Ya QB) : w.heap.size ≤ gb101)); clear HB; obtain ⟨HB, BK101, GW101, GE101⟩ := n_; clear hb hbox hg; obtain ⟨hcz19_0, hcz19_1, hcz19_2, hcz19_3, hfz19_0, hfz19_1, hfz19_2, hfz19_3⟩ := YD BK101.out))
        have n_ := Y2i (Yc BK101.out) (YL HB.out)
        clear BK101
        clear HB
        obtain ⟨BK101, HB⟩ := n_
        refine Y1q (n := 40) (S := fun w' => w'.cell? ⟨gb101, 0, none⟩ = some (.int .i64 a0_0) ∧ w'.cell? ⟨gb101, 1, none⟩ = some (.string a0_1) ∧ w'.cell? ⟨gb101, 2, none⟩ = some (.slice A0_2 l0_2.length c0_2) ∧ w'.cell? ⟨gb101, 3, none⟩ = some (.slice A0_3 l0_3.length c0_3)) (ds := []) Y39 Z6 rfl rfl ⟨(Y1 BK101.out 0).trans rfl, (Y1 BK101.out 1).trans rfl, (Y1 BK101.out 2).trans rfl, (Y1 BK101.out 3).trans rfl⟩ (fun hHeld => ?_); refine YW Yu.tab3 Yu.bits3 (fun HT_ HW_ => ?_)
        generalize w18.drew = w20 at BK101 HB hHeld ⊢
        refine pY 0 26 Y3a ?_
        refine pY 1 27 Y3b ?_
        refine pY 2 28 Y3c ?_
        refine pY 3 29 Y3d ?_
        refine pY 6 32 Y2V ?_
        refine pT 4 30 Y2W ?_
        refine pY 5 31 Y2K ?_
        refine pT 7 33 Y2L ?_
        refine Y2b (i := 8) (N := some 34) Y2t rfl rfl (Y16 HT_.out Z6) (by decide) (fun K hK => ?_)
        refine Y1r Tryd.func98 Z6 rfl #[.int .i64 a0_0] (by rfl) rfl rfl Z0 ?_
        with_reducible refine (YE.calls k a0_0 t102 _ A7.out).mono ?_
        rintro e w' ⟨rfl, ⟨nd, rfl⟩⟩
        refine ⟨_, rfl, ?_⟩
        refine hK.out _ _ ⟨(Y1 BK101.out 0).trans rfl, (Y1 BK101.out 1).trans rfl, (Y1 BK101.out 2).trans rfl, (Y1 BK101.out 3).trans rfl⟩ (fun hHeld => ?_)
        clear hK K
        refine Y1k (a' := ?_) ?_ ?_
        rotate_left
        ·show Act.put _ (some 34) _ = _
         simp only [Act.put, List.setIfInBounds_toArray, List.set_cons_zero, List.set_cons_succ, Y14, Y15]
         rfl
        refine pY 9 35 Y2u ?_
        refine pY 10 36 Y2v ?_
        refine pY 11 37 Y2w ?_
        refine pY 12 38 Y27 ?_
        refine pY 13 39 Y28 ?_
        refine pY 14 40 Y29 ?_
        refine pY 15 41 Y2a ?_
        refine pY 16 42 Y1Q ?_
        refine pY 17 43 Y1R ?_
        refine pY 18 44 Y1S ?_
        refine pY 19 45 Y1T ?_
        refine pY 20 46 Y1E ?_
        refine pT 21 47 Y1F ?_
        refine pY 22 48 Y1G ?_
        refine pY 23 49 Y1H ?_
        refine pY 24 50 Y1x ?_
        refine pY 25 51 Y1y ?_
        refine pY 26 52 Y1z ?_
        refine pT 27 53 Y1A ?_
        refine pY 28 54 Y1s ?_
        refine pY 29 55 Y1t ?_
        refine pU 30 56 Y1u ?_
        refine pU 31 57 Y1v ?_
        refine pU 32 58 Y1m ?_
        refine pY 33 59 Y1n ?_
        refine pY 34 60 Y1o ?_
        refine pY 35 61 Y1p ?_
        refine pY 36 62 Y1g ?_
        refine pT 37 63 Y1h ?_
        refine Y2b (i := 38) (N := some 64) Y1i rfl rfl (Y16 HT_.out Z6) (by decide) (fun K hK => ?_)
        refine Y1r Tryd.func100 Z6 rfl #[.slice A0_2 l0_2.length c0_2, .func (.func 99) #[] #[]] (by rfl) rfl rfl Z0 ?_
        with_reducible refine (Ys.calls k _ _ l0_2  true _ ?side1 ?side2 ?side3 A16.out).mono ?_
        (case side1 => exact Z3)
        (case side2 => exact Z1k)
        (case side3 => exact Z10)
        rintro e w21 ⟨rfl, hb⟩
        refine ⟨_, rfl, ?_⟩
        have n_ := Y2i (Yj (g := gb101) (o := .cells #[.int .i64 a0_0, .string a0_1, .slice A0_2 l0_2.length c0_2, .slice A0_3 l0_3.length c0_3] 37 (0, 0)) QQ hb) (Y6 QB hb)
        clear BK101
        clear HB
        obtain ⟨BK101, HB⟩ := n_
        (try clear hb)
        (try clear hb2)
        (try clear hk)
        (try clear hi)
        refine hK.out _ _ ⟨(Y1 BK101.out 0).trans rfl, (Y1 BK101.out 1).trans rfl, (Y1 BK101.out 2).trans rfl, (Y1 BK101.out 3).trans rfl⟩ (fun hHeld => ?_)
        clear hK K
        refine Y1k (a' := ?_) ?_ ?_
        rotate_left
        ·show Act.put _ (some 64) _ = _
         simp only [Act.put, List.setIfInBounds_toArray, List.set_cons_zero, List.set_cons_succ, Y14, Y15]
         rfl
        refine pY 39 65 Y1j ?_
        refine Y1O (Y1a HT_.out Z6) ?_
        try go_wp2
        go_ret
        exact Z1F
       ·replace c17 := Bool.eq_false_iff.mpr c17
        subst c17
        have H1 : (Yu.l0 k a1 1 l0_3 (l0_3.length : Int) 0) = some r := by rw [if_neg (show ¬ (false = true) by decide)] at H; exact H
        clear H
        have H := H1
        clear H1
        have H' := Y0.mk H
        clear H
        go_enter Tryd.func62, Tryd.ntmps62
        try go_wp2_with (first | ((with_reducible refine YF (N := 2) rfl ?_); (try (refine Y19 (by rfl) ?_; dsimp only)); refine YA ?hg (N := 2) ?hd (cs := #[.int .i64 a0_0, .string a0_1, .slice A0_2 l0_2.length c0_2, .slice A0_3 l0_3.length c0_3]) (t := 37) ?hr ?_; (case hd => rfl); (case hg => rfl); (case hr => exact Za); intro gb101 hg w22 hbox hb; have n_ := Y2x (Y6 QB hb) (hbox) ((by rw [hg]; exact (Ya QB) : w.heap.size ≤ gb101)) ((by rw [hg]; exact (Ya QB) : w.heap.size ≤ gb101)); clear HB; obtain ⟨HB, BK101, GW101, GE101⟩ := n_; clear hb hbox hg; obtain ⟨hcz23_0, hcz23_1, hcz23_2, hcz23_3, hfz23_0, hfz23_1, hfz23_2, hfz23_3⟩ := YD BK101.out))
        have n_ := Y2i (Yc BK101.out) (YL HB.out)
        clear BK101
        clear HB
        obtain ⟨BK101, HB⟩ := n_
        refine Y1q (n := 40) (S := fun w' => w'.cell? ⟨gb101, 0, none⟩ = some (.int .i64 a0_0) ∧ w'.cell? ⟨gb101, 1, none⟩ = some (.string a0_1) ∧ w'.cell? ⟨gb101, 2, none⟩ = some (.slice A0_2 l0_2.length c0_2) ∧ w'.cell? ⟨gb101, 3, none⟩ = some (.slice A0_3 l0_3.length c0_3)) (ds := []) Y39 Z6 rfl rfl ⟨(Y1 BK101.out 0).trans rfl, (Y1 BK101.out 1).trans rfl, (Y1 BK101.out 2).trans rfl, (Y1 BK101.out 3).trans rfl⟩ (fun hHeld => ?_); refine YW Yu.tab3 Yu.bits3 (fun HT_ HW_ => ?_)
        generalize w22.drew = w24 at BK101 HB hHeld ⊢
        refine pY 0 26 Y3a ?_
        refine pY 1 27 Y3b ?_
        refine pY 2 28 Y3c ?_
        refine pY 3 29 Y3d ?_
        refine pY 6 32 Y2V ?_
        refine pT 4 30 Y2W ?_
        refine pY 5 31 Y2K ?_
        refine pT 7 33 Y2L ?_
        refine Y2b (i := 8) (N := some 34) Y2t rfl rfl (Y16 HT_.out Z6) (by decide) (fun K hK => ?_)
        refine Y1r Tryd.func98 Z6 rfl #[.int .i64 a0_0] (by rfl) rfl rfl Z0 ?_
        with_reducible refine (YE.calls k a0_0 t102 _ A7.out).mono ?_
        rintro e w' ⟨rfl, ⟨nd, rfl⟩⟩
        refine ⟨_, rfl, ?_⟩
        refine hK.out _ _ ⟨(Y1 BK101.out 0).trans rfl, (Y1 BK101.out 1).trans rfl, (Y1 BK101.out 2).trans rfl, (Y1 BK101.out 3).trans rfl⟩ (fun hHeld => ?_)
        clear hK K
        refine Y1k (a' := ?_) ?_ ?_
        rotate_left
        ·show Act.put _ (some 34) _ = _
         simp only [Act.put, List.setIfInBounds_toArray, List.set_cons_zero, List.set_cons_succ, Y14, Y15]
         rfl
        refine pY 9 35 Y2u ?_
        refine pY 10 36 Y2v ?_
        refine pY 11 37 Y2w ?_
        refine pY 12 38 Y27 ?_
        refine pY 13 39 Y28 ?_
        refine pY 14 40 Y29 ?_
        refine pY 15 41 Y2a ?_
        refine pY 16 42 Y1Q ?_
        refine pY 17 43 Y1R ?_
        refine pY 18 44 Y1S ?_
        refine pY 19 45 Y1T ?_
        refine pY 20 46 Y1E ?_
        refine pT 21 47 Y1F ?_
        refine pY 22 48 Y1G ?_
        refine pY 23 49 Y1H ?_
        refine pY 24 50 Y1x ?_
        refine pY 25 51 Y1y ?_
        refine pY 26 52 Y1z ?_
        refine pT 27 53 Y1A ?_
        refine pY 28 54 Y1s ?_
        refine pY 29 55 Y1t ?_
        refine pU 30 56 Y1u ?_
        refine pU 31 57 Y1v ?_
        refine pU 32 58 Y1m ?_
        refine pY 33 59 Y1n ?_
        refine pY 34 60 Y1o ?_
        refine pY 35 61 Y1p ?_
        refine pY 36 62 Y1g ?_
        refine pT 37 63 Y1h ?_
        refine Y2b (i := 38) (N := some 64) Y1i rfl rfl (Y16 HT_.out Z6) (by decide) (fun K hK => ?_)
        refine Y1r Tryd.func100 Z6 rfl #[.slice A0_2 l0_2.length c0_2, .func (.func 99) #[] #[]] (by rfl) rfl rfl Z0 ?_
        with_reducible refine (Ys.calls k _ _ l0_2  false _ ?side1 ?side2 ?side3 A16.out).mono ?_
        (case side1 => exact Z3)
        (case side2 => exact Z1k)
        (case side3 => exact Z10)
        rintro e w25 ⟨rfl, hb⟩
        refine ⟨_, rfl, ?_⟩
        have n_ := Y2i (Yj (g := gb101) (o := .cells #[.int .i64 a0_0, .string a0_1, .slice A0_2 l0_2.length c0_2, .slice A0_3 l0_3.length c0_3] 37 (0, 0)) QQ hb) (Y6 QB hb)
        clear BK101
        clear HB
        obtain ⟨BK101, HB⟩ := n_
        (try clear hb)
        (try clear hb2)
        (try clear hk)
        (try clear hi)
        refine hK.out _ _ ⟨(Y1 BK101.out 0).trans rfl, (Y1 BK101.out 1).trans rfl, (Y1 BK101.out 2).trans rfl, (Y1 BK101.out 3).trans rfl⟩ (fun hHeld => ?_)
        clear hK K
        refine Y1k (a' := ?_) ?_ ?_
        rotate_left
        ·show Act.put _ (some 64) _ = _
         simp only [Act.put, List.setIfInBounds_toArray, List.set_cons_zero, List.set_cons_succ, Y14, Y15]
         rfl
        refine pY 39 65 Y1j ?_
        refine Y1O (Y1a HT_.out Z6) ?_
        obtain ⟨hcz26_0, hcz26_1, hcz26_2, hcz26_3, hfz26_0, hfz26_1, hfz26_2, hfz26_3⟩ := YD BK101.out
        try go_wp2
        go_loopg [7, 69] k (fun kq v7 v69 w' => ∃ (x7_1 : Int) (x69_1 : Int), v7 = .int .i64 x7_1 ∧ v69 = .int .i64 x69_1 ∧ Y0 (Yu.l0 kq a1 x7_1 l0_3 (l0_3.length : Int) x69_1 = some r) ∧ Y0 (kq ≤ k) ∧ Y0 (w'.heap[gb101]? = some (.cells #[.int .i64 a0_0, .string a0_1, (.slice A0_2 l0_2.length c0_2), (.slice A0_3 l0_3.length c0_3)] 37 (0, 0))) ∧ Y0 (Below w.heap.size w w'))
        case atStart => exact Z1J
        case round =>
         clear H'
         try clear c1
         try clear p2
         try clear c6
         try clear c9
         try clear c10
         try clear c17
         try clear hcz23_0 hcz23_1 hcz23_2 hcz23_3
         try clear hcz26_0 hcz26_1 hcz26_2 hcz26_3
         try clear hfz23_0
         try clear hfz23_1
         try clear hfz23_2
         try clear hfz23_3
         try clear hfz26_0
         try clear hfz26_1
         try clear hfz26_2
         try clear hfz26_3
         obtain ⟨x7_1, x69_1, rfl, rfl, HA, HK1, BK101, HB⟩ := hrel
         cases gk with
         | zero => exact absurd HA.out (by simp [Yu.l0])
         | succ k1 =>
          have H := HA.out
          clear HA
          simp only [Yu.l0] at H
          by_cases c27 : x69_1 < (l0_3.length : Int)
          ·rw [if_pos c27] at H
           have c27b0 : decide (x69_1 < (l0_3.length : Int)) = true := decide_eq_true c27
           clear c27
           by_cases c28 : 0 ≤ x69_1
           ·rw [if_pos c28] at H
            have c28b0 : decide (0 ≤ x69_1) = true := decide_eq_true c28
            clear c28
            by_cases c29 : x69_1 < (l0_3.length : Int)
            ·rw [if_pos c29] at H
             have c29b0 : decide (x69_1 < (l0_3.length : Int)) = true := decide_eq_true c29
             clear c29
             replace H := Option.bind_eq_some_iff.mp H
             obtain ⟨t106, A300, H⟩ := H
             replace H : (if t106 < 0 then (some (-1)) else (Yu.l0 k1 a1 (wrap64 (x7_1 + t106)) l0_3 (l0_3.length : Int) (wrap64 (x69_1 + 1)))) = some r := H
             have A30 := Y0.mk A300
             clear A300
             by_cases c31 : t106 < 0
             ·rw [if_pos c31] at H
              have c31b0 : decide (t106 < 0) = true := decide_eq_true c31
              clear c31
              obtain rfl := Option.some.inj H
              have p104 : 0 ≤ (x69_1 : Int) := of_decide_eq_true Z8
              have q104 : x69_1 < (l0_3.length : Int) := of_decide_eq_true Z8
              obtain ⟨ad104, A104_2, c104_2, A104_3, c104_3, e104, hx104_0, hx104_1, hx104_2, hx104_3, hl104_2, hi104_2, hl104_3, hi104_3⟩ := Y1C HR0_3.out x69_1 p104 q104
              cases e104
              replace hx104_0 := YT HB.out hx104_0
              replace hx104_1 := YT HB.out hx104_1
              replace hx104_2 := YT HB.out hx104_2
              replace hx104_3 := YT HB.out hx104_3
              have HR104_2 := Y0.mk hi104_2
              have HC104_2 := Y0.mk hl104_2
              clear hi104_2 hl104_2
              have HR104_3 := Y0.mk hi104_3
              have HC104_3 := Y0.mk hl104_3
              clear hi104_3 hl104_3
              replace p104 := eq_true p104
              replace q104 := eq_true q104
              go_wp2_with (first | ((with_reducible refine YF (N := 9) rfl ?_); (try (refine Y19 (by rfl) ?_; dsimp only)); refine YA ?hg (N := 9) ?hd (cs := #[.int .i64 0, .string (⟨#[]⟩ : ByteArray), .slice none 0 0, .slice none 0 0]) (t := 37) ?hr ?_; (case hd => rfl); (case hg => rfl); (case hr => exact Za); intro gb105 hg w32 hbox hb; have n_ := Y5A (Yj (g := gb101) (o := .cells #[.int .i64 a0_0, .string a0_1, .slice A0_2 l0_2.length c0_2, .slice (some ad104) l0_3.length c0_3] 37 (0, 0)) QQ hb) (Y6 QB hb) (hbox) ((by rw [hg]; exact (Ya QB) : w.heap.size ≤ gb105)) ((by rw [hg]; exact (Ya QB) : w.heap.size ≤ gb105)) ((by rw [hg]; exact Nat.ne_of_lt (Y1b (g := gb101) (o := .cells #[.int .i64 a0_0, .string a0_1, .slice A0_2 l0_2.length c0_2, .slice (some ad104) l0_3.length c0_3] 37 (0, 0)) QQ) : gb101 ≠ gb105)) ((by rw [hg]; exact Nat.ne_of_gt (Y1b (g := gb101) (o := .cells #[.int .i64 a0_0, .string a0_1, .slice A0_2 l0_2.length c0_2, .slice (some ad104) l0_3.length c0_3] 37 (0, 0)) QQ) : gb105 ≠ gb101)); clear BK101 HB; obtain ⟨BK101, HB, BK105, GW105, GE105, NB101_105, NB105_101⟩ := n_; clear hb hbox hg; have hnb33 := NB105_101.out; have hnc33 := NB101_105.out; obtain ⟨hcz34_0, hcz34_1, hcz34_2, hcz34_3, hfz34_0, hfz34_1, hfz34_2, hfz34_3⟩ := YD BK105.out) | ((with_reducible refine Yw (f := 62) rfl ?_); refine YV (some 76) rfl rfl Tryd.func62 Z6 rfl #[.agg #[.int .i64 ((Y2 l0_3 x69_1).f0), .string ((Y2 l0_3 x69_1).f1), .slice A104_2 ((Y2 l0_3 x69_1).f2).length c104_2, .slice A104_3 ((Y2 l0_3 x69_1).f3).length c104_3], .int .i64 (wrap64 (a1 + 1))] rfl Z0 ?_; (with_reducible refine (ih k1 ZM ((Y2 l0_3 x69_1).f0) ((Y2 l0_3 x69_1).f1) _ _ ((Y2 l0_3 x69_1).f2) _ _ ((Y2 l0_3 x69_1).f3) (wrap64 (a1 + 1)) t106 _ ?side1 ?side2 ?side3 ?side4 ?side5 A30.out).mono ?_); (case side1 => exact Z3); (case side2 => exact Kd.C_below HR104_2.out QB); (case side3 => exact HC104_2.out); (case side4 => exact Kd.C_below HR104_3.out QB); (case side5 => exact HC104_3.out); rintro e w35 ⟨rfl, hb⟩; refine ⟨_, rfl, ?_⟩; have n_ := Y24 (Yj (g := gb101) (o := .cells #[.int .i64 a0_0, .string a0_1, .slice A0_2 l0_2.length c0_2, .slice (some ad104) l0_3.length c0_3] 37 (0, 0)) Zf hb) (Yj (g := gb105) (o := .cells #[.int .i64 ((Y2 l0_3 x69_1).f0), .string ((Y2 l0_3 x69_1).f1), .slice A104_2 ((Y2 l0_3 x69_1).f2).length c104_2, .slice A104_3 ((Y2 l0_3 x69_1).f3).length c104_3] 37 (0, 0)) Z1y hb) (Y6 QB hb); clear BK101 BK105 HB; obtain ⟨BK101, BK105, HB⟩ := n_; (try clear hb); (try clear hb2); (try clear hk); (try clear hi)))
              go_ret
              exact Z1F
             ·rw [if_neg c31] at H
              have c31b0 : decide (t106 < 0) = false := decide_eq_false c31
              clear c31
              have H' := Y0.mk H
              clear H
              have p104 : 0 ≤ (x69_1 : Int) := of_decide_eq_true Z8
              have q104 : x69_1 < (l0_3.length : Int) := of_decide_eq_true Z8
              obtain ⟨ad104, A104_2, c104_2, A104_3, c104_3, e104, hx104_0, hx104_1, hx104_2, hx104_3, hl104_2, hi104_2, hl104_3, hi104_3⟩ := Y1C HR0_3.out x69_1 p104 q104
              cases e104
              replace hx104_0 := YT HB.out hx104_0
              replace hx104_1 := YT HB.out hx104_1
              replace hx104_2 := YT HB.out hx104_2
              replace hx104_3 := YT HB.out hx104_3
              have HR104_2 := Y0.mk hi104_2
              have HC104_2 := Y0.mk hl104_2
              clear hi104_2 hl104_2
              have HR104_3 := Y0.mk hi104_3
              have HC104_3 := Y0.mk hl104_3
              clear hi104_3 hl104_3
              replace p104 := eq_true p104
              replace q104 := eq_true q104
              go_wp2_with (first | ((with_reducible refine YF (N := 9) rfl ?_); (try (refine Y19 (by rfl) ?_; dsimp only)); refine YA ?hg (N := 9) ?hd (cs := #[.int .i64 0, .string (⟨#[]⟩ : ByteArray), .slice none 0 0, .slice none 0 0]) (t := 37) ?hr ?_; (case hd => rfl); (case hg => rfl); (case hr => exact Za); intro gb105 hg w36 hbox hb; have n_ := Y5A (Yj (g := gb101) (o := .cells #[.int .i64 a0_0, .string a0_1, .slice A0_2 l0_2.length c0_2, .slice (some ad104) l0_3.length c0_3] 37 (0, 0)) QQ hb) (Y6 QB hb) (hbox) ((by rw [hg]; exact (Ya QB) : w.heap.size ≤ gb105)) ((by rw [hg]; exact (Ya QB) : w.heap.size ≤ gb105)) ((by rw [hg]; exact Nat.ne_of_lt (Y1b (g := gb101) (o := .cells #[.int .i64 a0_0, .string a0_1, .slice A0_2 l0_2.length c0_2, .slice (some ad104) l0_3.length c0_3] 37 (0, 0)) QQ) : gb101 ≠ gb105)) ((by rw [hg]; exact Nat.ne_of_gt (Y1b (g := gb101) (o := .cells #[.int .i64 a0_0, .string a0_1, .slice A0_2 l0_2.length c0_2, .slice (some ad104) l0_3.length c0_3] 37 (0, 0)) QQ) : gb105 ≠ gb101)); clear BK101 HB; obtain ⟨BK101, HB, BK105, GW105, GE105, NB101_105, NB105_101⟩ := n_; clear hb hbox hg; have hnb37 := NB105_101.out; have hnc37 := NB101_105.out; obtain ⟨hcz38_0, hcz38_1, hcz38_2, hcz38_3, hfz38_0, hfz38_1, hfz38_2, hfz38_3⟩ := YD BK105.out) | ((with_reducible refine Yw (f := 62) rfl ?_); refine YV (some 76) rfl rfl Tryd.func62 Z6 rfl #[.agg #[.int .i64 ((Y2 l0_3 x69_1).f0), .string ((Y2 l0_3 x69_1).f1), .slice A104_2 ((Y2 l0_3 x69_1).f2).length c104_2, .slice A104_3 ((Y2 l0_3 x69_1).f3).length c104_3], .int .i64 (wrap64 (a1 + 1))] rfl Z0 ?_; (with_reducible refine (ih k1 ZM ((Y2 l0_3 x69_1).f0) ((Y2 l0_3 x69_1).f1) _ _ ((Y2 l0_3 x69_1).f2) _ _ ((Y2 l0_3 x69_1).f3) (wrap64 (a1 + 1)) t106 _ ?side1 ?side2 ?side3 ?side4 ?side5 A30.out).mono ?_); (case side1 => exact Z3); (case side2 => exact Kd.C_below HR104_2.out QB); (case side3 => exact HC104_2.out); (case side4 => exact Kd.C_below HR104_3.out QB); (case side5 => exact HC104_3.out); rintro e w39 ⟨rfl, hb⟩; refine ⟨_, rfl, ?_⟩; have n_ := Y24 (Yj (g := gb101) (o := .cells #[.int .i64 a0_0, .string a0_1, .slice A0_2 l0_2.length c0_2, .slice (some ad104) l0_3.length c0_3] 37 (0, 0)) Zf hb) (Yj (g := gb105) (o := .cells #[.int .i64 ((Y2 l0_3 x69_1).f0), .string ((Y2 l0_3 x69_1).f1), .slice A104_2 ((Y2 l0_3 x69_1).f2).length c104_2, .slice A104_3 ((Y2 l0_3 x69_1).f3).length c104_3] 37 (0, 0)) Z1y hb) (Y6 QB hb); clear BK101 BK105 HB; obtain ⟨BK101, BK105, HB⟩ := n_; (try clear hb); (try clear hb2); (try clear hk); (try clear hi)))
              go_roundg k1
              case measure => have := HK1.out; omega
              case rel => exact ⟨(wrap64 (x7_1 + t106)), (wrap64 (x69_1 + 1)), Z9, Z9, H', ⟨ZM⟩, ⟨Z4⟩, ⟨QB⟩⟩
            ·rw [if_neg c29] at H
             exact Zh
           ·rw [if_neg c28] at H
            exact Zh
          ·rw [if_neg c27] at H
           have c27b0 : decide (x69_1 < (l0_3.length : Int)) = false := decide_eq_false c27
           clear c27
           obtain rfl := Option.some.inj H
           go_wp2
           go_ret
           exact Z1F
      ·rw [if_neg c15] at H
       have c15b0 : (a0_1.toList == ([] : List UInt8)) = false := beq_eq_false_iff_ne.mpr c15
       have c15b1 : (a0_1.toList != ([] : List UInt8)) = true := bne_iff_ne.mpr c15
       (try (have c15c9b0_true : (a0_0 == 1) = true := by have z_ := c9b0; rw [c15b1] at z_; simpa using z_))
       (try (have c15c9b0_false : (a0_0 == 1) = false := by have z_ := c9b0; rw [c15b1] at z_; simpa using z_))
       replace H := Option.bind_eq_some_iff.mp H
       obtain ⟨t107, A400, H⟩ := H
       replace H : (if t107 = true then (some (-1)) else ((Ys.f k l0_2).bind fun t108 => (if t108 = true then (some (-1)) else (Yu.l0 k a1 1 l0_3 (l0_3.length : Int) 0)))) = some r := H
       have A40 := Y0.mk A400
       clear A400
       by_cases c41 : t107 = true
       ·subst c41
        have H1 : (some (-1)) = some r := by rw [if_pos rfl] at H; exact H
        clear H
        have H := H1
        clear H1
        obtain rfl := Option.some.inj H
        go_enter Tryd.func62, Tryd.ntmps62
        try go_wp2_with (first | ((with_reducible refine YF (N := 2) rfl ?_); (try (refine Y19 (by rfl) ?_; dsimp only)); refine YA ?hg (N := 2) ?hd (cs := #[.int .i64 a0_0, .string a0_1, .slice A0_2 l0_2.length c0_2, .slice A0_3 l0_3.length c0_3]) (t := 37) ?hr ?_; (case hd => rfl); (case hg => rfl); (case hr => exact Za); intro gb101 hg w42 hbox hb; have n_ := Y2x (Y6 QB hb) (hbox) ((by rw [hg]; exact (Ya QB) : w.heap.size ≤ gb101)) ((by rw [hg]; exact (Ya QB) : w.heap.size ≤ gb101)); clear HB; obtain ⟨HB, BK101, GW101, GE101⟩ := n_; clear hb hbox hg; obtain ⟨hcz43_0, hcz43_1, hcz43_2, hcz43_3, hfz43_0, hfz43_1, hfz43_2, hfz43_3⟩ := YD BK101.out))
        have n_ := Y2i (Yc BK101.out) (YL HB.out)
        clear BK101
        clear HB
        obtain ⟨BK101, HB⟩ := n_
        refine Y1q (n := 40) (S := fun w' => w'.cell? ⟨gb101, 0, none⟩ = some (.int .i64 a0_0) ∧ w'.cell? ⟨gb101, 1, none⟩ = some (.string a0_1) ∧ w'.cell? ⟨gb101, 2, none⟩ = some (.slice A0_2 l0_2.length c0_2) ∧ w'.cell? ⟨gb101, 3, none⟩ = some (.slice A0_3 l0_3.length c0_3)) (ds := []) Y39 Z6 rfl rfl ⟨(Y1 BK101.out 0).trans rfl, (Y1 BK101.out 1).trans rfl, (Y1 BK101.out 2).trans rfl, (Y1 BK101.out 3).trans rfl⟩ (fun hHeld => ?_); refine YW Yu.tab3 Yu.bits3 (fun HT_ HW_ => ?_)
        generalize w42.drew = w44 at BK101 HB hHeld ⊢
        refine pY 0 26 Y3a ?_
        refine pY 1 27 Y3b ?_
        refine pY 2 28 Y3c ?_
        refine pY 3 29 Y3d ?_
        refine pY 6 32 Y2V ?_
        refine pT 4 30 Y2W ?_
        refine pY 5 31 Y2K ?_
        refine pT 7 33 Y2L ?_
        refine Y2b (i := 8) (N := some 34) Y2t rfl rfl (Y16 HT_.out Z6) (by decide) (fun K hK => ?_)
        refine Y1r Tryd.func98 Z6 rfl #[.int .i64 a0_0] (by rfl) rfl rfl Z0 ?_
        with_reducible refine (YE.calls k a0_0 t102 _ A7.out).mono ?_
        rintro e w' ⟨rfl, ⟨nd, rfl⟩⟩
        refine ⟨_, rfl, ?_⟩
        refine hK.out _ _ ⟨(Y1 BK101.out 0).trans rfl, (Y1 BK101.out 1).trans rfl, (Y1 BK101.out 2).trans rfl, (Y1 BK101.out 3).trans rfl⟩ (fun hHeld => ?_)
        clear hK K
        refine Y1k (a' := ?_) ?_ ?_
        rotate_left
        ·show Act.put _ (some 34) _ = _
         simp only [Act.put, List.setIfInBounds_toArray, List.set_cons_zero, List.set_cons_succ, Y14, Y15]
         rfl
        refine pY 9 35 Y2u ?_
        refine pY 10 36 Y2v ?_
        refine pY 11 37 Y2w ?_
        refine pY 12 38 Y27 ?_
        refine pY 13 39 Y28 ?_
        refine pY 14 40 Y29 ?_
        refine pY 15 41 Y2a ?_
        refine pY 16 42 Y1Q ?_
        refine pY 17 43 Y1R ?_
        refine pY 18 44 Y1S ?_
        refine pY 19 45 Y1T ?_
        refine pY 20 46 Y1E ?_
        refine pT 21 47 Y1F ?_
        refine pY 22 48 Y1G ?_
        refine pY 23 49 Y1H ?_
        refine pY 24 50 Y1x ?_
        refine pY 25 51 Y1y ?_
        refine pY 26 52 Y1z ?_
        refine pT 27 53 Y1A ?_
        refine pY 28 54 Y1s ?_
        refine pY 29 55 Y1t ?_
        refine pY 30 56 Y1u ?_
        refine pT 31 57 Y1v ?_
        refine Y2b (i := 32) (N := some 58) Y1m rfl rfl (Y16 HT_.out Z6) (by decide) (fun K hK => ?_)
        refine Y1r Tryd.func99 Z6 rfl #[.string a0_1] (by rfl) rfl rfl Z0 ?_
        with_reducible refine (Y1l.calls a0_1 true _ ?side1 A40.out).mono ?_
        (case side1 => exact Z3)
        rintro e w45 ⟨rfl, hb⟩
        refine ⟨_, rfl, ?_⟩
        have n_ := Y2i (Yj (g := gb101) (o := .cells #[.int .i64 a0_0, .string a0_1, .slice A0_2 l0_2.length c0_2, .slice A0_3 l0_3.length c0_3] 37 (0, 0)) QQ hb) (Y6 QB hb)
        clear BK101
        clear HB
        obtain ⟨BK101, HB⟩ := n_
        (try clear hb)
        (try clear hb2)
        (try clear hk)
        (try clear hi)
        refine hK.out _ _ ⟨(Y1 BK101.out 0).trans rfl, (Y1 BK101.out 1).trans rfl, (Y1 BK101.out 2).trans rfl, (Y1 BK101.out 3).trans rfl⟩ (fun hHeld => ?_)
        clear hK K
        refine Y1k (a' := ?_) ?_ ?_
        rotate_left
        ·show Act.put _ (some 58) _ = _
         simp only [Act.put, List.setIfInBounds_toArray, List.set_cons_zero, List.set_cons_succ, Y14, Y15]
         rfl
        refine pY 33 59 Y1n ?_
        refine pY 34 60 Y1o ?_
        refine pY 35 61 Y1p ?_
        refine pU 36 62 Y1g ?_
        refine pU 37 63 Y1h ?_
        refine pU 38 64 Y1i ?_
        refine pY 39 65 Y1j ?_
        refine Y1O (Y1a HT_.out Z6) ?_
        try go_wp2
        go_ret
        exact Z1F
       ·replace c41 := Bool.eq_false_iff.mpr c41
        subst c41
        have H1 : ((Ys.f k l0_2).bind fun t108 => (if t108 = true then (some (-1)) else (Yu.l0 k a1 1 l0_3 (l0_3.length : Int) 0))) = some r := by rw [if_neg (show ¬ (false = true) by decide)] at H; exact H
        clear H
        have H := H1
        clear H1
        replace H := Option.bind_eq_some_iff.mp H
        obtain ⟨t108, A460, H⟩ := H
        replace H : (if t108 = true then (some (-1)) else (Yu.l0 k a1 1 l0_3 (l0_3.length : Int) 0)) = some r := H
        have A46 := Y0.mk A460
        clear A460
        by_cases c47 : t108 = true
        ·subst c47
         have H1 : (some (-1)) = some r := by rw [if_pos rfl] at H; exact H
         clear H
         have H := H1
         clear H1
         obtain rfl := Option.some.inj H
         go_enter Tryd.func62, Tryd.ntmps62
         try go_wp2_with (first | ((with_reducible refine YF (N := 2) rfl ?_); (try (refine Y19 (by rfl) ?_; dsimp only)); refine YA ?hg (N := 2) ?hd (cs := #[.int .i64 a0_0, .string a0_1, .slice A0_2 l0_2.length c0_2, .slice A0_3 l0_3.length c0_3]) (t := 37) ?hr ?_; (case hd => rfl); (case hg => rfl); (case hr => exact Za); intro gb101 hg w48 hbox hb; have n_ := Y2x (Y6 QB hb) (hbox) ((by rw [hg]; exact (Ya QB) : w.heap.size ≤ gb101)) ((by rw [hg]; exact (Ya QB) : w.heap.size ≤ gb101)); clear HB; obtain ⟨HB, BK101, GW101, GE101⟩ := n_; clear hb hbox hg; obtain ⟨hcz49_0, hcz49_1, hcz49_2, hcz49_3, hfz49_0, hfz49_1, hfz49_2, hfz49_3⟩ := YD BK101.out))
         have n_ := Y2i (Yc BK101.out) (YL HB.out)
         clear BK101
         clear HB
         obtain ⟨BK101, HB⟩ := n_
         refine Y1q (n := 40) (S := fun w' => w'.cell? ⟨gb101, 0, none⟩ = some (.int .i64 a0_0) ∧ w'.cell? ⟨gb101, 1, none⟩ = some (.string a0_1) ∧ w'.cell? ⟨gb101, 2, none⟩ = some (.slice A0_2 l0_2.length c0_2) ∧ w'.cell? ⟨gb101, 3, none⟩ = some (.slice A0_3 l0_3.length c0_3)) (ds := []) Y39 Z6 rfl rfl ⟨(Y1 BK101.out 0).trans rfl, (Y1 BK101.out 1).trans rfl, (Y1 BK101.out 2).trans rfl, (Y1 BK101.out 3).trans rfl⟩ (fun hHeld => ?_); refine YW Yu.tab3 Yu.bits3 (fun HT_ HW_ => ?_)
         generalize w48.drew = w50 at BK101 HB hHeld ⊢
         refine pY 0 26 Y3a ?_
         refine pY 1 27 Y3b ?_
         refine pY 2 28 Y3c ?_
         refine pY 3 29 Y3d ?_
         refine pY 6 32 Y2V ?_
         refine pT 4 30 Y2W ?_
         refine pY 5 31 Y2K ?_
         refine pT 7 33 Y2L ?_
         refine Y2b (i := 8) (N := some 34) Y2t rfl rfl (Y16 HT_.out Z6) (by decide) (fun K hK => ?_)
         refine Y1r Tryd.func98 Z6 rfl #[.int .i64 a0_0] (by rfl) rfl rfl Z0 ?_
         with_reducible refine (YE.calls k a0_0 t102 _ A7.out).mono ?_
         rintro e w' ⟨rfl, ⟨nd, rfl⟩⟩
         refine ⟨_, rfl, ?_⟩
         refine hK.out _ _ ⟨(Y1 BK101.out 0).trans rfl, (Y1 BK101.out 1).trans rfl, (Y1 BK101.out 2).trans rfl, (Y1 BK101.out 3).trans rfl⟩ (fun hHeld => ?_)
         clear hK K
         refine Y1k (a' := ?_) ?_ ?_
         rotate_left
         ·show Act.put _ (some 34) _ = _
          simp only [Act.put, List.setIfInBounds_toArray, List.set_cons_zero, List.set_cons_succ, Y14, Y15]
          rfl
         refine pY 9 35 Y2u ?_
         refine pY 10 36 Y2v ?_
         refine pY 11 37 Y2w ?_
         refine pY 12 38 Y27 ?_
         refine pY 13 39 Y28 ?_
         refine pY 14 40 Y29 ?_
         refine pY 15 41 Y2a ?_
         refine pY 16 42 Y1Q ?_
         refine pY 17 43 Y1R ?_
         refine pY 18 44 Y1S ?_
         refine pY 19 45 Y1T ?_
         refine pY 20 46 Y1E ?_
         refine pT 21 47 Y1F ?_
         refine pY 22 48 Y1G ?_
         refine pY 23 49 Y1H ?_
         refine pY 24 50 Y1x ?_
         refine pY 25 51 Y1y ?_
         refine pY 26 52 Y1z ?_
         refine pT 27 53 Y1A ?_
         refine pY 28 54 Y1s ?_
         refine pY 29 55 Y1t ?_
         refine pY 30 56 Y1u ?_
         refine pT 31 57 Y1v ?_
         refine Y2b (i := 32) (N := some 58) Y1m rfl rfl (Y16 HT_.out Z6) (by decide) (fun K hK => ?_)
         refine Y1r Tryd.func99 Z6 rfl #[.string a0_1] (by rfl) rfl rfl Z0 ?_
         with_reducible refine (Y1l.calls a0_1 false _ ?side1 A40.out).mono ?_
         (case side1 => exact Z3)
         rintro e w51 ⟨rfl, hb⟩
         refine ⟨_, rfl, ?_⟩
         have n_ := Y2i (Yj (g := gb101) (o := .cells #[.int .i64 a0_0, .string a0_1, .slice A0_2 l0_2.length c0_2, .slice A0_3 l0_3.length c0_3] 37 (0, 0)) QQ hb) (Y6 QB hb)
         clear BK101
         clear HB
         obtain ⟨BK101, HB⟩ := n_
         (try clear hb)
         (try clear hb2)
         (try clear hk)
         (try clear hi)
         refine hK.out _ _ ⟨(Y1 BK101.out 0).trans rfl, (Y1 BK101.out 1).trans rfl, (Y1 BK101.out 2).trans rfl, (Y1 BK101.out 3).trans rfl⟩ (fun hHeld => ?_)
         clear hK K
         refine Y1k (a' := ?_) ?_ ?_
         rotate_left
         ·show Act.put _ (some 58) _ = _
          simp only [Act.put, List.setIfInBounds_toArray, List.set_cons_zero, List.set_cons_succ, Y14, Y15]
          rfl
         refine pY 33 59 Y1n ?_
         refine pY 34 60 Y1o ?_
         refine pY 35 61 Y1p ?_
         refine pY 36 62 Y1g ?_
         refine pT 37 63 Y1h ?_
         refine Y2b (i := 38) (N := some 64) Y1i rfl rfl (Y16 HT_.out Z6) (by decide) (fun K hK => ?_)
         refine Y1r Tryd.func100 Z6 rfl #[.slice A0_2 l0_2.length c0_2, .func (.func 99) #[] #[]] (by rfl) rfl rfl Z0 ?_
         with_reducible refine (Ys.calls k _ _ l0_2  true _ ?side1 ?side2 ?side3 A46.out).mono ?_
         (case side1 => exact Z3)
         (case side2 => exact Z5)
         (case side3 => exact Z10)
         rintro e w52 ⟨rfl, hb⟩
         refine ⟨_, rfl, ?_⟩
         have n_ := Y2i (Yj (g := gb101) (o := .cells #[.int .i64 a0_0, .string a0_1, .slice A0_2 l0_2.length c0_2, .slice A0_3 l0_3.length c0_3] 37 (0, 0)) QQ hb) (Y6 QB hb)
         clear BK101
         clear HB
         obtain ⟨BK101, HB⟩ := n_
         (try clear hb)
         (try clear hb2)
         (try clear hk)
         (try clear hi)
         refine hK.out _ _ ⟨(Y1 BK101.out 0).trans rfl, (Y1 BK101.out 1).trans rfl, (Y1 BK101.out 2).trans rfl, (Y1 BK101.out 3).trans rfl⟩ (fun hHeld => ?_)
         clear hK K
         refine Y1k (a' := ?_) ?_ ?_
         rotate_left
         ·show Act.put _ (some 64) _ = _
          simp only [Act.put, List.setIfInBounds_toArray, List.set_cons_zero, List.set_cons_succ, Y14, Y15]
          rfl
         refine pY 39 65 Y1j ?_
         refine Y1O (Y1a HT_.out Z6) ?_
         try go_wp2
         go_ret
         exact Z1F
        ·replace c47 := Bool.eq_false_iff.mpr c47
         subst c47
         have H1 : (Yu.l0 k a1 1 l0_3 (l0_3.length : Int) 0) = some r := by rw [if_neg (show ¬ (false = true) by decide)] at H; exact H
         clear H
         have H := H1
         clear H1
         have H' := Y0.mk H
         clear H
         go_enter Tryd.func62, Tryd.ntmps62
         try go_wp2_with (first | ((with_reducible refine YF (N := 2) rfl ?_); (try (refine Y19 (by rfl) ?_; dsimp only)); refine YA ?hg (N := 2) ?hd (cs := #[.int .i64 a0_0, .string a0_1, .slice A0_2 l0_2.length c0_2, .slice A0_3 l0_3.length c0_3]) (t := 37) ?hr ?_; (case hd => rfl); (case hg => rfl); (case hr => exact Za); intro gb101 hg w53 hbox hb; have n_ := Y2x (Y6 QB hb) (hbox) ((by rw [hg]; exact (Ya QB) : w.heap.size ≤ gb101)) ((by rw [hg]; exact (Ya QB) : w.heap.size ≤ gb101)); clear HB; obtain ⟨HB, BK101, GW101, GE101⟩ := n_; clear hb hbox hg; obtain ⟨hcz54_0, hcz54_1, hcz54_2, hcz54_3, hfz54_0, hfz54_1, hfz54_2, hfz54_3⟩ := YD BK101.out))
         have n_ := Y2i (Yc BK101.out) (YL HB.out)
         clear BK101
         clear HB
         obtain ⟨BK101, HB⟩ := n_
         refine Y1q (n := 40) (S := fun w' => w'.cell? ⟨gb101, 0, none⟩ = some (.int .i64 a0_0) ∧ w'.cell? ⟨gb101, 1, none⟩ = some (.string a0_1) ∧ w'.cell? ⟨gb101, 2, none⟩ = some (.slice A0_2 l0_2.length c0_2) ∧ w'.cell? ⟨gb101, 3, none⟩ = some (.slice A0_3 l0_3.length c0_3)) (ds := []) Y39 Z6 rfl rfl ⟨(Y1 BK101.out 0).trans rfl, (Y1 BK101.out 1).trans rfl, (Y1 BK101.out 2).trans rfl, (Y1 BK101.out 3).trans rfl⟩ (fun hHeld => ?_); refine YW Yu.tab3 Yu.bits3 (fun HT_ HW_ => ?_)
         generalize w53.drew = w55 at BK101 HB hHeld ⊢
         refine pY 0 26 Y3a ?_
         refine pY 1 27 Y3b ?_
         refine pY 2 28 Y3c ?_
         refine pY 3 29 Y3d ?_
         refine pY 6 32 Y2V ?_
         refine pT 4 30 Y2W ?_
         refine pY 5 31 Y2K ?_
         refine pT 7 33 Y2L ?_
         refine Y2b (i := 8) (N := some 34) Y2t rfl rfl (Y16 HT_.out Z6) (by decide) (fun K hK => ?_)
         refine Y1r Tryd.func98 Z6 rfl #[.int .i64 a0_0] (by rfl) rfl rfl Z0 ?_
         with_reducible refine (YE.calls k a0_0 t102 _ A7.out).mono ?_
         rintro e w' ⟨rfl, ⟨nd, rfl⟩⟩
         refine ⟨_, rfl, ?_⟩
         refine hK.out _ _ ⟨(Y1 BK101.out 0).trans rfl, (Y1 BK101.out 1).trans rfl, (Y1 BK101.out 2).trans rfl, (Y1 BK101.out 3).trans rfl⟩ (fun hHeld => ?_)
         clear hK K
         refine Y1k (a' := ?_) ?_ ?_
         rotate_left
         ·show Act.put _ (some 34) _ = _
          simp only [Act.put, List.setIfInBounds_toArray, List.set_cons_zero, List.set_cons_succ, Y14, Y15]
          rfl
         refine pY 9 35 Y2u ?_
         refine pY 10 36 Y2v ?_
         refine pY 11 37 Y2w ?_
         refine pY 12 38 Y27 ?_
         refine pY 13 39 Y28 ?_
         refine pY 14 40 Y29 ?_
         refine pY 15 41 Y2a ?_
         refine pY 16 42 Y1Q ?_
         refine pY 17 43 Y1R ?_
         refine pY 18 44 Y1S ?_
         refine pY 19 45 Y1T ?_
         refine pY 20 46 Y1E ?_
         refine pT 21 47 Y1F ?_
         refine pY 22 48 Y1G ?_
         refine pY 23 49 Y1H ?_
         refine pY 24 50 Y1x ?_
         refine pY 25 51 Y1y ?_
         refine pY 26 52 Y1z ?_
         refine pT 27 53 Y1A ?_
         refine pY 28 54 Y1s ?_
         refine pY 29 55 Y1t ?_
         refine pY 30 56 Y1u ?_
         refine pT 31 57 Y1v ?_
         refine Y2b (i := 32) (N := some 58) Y1m rfl rfl (Y16 HT_.out Z6) (by decide) (fun K hK => ?_)
         refine Y1r Tryd.func99 Z6 rfl #[.string a0_1] (by rfl) rfl rfl Z0 ?_
         with_reducible refine (Y1l.calls a0_1 false _ ?side1 A40.out).mono ?_
         (case side1 => exact Z3)
         rintro e w56 ⟨rfl, hb⟩
         refine ⟨_, rfl, ?_⟩
         have n_ := Y2i (Yj (g := gb101) (o := .cells #[.int .i64 a0_0, .string a0_1, .slice A0_2 l0_2.length c0_2, .slice A0_3 l0_3.length c0_3] 37 (0, 0)) QQ hb) (Y6 QB hb)
         clear BK101
         clear HB
         obtain ⟨BK101, HB⟩ := n_
         (try clear hb)
         (try clear hb2)
         (try clear hk)
         (try clear hi)
         refine hK.out _ _ ⟨(Y1 BK101.out 0).trans rfl, (Y1 BK101.out 1).trans rfl, (Y1 BK101.out 2).trans rfl, (Y1 BK101.out 3).trans rfl⟩ (fun hHeld => ?_)
         clear hK K
         refine Y1k (a' := ?_) ?_ ?_
         rotate_left
         ·show Act.put _ (some 58) _ = _
          simp only [Act.put, List.setIfInBounds_toArray, List.set_cons_zero, List.set_cons_succ, Y14, Y15]
          rfl
         refine pY 33 59 Y1n ?_
         refine pY 34 60 Y1o ?_
         refine pY 35 61 Y1p ?_
         refine pY 36 62 Y1g ?_
         refine pT 37 63 Y1h ?_
         refine Y2b (i := 38) (N := some 64) Y1i rfl rfl (Y16 HT_.out Z6) (by decide) (fun K hK => ?_)
         refine Y1r Tryd.func100 Z6 rfl #[.slice A0_2 l0_2.length c0_2, .func (.func 99) #[] #[]] (by rfl) rfl rfl Z0 ?_
         with_reducible refine (Ys.calls k _ _ l0_2  false _ ?side1 ?side2 ?side3 A46.out).mono ?_
         (case side1 => exact Z3)
         (case side2 => exact Z5)
         (case side3 => exact Z10)
         rintro e w57 ⟨rfl, hb⟩
         refine ⟨_, rfl, ?_⟩
         have n_ := Y2i (Yj (g := gb101) (o := .cells #[.int .i64 a0_0, .string a0_1, .slice A0_2 l0_2.length c0_2, .slice A0_3 l0_3.length c0_3] 37 (0, 0)) QQ hb) (Y6 QB hb)
         clear BK101
         clear HB
         obtain ⟨BK101, HB⟩ := n_
         (try clear hb)
         (try clear hb2)
         (try clear hk)
         (try clear hi)
         refine hK.out _ _ ⟨(Y1 BK101.out 0).trans rfl, (Y1 BK101.out 1).trans rfl, (Y1 BK101.out 2).trans rfl, (Y1 BK101.out 3).trans rfl⟩ (fun hHeld => ?_)
         clear hK K
         refine Y1k (a' := ?_) ?_ ?_
         rotate_left
         ·show Act.put _ (some 64) _ = _
          simp only [Act.put, List.setIfInBounds_toArray, List.set_cons_zero, List.set_cons_succ, Y14, Y15]
          rfl
         refine pY 39 65 Y1j ?_
         refine Y1O (Y1a HT_.out Z6) ?_
         obtain ⟨hcz58_0, hcz58_1, hcz58_2, hcz58_3, hfz58_0, hfz58_1, hfz58_2, hfz58_3⟩ := YD BK101.out
         try go_wp2
         go_loopg [7, 69] k (fun kq v7 v69 w' => ∃ (x7_1 : Int) (x69_1 : Int), v7 = .int .i64 x7_1 ∧ v69 = .int .i64 x69_1 ∧ Y0 (Yu.l0 kq a1 x7_1 l0_3 (l0_3.length : Int) x69_1 = some r) ∧ Y0 (kq ≤ k) ∧ Y0 (w'.heap[gb101]? = some (.cells #[.int .i64 a0_0, .string a0_1, (.slice A0_2 l0_2.length c0_2), (.slice A0_3 l0_3.length c0_3)] 37 (0, 0))) ∧ Y0 (Below w.heap.size w w'))
         case atStart => exact Z1J
         case round =>
          clear H'
          try clear c1
          try clear p2
          try clear c4
          try clear c6
          try clear c9
          try clear c10
          try clear c47
          try clear hcz54_0 hcz54_1 hcz54_2 hcz54_3
          try clear hcz58_0 hcz58_1 hcz58_2 hcz58_3
          try clear hfz54_0
          try clear hfz54_1
          try clear hfz54_2
          try clear hfz54_3
          try clear hfz58_0
          try clear hfz58_1
          try clear hfz58_2
          try clear hfz58_3
          obtain ⟨x7_1, x69_1, rfl, rfl, HA, HK1, BK101, HB⟩ := hrel
          cases gk with
          | zero => exact absurd HA.out (by simp [Yu.l0])
          | succ k1 =>
           have H := HA.out
           clear HA
           simp only [Yu.l0] at H
           by_cases c59 : x69_1 < (l0_3.length : Int)
           ·rw [if_pos c59] at H
            have c59b0 : decide (x69_1 < (l0_3.length : Int)) = true := decide_eq_true c59
            clear c59
            by_cases c60 : 0 ≤ x69_1
            ·rw [if_pos c60] at H
             have c60b0 : decide (0 ≤ x69_1) = true := decide_eq_true c60
             clear c60
             by_cases c61 : x69_1 < (l0_3.length : Int)
             ·rw [if_pos c61] at H
              have c61b0 : decide (x69_1 < (l0_3.length : Int)) = true := decide_eq_true c61
              clear c61
              replace H := Option.bind_eq_some_iff.mp H
              obtain ⟨t106, A620, H⟩ := H
              replace H : (if t106 < 0 then (some (-1)) else (Yu.l0 k1 a1 (wrap64 (x7_1 + t106)) l0_3 (l0_3.length : Int) (wrap64 (x69_1 + 1)))) = some r := H
              have A62 := Y0.mk A620
              clear A620
              by_cases c63 : t106 < 0
              ·rw [if_pos c63] at H
               have c63b0 : decide (t106 < 0) = true := decide_eq_true c63
               clear c63
               obtain rfl := Option.some.inj H
               have p104 : 0 ≤ (x69_1 : Int) := of_decide_eq_true Z8
               have q104 : x69_1 < (l0_3.length : Int) := of_decide_eq_true Z8
               obtain ⟨ad104, A104_2, c104_2, A104_3, c104_3, e104, hx104_0, hx104_1, hx104_2, hx104_3, hl104_2, hi104_2, hl104_3, hi104_3⟩ := Y1C HR0_3.out x69_1 p104 q104
               cases e104
               replace hx104_0 := YT HB.out hx104_0
               replace hx104_1 := YT HB.out hx104_1
               replace hx104_2 := YT HB.out hx104_2
               replace hx104_3 := YT HB.out hx104_3
               have HR104_2 := Y0.mk hi104_2
               have HC104_2 := Y0.mk hl104_2
               clear hi104_2 hl104_2
               have HR104_3 := Y0.mk hi104_3
               have HC104_3 := Y0.mk hl104_3
               clear hi104_3 hl104_3
               replace p104 := eq_true p104
               replace q104 := eq_true q104
               go_wp2_with (first | ((with_reducible refine YF (N := 9) rfl ?_); (try (refine Y19 (by rfl) ?_; dsimp only)); refine YA ?hg (N := 9) ?hd (cs := #[.int .i64 0, .string (⟨#[]⟩ : ByteArray), .slice none 0 0, .slice none 0 0]) (t := 37) ?hr ?_; (case hd => rfl); (case hg => rfl); (case hr => exact Za); intro gb105 hg w64 hbox hb; have n_ := Y5A (Yj (g := gb101) (o := .cells #[.int .i64 a0_0, .string a0_1, .slice A0_2 l0_2.length c0_2, .slice (some ad104) l0_3.length c0_3] 37 (0, 0)) QQ hb) (Y6 QB hb) (hbox) ((by rw [hg]; exact (Ya QB) : w.heap.size ≤ gb105)) ((by rw [hg]; exact (Ya QB) : w.heap.size ≤ gb105)) ((by rw [hg]; exact Nat.ne_of_lt (Y1b (g := gb101) (o := .cells #[.int .i64 a0_0, .string a0_1, .slice A0_2 l0_2.length c0_2, .slice (some ad104) l0_3.length c0_3] 37 (0, 0)) QQ) : gb101 ≠ gb105)) ((by rw [hg]; exact Nat.ne_of_gt (Y1b (g := gb101) (o := .cells #[.int .i64 a0_0, .string a0_1, .slice A0_2 l0_2.length c0_2, .slice (some ad104) l0_3.length c0_3] 37 (0, 0)) QQ) : gb105 ≠ gb101)); clear BK101 HB; obtain ⟨BK101, HB, BK105, GW105, GE105, NB101_105, NB105_101⟩ := n_; clear hb hbox hg; have hnb65 := NB105_101.out; have hnc65 := NB101_105.out; obtain ⟨hcz66_0, hcz66_1, hcz66_2, hcz66_3, hfz66_0, hfz66_1, hfz66_2, hfz66_3⟩ := YD BK105.out) | ((with_reducible refine Yw (f := 62) rfl ?_); refine YV (some 76) rfl rfl Tryd.func62 Z6 rfl #[.agg #[.int .i64 ((Y2 l0_3 x69_1).f0), .string ((Y2 l0_3 x69_1).f1), .slice A104_2 ((Y2 l0_3 x69_1).f2).length c104_2, .slice A104_3 ((Y2 l0_3 x69_1).f3).length c104_3], .int .i64 (wrap64 (a1 + 1))] rfl Z0 ?_; (with_reducible refine (ih k1 ZM ((Y2 l0_3 x69_1).f0) ((Y2 l0_3 x69_1).f1) _ _ ((Y2 l0_3 x69_1).f2) _ _ ((Y2 l0_3 x69_1).f3) (wrap64 (a1 + 1)) t106 _ ?side1 ?side2 ?side3 ?side4 ?side5 A62.out).mono ?_); (case side1 => exact Z3); (case side2 => exact Kd.C_below HR104_2.out QB); (case side3 => exact HC104_2.out); (case side4 => exact Kd.C_below HR104_3.out QB); (case side5 => exact HC104_3.out); rintro e w67 ⟨rfl, hb⟩; refine ⟨_, rfl, ?_⟩; have n_ := Y24 (Yj (g := gb101) (o := .cells #[.int .i64 a0_0, .string a0_1, .slice A0_2 l0_2.length c0_2, .slice (some ad104) l0_3.length c0_3] 37 (0, 0)) Zf hb) (Yj (g := gb105) (o := .cells #[.int .i64 ((Y2 l0_3 x69_1).f0), .string ((Y2 l0_3 x69_1).f1), .slice A104_2 ((Y2 l0_3 x69_1).f2).length c104_2, .slice A104_3 ((Y2 l0_3 x69_1).f3).length c104_3] 37 (0, 0)) Z1y hb) (Y6 QB hb); clear BK101 BK105 HB; obtain ⟨BK101, BK105, HB⟩ := n_; (try clear hb); (try clear hb2); (try clear hk); (try clear hi)))
               go_ret
               exact Z1F
              ·rw [if_neg c63] at H
               have c63b0 : decide (t106 < 0) = false := decide_eq_false c63
               clear c63
               have H' := Y0.mk H
               clear H
               have p104 : 0 ≤ (x69_1 : Int) := of_decide_eq_true Z8
               have q104 : x69_1 < (l0_3.length : Int) := of_decide_eq_true Z8
               obtain ⟨ad104, A104_2, c104_2, A104_3, c104_3, e104, hx104_0, hx104_1, hx104_2, hx104_3, hl104_2, hi104_2, hl104_3, hi104_3⟩ := Y1C HR0_3.out x69_1 p104 q104
               cases e104
               replace hx104_0 := YT HB.out hx104_0
               replace hx104_1 := YT HB.out hx104_1
               replace hx104_2 := YT HB.out hx104_2
               replace hx104_3 := YT HB.out hx104_3
               have HR104_2 := Y0.mk hi104_2
               have HC104_2 := Y0.mk hl104_2
               clear hi104_2 hl104_2
               have HR104_3 := Y0.mk hi104_3
               have HC104_3 := Y0.mk hl104_3
               clear hi104_3 hl104_3
               replace p104 := eq_true p104
               replace q104 := eq_true q104
               go_wp2_with (first | ((with_reducible refine YF (N := 9) rfl ?_); (try (refine Y19 (by rfl) ?_; dsimp only)); refine YA ?hg (N := 9) ?hd (cs := #[.int .i64 0, .string (⟨#[]⟩ : ByteArray), .slice none 0 0, .slice none 0 0]) (t := 37) ?hr ?_; (case hd => rfl); (case hg => rfl); (case hr => exact Za); intro gb105 hg w68 hbox hb; have n_ := Y5A (Yj (g := gb101) (o := .cells #[.int .i64 a0_0, .string a0_1, .slice A0_2 l0_2.length c0_2, .slice (some ad104) l0_3.length c0_3] 37 (0, 0)) QQ hb) (Y6 QB hb) (hbox) ((by rw [hg]; exact (Ya QB) : w.heap.size ≤ gb105)) ((by rw [hg]; exact (Ya QB) : w.heap.size ≤ gb105)) ((by rw [hg]; exact Nat.ne_of_lt (Y1b (g := gb101) (o := .cells #[.int .i64 a0_0, .string a0_1, .slice A0_2 l0_2.length c0_2, .slice (some ad104) l0_3.length c0_3] 37 (0, 0)) QQ) : gb101 ≠ gb105)) ((by rw [hg]; exact Nat.ne_of_gt (Y1b (g := gb101) (o := .cells #[.int .i64 a0_0, .string a0_1, .slice A0_2 l0_2.length c0_2, .slice (some ad104) l0_3.length c0_3] 37 (0, 0)) QQ) : gb105 ≠ gb101)); clear BK101 HB; obtain ⟨BK101, HB, BK105, GW105, GE105, NB101_105, NB105_101⟩ := n_; clear hb hbox hg; have hnb69 := NB105_101.out; have hnc69 := NB101_105.out; obtain ⟨hcz70_0, hcz70_1, hcz70_2, hcz70_3, hfz70_0, hfz70_1, hfz70_2, hfz70_3⟩ := YD BK105.out) | ((with_reducible refine Yw (f := 62) rfl ?_); refine YV (some 76) rfl rfl Tryd.func62 Z6 rfl #[.agg #[.int .i64 ((Y2 l0_3 x69_1).f0), .string ((Y2 l0_3 x69_1).f1), .slice A104_2 ((Y2 l0_3 x69_1).f2).length c104_2, .slice A104_3 ((Y2 l0_3 x69_1).f3).length c104_3], .int .i64 (wrap64 (a1 + 1))] rfl Z0 ?_; (with_reducible refine (ih k1 ZM ((Y2 l0_3 x69_1).f0) ((Y2 l0_3 x69_1).f1) _ _ ((Y2 l0_3 x69_1).f2) _ _ ((Y2 l0_3 x69_1).f3) (wrap64 (a1 + 1)) t106 _ ?side1 ?side2 ?side3 ?side4 ?side5 A62.out).mono ?_); (case side1 => exact Z3); (case side2 => exact Kd.C_below HR104_2.out QB); (case side3 => exact HC104_2.out); (case side4 => exact Kd.C_below HR104_3.out QB); (case side5 => exact HC104_3.out); rintro e w71 ⟨rfl, hb⟩; refine ⟨_, rfl, ?_⟩; have n_ := Y24 (Yj (g := gb101) (o := .cells #[.int .i64 a0_0, .string a0_1, .slice A0_2 l0_2.length c0_2, .slice (some ad104) l0_3.length c0_3] 37 (0, 0)) Zf hb) (Yj (g := gb105) (o := .cells #[.int .i64 ((Y2 l0_3 x69_1).f0), .string ((Y2 l0_3 x69_1).f1), .slice A104_2 ((Y2 l0_3 x69_1).f2).length c104_2, .slice A104_3 ((Y2 l0_3 x69_1).f3).length c104_3] 37 (0, 0)) Z1y hb) (Y6 QB hb); clear BK101 BK105 HB; obtain ⟨BK101, BK105, HB⟩ := n_; (try clear hb); (try clear hb2); (try clear hk); (try clear hi)))
               go_roundg k1
               case measure => have := HK1.out; omega
               case rel => exact ⟨(wrap64 (x7_1 + t106)), (wrap64 (x69_1 + 1)), Z9, Z9, H', ⟨ZM⟩, ⟨Z4⟩, ⟨QB⟩⟩
             ·rw [if_neg c61] at H
              exact Zh
            ·rw [if_neg c60] at H
             exact Zh
           ·rw [if_neg c59] at H
            have c59b0 : decide (x69_1 < (l0_3.length : Int)) = false := decide_eq_false c59
            clear c59
            obtain rfl := Option.some.inj H
            go_wp2
            go_ret
            exact Z1F
    ·rw [if_neg c10] at H
     have c10b0 : ((a0_0 == 8) == (decide ((l0_2.length : Int) > 0))) = false := by simpa using c10
     (try (have c10b1 : ((a0_0 == 8) == decide (0 < l0_2.length)) = false := by first | simpa using c10 | simpa [show ∀ l_ : List UInt8, (l_ != ([] : List UInt8)) = !l_.isEmpty from fun l_ => by cases l_ <;> rfl, show ∀ l_ : List UInt8, (l_ == ([] : List UInt8)) = l_.isEmpty from fun l_ => by cases l_ <;> rfl] using c10))
     (try (have c10b2 : (((a0_0 = 8) = (decide ((l0_2.length : Int) > 0)))) = False := eq_false (by simpa using c10)))
     (try (have c10b3 : decide ((a0_0 == 8) = (decide ((l0_2.length : Int) > 0))) = false := by simpa using c10))
     (try (have c10b4 : ((a0_0 == 8) == (decide ((l0_2.length : Int) > 0))) = false := by simpa using c10))
     (try (have c10b5 : ¬ ((a0_0 == 8) = (decide ((l0_2.length : Int) > 0))) := by simpa using c10))
     clear c10
     obtain rfl := Option.some.inj H
     go_enter Tryd.func62, Tryd.ntmps62
     try go_wp2_with (first | ((with_reducible refine YF (N := 2) rfl ?_); (try (refine Y19 (by rfl) ?_; dsimp only)); refine YA ?hg (N := 2) ?hd (cs := #[.int .i64 a0_0, .string a0_1, .slice A0_2 l0_2.length c0_2, .slice A0_3 l0_3.length c0_3]) (t := 37) ?hr ?_; (case hd => rfl); (case hg => rfl); (case hr => exact Za); intro gb101 hg w72 hbox hb; have n_ := Y2x (Y6 QB hb) (hbox) ((by rw [hg]; exact (Ya QB) : w.heap.size ≤ gb101)) ((by rw [hg]; exact (Ya QB) : w.heap.size ≤ gb101)); clear HB; obtain ⟨HB, BK101, GW101, GE101⟩ := n_; clear hb hbox hg; obtain ⟨hcz73_0, hcz73_1, hcz73_2, hcz73_3, hfz73_0, hfz73_1, hfz73_2, hfz73_3⟩ := YD BK101.out))
     have n_ := Y2i (Yc BK101.out) (YL HB.out)
     clear BK101
     clear HB
     obtain ⟨BK101, HB⟩ := n_
     refine Y1q (n := 40) (S := fun w' => w'.cell? ⟨gb101, 0, none⟩ = some (.int .i64 a0_0) ∧ w'.cell? ⟨gb101, 1, none⟩ = some (.string a0_1) ∧ w'.cell? ⟨gb101, 2, none⟩ = some (.slice A0_2 l0_2.length c0_2) ∧ w'.cell? ⟨gb101, 3, none⟩ = some (.slice A0_3 l0_3.length c0_3)) (ds := []) Y39 Z6 rfl rfl ⟨(Y1 BK101.out 0).trans rfl, (Y1 BK101.out 1).trans rfl, (Y1 BK101.out 2).trans rfl, (Y1 BK101.out 3).trans rfl⟩ (fun hHeld => ?_); refine YW Yu.tab3 Yu.bits3 (fun HT_ HW_ => ?_)
     generalize w72.drew = w74 at BK101 HB hHeld ⊢
     refine pY 0 26 Y3a ?_
     refine pY 1 27 Y3b ?_
     refine pY 2 28 Y3c ?_
     refine pY 3 29 Y3d ?_
     refine pY 6 32 Y2V ?_
     refine pT 4 30 Y2W ?_
     refine pY 5 31 Y2K ?_
     refine pT 7 33 Y2L ?_
     refine Y2b (i := 8) (N := some 34) Y2t rfl rfl (Y16 HT_.out Z6) (by decide) (fun K hK => ?_)
     refine Y1r Tryd.func98 Z6 rfl #[.int .i64 a0_0] (by rfl) rfl rfl Z0 ?_
     with_reducible refine (YE.calls k a0_0 t102 _ A7.out).mono ?_
     rintro e w' ⟨rfl, ⟨nd, rfl⟩⟩
     refine ⟨_, rfl, ?_⟩
     refine hK.out _ _ ⟨(Y1 BK101.out 0).trans rfl, (Y1 BK101.out 1).trans rfl, (Y1 BK101.out 2).trans rfl, (Y1 BK101.out 3).trans rfl⟩ (fun hHeld => ?_)
     clear hK K
     refine Y1k (a' := ?_) ?_ ?_
     rotate_left
     ·show Act.put _ (some 34) _ = _
      simp only [Act.put, List.setIfInBounds_toArray, List.set_cons_zero, List.set_cons_succ, Y14, Y15]
      rfl
     refine pY 9 35 Y2u ?_
     refine pY 10 36 Y2v ?_
     refine pY 11 37 Y2w ?_
     refine pY 12 38 Y27 ?_
     refine pY 13 39 Y28 ?_
     refine pY 14 40 Y29 ?_
     refine pY 15 41 Y2a ?_
     refine pY 16 42 Y1Q ?_
     refine pY 17 43 Y1R ?_
     refine pY 18 44 Y1S ?_
     refine pY 19 45 Y1T ?_
     refine pU 20 46 Y1E ?_
     refine pU 21 47 Y1F ?_
     refine pU 22 48 Y1G ?_
     refine pU 23 49 Y1H ?_
     refine pY 24 50 Y1x ?_
     refine pY 25 51 Y1y ?_
     refine pU 26 52 Y1z ?_
     refine pU 27 53 Y1A ?_
     refine pU 28 54 Y1s ?_
     refine pU 29 55 Y1t ?_
     refine pU 30 56 Y1u ?_
     refine pU 31 57 Y1v ?_
     refine pU 32 58 Y1m ?_
     refine pU 33 59 Y1n ?_
     refine pY 34 60 Y1o ?_
     refine pY 35 61 Y1p ?_
     refine pU 36 62 Y1g ?_
     refine pU 37 63 Y1h ?_
     refine pU 38 64 Y1i ?_
     refine pY 39 65 Y1j ?_
     refine Y1O (Y1a HT_.out Z6) ?_
     try go_wp2
     go_ret
     exact Z1F
   ·rw [if_neg c9] at H
    have c9b0 : ((a0_0 == 1) == (a0_1.toList != ([] : List UInt8))) = false := by simpa using c9
    (try (have c9b1 : ((a0_0 == 1) == !a0_1.toList.isEmpty) = false := by first | simpa using c9 | simpa [show ∀ l_ : List UInt8, (l_ != ([] : List UInt8)) = !l_.isEmpty from fun l_ => by cases l_ <;> rfl, show ∀ l_ : List UInt8, (l_ == ([] : List UInt8)) = l_.isEmpty from fun l_ => by cases l_ <;> rfl] using c9))
    (try (have c9b2 : (((a0_0 = 1) = (a0_1.toList != ([] : List UInt8)))) = False := eq_false (by simpa using c9)))
    (try (have c9b3 : decide ((a0_0 == 1) = (a0_1.toList != ([] : List UInt8))) = false := by simpa using c9))
    (try (have c9b4 : ((a0_0 == 1) == (a0_1.toList != ([] : List UInt8))) = false := by simpa using c9))
    (try (have c9b5 : ¬ ((a0_0 == 1) = (a0_1.toList != ([] : List UInt8))) := by simpa using c9))
    clear c9
    obtain rfl := Option.some.inj H
    go_enter Tryd.func62, Tryd.ntmps62
    try go_wp2_with (first | ((with_reducible refine YF (N := 2) rfl ?_); (try (refine Y19 (by rfl) ?_; dsimp only)); refine YA ?hg (N := 2) ?hd (cs := #[.int .i64 a0_0, .string a0_1, .slice A0_2 l0_2.length c0_2, .slice A0_3 l0_3.length c0_3]) (t := 37) ?hr ?_; (case hd => rfl); (case hg => rfl); (case hr => exact Za); intro gb101 hg w75 hbox hb; have n_ := Y2x (Y6 QB hb) (hbox) ((by rw [hg]; exact (Ya QB) : w.heap.size ≤ gb101)) ((by rw [hg]; exact (Ya QB) : w.heap.size ≤ gb101)); clear HB; obtain ⟨HB, BK101, GW101, GE101⟩ := n_; clear hb hbox hg; obtain ⟨hcz76_0, hcz76_1, hcz76_2, hcz76_3, hfz76_0, hfz76_1, hfz76_2, hfz76_3⟩ := YD BK101.out))
    have n_ := Y2i (Yc BK101.out) (YL HB.out)
    clear BK101
    clear HB
    obtain ⟨BK101, HB⟩ := n_
    refine Y1q (n := 40) (S := fun w' => w'.cell? ⟨gb101, 0, none⟩ = some (.int .i64 a0_0) ∧ w'.cell? ⟨gb101, 1, none⟩ = some (.string a0_1) ∧ w'.cell? ⟨gb101, 2, none⟩ = some (.slice A0_2 l0_2.length c0_2) ∧ w'.cell? ⟨gb101, 3, none⟩ = some (.slice A0_3 l0_3.length c0_3)) (ds := []) Y39 Z6 rfl rfl ⟨(Y1 BK101.out 0).trans rfl, (Y1 BK101.out 1).trans rfl, (Y1 BK101.out 2).trans rfl, (Y1 BK101.out 3).trans rfl⟩ (fun hHeld => ?_); refine YW Yu.tab3 Yu.bits3 (fun HT_ HW_ => ?_)
    generalize w75.drew = w77 at BK101 HB hHeld ⊢
    refine pY 0 26 Y3a ?_
    refine pY 1 27 Y3b ?_
    refine pY 2 28 Y3c ?_
    refine pY 3 29 Y3d ?_
    refine pY 6 32 Y2V ?_
    refine pT 4 30 Y2W ?_
    refine pY 5 31 Y2K ?_
    refine pT 7 33 Y2L ?_
    refine Y2b (i := 8) (N := some 34) Y2t rfl rfl (Y16 HT_.out Z6) (by decide) (fun K hK => ?_)
    refine Y1r Tryd.func98 Z6 rfl #[.int .i64 a0_0] (by rfl) rfl rfl Z0 ?_
    with_reducible refine (YE.calls k a0_0 t102 _ A7.out).mono ?_
    rintro e w' ⟨rfl, ⟨nd, rfl⟩⟩
    refine ⟨_, rfl, ?_⟩
    refine hK.out _ _ ⟨(Y1 BK101.out 0).trans rfl, (Y1 BK101.out 1).trans rfl, (Y1 BK101.out 2).trans rfl, (Y1 BK101.out 3).trans rfl⟩ (fun hHeld => ?_)
    clear hK K
    refine Y1k (a' := ?_) ?_ ?_
    rotate_left
    ·show Act.put _ (some 34) _ = _
     simp only [Act.put, List.setIfInBounds_toArray, List.set_cons_zero, List.set_cons_succ, Y14, Y15]
     rfl
    refine pY 9 35 Y2u ?_
    refine pY 10 36 Y2v ?_
    refine pY 11 37 Y2w ?_
    refine pY 12 38 Y27 ?_
    refine pY 13 39 Y28 ?_
    refine pY 14 40 Y29 ?_
    refine pY 15 41 Y2a ?_
    refine pU 16 42 Y1Q ?_
    refine pU 17 43 Y1R ?_
    refine pY 18 44 Y1S ?_
    refine pY 19 45 Y1T ?_
    refine pU 20 46 Y1E ?_
    refine pU 21 47 Y1F ?_
    refine pU 22 48 Y1G ?_
    refine pU 23 49 Y1H ?_
    refine pY 24 50 Y1x ?_
    refine pY 25 51 Y1y ?_
    refine pU 26 52 Y1z ?_
    refine pU 27 53 Y1A ?_
    refine pU 28 54 Y1s ?_
    refine pU 29 55 Y1t ?_
    refine pU 30 56 Y1u ?_
    refine pU 31 57 Y1v ?_
    refine pU 32 58 Y1m ?_
    refine pU 33 59 Y1n ?_
    refine pY 34 60 Y1o ?_
    refine pY 35 61 Y1p ?_
    refine pU 36 62 Y1g ?_
    refine pU 37 63 Y1h ?_
    refine pU 38 64 Y1i ?_
    refine pY 39 65 Y1j ?_
    refine Y1O (Y1a HT_.out Z6) ?_
    try go_wp2
    go_ret
    exact Z1F
  ·rw [if_neg c8] at H
   have c8b0 : ((l0_3.length : Int) == t102) = false := beq_eq_false_iff_ne.mpr c8
   have c8b1 : ((l0_3.length : Int) != t102) = true := bne_iff_ne.mpr c8
   obtain rfl := Option.some.inj H
   go_enter Tryd.func62, Tryd.ntmps62
   try go_wp2_with (first | ((with_reducible refine YF (N := 2) rfl ?_); (try (refine Y19 (by rfl) ?_; dsimp only)); refine YA ?hg (N := 2) ?hd (cs := #[.int .i64 a0_0, .string a0_1, .slice A0_2 l0_2.length c0_2, .slice A0_3 l0_3.length c0_3]) (t := 37) ?hr ?_; (case hd => rfl); (case hg => rfl); (case hr => exact Za); intro gb101 hg w78 hbox hb; have n_ := Y2x (Y6 QB hb) (hbox) ((by rw [hg]; exact (Ya QB) : w.heap.size ≤ gb101)) ((by rw [hg]; exact (Ya QB) : w.heap.size ≤ gb101)); clear HB; obtain ⟨HB, BK101, GW101, GE101⟩ := n_; clear hb hbox hg; obtain ⟨hcz79_0, hcz79_1, hcz79_2, hcz79_3, hfz79_0, hfz79_1, hfz79_2, hfz79_3⟩ := YD BK101.out))
   have n_ := Y2i (Yc BK101.out) (YL HB.out)
   clear BK101
   clear HB
   obtain ⟨BK101, HB⟩ := n_
   refine Y1q (n := 40) (S := fun w' => w'.cell? ⟨gb101, 0, none⟩ = some (.int .i64 a0_0) ∧ w'.cell? ⟨gb101, 1, none⟩ = some (.string a0_1) ∧ w'.cell? ⟨gb101, 2, none⟩ = some (.slice A0_2 l0_2.length c0_2) ∧ w'.cell? ⟨gb101, 3, none⟩ = some (.slice A0_3 l0_3.length c0_3)) (ds := []) Y39 Z6 rfl rfl ⟨(Y1 BK101.out 0).trans rfl, (Y1 BK101.out 1).trans rfl, (Y1 BK101.out 2).trans rfl, (Y1 BK101.out 3).trans rfl⟩ (fun hHeld => ?_); refine YW Yu.tab3 Yu.bits3 (fun HT_ HW_ => ?_)
   generalize w78.drew = w80 at BK101 HB hHeld ⊢
   refine pY 0 26 Y3a ?_
   refine pY 1 27 Y3b ?_
   refine pY 2 28 Y3c ?_
   refine pY 3 29 Y3d ?_
   refine pY 6 32 Y2V ?_
   refine pT 4 30 Y2W ?_
   refine pY 5 31 Y2K ?_
   refine pT 7 33 Y2L ?_
   refine Y2b (i := 8) (N := some 34) Y2t rfl rfl (Y16 HT_.out Z6) (by decide) (fun K hK => ?_)
   refine Y1r Tryd.func98 Z6 rfl #[.int .i64 a0_0] (by rfl) rfl rfl Z0 ?_
   with_reducible refine (YE.calls k a0_0 t102 _ A7.out).mono ?_
   rintro e w' ⟨rfl, ⟨nd, rfl⟩⟩
   refine ⟨_, rfl, ?_⟩
   refine hK.out _ _ ⟨(Y1 BK101.out 0).trans rfl, (Y1 BK101.out 1).trans rfl, (Y1 BK101.out 2).trans rfl, (Y1 BK101.out 3).trans rfl⟩ (fun hHeld => ?_)
   clear hK K
   refine Y1k (a' := ?_) ?_ ?_
   rotate_left
   ·show Act.put _ (some 34) _ = _
    simp only [Act.put, List.setIfInBounds_toArray, List.set_cons_zero, List.set_cons_succ, Y14, Y15]
    rfl
   refine pY 9 35 Y2u ?_
   refine pY 10 36 Y2v ?_
   refine pY 11 37 Y2w ?_
   refine pU 12 38 Y27 ?_
   refine pU 13 39 Y28 ?_
   refine pY 14 40 Y29 ?_
   refine pY 15 41 Y2a ?_
   refine pU 16 42 Y1Q ?_
   refine pU 17 43 Y1R ?_
   refine pY 18 44 Y1S ?_
   refine pY 19 45 Y1T ?_
   refine pU 20 46 Y1E ?_
   refine pU 21 47 Y1F ?_
   refine pU 22 48 Y1G ?_
   refine pU 23 49 Y1H ?_
   refine pY 24 50 Y1x ?_
   refine pY 25 51 Y1y ?_
   refine pU 26 52 Y1z ?_
   refine pU 27 53 Y1A ?_
   refine pU 28 54 Y1s ?_
   refine pU 29 55 Y1t ?_
   refine pU 30 56 Y1u ?_
   refine pU 31 57 Y1v ?_
   refine pU 32 58 Y1m ?_
   refine pU 33 59 Y1n ?_
   refine pY 34 60 Y1o ?_
   refine pY 35 61 Y1p ?_
   refine pU 36 62 Y1g ?_
   refine pU 37 63 Y1h ?_
   refine pU 38 64 Y1i ?_
   refine pY 39 65 Y1j ?_
   refine Y1O (Y1a HT_.out Z6) ?_
   try go_wp2
   go_ret
   exact Z1F
def Y17.f (k : Nat) (a0_0 : Int) (a0_1 : ByteArray) (l0_2 : List ByteArray) (l0_3 : List (S37)) : Option (Bool) := (Yu.f k a0_0 a0_1 l0_2 l0_3 0).bind fun t102 => (if t102 > 0 then (some (decide (t102 ≤ 30))) else (some false))
theorem Y17.mono : ∀ a0 a1 a2 a3 k, LeO (Y17.f k a0 a1 a2 a3) (Y17.f (k + 1) a0 a1 a2 a3) := by
 intro a0 a1 a2 a3 k
 unfold Y17.f
 repeat' first
   | (with_reducible exact Yu.mono _ _ _ _ _ _)
   | (with_reducible exact LeO.refl _)
   | (with_reducible exact LeO.none _)
   | (with_reducible refine LeO.ite ?_ ?_)
   | (with_reducible refine LeO.bind ?_ (fun _ => ?_))
   | exact Yu.mono _ _ _ _ _ _
   | exact LeO.none _
   | refine LeO.ite ?_ ?_
   | refine LeO.bind ?_ (fun _ => ?_)
set_option maxHeartbeats 8000000 in
set_option maxRecDepth 100000 in
theorem Y17.calls (k : Nat) (a0_0 : Int) (a0_1 : ByteArray) (A0_2 : Option Addr) (c0_2 : Nat) (l0_2 : List ByteArray) (A0_3 : Option Addr) (c0_3 : Nat) (l0_3 : List (S37)) (r : Bool) (w : World) (hT : Tabs w) (hr0_2 : Kd.C Kd.string w A0_2 l0_2.length l0_2) (hc0_2 : l0_2.length ≤ c0_2) (hr0_3 : Kd.C k37 w A0_3 l0_3.length l0_3) (hc0_3 : l0_3.length ≤ c0_3) (h : Y17.f k a0_0 a0_1 l0_2 l0_3 = some r) :
  Calls Tryd.prog 31 #[.agg #[.int .i64 a0_0, .string a0_1, .slice A0_2 l0_2.length c0_2, .slice A0_3 l0_3.length c0_3]] w fun e w' => e = .returned (.bool r) ∧ Below w.heap.size w w' := by
 have HT := Y0.mk hT
 clear hT
 have hu37 := Tryd.underlying37
 have HR0_2 := Y0.mk hr0_2
 have HC0_2 := Y0.mk hc0_2
 clear hr0_2 hc0_2
 have HR0_3 := Y0.mk hr0_3
 have HC0_3 := Y0.mk hc0_3
 clear hr0_3 hc0_3
 have HB := Y0.mk (Below.refl w.heap.size w)
 have H : ((Yu.f k a0_0 a0_1 l0_2 l0_3 0).bind fun t102 => (if t102 > 0 then (some (decide (t102 ≤ 30))) else (some false))) = some r := h
 clear h
 replace H := Option.bind_eq_some_iff.mp H
 obtain ⟨t102, A20, H⟩ := H
 replace H : (if t102 > 0 then (some (decide (t102 ≤ 30))) else (some false)) = some r := H
 have A2 := Y0.mk A20
 clear A20
 by_cases c3 : t102 > 0
 ·rw [if_pos c3] at H
  have c3b0 : decide (0 < t102) = true := decide_eq_true c3
  clear c3
  obtain rfl := Option.some.inj H
  go_enter Tryd.func31, Tryd.ntmps31
  go_wp2_with (first | ((with_reducible refine YF (N := 1) rfl ?_); refine YA ?hg (N := 1) ?hd (cs := #[.int .i64 a0_0, .string a0_1, .slice A0_2 l0_2.length c0_2, .slice A0_3 l0_3.length c0_3]) (t := 37) ?hr ?_; (case hd => rfl); (case hg => rfl); (case hr => exact Za); intro gb101 hg w4 hbox hb; have n_ := Y2x (Y6 QB hb) (hbox) ((by rw [hg]; exact (Ya QB) : w.heap.size ≤ gb101)) ((by rw [hg]; exact (Ya QB) : w.heap.size ≤ gb101)); clear HB; obtain ⟨HB, BK101, GW101, GE101⟩ := n_; clear hb hbox hg; obtain ⟨hcz5_0, hcz5_1, hcz5_2, hcz5_3, hfz5_0, hfz5_1, hfz5_2, hfz5_3⟩ := YD BK101.out) | ((with_reducible refine Yw (f := 62) rfl ?_); refine YV (some 5) rfl rfl Tryd.func62 Z6 rfl #[.agg #[.int .i64 a0_0, .string a0_1, .slice A0_2 l0_2.length c0_2, .slice A0_3 l0_3.length c0_3], .int .i64 0] rfl Z0 ?_; (with_reducible refine (Yu.calls k a0_0 a0_1 _ _ l0_2 _ _ l0_3 0 t102 _ ?side1 ?side2 ?side3 ?side4 ?side5 A2.out).mono ?_); (case side1 => exact Z3); (case side2 => exact Z5); (case side3 => exact Z10); (case side4 => exact Z7); (case side5 => exact Z13); rintro e w6 ⟨rfl, hb⟩; refine ⟨_, rfl, ?_⟩; have n_ := Y2i (Yj (g := gb101) (o := .cells #[.int .i64 a0_0, .string a0_1, .slice A0_2 l0_2.length c0_2, .slice A0_3 l0_3.length c0_3] 37 (0, 0)) QQ hb) (Y6 QB hb); clear BK101 HB; obtain ⟨BK101, HB⟩ := n_; (try clear hb); (try clear hb2); (try clear hk); (try clear hi)))
  go_ret
  exact Z1F
 ·rw [if_neg c3] at H
  have c3b0 : decide (0 < t102) = false := decide_eq_false c3
  clear c3
  obtain rfl := Option.some.inj H
  go_enter Tryd.func31, Tryd.ntmps31
  go_wp2_with (first | ((with_reducible refine YF (N := 1) rfl ?_); refine YA ?hg (N := 1) ?hd (cs := #[.int .i64 a0_0, .string a0_1, .slice A0_2 l0_2.length c0_2, .slice A0_3 l0_3.length c0_3]) (t := 37) ?hr ?_; (case hd => rfl); (case hg => rfl); (case hr => exact Za); intro gb101 hg w7 hbox hb; have n_ := Y2x (Y6 QB hb) (hbox) ((by rw [hg]; exact (Ya QB) : w.heap.size ≤ gb101)) ((by rw [hg]; exact (Ya QB) : w.heap.size ≤ gb101)); clear HB; obtain ⟨HB, BK101, GW101, GE101⟩ := n_; clear hb hbox hg; obtain ⟨hcz8_0, hcz8_1, hcz8_2, hcz8_3, hfz8_0, hfz8_1, hfz8_2, hfz8_3⟩ := YD BK101.out) | ((with_reducible refine Yw (f := 62) rfl ?_); refine YV (some 5) rfl rfl Tryd.func62 Z6 rfl #[.agg #[.int .i64 a0_0, .string a0_1, .slice A0_2 l0_2.length c0_2, .slice A0_3 l0_3.length c0_3], .int .i64 0] rfl Z0 ?_; (with_reducible refine (Yu.calls k a0_0 a0_1 _ _ l0_2 _ _ l0_3 0 t102 _ ?side1 ?side2 ?side3 ?side4 ?side5 A2.out).mono ?_); (case side1 => exact Z3); (case side2 => exact Z5); (case side3 => exact Z10); (case side4 => exact Z7); (case side5 => exact Z13); rintro e w9 ⟨rfl, hb⟩; refine ⟨_, rfl, ?_⟩; have n_ := Y2i (Yj (g := gb101) (o := .cells #[.int .i64 a0_0, .string a0_1, .slice A0_2 l0_2.length c0_2, .slice A0_3 l0_3.length c0_3] 37 (0, 0)) QQ hb) (Y6 QB hb); clear BK101 HB; obtain ⟨BK101, HB⟩ := n_; (try clear hb); (try clear hb2); (try clear hk); (try clear hi)))
  go_ret
  exact Z1F
def Yg.l0 : Nat → List ByteArray → List ByteArray → Int → Int → Option (Bool)
 | 0, _, _, _, _ => none
 | k + 1, x0, x1, x12, x13 => if x13 < x12 then (if 0 ≤ x13 then (if x13 < (x0.length : Int) then (if x13 < (x1.length : Int) then (if (Y25 ByteArray.empty x0 x13).toList = (Y25 ByteArray.empty x1 x13).toList then (Yg.l0 k x0 x1 x12 (wrap64 (x13 + 1))) else (some false)) else (none)) else (none)) else (none)) else (some true)
def Yg.f (k : Nat) (l0 : List ByteArray) (l1 : List ByteArray) : Option (Bool) := if (l0.length : Int) = (l1.length : Int) then (Yg.l0 k l0 l1 (l0.length : Int) 0) else (some false)
theorem Yg.mono_l : ∀ k, (∀ y0 y1 y2 y3, LeO (Yg.l0 k y0 y1 y2 y3) (Yg.l0 (k + 1) y0 y1 y2 y3))
 | 0 => fun _ _ _ _ r h => by simp [Yg.l0] at h
 | k + 1 => by
  have ih0 := Yg.mono_l k
  ·intro y0 y1 y2 y3
   unfold Yg.l0
   repeat' first
   | (with_reducible exact ih0 _ _ _ _)
   | (with_reducible exact LeO.refl _)
   | (with_reducible exact LeO.none _)
   | (with_reducible refine LeO.ite ?_ ?_)
   | (with_reducible refine LeO.bind ?_ (fun _ => ?_))
   | exact ih0 _ _ _ _
   | exact LeO.none _
   | refine LeO.ite ?_ ?_
   | refine LeO.bind ?_ (fun _ => ?_)
theorem Yg.mono : ∀ a0 a1 k, LeO (Yg.f k a0 a1) (Yg.f (k + 1) a0 a1) := by
 intro a0 a1 k
 have ih0 := Yg.mono_l k
 unfold Yg.f
 repeat' first
   | (with_reducible exact ih0 _ _ _ _)
   | (with_reducible exact LeO.refl _)
   | (with_reducible exact LeO.none _)
   | (with_reducible refine LeO.ite ?_ ?_)
   | (with_reducible refine LeO.bind ?_ (fun _ => ?_))
   | exact ih0 _ _ _ _
   | exact LeO.none _
   | refine LeO.ite ?_ ?_
   | refine LeO.bind ?_ (fun _ => ?_)
set_option maxHeartbeats 8000000 in
set_option maxRecDepth 100000 in
theorem Yg.calls (k : Nat) (A0 : Option Addr) (c0 : Nat) (l0 : List ByteArray) (A1 : Option Addr) (c1 : Nat) (l1 : List ByteArray) (r : Bool) (w : World) (hr0 : Kd.C Kd.string w A0 l0.length l0) (hc0 : l0.length ≤ c0) (hr1 : Kd.C Kd.string w A1 l1.length l1) (hc1 : l1.length ≤ c1) (h : Yg.f k l0 l1 = some r) :
  Calls Tryd.prog 60 #[.slice A0 l0.length c0, .slice A1 l1.length c1] w fun e w' => e = .returned (.bool r) ∧ Y26 w w' := by
 have HR0 := Y0.mk hr0
 have HC0 := Y0.mk hc0
 clear hr0 hc0
 have HR1 := Y0.mk hr1
 have HC1 := Y0.mk hc1
 clear hr1 hc1
 have H : (if (l0.length : Int) = (l1.length : Int) then (Yg.l0 k l0 l1 (l0.length : Int) 0) else (some false)) = some r := h
 clear h
 by_cases c3 : (l0.length : Int) = (l1.length : Int)
 ·rw [if_pos c3] at H
  have c3b0 : ((l0.length : Int) == (l1.length : Int)) = true := beq_iff_eq.mpr c3
  have c3b1 : ((l0.length : Int) != (l1.length : Int)) = false := bne_eq_false_iff_eq.mpr c3
  have c3b2 : (l0.length == l1.length) = true := by first | simpa using c3 | (simp at c3 ⊢; omega)
  clear c3
  have H' := Y0.mk H
  clear H
  go_enter Tryd.func60, Tryd.ntmps60
  go_wp2
  repeat (go_quiet (fail); try go_wp2)
  go_loopg [13] k (fun kq v13 w' => ∃ (x13_1 : Int), v13 = .int .i64 x13_1 ∧ Y0 (Yg.l0 kq l0 l1 (l0.length : Int) x13_1 = some r) ∧ Y0 (kq ≤ k) ∧ Y26 w w')
  case atStart => exact ⟨(0), Z9, H', ⟨Nat.le_refl _⟩, Zd⟩
  case round =>
   clear H'
   try clear c1
   try clear p2
   try clear c3
   try clear c3b0
   try clear c3b1
   try clear c3b2
   obtain ⟨x13_1, rfl, HA, HK1, ⟨m1, rfl⟩⟩ := hrel
   cases gk with
   | zero => exact absurd HA.out (by simp [Yg.l0])
   | succ k1 =>
    have H := HA.out
    clear HA
    simp only [Yg.l0] at H
    by_cases c4 : x13_1 < (l0.length : Int)
    ·rw [if_pos c4] at H
     have c4b0 : decide (x13_1 < (l0.length : Int)) = true := decide_eq_true c4
     clear c4
     by_cases c5 : 0 ≤ x13_1
     ·rw [if_pos c5] at H
      have c5b0 : decide (0 ≤ x13_1) = true := decide_eq_true c5
      clear c5
      by_cases c6 : x13_1 < (l0.length : Int)
      ·rw [if_pos c6] at H
       have c6b0 : decide (x13_1 < (l0.length : Int)) = true := decide_eq_true c6
       clear c6
       by_cases c7 : x13_1 < (l1.length : Int)
       ·rw [if_pos c7] at H
        have c7b0 : decide (x13_1 < (l1.length : Int)) = true := decide_eq_true c7
        clear c7
        by_cases c8 : (Y25 ByteArray.empty l0 x13_1).toList = (Y25 ByteArray.empty l1 x13_1).toList
        ·rw [if_pos c8] at H
         have c8b0 : ((Y25 ByteArray.empty l0 x13_1).toList == (Y25 ByteArray.empty l1 x13_1).toList) = true := beq_iff_eq.mpr c8
         have c8b1 : ((Y25 ByteArray.empty l0 x13_1).toList != (Y25 ByteArray.empty l1 x13_1).toList) = false := bne_eq_false_iff_eq.mpr c8
         clear c8
         have H' := Y0.mk H
         clear H
         have p101 : 0 ≤ (x13_1 : Int) := of_decide_eq_true Z8
         have q101 : x13_1 < (l0.length : Int) := of_decide_eq_true Z8
         obtain ⟨ad101, e101, hx101_0⟩ := Kd.at_string HR0.out x13_1 p101 q101
         cases e101
         replace p101 := eq_true p101
         replace q101 := eq_true q101
         have p102 : 0 ≤ (x13_1 : Int) := of_decide_eq_true Z8
         have q102 : x13_1 < (l1.length : Int) := of_decide_eq_true Z8
         obtain ⟨ad102, e102, hx102_0⟩ := Kd.at_string HR1.out x13_1 p102 q102
         cases e102
         replace p102 := eq_true p102
         replace q102 := eq_true q102
         go_wp2
         repeat (go_quiet (fail); try go_wp2)
         go_roundg k1
         case measure => have := HK1.out; omega
         case rel => exact ⟨(wrap64 (x13_1 + 1)), Z9, H', ⟨ZM⟩, Zd⟩
        ·rw [if_neg c8] at H
         have c8b0 : ((Y25 ByteArray.empty l0 x13_1).toList == (Y25 ByteArray.empty l1 x13_1).toList) = false := beq_eq_false_iff_ne.mpr c8
         have c8b1 : ((Y25 ByteArray.empty l0 x13_1).toList != (Y25 ByteArray.empty l1 x13_1).toList) = true := bne_iff_ne.mpr c8
         obtain rfl := Option.some.inj H
         have p101 : 0 ≤ (x13_1 : Int) := of_decide_eq_true Z8
         have q101 : x13_1 < (l0.length : Int) := of_decide_eq_true Z8
         obtain ⟨ad101, e101, hx101_0⟩ := Kd.at_string HR0.out x13_1 p101 q101
         cases e101
         replace p101 := eq_true p101
         replace q101 := eq_true q101
         have p102 : 0 ≤ (x13_1 : Int) := of_decide_eq_true Z8
         have q102 : x13_1 < (l1.length : Int) := of_decide_eq_true Z8
         obtain ⟨ad102, e102, hx102_0⟩ := Kd.at_string HR1.out x13_1 p102 q102
         cases e102
         replace p102 := eq_true p102
         replace q102 := eq_true q102
         go_wp2
         repeat (go_quiet (fail); try go_wp2)
         go_ret
         exact Z1K
       ·rw [if_neg c7] at H
        exact Zh
      ·rw [if_neg c6] at H
       exact Zh
     ·rw [if_neg c5] at H
      exact Zh
    ·rw [if_neg c4] at H
     have c4b0 : decide (x13_1 < (l0.length : Int)) = false := decide_eq_false c4
     clear c4
     obtain rfl := Option.some.inj H
     go_wp2
     repeat (go_quiet (fail); try go_wp2)
     go_ret
     exact Z1K
 ·rw [if_neg c3] at H
  have c3b0 : ((l0.length : Int) == (l1.length : Int)) = false := beq_eq_false_iff_ne.mpr c3
  have c3b1 : ((l0.length : Int) != (l1.length : Int)) = true := bne_iff_ne.mpr c3
  have c3b2 : (l0.length == l1.length) = false := by first | simpa using c3 | (simp at c3 ⊢; omega)
  obtain rfl := Option.some.inj H
  go_enter Tryd.func60, Tryd.ntmps60
  go_wp2
  repeat (go_quiet (fail); try go_wp2)
  go_ret
  exact Z1K
mutual
def YH.f : Nat → Int → ByteArray → List ByteArray → List (S37) → Int → ByteArray → List ByteArray → List (S37) → Option (Bool)
 | 0, _, _, _, _, _, _, _, _ => none
 | k + 1, a0_0, a0_1, l0_2, l0_3, a1_0, a1_1, l1_2, l1_3 => if a0_0 = a1_0 then (if a0_1.toList = a1_1.toList then ((Yg.f k l0_2 l1_2).bind fun t103 => (if t103 = true then ((Y13.f k l0_3 l1_3).bind fun t104 => (some t104)) else (some false))) else (some false)) else (some false)
def Y13.l0 : Nat → List (S37) → List (S37) → Int → Int → Option (Bool)
 | 0, _, _, _, _ => none
 | k + 1, x1, x15, x16, x17 => if x17 < x16 then (if 0 ≤ x17 then (if x17 < (x15.length : Int) then (if x17 < (x1.length : Int) then ((YH.f k ((Y2 x15 x17).f0) ((Y2 x15 x17).f1) ((Y2 x15 x17).f2) ((Y2 x15 x17).f3) ((Y2 x1 x17).f0) ((Y2 x1 x17).f1) ((Y2 x1 x17).f2) ((Y2 x1 x17).f3)).bind fun t109 => (if t109 = true then (Y13.l0 k x1 x15 x16 (wrap64 (x17 + 1))) else (some false))) else (none)) else (none)) else (none)) else (some true)
def Y13.f : Nat → List (S37) → List (S37) → Option (Bool)
 | 0, _, _ => none
 | k + 1, l0, l1 => if (l0.length : Int) = (l1.length : Int) then (Y13.l0 k l1 l0 (l0.length : Int) 0) else (some false)
end
theorem YH.mono_j : ∀ k, (∀ y0 y1 y2 y3 y4 y5 y6 y7, LeO (YH.f k y0 y1 y2 y3 y4 y5 y6 y7) (YH.f (k + 1) y0 y1 y2 y3 y4 y5 y6 y7)) ∧ (∀ y0 y1, LeO (Y13.f k y0 y1) (Y13.f (k + 1) y0 y1)) ∧ (∀ y0 y1 y2 y3, LeO (Y13.l0 k y0 y1 y2 y3) (Y13.l0 (k + 1) y0 y1 y2 y3))
 | 0 => ⟨fun _ _ _ _ _ _ _ _ r h => by simp [YH.f] at h, fun _ _ r h => by simp [Y13.f] at h, fun _ _ _ _ r h => by simp [Y13.l0] at h⟩
 | k + 1 => by
  obtain ⟨ih0, ih1, ih2⟩ := YH.mono_j k
  refine ⟨?_, ?_, ?_⟩
  ·intro y0 y1 y2 y3 y4 y5 y6 y7
   unfold YH.f
   repeat' first
   | (with_reducible exact ih0 _ _ _ _ _ _ _ _)
   | (with_reducible exact ih1 _ _)
   | (with_reducible exact ih2 _ _ _ _)
   | (with_reducible exact Yg.mono _ _ _)
   | (with_reducible exact LeO.refl _)
   | (with_reducible exact LeO.none _)
   | (with_reducible refine LeO.ite ?_ ?_)
   | (with_reducible refine LeO.bind ?_ (fun _ => ?_))
   | exact ih0 _ _ _ _ _ _ _ _
   | exact ih1 _ _
   | exact ih2 _ _ _ _
   | exact Yg.mono _ _ _
   | exact LeO.none _
   | refine LeO.ite ?_ ?_
   | refine LeO.bind ?_ (fun _ => ?_)
  ·intro y0 y1
   unfold Y13.f
   repeat' first
   | (with_reducible exact ih0 _ _ _ _ _ _ _ _)
   | (with_reducible exact ih1 _ _)
   | (with_reducible exact ih2 _ _ _ _)
   | (with_reducible exact Yg.mono _ _ _)
   | (with_reducible exact LeO.refl _)
   | (with_reducible exact LeO.none _)
   | (with_reducible refine LeO.ite ?_ ?_)
   | (with_reducible refine LeO.bind ?_ (fun _ => ?_))
   | exact ih0 _ _ _ _ _ _ _ _
   | exact ih1 _ _
   | exact ih2 _ _ _ _
   | exact Yg.mono _ _ _
   | exact LeO.none _
   | refine LeO.ite ?_ ?_
   | refine LeO.bind ?_ (fun _ => ?_)
  ·intro y0 y1 y2 y3
   unfold Y13.l0
   repeat' first
   | (with_reducible exact ih0 _ _ _ _ _ _ _ _)
   | (with_reducible exact ih1 _ _)
   | (with_reducible exact ih2 _ _ _ _)
   | (with_reducible exact Yg.mono _ _ _)
   | (with_reducible exact LeO.refl _)
   | (with_reducible exact LeO.none _)
   | (with_reducible refine LeO.ite ?_ ?_)
   | (with_reducible refine LeO.bind ?_ (fun _ => ?_))
   | exact ih0 _ _ _ _ _ _ _ _
   | exact ih1 _ _
   | exact ih2 _ _ _ _
   | exact Yg.mono _ _ _
   | exact LeO.none _
   | refine LeO.ite ?_ ?_
   | refine LeO.bind ?_ (fun _ => ?_)
abbrev YH.Spec (k : Nat) : Prop := ∀ (a0_0 : Int) (a0_1 : ByteArray) (A0_2 : Option Addr) (c0_2 : Nat) (l0_2 : List ByteArray) (A0_3 : Option Addr) (c0_3 : Nat) (l0_3 : List (S37)) (a1_0 : Int) (a1_1 : ByteArray) (A1_2 : Option Addr) (c1_2 : Nat) (l1_2 : List ByteArray) (A1_3 : Option Addr) (c1_3 : Nat) (l1_3 : List (S37)) (r : Bool) (w : World) (hr0_2 : Kd.C Kd.string w A0_2 l0_2.length l0_2) (hc0_2 : l0_2.length ≤ c0_2) (hr0_3 : Kd.C k37 w A0_3 l0_3.length l0_3) (hc0_3 : l0_3.length ≤ c0_3) (hr1_2 : Kd.C Kd.string w A1_2 l1_2.length l1_2) (hc1_2 : l1_2.length ≤ c1_2) (hr1_3 : Kd.C k37 w A1_3 l1_3.length l1_3) (hc1_3 : l1_3.length ≤ c1_3) (h : YH.f k a0_0 a0_1 l0_2 l0_3 a1_0 a1_1 l1_2 l1_3 = some r),
  Calls Tryd.prog 30 #[.agg #[.int .i64 a0_0, .string a0_1, .slice A0_2 l0_2.length c0_2, .slice A0_3 l0_3.length c0_3], .agg #[.int .i64 a1_0, .string a1_1, .slice A1_2 l1_2.length c1_2, .slice A1_3 l1_3.length c1_3]] w fun e w' => e = .returned (.bool r) ∧ Below w.heap.size w w'
abbrev Y13.Spec (k : Nat) : Prop := ∀ (A0 : Option Addr) (c0 : Nat) (l0 : List (S37)) (A1 : Option Addr) (c1 : Nat) (l1 : List (S37))  (r : Bool) (w : World) (hr0 : Kd.C k37 w A0 l0.length l0) (hc0 : l0.length ≤ c0) (hr1 : Kd.C k37 w A1 l1.length l1) (hc1 : l1.length ≤ c1) (h : Y13.f k l0 l1 = some r),
  Calls Tryd.prog 61 #[.slice A0 l0.length c0, .slice A1 l1.length c1, .func (.func 30) #[] #[]] w fun e w' => e = .returned (.bool r) ∧ Below w.heap.size w w'
set_option maxHeartbeats 8000000 in
set_option maxRecDepth 100000 in
theorem YH.step (k : Nat) (ih : ∀ j_ < k, YH.Spec j_ ∧ Y13.Spec j_) : ∀ (a0_0 : Int) (a0_1 : ByteArray) (A0_2 : Option Addr) (c0_2 : Nat) (l0_2 : List ByteArray) (A0_3 : Option Addr) (c0_3 : Nat) (l0_3 : List (S37)) (a1_0 : Int) (a1_1 : ByteArray) (A1_2 : Option Addr) (c1_2 : Nat) (l1_2 : List ByteArray) (A1_3 : Option Addr) (c1_3 : Nat) (l1_3 : List (S37)) (r : Bool) (w : World) (hr0_2 : Kd.C Kd.string w A0_2 l0_2.length l0_2) (hc0_2 : l0_2.length ≤ c0_2) (hr0_3 : Kd.C k37 w A0_3 l0_3.length l0_3) (hc0_3 : l0_3.length ≤ c0_3) (hr1_2 : Kd.C Kd.string w A1_2 l1_2.length l1_2) (hc1_2 : l1_2.length ≤ c1_2) (hr1_3 : Kd.C k37 w A1_3 l1_3.length l1_3) (hc1_3 : l1_3.length ≤ c1_3) (h : YH.f k a0_0 a0_1 l0_2 l0_3 a1_0 a1_1 l1_2 l1_3 = some r),
  Calls Tryd.prog 30 #[.agg #[.int .i64 a0_0, .string a0_1, .slice A0_2 l0_2.length c0_2, .slice A0_3 l0_3.length c0_3], .agg #[.int .i64 a1_0, .string a1_1, .slice A1_2 l1_2.length c1_2, .slice A1_3 l1_3.length c1_3]] w fun e w' => e = .returned (.bool r) ∧ Below w.heap.size w w' := by
 intro a0_0 a0_1 A0_2 c0_2 l0_2 A0_3 c0_3 l0_3 a1_0 a1_1 A1_2 c1_2 l1_2 A1_3 c1_3 l1_3 r w hr0_2 hc0_2 hr0_3 hc0_3 hr1_2 hc1_2 hr1_3 hc1_3 h
 cases k with
 | zero => exact absurd h (by simp [YH.f])
 | succ k =>
 simp only [YH.f] at h
 have hu37 := Tryd.underlying37
 have HR0_2 := Y0.mk hr0_2
 have HC0_2 := Y0.mk hc0_2
 clear hr0_2 hc0_2
 have HR0_3 := Y0.mk hr0_3
 have HC0_3 := Y0.mk hc0_3
 clear hr0_3 hc0_3
 have HR1_2 := Y0.mk hr1_2
 have HC1_2 := Y0.mk hc1_2
 clear hr1_2 hc1_2
 have HR1_3 := Y0.mk hr1_3
 have HC1_3 := Y0.mk hc1_3
 clear hr1_3 hc1_3
 have HB := Y0.mk (Below.refl w.heap.size w)
 have H : (if a0_0 = a1_0 then (if a0_1.toList = a1_1.toList then ((Yg.f k l0_2 l1_2).bind fun t103 => (if t103 = true then ((Y13.f k l0_3 l1_3).bind fun t104 => (some t104)) else (some false))) else (some false)) else (some false)) = some r := h
 clear h
 by_cases c3 : a0_0 = a1_0
 ·rw [if_pos c3] at H
  have c3b0 : (a0_0 == a1_0) = true := beq_iff_eq.mpr c3
  have c3b1 : (a0_0 != a1_0) = false := bne_eq_false_iff_eq.mpr c3
  clear c3
  by_cases c4 : a0_1.toList = a1_1.toList
  ·rw [if_pos c4] at H
   have c4b0 : (a0_1.toList == a1_1.toList) = true := beq_iff_eq.mpr c4
   have c4b1 : (a0_1.toList != a1_1.toList) = false := bne_eq_false_iff_eq.mpr c4
   clear c4
   replace H := Option.bind_eq_some_iff.mp H
   obtain ⟨t103, A50, H⟩ := H
   replace H : (if t103 = true then ((Y13.f k l0_3 l1_3).bind fun t104 => (some t104)) else (some false)) = some r := H
   have A5 := Y0.mk A50
   clear A50
   by_cases c6 : t103 = true
   ·subst c6
    have H1 : ((Y13.f k l0_3 l1_3).bind fun t104 => (some t104)) = some r := by rw [if_pos rfl] at H; exact H
    clear H
    have H := H1
    clear H1
    replace H := Option.bind_eq_some_iff.mp H
    obtain ⟨t104, A70, H⟩ := H
    replace H : (some t104) = some r := H
    have A7 := Y0.mk A70
    clear A70
    obtain rfl := Option.some.inj H
    go_enter Tryd.func30, Tryd.ntmps30
    go_wp2_with (first | ((with_reducible refine YF (N := 2) rfl ?_); refine YA ?hg (N := 2) ?hd (cs := #[.int .i64 a0_0, .string a0_1, .slice A0_2 l0_2.length c0_2, .slice A0_3 l0_3.length c0_3]) (t := 37) ?hr ?_; (case hd => rfl); (case hg => rfl); (case hr => exact Za); intro gb101 hg w8 hbox hb; have n_ := Y2x (Y6 QB hb) (hbox) ((by rw [hg]; exact (Ya QB) : w.heap.size ≤ gb101)) ((by rw [hg]; exact (Ya QB) : w.heap.size ≤ gb101)); clear HB; obtain ⟨HB, BK101, GW101, GE101⟩ := n_; clear hb hbox hg) | ((with_reducible refine YF (N := 3) rfl ?_); refine YA ?hg (N := 3) ?hd (cs := #[.int .i64 a1_0, .string a1_1, .slice A1_2 l1_2.length c1_2, .slice A1_3 l1_3.length c1_3]) (t := 37) ?hr ?_; (case hd => rfl); (case hg => rfl); (case hr => exact Za); intro gb102 hg w9 hbox hb; have n_ := Y5A (Yj (g := gb101) (o := .cells #[.int .i64 a0_0, .string a0_1, .slice A0_2 l0_2.length c0_2, .slice A0_3 l0_3.length c0_3] 37 (0, 0)) QQ hb) (Y6 QB hb) (hbox) ((by rw [hg]; exact (Ya QB) : w.heap.size ≤ gb102)) ((by rw [hg]; exact (Ya QB) : w.heap.size ≤ gb102)) ((by rw [hg]; exact Nat.ne_of_lt (Y1b (g := gb101) (o := .cells #[.int .i64 a0_0, .string a0_1, .slice A0_2 l0_2.length c0_2, .slice A0_3 l0_3.length c0_3] 37 (0, 0)) QQ) : gb101 ≠ gb102)) ((by rw [hg]; exact Nat.ne_of_gt (Y1b (g := gb101) (o := .cells #[.int .i64 a0_0, .string a0_1, .slice A0_2 l0_2.length c0_2, .slice A0_3 l0_3.length c0_3] 37 (0, 0)) QQ) : gb102 ≠ gb101)); clear BK101 HB; obtain ⟨BK101, HB, BK102, GW102, GE102, NB101_102, NB102_101⟩ := n_; clear hb hbox hg; have hnb10 := NB101_102.out; have hnc10 := NB102_101.out; obtain ⟨hcz11_0, hcz11_1, hcz11_2, hcz11_3, hfz11_0, hfz11_1, hfz11_2, hfz11_3⟩ := YD BK101.out; obtain ⟨hcz12_0, hcz12_1, hcz12_2, hcz12_3, hfz12_0, hfz12_1, hfz12_2, hfz12_3⟩ := YD BK102.out) | (go_at_call 60; (with_reducible refine (Yg.calls k _ _ l0_2 _ _ l1_2 true _ ?side1 ?side2 ?side3 ?side4 A5.out).mono ?_); (case side1 => exact Z5); (case side2 => exact Z10); (case side3 => exact Zk); (case side4 => exact HC1_2.out); rintro e w' ⟨rfl, ⟨nd, rfl⟩⟩) | (go_at_call 61; (with_reducible refine ((ih k (by omega)).2 _ _ l0_3 _ _ l1_3  t104 _ ?side1 ?side2 ?side3 ?side4 A7.out).mono ?_); (case side1 => repeat (first | exact (Kd.C_below HR0_3.out QB) | (with_reducible refine Kd.C_alloc ?_ _) | (with_reducible refine Kd.C_drewN ?_ _) | (with_reducible refine Kd.C_drew ?_))); (case side2 => exact Z13); (case side3 => repeat (first | exact (Kd.C_below HR1_3.out QB) | (with_reducible refine Kd.C_alloc ?_ _) | (with_reducible refine Kd.C_drewN ?_ _) | (with_reducible refine Kd.C_drew ?_))); (case side4 => exact HC1_3.out); rintro e w13 ⟨rfl, hb⟩; have n_ := Y24 (Yj (g := gb101) (o := .cells #[.int .i64 a0_0, .string a0_1, .slice A0_2 l0_2.length c0_2, .slice A0_3 l0_3.length c0_3] 37 (0, 0)) QQ hb) (Yj (g := gb102) (o := .cells #[.int .i64 a1_0, .string a1_1, .slice A1_2 l1_2.length c1_2, .slice A1_3 l1_3.length c1_3] 37 (0, 0)) QQ hb) (Y6 QB hb); clear BK101 BK102 HB; obtain ⟨BK101, BK102, HB⟩ := n_; (try clear hb); (try clear hb2); (try clear hk); (try clear hi)))
    go_ret
    exact Z1F
   ·replace c6 := Bool.eq_false_iff.mpr c6
    subst c6
    have H1 : (some false) = some r := by rw [if_neg (show ¬ (false = true) by decide)] at H; exact H
    clear H
    have H := H1
    clear H1
    obtain rfl := Option.some.inj H
    go_enter Tryd.func30, Tryd.ntmps30
    go_wp2_with (first | ((with_reducible refine YF (N := 2) rfl ?_); refine YA ?hg (N := 2) ?hd (cs := #[.int .i64 a0_0, .string a0_1, .slice A0_2 l0_2.length c0_2, .slice A0_3 l0_3.length c0_3]) (t := 37) ?hr ?_; (case hd => rfl); (case hg => rfl); (case hr => exact Za); intro gb101 hg w14 hbox hb; have n_ := Y2x (Y6 QB hb) (hbox) ((by rw [hg]; exact (Ya QB) : w.heap.size ≤ gb101)) ((by rw [hg]; exact (Ya QB) : w.heap.size ≤ gb101)); clear HB; obtain ⟨HB, BK101, GW101, GE101⟩ := n_; clear hb hbox hg) | ((with_reducible refine YF (N := 3) rfl ?_); refine YA ?hg (N := 3) ?hd (cs := #[.int .i64 a1_0, .string a1_1, .slice A1_2 l1_2.length c1_2, .slice A1_3 l1_3.length c1_3]) (t := 37) ?hr ?_; (case hd => rfl); (case hg => rfl); (case hr => exact Za); intro gb102 hg w15 hbox hb; have n_ := Y5A (Yj (g := gb101) (o := .cells #[.int .i64 a0_0, .string a0_1, .slice A0_2 l0_2.length c0_2, .slice A0_3 l0_3.length c0_3] 37 (0, 0)) QQ hb) (Y6 QB hb) (hbox) ((by rw [hg]; exact (Ya QB) : w.heap.size ≤ gb102)) ((by rw [hg]; exact (Ya QB) : w.heap.size ≤ gb102)) ((by rw [hg]; exact Nat.ne_of_lt (Y1b (g := gb101) (o := .cells #[.int .i64 a0_0, .string a0_1, .slice A0_2 l0_2.length c0_2, .slice A0_3 l0_3.length c0_3] 37 (0, 0)) QQ) : gb101 ≠ gb102)) ((by rw [hg]; exact Nat.ne_of_gt (Y1b (g := gb101) (o := .cells #[.int .i64 a0_0, .string a0_1, .slice A0_2 l0_2.length c0_2, .slice A0_3 l0_3.length c0_3] 37 (0, 0)) QQ) : gb102 ≠ gb101)); clear BK101 HB; obtain ⟨BK101, HB, BK102, GW102, GE102, NB101_102, NB102_101⟩ := n_; clear hb hbox hg; have hnb16 := NB101_102.out; have hnc16 := NB102_101.out; obtain ⟨hcz17_0, hcz17_1, hcz17_2, hcz17_3, hfz17_0, hfz17_1, hfz17_2, hfz17_3⟩ := YD BK101.out; obtain ⟨hcz18_0, hcz18_1, hcz18_2, hcz18_3, hfz18_0, hfz18_1, hfz18_2, hfz18_3⟩ := YD BK102.out) | (go_at_call 60; (with_reducible refine (Yg.calls k _ _ l0_2 _ _ l1_2 false _ ?side1 ?side2 ?side3 ?side4 A5.out).mono ?_); (case side1 => exact Z5); (case side2 => exact Z10); (case side3 => exact Zk); (case side4 => exact HC1_2.out); rintro e w' ⟨rfl, ⟨nd, rfl⟩⟩))
    go_ret
    exact Z1F
  ·rw [if_neg c4] at H
   have c4b0 : (a0_1.toList == a1_1.toList) = false := beq_eq_false_iff_ne.mpr c4
   have c4b1 : (a0_1.toList != a1_1.toList) = true := bne_iff_ne.mpr c4
   obtain rfl := Option.some.inj H
   go_enter Tryd.func30, Tryd.ntmps30
   go_wp2_with (first | ((with_reducible refine YF (N := 2) rfl ?_); refine YA ?hg (N := 2) ?hd (cs := #[.int .i64 a0_0, .string a0_1, .slice A0_2 l0_2.length c0_2, .slice A0_3 l0_3.length c0_3]) (t := 37) ?hr ?_; (case hd => rfl); (case hg => rfl); (case hr => exact Za); intro gb101 hg w19 hbox hb; have n_ := Y2x (Y6 QB hb) (hbox) ((by rw [hg]; exact (Ya QB) : w.heap.size ≤ gb101)) ((by rw [hg]; exact (Ya QB) : w.heap.size ≤ gb101)); clear HB; obtain ⟨HB, BK101, GW101, GE101⟩ := n_; clear hb hbox hg) | ((with_reducible refine YF (N := 3) rfl ?_); refine YA ?hg (N := 3) ?hd (cs := #[.int .i64 a1_0, .string a1_1, .slice A1_2 l1_2.length c1_2, .slice A1_3 l1_3.length c1_3]) (t := 37) ?hr ?_; (case hd => rfl); (case hg => rfl); (case hr => exact Za); intro gb102 hg w20 hbox hb; have n_ := Y5A (Yj (g := gb101) (o := .cells #[.int .i64 a0_0, .string a0_1, .slice A0_2 l0_2.length c0_2, .slice A0_3 l0_3.length c0_3] 37 (0, 0)) QQ hb) (Y6 QB hb) (hbox) ((by rw [hg]; exact (Ya QB) : w.heap.size ≤ gb102)) ((by rw [hg]; exact (Ya QB) : w.heap.size ≤ gb102)) ((by rw [hg]; exact Nat.ne_of_lt (Y1b (g := gb101) (o := .cells #[.int .i64 a0_0, .string a0_1, .slice A0_2 l0_2.length c0_2, .slice A0_3 l0_3.length c0_3] 37 (0, 0)) QQ) : gb101 ≠ gb102)) ((by rw [hg]; exact Nat.ne_of_gt (Y1b (g := gb101) (o := .cells #[.int .i64 a0_0, .string a0_1, .slice A0_2 l0_2.length c0_2, .slice A0_3 l0_3.length c0_3] 37 (0, 0)) QQ) : gb102 ≠ gb101)); clear BK101 HB; obtain ⟨BK101, HB, BK102, GW102, GE102, NB101_102, NB102_101⟩ := n_; clear hb hbox hg; have hnb21 := NB101_102.out; have hnc21 := NB102_101.out; obtain ⟨hcz22_0, hcz22_1, hcz22_2, hcz22_3, hfz22_0, hfz22_1, hfz22_2, hfz22_3⟩ := YD BK101.out; obtain ⟨hcz23_0, hcz23_1, hcz23_2, hcz23_3, hfz23_0, hfz23_1, hfz23_2, hfz23_3⟩ := YD BK102.out))
   go_ret
   exact Z1F
 ·rw [if_neg c3] at H
  have c3b0 : (a0_0 == a1_0) = false := beq_eq_false_iff_ne.mpr c3
  have c3b1 : (a0_0 != a1_0) = true := bne_iff_ne.mpr c3
  obtain rfl := Option.some.inj H
  go_enter Tryd.func30, Tryd.ntmps30
  go_wp2_with (first | ((with_reducible refine YF (N := 2) rfl ?_); refine YA ?hg (N := 2) ?hd (cs := #[.int .i64 a0_0, .string a0_1, .slice A0_2 l0_2.length c0_2, .slice A0_3 l0_3.length c0_3]) (t := 37) ?hr ?_; (case hd => rfl); (case hg => rfl); (case hr => exact Za); intro gb101 hg w24 hbox hb; have n_ := Y2x (Y6 QB hb) (hbox) ((by rw [hg]; exact (Ya QB) : w.heap.size ≤ gb101)) ((by rw [hg]; exact (Ya QB) : w.heap.size ≤ gb101)); clear HB; obtain ⟨HB, BK101, GW101, GE101⟩ := n_; clear hb hbox hg) | ((with_reducible refine YF (N := 3) rfl ?_); refine YA ?hg (N := 3) ?hd (cs := #[.int .i64 a1_0, .string a1_1, .slice A1_2 l1_2.length c1_2, .slice A1_3 l1_3.length c1_3]) (t := 37) ?hr ?_; (case hd => rfl); (case hg => rfl); (case hr => exact Za); intro gb102 hg w25 hbox hb; have n_ := Y5A (Yj (g := gb101) (o := .cells #[.int .i64 a0_0, .string a0_1, .slice A0_2 l0_2.length c0_2, .slice A0_3 l0_3.length c0_3] 37 (0, 0)) QQ hb) (Y6 QB hb) (hbox) ((by rw [hg]; exact (Ya QB) : w.heap.size ≤ gb102)) ((by rw [hg]; exact (Ya QB) : w.heap.size ≤ gb102)) ((by rw [hg]; exact Nat.ne_of_lt (Y1b (g := gb101) (o := .cells #[.int .i64 a0_0, .string a0_1, .slice A0_2 l0_2.length c0_2, .slice A0_3 l0_3.length c0_3] 37 (0, 0)) QQ) : gb101 ≠ gb102)) ((by rw [hg]; exact Nat.ne_of_gt (Y1b (g := gb101) (o := .cells #[.int .i64 a0_0, .string a0_1, .slice A0_2 l0_2.length c0_2, .slice A0_3 l0_3.length c0_3] 37 (0, 0)) QQ) : gb102 ≠ gb101)); clear BK101 HB; obtain ⟨BK101, HB, BK102, GW102, GE102, NB101_102, NB102_101⟩ := n_; clear hb hbox hg; have hnb26 := NB101_102.out; have hnc26 := NB102_101.out; obtain ⟨hcz27_0, hcz27_1, hcz27_2, hcz27_3, hfz27_0, hfz27_1, hfz27_2, hfz27_3⟩ := YD BK101.out; obtain ⟨hcz28_0, hcz28_1, hcz28_2, hcz28_3, hfz28_0, hfz28_1, hfz28_2, hfz28_3⟩ := YD BK102.out))
  go_ret
  exact Z1F
set_option maxHeartbeats 8000000 in
set_option maxRecDepth 100000 in
theorem Y13.step (k : Nat) (ih : ∀ j_ < k, YH.Spec j_ ∧ Y13.Spec j_) : ∀ (A0 : Option Addr) (c0 : Nat) (l0 : List (S37)) (A1 : Option Addr) (c1 : Nat) (l1 : List (S37))  (r : Bool) (w : World) (hr0 : Kd.C k37 w A0 l0.length l0) (hc0 : l0.length ≤ c0) (hr1 : Kd.C k37 w A1 l1.length l1) (hc1 : l1.length ≤ c1) (h : Y13.f k l0 l1 = some r),
  Calls Tryd.prog 61 #[.slice A0 l0.length c0, .slice A1 l1.length c1, .func (.func 30) #[] #[]] w fun e w' => e = .returned (.bool r) ∧ Below w.heap.size w w' := by
 intro A0 c0 l0 A1 c1 l1 r w hr0 hc0 hr1 hc1 h
 cases k with
 | zero => exact absurd h (by simp [Y13.f])
 | succ k =>
 simp only [Y13.f] at h
 have hu37 := Tryd.underlying37
 have HR0 := Y0.mk hr0
 have HC0 := Y0.mk hc0
 clear hr0 hc0
 have HR1 := Y0.mk hr1
 have HC1 := Y0.mk hc1
 clear hr1 hc1
 have HB := Y0.mk (Below.refl w.heap.size w)
 have H : (if (l0.length : Int) = (l1.length : Int) then (Y13.l0 k l1 l0 (l0.length : Int) 0) else (some false)) = some r := h
 clear h
 by_cases c4 : (l0.length : Int) = (l1.length : Int)
 ·rw [if_pos c4] at H
  have c4b0 : ((l0.length : Int) == (l1.length : Int)) = true := beq_iff_eq.mpr c4
  have c4b1 : ((l0.length : Int) != (l1.length : Int)) = false := bne_eq_false_iff_eq.mpr c4
  have c4b2 : (l0.length == l1.length) = true := by first | simpa using c4 | (simp at c4 ⊢; omega)
  clear c4
  have H' := Y0.mk H
  clear H
  go_enter Tryd.func61, Tryd.ntmps61
  go_wp2
  go_loopg [17] k (fun kq v17 w' => ∃ (x17_1 : Int), v17 = .int .i64 x17_1 ∧ Y0 (Y13.l0 kq l1 l0 (l0.length : Int) x17_1 = some r) ∧ Y0 (kq ≤ k) ∧ Y0 (Below w.heap.size w w'))
  case atStart => exact ⟨(0), Z9, H', ⟨Nat.le_refl _⟩, ⟨QB⟩⟩
  case round =>
   clear H'
   try clear c1
   try clear p2
   try clear c4
   try clear c4b0
   try clear c4b1
   try clear c4b2
   obtain ⟨x17_1, rfl, HA, HK1, HB⟩ := hrel
   cases gk with
   | zero => exact absurd HA.out (by simp [Y13.l0])
   | succ k1 =>
    have H := HA.out
    clear HA
    simp only [Y13.l0] at H
    by_cases c5 : x17_1 < (l0.length : Int)
    ·rw [if_pos c5] at H
     have c5b0 : decide (x17_1 < (l0.length : Int)) = true := decide_eq_true c5
     clear c5
     by_cases c6 : 0 ≤ x17_1
     ·rw [if_pos c6] at H
      have c6b0 : decide (0 ≤ x17_1) = true := decide_eq_true c6
      clear c6
      by_cases c7 : x17_1 < (l0.length : Int)
      ·rw [if_pos c7] at H
       have c7b0 : decide (x17_1 < (l0.length : Int)) = true := decide_eq_true c7
       clear c7
       by_cases c8 : x17_1 < (l1.length : Int)
       ·rw [if_pos c8] at H
        have c8b0 : decide (x17_1 < (l1.length : Int)) = true := decide_eq_true c8
        clear c8
        replace H := Option.bind_eq_some_iff.mp H
        obtain ⟨t109, A90, H⟩ := H
        replace H : (if t109 = true then (Y13.l0 k1 l1 l0 (l0.length : Int) (wrap64 (x17_1 + 1))) else (some false)) = some r := H
        have A9 := Y0.mk A90
        clear A90
        by_cases c10 : t109 = true
        ·subst c10
         have H1 : (Y13.l0 k1 l1 l0 (l0.length : Int) (wrap64 (x17_1 + 1))) = some r := by rw [if_pos rfl] at H; exact H
         clear H
         have H := H1
         clear H1
         have H' := Y0.mk H
         clear H
         have p105 : 0 ≤ (x17_1 : Int) := of_decide_eq_true Z8
         have q105 : x17_1 < (l0.length : Int) := of_decide_eq_true Z8
         obtain ⟨ad105, A105_2, c105_2, A105_3, c105_3, e105, hx105_0, hx105_1, hx105_2, hx105_3, hl105_2, hi105_2, hl105_3, hi105_3⟩ := Y1C HR0.out x17_1 p105 q105
         cases e105
         replace hx105_0 := YT HB.out hx105_0
         replace hx105_1 := YT HB.out hx105_1
         replace hx105_2 := YT HB.out hx105_2
         replace hx105_3 := YT HB.out hx105_3
         have HR105_2 := Y0.mk hi105_2
         have HC105_2 := Y0.mk hl105_2
         clear hi105_2 hl105_2
         have HR105_3 := Y0.mk hi105_3
         have HC105_3 := Y0.mk hl105_3
         clear hi105_3 hl105_3
         replace p105 := eq_true p105
         replace q105 := eq_true q105
         go_wp2_with (first | ((with_reducible refine YF (N := 8) rfl ?_); refine YA ?hg (N := 8) ?hd (cs := #[.int .i64 0, .string (⟨#[]⟩ : ByteArray), .slice none 0 0, .slice none 0 0]) (t := 37) ?hr ?_; (case hd => rfl); (case hg => rfl); (case hr => exact Za); intro gb106 hg w11 hbox hb; have n_ := Y2x (Y6 QB hb) (hbox) ((by rw [hg]; exact (Ya QB) : w.heap.size ≤ gb106)) ((by rw [hg]; exact (Ya QB) : w.heap.size ≤ gb106)); clear HB; obtain ⟨HB, BK106, GW106, GE106⟩ := n_; clear hb hbox hg; obtain ⟨hcz12_0, hcz12_1, hcz12_2, hcz12_3, hfz12_0, hfz12_1, hfz12_2, hfz12_3⟩ := YD BK106.out; have p107 : 0 ≤ (x17_1 : Int) := of_decide_eq_true Z8; have q107 : x17_1 < (l1.length : Int) := of_decide_eq_true Z8; obtain ⟨ad107, A107_2, c107_2, A107_3, c107_3, e107, hx107_0, hx107_1, hx107_2, hx107_3, hl107_2, hi107_2, hl107_3, hi107_3⟩ := Y1C HR1.out x17_1 p107 q107; cases e107; have hn107_0 : ad107.block ≠ gb106 := Nat.ne_of_lt (Nat.lt_of_lt_of_le Zv GW106.out); have hn107_1 : ad107.block ≠ gb106 := Nat.ne_of_lt (Nat.lt_of_lt_of_le Zv GW106.out); have hn107_2 : ad107.block ≠ gb106 := Nat.ne_of_lt (Nat.lt_of_lt_of_le Zv GW106.out); have hn107_3 : ad107.block ≠ gb106 := Nat.ne_of_lt (Nat.lt_of_lt_of_le Zv GW106.out); replace hx107_0 := YT HB.out hx107_0; replace hx107_1 := YT HB.out hx107_1; replace hx107_2 := YT HB.out hx107_2; replace hx107_3 := YT HB.out hx107_3; have HR107_2 := Y0.mk hi107_2; have HC107_2 := Y0.mk hl107_2; clear hi107_2 hl107_2; have HR107_3 := Y0.mk hi107_3; have HC107_3 := Y0.mk hl107_3; clear hi107_3 hl107_3; replace hx107_0 := (YM (p := ⟨gb106, 0, none⟩) Zo (.int .i64 ((Y2 l0 x17_1).f0))).trans hx107_0; replace hx107_1 := (YM (p := ⟨gb106, 0, none⟩) Zo (.int .i64 ((Y2 l0 x17_1).f0))).trans hx107_1; replace hx107_2 := (YM (p := ⟨gb106, 0, none⟩) Zo (.int .i64 ((Y2 l0 x17_1).f0))).trans hx107_2; replace hx107_3 := (YM (p := ⟨gb106, 0, none⟩) Zo (.int .i64 ((Y2 l0 x17_1).f0))).trans hx107_3; replace hx107_0 := (YM (p := ⟨gb106, 1, none⟩) Zp (.string ((Y2 l0 x17_1).f1))).trans hx107_0; replace hx107_1 := (YM (p := ⟨gb106, 1, none⟩) Zp (.string ((Y2 l0 x17_1).f1))).trans hx107_1; replace hx107_2 := (YM (p := ⟨gb106, 1, none⟩) Zp (.string ((Y2 l0 x17_1).f1))).trans hx107_2; replace hx107_3 := (YM (p := ⟨gb106, 1, none⟩) Zp (.string ((Y2 l0 x17_1).f1))).trans hx107_3; replace hx107_0 := (YM (p := ⟨gb106, 2, none⟩) Zq (.slice A105_2 ((Y2 l0 x17_1).f2).length c105_2)).trans hx107_0; replace hx107_1 := (YM (p := ⟨gb106, 2, none⟩) Zq (.slice A105_2 ((Y2 l0 x17_1).f2).length c105_2)).trans hx107_1; replace hx107_2 := (YM (p := ⟨gb106, 2, none⟩) Zq (.slice A105_2 ((Y2 l0 x17_1).f2).length c105_2)).trans hx107_2; replace hx107_3 := (YM (p := ⟨gb106, 2, none⟩) Zq (.slice A105_2 ((Y2 l0 x17_1).f2).length c105_2)).trans hx107_3; replace hx107_0 := (YM (p := ⟨gb106, 3, none⟩) Zr (.slice A105_3 ((Y2 l0 x17_1).f3).length c105_3)).trans hx107_0; replace hx107_1 := (YM (p := ⟨gb106, 3, none⟩) Zr (.slice A105_3 ((Y2 l0 x17_1).f3).length c105_3)).trans hx107_1; replace hx107_2 := (YM (p := ⟨gb106, 3, none⟩) Zr (.slice A105_3 ((Y2 l0 x17_1).f3).length c105_3)).trans hx107_2; replace hx107_3 := (YM (p := ⟨gb106, 3, none⟩) Zr (.slice A105_3 ((Y2 l0 x17_1).f3).length c105_3)).trans hx107_3; clear hn107_0 hn107_1 hn107_2 hn107_3; replace p107 := eq_true p107; replace q107 := eq_true q107) | ((with_reducible refine YF (N := 9) rfl ?_); refine YA ?hg (N := 9) ?hd (cs := #[.int .i64 0, .string (⟨#[]⟩ : ByteArray), .slice none 0 0, .slice none 0 0]) (t := 37) ?hr ?_; (case hd => rfl); (case hg => rfl); (case hr => exact Za); intro gb108 hg w13 hbox hb; have n_ := Y5A (Yj (g := gb106) (o := .cells #[.int .i64 ((Y2 l0 x17_1).f0), .string ((Y2 l0 x17_1).f1), .slice A105_2 ((Y2 l0 x17_1).f2).length c105_2, .slice A105_3 ((Y2 l0 x17_1).f3).length c105_3] 37 (0, 0)) Z1w hb) (Y6 QB hb) (hbox) ((by rw [hg]; exact (Ya QB) : w.heap.size ≤ gb108)) ((by rw [hg]; exact (Ya QB) : w.heap.size ≤ gb108)) ((by rw [hg]; exact Nat.ne_of_lt (Y1b (g := gb106) (o := .cells #[.int .i64 ((Y2 l0 x17_1).f0), .string ((Y2 l0 x17_1).f1), .slice A105_2 ((Y2 l0 x17_1).f2).length c105_2, .slice A105_3 ((Y2 l0 x17_1).f3).length c105_3] 37 (0, 0)) Z1w) : gb106 ≠ gb108)) ((by rw [hg]; exact Nat.ne_of_gt (Y1b (g := gb106) (o := .cells #[.int .i64 ((Y2 l0 x17_1).f0), .string ((Y2 l0 x17_1).f1), .slice A105_2 ((Y2 l0 x17_1).f2).length c105_2, .slice A105_3 ((Y2 l0 x17_1).f3).length c105_3] 37 (0, 0)) Z1w) : gb108 ≠ gb106)); clear BK106 HB; obtain ⟨BK106, HB, BK108, GW108, GE108, NB106_108, NB108_106⟩ := n_; clear hb hbox hg; have hnb14 := NB108_106.out; have hnc14 := NB106_108.out; obtain ⟨hcz15_0, hcz15_1, hcz15_2, hcz15_3, hfz15_0, hfz15_1, hfz15_2, hfz15_3⟩ := YD BK108.out; obtain ⟨hcz16_0, hcz16_1, hcz16_2, hcz16_3, hfz16_0, hfz16_1, hfz16_2, hfz16_3⟩ := YD BK106.out) | (go_at_call 30; (with_reducible refine ((ih k1 ZM).1 ((Y2 l0 x17_1).f0) ((Y2 l0 x17_1).f1) _ _ ((Y2 l0 x17_1).f2) _ _ ((Y2 l0 x17_1).f3) ((Y2 l1 x17_1).f0) ((Y2 l1 x17_1).f1) _ _ ((Y2 l1 x17_1).f2) _ _ ((Y2 l1 x17_1).f3) true _ ?side1 ?side2 ?side3 ?side4 ?side5 ?side6 ?side7 ?side8 A9.out).mono ?_); (case side1 => exact Kd.C_below HR105_2.out QB); (case side2 => exact HC105_2.out); (case side3 => exact Kd.C_below HR105_3.out QB); (case side4 => exact HC105_3.out); (case side5 => exact Kd.C_below HR107_2.out QB); (case side6 => exact HC107_2.out); (case side7 => exact Kd.C_below HR107_3.out QB); (case side8 => exact HC107_3.out); rintro e w17 ⟨rfl, hb⟩; have n_ := Y24 (Yj (g := gb106) (o := .cells #[.int .i64 ((Y2 l0 x17_1).f0), .string ((Y2 l0 x17_1).f1), .slice A105_2 ((Y2 l0 x17_1).f2).length c105_2, .slice A105_3 ((Y2 l0 x17_1).f3).length c105_3] 37 (0, 0)) Zx hb) (Yj (g := gb108) (o := .cells #[.int .i64 ((Y2 l1 x17_1).f0), .string ((Y2 l1 x17_1).f1), .slice A107_2 ((Y2 l1 x17_1).f2).length c107_2, .slice A107_3 ((Y2 l1 x17_1).f3).length c107_3] 37 (0, 0)) Z1B hb) (Y6 QB hb); clear BK106 BK108 HB; obtain ⟨BK106, BK108, HB⟩ := n_; (try clear hb); (try clear hb2); (try clear hk); (try clear hi)))
         go_roundg k1
         case measure => have := HK1.out; omega
         case rel => exact ⟨(wrap64 (x17_1 + 1)), Z9, H', ⟨ZM⟩, ⟨QB⟩⟩
        ·replace c10 := Bool.eq_false_iff.mpr c10
         subst c10
         have H1 : (some false) = some r := by rw [if_neg (show ¬ (false = true) by decide)] at H; exact H
         clear H
         have H := H1
         clear H1
         obtain rfl := Option.some.inj H
         have p105 : 0 ≤ (x17_1 : Int) := of_decide_eq_true Z8
         have q105 : x17_1 < (l0.length : Int) := of_decide_eq_true Z8
         obtain ⟨ad105, A105_2, c105_2, A105_3, c105_3, e105, hx105_0, hx105_1, hx105_2, hx105_3, hl105_2, hi105_2, hl105_3, hi105_3⟩ := Y1C HR0.out x17_1 p105 q105
         cases e105
         replace hx105_0 := YT HB.out hx105_0
         replace hx105_1 := YT HB.out hx105_1
         replace hx105_2 := YT HB.out hx105_2
         replace hx105_3 := YT HB.out hx105_3
         have HR105_2 := Y0.mk hi105_2
         have HC105_2 := Y0.mk hl105_2
         clear hi105_2 hl105_2
         have HR105_3 := Y0.mk hi105_3
         have HC105_3 := Y0.mk hl105_3
         clear hi105_3 hl105_3
         replace p105 := eq_true p105
         replace q105 := eq_true q105
         go_wp2_with (first | ((with_reducible refine YF (N := 8) rfl ?_); refine YA ?hg (N := 8) ?hd (cs := #[.int .i64 0, .string (⟨#[]⟩ : ByteArray), .slice none 0 0, .slice none 0 0]) (t := 37) ?hr ?_; (case hd => rfl); (case hg => rfl); (case hr => exact Za); intro gb106 hg w18 hbox hb; have n_ := Y2x (Y6 QB hb) (hbox) ((by rw [hg]; exact (Ya QB) : w.heap.size ≤ gb106)) ((by rw [hg]; exact (Ya QB) : w.heap.size ≤ gb106)); clear HB; obtain ⟨HB, BK106, GW106, GE106⟩ := n_; clear hb hbox hg; obtain ⟨hcz19_0, hcz19_1, hcz19_2, hcz19_3, hfz19_0, hfz19_1, hfz19_2, hfz19_3⟩ := YD BK106.out; have p107 : 0 ≤ (x17_1 : Int) := of_decide_eq_true Z8; have q107 : x17_1 < (l1.length : Int) := of_decide_eq_true Z8; obtain ⟨ad107, A107_2, c107_2, A107_3, c107_3, e107, hx107_0, hx107_1, hx107_2, hx107_3, hl107_2, hi107_2, hl107_3, hi107_3⟩ := Y1C HR1.out x17_1 p107 q107; cases e107; have hn107_0 : ad107.block ≠ gb106 := Nat.ne_of_lt (Nat.lt_of_lt_of_le Zv GW106.out); have hn107_1 : ad107.block ≠ gb106 := Nat.ne_of_lt (Nat.lt_of_lt_of_le Zv GW106.out); have hn107_2 : ad107.block ≠ gb106 := Nat.ne_of_lt (Nat.lt_of_lt_of_le Zv GW106.out); have hn107_3 : ad107.block ≠ gb106 := Nat.ne_of_lt (Nat.lt_of_lt_of_le Zv GW106.out); replace hx107_0 := YT HB.out hx107_0; replace hx107_1 := YT HB.out hx107_1; replace hx107_2 := YT HB.out hx107_2; replace hx107_3 := YT HB.out hx107_3; have HR107_2 := Y0.mk hi107_2; have HC107_2 := Y0.mk hl107_2; clear hi107_2 hl107_2; have HR107_3 := Y0.mk hi107_3; have HC107_3 := Y0.mk hl107_3; clear hi107_3 hl107_3; replace hx107_0 := (YM (p := ⟨gb106, 0, none⟩) Zo (.int .i64 ((Y2 l0 x17_1).f0))).trans hx107_0; replace hx107_1 := (YM (p := ⟨gb106, 0, none⟩) Zo (.int .i64 ((Y2 l0 x17_1).f0))).trans hx107_1; replace hx107_2 := (YM (p := ⟨gb106, 0, none⟩) Zo (.int .i64 ((Y2 l0 x17_1).f0))).trans hx107_2; replace hx107_3 := (YM (p := ⟨gb106, 0, none⟩) Zo (.int .i64 ((Y2 l0 x17_1).f0))).trans hx107_3; replace hx107_0 := (YM (p := ⟨gb106, 1, none⟩) Zp (.string ((Y2 l0 x17_1).f1))).trans hx107_0; replace hx107_1 := (YM (p := ⟨gb106, 1, none⟩) Zp (.string ((Y2 l0 x17_1).f1))).trans hx107_1; replace hx107_2 := (YM (p := ⟨gb106, 1, none⟩) Zp (.string ((Y2 l0 x17_1).f1))).trans hx107_2; replace hx107_3 := (YM (p := ⟨gb106, 1, none⟩) Zp (.string ((Y2 l0 x17_1).f1))).trans hx107_3; replace hx107_0 := (YM (p := ⟨gb106, 2, none⟩) Zq (.slice A105_2 ((Y2 l0 x17_1).f2).length c105_2)).trans hx107_0; replace hx107_1 := (YM (p := ⟨gb106, 2, none⟩) Zq (.slice A105_2 ((Y2 l0 x17_1).f2).length c105_2)).trans hx107_1; replace hx107_2 := (YM (p := ⟨gb106, 2, none⟩) Zq (.slice A105_2 ((Y2 l0 x17_1).f2).length c105_2)).trans hx107_2; replace hx107_3 := (YM (p := ⟨gb106, 2, none⟩) Zq (.slice A105_2 ((Y2 l0 x17_1).f2).length c105_2)).trans hx107_3; replace hx107_0 := (YM (p := ⟨gb106, 3, none⟩) Zr (.slice A105_3 ((Y2 l0 x17_1).f3).length c105_3)).trans hx107_0; replace hx107_1 := (YM (p := ⟨gb106, 3, none⟩) Zr (.slice A105_3 ((Y2 l0 x17_1).f3).length c105_3)).trans hx107_1; replace hx107_2 := (YM (p := ⟨gb106, 3, none⟩) Zr (.slice A105_3 ((Y2 l0 x17_1).f3).length c105_3)).trans hx107_2; replace hx107_3 := (YM (p := ⟨gb106, 3, none⟩) Zr (.slice A105_3 ((Y2 l0 x17_1).f3).length c105_3)).trans hx107_3; clear hn107_0 hn107_1 hn107_2 hn107_3; replace p107 := eq_true p107; replace q107 := eq_true q107) | ((with_reducible refine YF (N := 9) rfl ?_); refine YA ?hg (N := 9) ?hd (cs := #[.int .i64 0, .string (⟨#[]⟩ : ByteArray), .slice none 0 0, .slice none 0 0]) (t := 37) ?hr ?_; (case hd => rfl); (case hg => rfl); (case hr => exact Za); intro gb108 hg w20 hbox hb; have n_ := Y5A (Yj (g := gb106) (o := .cells #[.int .i64 ((Y2 l0 x17_1).f0), .string ((Y2 l0 x17_1).f1), .slice A105_2 ((Y2 l0 x17_1).f2).length c105_2, .slice A105_3 ((Y2 l0 x17_1).f3).length c105_3] 37 (0, 0)) Z1w hb) (Y6 QB hb) (hbox) ((by rw [hg]; exact (Ya QB) : w.heap.size ≤ gb108)) ((by rw [hg]; exact (Ya QB) : w.heap.size ≤ gb108)) ((by rw [hg]; exact Nat.ne_of_lt (Y1b (g := gb106) (o := .cells #[.int .i64 ((Y2 l0 x17_1).f0), .string ((Y2 l0 x17_1).f1), .slice A105_2 ((Y2 l0 x17_1).f2).length c105_2, .slice A105_3 ((Y2 l0 x17_1).f3).length c105_3] 37 (0, 0)) Z1w) : gb106 ≠ gb108)) ((by rw [hg]; exact Nat.ne_of_gt (Y1b (g := gb106) (o := .cells #[.int .i64 ((Y2 l0 x17_1).f0), .string ((Y2 l0 x17_1).f1), .slice A105_2 ((Y2 l0 x17_1).f2).length c105_2, .slice A105_3 ((Y2 l0 x17_1).f3).length c105_3] 37 (0, 0)) Z1w) : gb108 ≠ gb106)); clear BK106 HB; obtain ⟨BK106, HB, BK108, GW108, GE108, NB106_108, NB108_106⟩ := n_; clear hb hbox hg; have hnb21 := NB108_106.out; have hnc21 := NB106_108.out; obtain ⟨hcz22_0, hcz22_1, hcz22_2, hcz22_3, hfz22_0, hfz22_1, hfz22_2, hfz22_3⟩ := YD BK108.out; obtain ⟨hcz23_0, hcz23_1, hcz23_2, hcz23_3, hfz23_0, hfz23_1, hfz23_2, hfz23_3⟩ := YD BK106.out) | (go_at_call 30; (with_reducible refine ((ih k1 ZM).1 ((Y2 l0 x17_1).f0) ((Y2 l0 x17_1).f1) _ _ ((Y2 l0 x17_1).f2) _ _ ((Y2 l0 x17_1).f3) ((Y2 l1 x17_1).f0) ((Y2 l1 x17_1).f1) _ _ ((Y2 l1 x17_1).f2) _ _ ((Y2 l1 x17_1).f3) false _ ?side1 ?side2 ?side3 ?side4 ?side5 ?side6 ?side7 ?side8 A9.out).mono ?_); (case side1 => exact Kd.C_below HR105_2.out QB); (case side2 => exact HC105_2.out); (case side3 => exact Kd.C_below HR105_3.out QB); (case side4 => exact HC105_3.out); (case side5 => exact Kd.C_below HR107_2.out QB); (case side6 => exact HC107_2.out); (case side7 => exact Kd.C_below HR107_3.out QB); (case side8 => exact HC107_3.out); rintro e w24 ⟨rfl, hb⟩; have n_ := Y24 (Yj (g := gb106) (o := .cells #[.int .i64 ((Y2 l0 x17_1).f0), .string ((Y2 l0 x17_1).f1), .slice A105_2 ((Y2 l0 x17_1).f2).length c105_2, .slice A105_3 ((Y2 l0 x17_1).f3).length c105_3] 37 (0, 0)) Zx hb) (Yj (g := gb108) (o := .cells #[.int .i64 ((Y2 l1 x17_1).f0), .string ((Y2 l1 x17_1).f1), .slice A107_2 ((Y2 l1 x17_1).f2).length c107_2, .slice A107_3 ((Y2 l1 x17_1).f3).length c107_3] 37 (0, 0)) Z1B hb) (Y6 QB hb); clear BK106 BK108 HB; obtain ⟨BK106, BK108, HB⟩ := n_; (try clear hb); (try clear hb2); (try clear hk); (try clear hi)))
         go_ret
         exact Z1F
       ·rw [if_neg c8] at H
        exact Zh
      ·rw [if_neg c7] at H
       exact Zh
     ·rw [if_neg c6] at H
      exact Zh
    ·rw [if_neg c5] at H
     have c5b0 : decide (x17_1 < (l0.length : Int)) = false := decide_eq_false c5
     clear c5
     obtain rfl := Option.some.inj H
     go_wp2
     go_ret
     exact Z1F
 ·rw [if_neg c4] at H
  have c4b0 : ((l0.length : Int) == (l1.length : Int)) = false := beq_eq_false_iff_ne.mpr c4
  have c4b1 : ((l0.length : Int) != (l1.length : Int)) = true := bne_iff_ne.mpr c4
  have c4b2 : (l0.length == l1.length) = false := by first | simpa using c4 | (simp at c4 ⊢; omega)
  obtain rfl := Option.some.inj H
  go_enter Tryd.func61, Tryd.ntmps61
  go_wp2
  go_ret
  exact Z1F
theorem YH.joint : ∀ k, YH.Spec k ∧ Y13.Spec k := by
 intro k
 induction k using Nat.strongRecOn with
 | _ k ih => exact ⟨YH.step k ih, Y13.step k ih⟩
theorem YH.calls (k : Nat) : YH.Spec k := (YH.joint k).1
end Go.Proofs.YtbpbfboaofkpaaaDoor.Print
end
section
set_option linter.unusedVariables false
namespace Go.Proofs.YtbpbfboaofkpaaaDoor.Print
open Go.RowKit Go.Shelf Go.Lib Go.Proofs.YtbpbfboaofkpaaaDoorW.PrintWords
def Y33 (sep : List UInt8) : List ByteArray → List UInt8
 | [] => []
 | [x] => x.data.toList
 | x :: y :: l => x.data.toList ++ (sep ++ Y33 sep (y :: l))
theorem Y5V (sep : List UInt8) : ∀ l : List ByteArray, Y33 sep l = Lib.join (l.map (·.data.toList)) sep
 | [] => rfl
 | [x] => by rw [List.map_cons, List.map_nil, Lib.join_one]; rfl
 | x :: y :: l => by
  have ih := Y5V sep (y :: l)
  rw [Y33, ih, List.map_cons, List.map_cons, Lib.join_cons, Lib.join_cons]
  simp [Lib.joinTail]
theorem Y52 (sep : List UInt8) (hs : sep.length ≤ 1000) : ∀ l : List ByteArray, (∀ x ∈ l, x.size ≤ 1000000) → (Y33 sep l).length ≤ l.length * 1001000
 | [], _ => by simp [Y33]
 | [x], h => by
  have := h x (List.mem_cons_self ..)
  have e : (Y33 sep [x]).length = x.size := Y4J x
  rw [e]; simp; omega
 | x :: y :: l, h => by
  have h1 := h x (List.mem_cons_self ..)
  have ih := Y52 sep hs (y :: l) (fun z hz => h z (List.mem_cons_of_mem _ hz))
  have e := Y4J x
  rw [Y33, List.length_append, List.length_append, e]
  simp only [List.length_cons] at ih ⊢
  omega
def Y53 (l : List ByteArray) (s : ByteArray) : Bool := decide (l.length ≤ 1000000) && l.all (fun x => decide (x.size ≤ 1000000)) && decide (s.size ≤ 1000)
def strings_Join.f (l0 : List ByteArray) (a1 : ByteArray) : Option ByteArray := if Y53 l0 a1 then some ⟨(Y33 a1.data.toList l0).toArray⟩ else none
theorem strings_Join.calls (A0 : Option Addr) (c0 : Nat) (l0 : List ByteArray) (a1 : ByteArray) (r : ByteArray) (w : World) (hr0 : Kd.C Kd.string w A0 l0.length l0) (hc0 : l0.length ≤ c0) (h : strings_Join.f l0 a1 = some r) :
  Calls Tryd.prog 51 #[.slice A0 l0.length c0, .string a1] w fun e w' => e = .returned (.string r) ∧ Below w.heap.size w w' := by
 unfold strings_Join.f at h
 by_cases hj : Y53 l0 a1 = true
 ·rw [if_pos hj] at h
  obtain rfl := Option.some.inj h
  unfold Y53 at hj
  simp only [Bool.and_eq_true, decide_eq_true_eq, List.all_eq_true] at hj
  obtain ⟨⟨j1, j2⟩, j3⟩ := hj
  by_cases hn : l0.length = 0
  ·obtain rfl := List.length_eq_zero_iff.1 hn
   exact (Tryd.strings_Join_none A0 c0 a1 w).mono fun e w' ⟨he, hw⟩ => ⟨he, hw ▸ Below.refl _ _⟩
  ·obtain ⟨ad, hA⟩ : ∃ ad, A0 = some ad := by
    obtain ⟨ad, c, e, _⟩ := Kd.C_get hr0 (⟨#[]⟩ : ByteArray) 0 (by omega) (by omega)
    exact ⟨ad, e⟩
   subst hA
   have hcell : ∀ (j : Nat) x, l0[j]? = some x → w.cell? (ad.add j) = some (.string x) := by
    intro j x hx
    have hjl : j < l0.length := (List.getElem?_eq_some_iff.1 hx).1
    obtain ⟨ad', c, e, _, hK, hc⟩ := Kd.C_get hr0 (⟨#[]⟩ : ByteArray) (j : Int) (by omega) (by omega)
    obtain rfl := Option.some.inj e
    have hk : c = [.string (l0.getD (j : Int).toNat ⟨#[]⟩)] := hK
    subst hk
    have e1 : w.cell? (ad.add ((j : Int).toNat * 1 + 0)) = some (.string (l0.getD (j : Int).toNat ⟨#[]⟩)) := hc 0 _ rfl
    rw [Nat.mul_one, Nat.add_zero, Int.toNat_natCast, List.getD_eq_getElem?_getD, hx] at e1
    exact e1
   obtain ⟨bk, o, sp⟩ := ad
   have h0 := hcell 0 _ (List.getElem?_eq_getElem (by omega : 0 < l0.length))
   have hsp : sp = none := by
    have := World.cell?_spot h0
    simpa [Addr.add] using this
   subst hsp
   have hb := World.block_lt_of_cell? w _ h0
   have hp : ∀ j, (⟨bk, o, none⟩ : Addr).add j = ⟨bk, o + j, none⟩ := fun j => by unfold Addr.add; split <;> simp_all
   have hlen := Y52 a1.data.toList (by rw [Y4J]; exact j3) l0 j2
   rw [Y5V] at hlen ⊢
   exact Tryd.strings_Join bk o c0 l0 a1 w (fun j x hx => by rw [← hp j]; exact hcell j x hx) (by simpa [Addr.add] using hb) (by omega) hc0 (by omega)
 ·rw [if_neg hj] at h; cases h
end Go.Proofs.YtbpbfboaofkpaaaDoor.Print
end
section
namespace Go.Proofs.YtbpbfboaofkpaaaDoor.Print
open Go.RowKit Go.Proofs.YtbpbfboaofkpaaaDoorW.PrintWords Go.Proofs.YtbpbfboaofkpaaaDoorW.PrintLast Go.Proofs.YtbpbfboaofkpaaaDoorW.PrintMore
attribute [local go_sem] max2_int min2_int max_two min_two max_three min_three max_four min_four
set_option linter.unusedVariables false
set_option linter.unusedSimpArgs false
mutual
def YC.f : Nat → Int → ByteArray → List ByteArray → List (S37) → Option (ByteArray)
 | 0, _, _, _, _ => none
 | k + 1, a0_0, a0_1, l0_2, l0_3 => if a0_0 = 1 then (if 1 + a0_1.size ≤ 9223372036854775807 then (if 1 + a0_1.size + 1 ≤ 9223372036854775807 then (some (((⟨#[60]⟩ : ByteArray) ++ a0_1) ++ (⟨#[62]⟩ : ByteArray))) else (none)) else (none)) else (if a0_0 = 2 then (if 0 < (l0_3.length : Int) then ((YG.f k ((Y2 l0_3 0).f0) ((Y2 l0_3 0).f1) ((Y2 l0_3 0).f2) ((Y2 l0_3 0).f3)).bind fun t103 => (if 1 + t103.size ≤ 9223372036854775807 then (some ((⟨#[94]⟩ : ByteArray) ++ t103)) else (none))) else (none)) else (if a0_0 = 3 then (if 0 < (l0_3.length : Int) then ((YG.f k ((Y2 l0_3 0).f0) ((Y2 l0_3 0).f1) ((Y2 l0_3 0).f2) ((Y2 l0_3 0).f3)).bind fun t105 => (if t105.size + 1 ≤ 9223372036854775807 then (if 1 < (l0_3.length : Int) then ((YG.f k ((Y2 l0_3 1).f0) ((Y2 l0_3 1).f1) ((Y2 l0_3 1).f2) ((Y2 l0_3 1).f3)).bind fun t107 => (if t105.size + 1 + t107.size ≤ 9223372036854775807 then (some ((t105 ++ (⟨#[47]⟩ : ByteArray)) ++ t107)) else (none))) else (none)) else (none))) else (none)) else (if a0_0 = 4 then (if 0 < (l0_3.length : Int) then ((YG.f k ((Y2 l0_3 0).f0) ((Y2 l0_3 0).f1) ((Y2 l0_3 0).f2) ((Y2 l0_3 0).f3)).bind fun t109 => (if t109.size + 1 ≤ 9223372036854775807 then (if 1 < (l0_3.length : Int) then ((YG.f k ((Y2 l0_3 1).f0) ((Y2 l0_3 1).f1) ((Y2 l0_3 1).f2) ((Y2 l0_3 1).f3)).bind fun t111 => (if t109.size + 1 + t111.size ≤ 9223372036854775807 then (some ((t109 ++ (⟨#[124]⟩ : ByteArray)) ++ t111)) else (none))) else (none)) else (none))) else (none)) else (if a0_0 = 5 then (if 0 < (l0_3.length : Int) then ((YG.f k ((Y2 l0_3 0).f0) ((Y2 l0_3 0).f1) ((Y2 l0_3 0).f2) ((Y2 l0_3 0).f3)).bind fun t113 => (if t113.size + 1 ≤ 9223372036854775807 then (some (t113 ++ (⟨#[42]⟩ : ByteArray))) else (none))) else (none)) else (if a0_0 = 6 then (if 0 < (l0_3.length : Int) then ((YG.f k ((Y2 l0_3 0).f0) ((Y2 l0_3 0).f1) ((Y2 l0_3 0).f2) ((Y2 l0_3 0).f3)).bind fun t115 => (if t115.size + 1 ≤ 9223372036854775807 then (some (t115 ++ (⟨#[43]⟩ : ByteArray))) else (none))) else (none)) else (if a0_0 = 7 then (if 0 < (l0_3.length : Int) then ((YG.f k ((Y2 l0_3 0).f0) ((Y2 l0_3 0).f1) ((Y2 l0_3 0).f2) ((Y2 l0_3 0).f3)).bind fun t117 => (if t117.size + 1 ≤ 9223372036854775807 then (some (t117 ++ (⟨#[63]⟩ : ByteArray))) else (none))) else (none)) else ((strings_Join.f l0_2 (⟨#[62, 124, 60]⟩ : ByteArray)).bind fun t118 => (if 3 + t118.size ≤ 9223372036854775807 then (if 3 + t118.size + 2 ≤ 9223372036854775807 then (some (((⟨#[33, 40, 60]⟩ : ByteArray) ++ t118) ++ (⟨#[62, 41]⟩ : ByteArray))) else (none)) else (none)))))))))
def YG.f : Nat → Int → ByteArray → List ByteArray → List (S37) → Option (ByteArray)
 | 0, _, _, _, _ => none
 | k + 1, a0_0, a0_1, l0_2, l0_3 => if a0_0 = 1 then ((YC.f k a0_0 a0_1 l0_2 l0_3).bind fun t120 => (some t120)) else ((YC.f k a0_0 a0_1 l0_2 l0_3).bind fun t121 => (if 1 + t121.size ≤ 9223372036854775807 then (if 1 + t121.size + 1 ≤ 9223372036854775807 then (some (((⟨#[40]⟩ : ByteArray) ++ t121) ++ (⟨#[41]⟩ : ByteArray))) else (none)) else (none)))
end
theorem YC.mono_j : ∀ k, (∀ y0 y1 y2 y3, LeO (YC.f k y0 y1 y2 y3) (YC.f (k + 1) y0 y1 y2 y3)) ∧ (∀ y0 y1 y2 y3, LeO (YG.f k y0 y1 y2 y3) (YG.f (k + 1) y0 y1 y2 y3))
 | 0 => ⟨fun _ _ _ _ r h => by simp [YC.f] at h, fun _ _ _ _ r h => by simp [YG.f] at h⟩
 | k + 1 => by
  obtain ⟨ih0, ih1⟩ := YC.mono_j k
  refine ⟨?_, ?_⟩
  ·intro y0 y1 y2 y3
   unfold YC.f
   repeat' first
   | (with_reducible exact ih0 _ _ _ _)
   | (with_reducible exact ih1 _ _ _ _)
   | (with_reducible exact LeO.refl _)
   | (with_reducible exact LeO.none _)
   | (with_reducible refine LeO.ite ?_ ?_)
   | (with_reducible refine LeO.bind ?_ (fun _ => ?_))
   | exact ih0 _ _ _ _
   | exact ih1 _ _ _ _
   | exact LeO.none _
   | refine LeO.ite ?_ ?_
   | refine LeO.bind ?_ (fun _ => ?_)
  ·intro y0 y1 y2 y3
   unfold YG.f
   repeat' first
   | (with_reducible exact ih0 _ _ _ _)
   | (with_reducible exact ih1 _ _ _ _)
   | (with_reducible exact LeO.refl _)
   | (with_reducible exact LeO.none _)
   | (with_reducible refine LeO.ite ?_ ?_)
   | (with_reducible refine LeO.bind ?_ (fun _ => ?_))
   | exact ih0 _ _ _ _
   | exact ih1 _ _ _ _
   | exact LeO.none _
   | refine LeO.ite ?_ ?_
   | refine LeO.bind ?_ (fun _ => ?_)
theorem YC.mono : ∀ a0 a1 a2 a3 k, LeO (YC.f k a0 a1 a2 a3) (YC.f (k + 1) a0 a1 a2 a3) := fun a0 a1 a2 a3 k => (YC.mono_j k).1 a0 a1 a2 a3
abbrev YC.Spec (k : Nat) : Prop := ∀ (a0_0 : Int) (a0_1 : ByteArray) (A0_2 : Option Addr) (c0_2 : Nat) (l0_2 : List ByteArray) (A0_3 : Option Addr) (c0_3 : Nat) (l0_3 : List (S37)) (r : ByteArray) (w : World) (hr0_2 : Kd.C Kd.string w A0_2 l0_2.length l0_2) (hc0_2 : l0_2.length ≤ c0_2) (hr0_3 : Kd.C k37 w A0_3 l0_3.length l0_3) (hc0_3 : l0_3.length ≤ c0_3) (h : YC.f k a0_0 a0_1 l0_2 l0_3 = some r),
  Calls Tryd.prog 24 #[.agg #[.int .i64 a0_0, .string a0_1, .slice A0_2 l0_2.length c0_2, .slice A0_3 l0_3.length c0_3]] w fun e w' => e = .returned (.string r) ∧ Below w.heap.size w w'
abbrev YG.Spec (k : Nat) : Prop := ∀ (a0_0 : Int) (a0_1 : ByteArray) (A0_2 : Option Addr) (c0_2 : Nat) (l0_2 : List ByteArray) (A0_3 : Option Addr) (c0_3 : Nat) (l0_3 : List (S37)) (r : ByteArray) (w : World) (hr0_2 : Kd.C Kd.string w A0_2 l0_2.length l0_2) (hc0_2 : l0_2.length ≤ c0_2) (hr0_3 : Kd.C k37 w A0_3 l0_3.length l0_3) (hc0_3 : l0_3.length ≤ c0_3) (h : YG.f k a0_0 a0_1 l0_2 l0_3 = some r),
  Calls Tryd.prog 50 #[.agg #[.int .i64 a0_0, .string a0_1, .slice A0_2 l0_2.length c0_2, .slice A0_3 l0_3.length c0_3]] w fun e w' => e = .returned (.string r) ∧ Below w.heap.size w w'
set_option maxHeartbeats 8000000 in
def YC.T7 : Bool × List (List Nat × List Nat) := (true, [([], []), ([0], [0]), ([1], [1]), ([2], [2]), ([3], [3]), ([4], [4]), ([], []), ([6], [6]), ([7], [7]), ([8], [8]), ([9, 4], [9]), ([5, 10], [5, 10]), ([11, 10, 0, 1, 2, 3, 4, 5, 6, 7, 8, 9, 10, 11], [11])])
def YC.B7 : List Nat := [0, 1, 3, 7, 15, 31, 0, 64, 192, 448, 991, 2047, 4095]
theorem YC.tab7 : Y38 .any (Y3n Tryd.f24 7) = YC.T7 := by kernel_rfl
theorem YC.bits7 : Y1U YC.T7.2 YC.B7 = true := by kernel_rfl
def YC.T9 : Bool × List (List Nat × List Nat) := (true, [([], []), ([0], [0]), ([1], [1]), ([2], [2]), ([3], [3]), ([4], [4]), ([], []), ([6], [6]), ([7], [7]), ([8], [8]), ([9, 4], [9]), ([5, 10], [5, 10]), ([11, 10, 0, 1, 2, 3, 4, 5, 6, 7, 8, 9, 10, 11], [11])])
def YC.B9 : List Nat := [0, 1, 3, 7, 15, 31, 0, 64, 192, 448, 991, 2047, 4095]
theorem YC.tab9 : Y38 .any (Y3n Tryd.f24 9) = YC.T9 := by kernel_rfl
theorem YC.bits9 : Y1U YC.T9.2 YC.B9 = true := by kernel_rfl
set_option maxRecDepth 100000 in
theorem YC.step (k : Nat) (ih : ∀ j_ < k, YC.Spec j_ ∧ YG.Spec j_) : ∀ (a0_0 : Int) (a0_1 : ByteArray) (A0_2 : Option Addr) (c0_2 : Nat) (l0_2 : List ByteArray) (A0_3 : Option Addr) (c0_3 : Nat) (l0_3 : List (S37)) (r : ByteArray) (w : World) (hr0_2 : Kd.C Kd.string w A0_2 l0_2.length l0_2) (hc0_2 : l0_2.length ≤ c0_2) (hr0_3 : Kd.C k37 w A0_3 l0_3.length l0_3) (hc0_3 : l0_3.length ≤ c0_3) (h : YC.f k a0_0 a0_1 l0_2 l0_3 = some r),
  Calls Tryd.prog 24 #[.agg #[.int .i64 a0_0, .string a0_1, .slice A0_2 l0_2.length c0_2, .slice A0_3 l0_3.length c0_3]] w fun e w' => e = .returned (.string r) ∧ Below w.heap.size w w' := by
 intro a0_0 a0_1 A0_2 c0_2 l0_2 A0_3 c0_3 l0_3 r w hr0_2 hc0_2 hr0_3 hc0_3 h
 cases k with
 | zero => exact absurd h (by simp [YC.f])
 | succ k =>
 simp only [YC.f] at h
 have hu37 := Tryd.underlying37
 have HR0_2 := Y0.mk hr0_2
 have HC0_2 := Y0.mk hc0_2
 clear hr0_2 hc0_2
 have HR0_3 := Y0.mk hr0_3
 have HC0_3 := Y0.mk hc0_3
 clear hr0_3 hc0_3
 have HB := Y0.mk (Below.refl w.heap.size w)
 have H : (if a0_0 = 1 then (if 1 + a0_1.size ≤ 9223372036854775807 then (if 1 + a0_1.size + 1 ≤ 9223372036854775807 then (some (((⟨#[60]⟩ : ByteArray) ++ a0_1) ++ (⟨#[62]⟩ : ByteArray))) else (none)) else (none)) else (if a0_0 = 2 then (if 0 < (l0_3.length : Int) then ((YG.f k ((Y2 l0_3 0).f0) ((Y2 l0_3 0).f1) ((Y2 l0_3 0).f2) ((Y2 l0_3 0).f3)).bind fun t103 => (if 1 + t103.size ≤ 9223372036854775807 then (some ((⟨#[94]⟩ : ByteArray) ++ t103)) else (none))) else (none)) else (if a0_0 = 3 then (if 0 < (l0_3.length : Int) then ((YG.f k ((Y2 l0_3 0).f0) ((Y2 l0_3 0).f1) ((Y2 l0_3 0).f2) ((Y2 l0_3 0).f3)).bind fun t105 => (if t105.size + 1 ≤ 9223372036854775807 then (if 1 < (l0_3.length : Int) then ((YG.f k ((Y2 l0_3 1).f0) ((Y2 l0_3 1).f1) ((Y2 l0_3 1).f2) ((Y2 l0_3 1).f3)).bind fun t107 => (if t105.size + 1 + t107.size ≤ 9223372036854775807 then (some ((t105 ++ (⟨#[47]⟩ : ByteArray)) ++ t107)) else (none))) else (none)) else (none))) else (none)) else (if a0_0 = 4 then (if 0 < (l0_3.length : Int) then ((YG.f k ((Y2 l0_3 0).f0) ((Y2 l0_3 0).f1) ((Y2 l0_3 0).f2) ((Y2 l0_3 0).f3)).bind fun t109 => (if t109.size + 1 ≤ 9223372036854775807 then (if 1 < (l0_3.length : Int) then ((YG.f k ((Y2 l0_3 1).f0) ((Y2 l0_3 1).f1) ((Y2 l0_3 1).f2) ((Y2 l0_3 1).f3)).bind fun t111 => (if t109.size + 1 + t111.size ≤ 9223372036854775807 then (some ((t109 ++ (⟨#[124]⟩ : ByteArray)) ++ t111)) else (none))) else (none)) else (none))) else (none)) else (if a0_0 = 5 then (if 0 < (l0_3.length : Int) then ((YG.f k ((Y2 l0_3 0).f0) ((Y2 l0_3 0).f1) ((Y2 l0_3 0).f2) ((Y2 l0_3 0).f3)).bind fun t113 => (if t113.size + 1 ≤ 9223372036854775807 then (some (t113 ++ (⟨#[42]⟩ : ByteArray))) else (none))) else (none)) else (if a0_0 = 6 then (if 0 < (l0_3.length : Int) then ((YG.f k ((Y2 l0_3 0).f0) ((Y2 l0_3 0).f1) ((Y2 l0_3 0).f2) ((Y2 l0_3 0).f3)).bind fun t115 => (if t115.size + 1 ≤ 9223372036854775807 then (some (t115 ++ (⟨#[43]⟩ : ByteArray))) else (none))) else (none)) else (if a0_0 = 7 then (if 0 < (l0_3.length : Int) then ((YG.f k ((Y2 l0_3 0).f0) ((Y2 l0_3 0).f1) ((Y2 l0_3 0).f2) ((Y2 l0_3 0).f3)).bind fun t117 => (if t117.size + 1 ≤ 9223372036854775807 then (some (t117 ++ (⟨#[63]⟩ : ByteArray))) else (none))) else (none)) else ((strings_Join.f l0_2 (⟨#[62, 124, 60]⟩ : ByteArray)).bind fun t118 => (if 3 + t118.size ≤ 9223372036854775807 then (if 3 + t118.size + 2 ≤ 9223372036854775807 then (some (((⟨#[33, 40, 60]⟩ : ByteArray) ++ t118) ++ (⟨#[62, 41]⟩ : ByteArray))) else (none)) else (none)))))))))) = some r := h
 clear h
 by_cases c2 : a0_0 = 1
 ·rw [if_pos c2] at H
  have c2b0 : (a0_0 == 1) = true := beq_iff_eq.mpr c2
  have c2b1 : (a0_0 != 1) = false := bne_eq_false_iff_eq.mpr c2
  clear c2
  by_cases c3 : 1 + a0_1.size ≤ 9223372036854775807
  ·rw [if_pos c3] at H
   have c3b0 := eq_true c3
   have c3b1 : decide (1 + a0_1.size ≤ 9223372036854775807) = true := decide_eq_true c3
   try have c3b2 : (9223372036854775807 < 1 + a0_1.size) = False := eq_false (Nat.not_lt.2 c3)
   by_cases c4 : 1 + a0_1.size + 1 ≤ 9223372036854775807
   ·rw [if_pos c4] at H
    have c4b0 := eq_true c4
    have c4b1 : decide (1 + a0_1.size + 1 ≤ 9223372036854775807) = true := decide_eq_true c4
    try have c4b2 : (9223372036854775807 < 1 + a0_1.size + 1) = False := eq_false (Nat.not_lt.2 c4)
    obtain rfl := Option.some.inj H
    go_enter Tryd.func24, Tryd.ntmps24
    go_wp2_with (first | ((with_reducible refine YF (N := 1) rfl ?_); refine YA ?hg (N := 1) ?hd (cs := #[.int .i64 a0_0, .string a0_1, .slice A0_2 l0_2.length c0_2, .slice A0_3 l0_3.length c0_3]) (t := 37) ?hr ?_; (case hd => rfl); (case hg => rfl); (case hr => exact Za); intro gb101 hg w5 hbox hb; have n_ := Y2x (Y6 QB hb) (hbox) ((by rw [hg]; exact (Ya QB) : w.heap.size ≤ gb101)) ((by rw [hg]; exact (Ya QB) : w.heap.size ≤ gb101)); clear HB; obtain ⟨HB, BK101, GW101, GE101⟩ := n_; clear hb hbox hg; obtain ⟨hcz6_0, hcz6_1, hcz6_2, hcz6_3, hfz6_0, hfz6_1, hfz6_2, hfz6_3⟩ := YD BK101.out))
    go_ret
    exact Z1F
   ·rw [if_neg c4] at H
    exact Zh
  ·rw [if_neg c3] at H
   exact Zh
 ·rw [if_neg c2] at H
  have c2b0 : (a0_0 == 1) = false := beq_eq_false_iff_ne.mpr c2
  have c2b1 : (a0_0 != 1) = true := bne_iff_ne.mpr c2
  by_cases c7 : a0_0 = 2
  ·rw [if_pos c7] at H
   have c7b0 : (a0_0 == 2) = true := beq_iff_eq.mpr c7
   have c7b1 : (a0_0 != 2) = false := bne_eq_false_iff_eq.mpr c7
   clear c7
   by_cases c8 : 0 < (l0_3.length : Int)
   ·rw [if_pos c8] at H
    have c8b0 : decide (0 < (l0_3.length : Int)) = true := decide_eq_true c8
    have c8b1 : decide (0 < l0_3.length) = true := decide_eq_true (by omega)
    clear c8
    replace H := Option.bind_eq_some_iff.mp H
    obtain ⟨t103, A90, H⟩ := H
    replace H : (if 1 + t103.size ≤ 9223372036854775807 then (some ((⟨#[94]⟩ : ByteArray) ++ t103)) else (none)) = some r := H
    have A9 := Y0.mk A90
    clear A90
    by_cases c10 : 1 + t103.size ≤ 9223372036854775807
    ·rw [if_pos c10] at H
     have c10b0 := eq_true c10
     have c10b1 : decide (1 + t103.size ≤ 9223372036854775807) = true := decide_eq_true c10
     try have c10b2 : (9223372036854775807 < 1 + t103.size) = False := eq_false (Nat.not_lt.2 c10)
     obtain rfl := Option.some.inj H
     go_enter Tryd.func24, Tryd.ntmps24
     go_wp2_with (first | ((with_reducible refine YF (N := 1) rfl ?_); refine YA ?hg (N := 1) ?hd (cs := #[.int .i64 a0_0, .string a0_1, .slice A0_2 l0_2.length c0_2, .slice A0_3 l0_3.length c0_3]) (t := 37) ?hr ?_; (case hd => rfl); (case hg => rfl); (case hr => exact Za); intro gb101 hg w11 hbox hb; have n_ := Y2x (Y6 QB hb) (hbox) ((by rw [hg]; exact (Ya QB) : w.heap.size ≤ gb101)) ((by rw [hg]; exact (Ya QB) : w.heap.size ≤ gb101)); clear HB; obtain ⟨HB, BK101, GW101, GE101⟩ := n_; clear hb hbox hg; obtain ⟨hcz12_0, hcz12_1, hcz12_2, hcz12_3, hfz12_0, hfz12_1, hfz12_2, hfz12_3⟩ := YD BK101.out; have p102 : 0 ≤ (0 : Int) := (by omega); have q102 : 0 < (l0_3.length : Int) := of_decide_eq_true Z8; obtain ⟨ad102, A102_2, c102_2, A102_3, c102_3, e102, hx102_0, hx102_1, hx102_2, hx102_3, hl102_2, hi102_2, hl102_3, hi102_3⟩ := Y1C HR0_3.out 0 p102 q102; cases e102; have qi102 : (0 < l0_3.length) = True := eq_true (by omega); (try rw [show ((0 : Int)).toNat = 0 from rfl] at hx102_0); (try rw [show 0 * 4 = 0 from rfl] at hx102_0); (try rw [Addr.add_zero'] at hx102_0); (try rw [show ((0 : Int)).toNat = 0 from rfl] at hx102_1); (try rw [show 0 * 4 = 0 from rfl] at hx102_1); (try rw [Addr.add_zero'] at hx102_1); (try rw [show ((0 : Int)).toNat = 0 from rfl] at hx102_2); (try rw [show 0 * 4 = 0 from rfl] at hx102_2); (try rw [Addr.add_zero'] at hx102_2); (try rw [show ((0 : Int)).toNat = 0 from rfl] at hx102_3); (try rw [show 0 * 4 = 0 from rfl] at hx102_3); (try rw [Addr.add_zero'] at hx102_3); replace hx102_0 := YT HB.out hx102_0; replace hx102_1 := YT HB.out hx102_1; replace hx102_2 := YT HB.out hx102_2; replace hx102_3 := YT HB.out hx102_3; have HR102_2 := Y0.mk hi102_2; have HC102_2 := Y0.mk hl102_2; clear hi102_2 hl102_2; have HR102_3 := Y0.mk hi102_3; have HC102_3 := Y0.mk hl102_3; clear hi102_3 hl102_3; replace p102 := eq_true p102; replace q102 := eq_true q102) | ((with_reducible refine Yw (f := 50) rfl ?_); refine YV (some 17) rfl rfl Tryd.func50 Z6 rfl #[.agg #[.int .i64 ((Y2 l0_3 0).f0), .string ((Y2 l0_3 0).f1), .slice A102_2 ((Y2 l0_3 0).f2).length c102_2, .slice A102_3 ((Y2 l0_3 0).f3).length c102_3]] rfl Z0 ?_; (with_reducible refine ((ih k (by omega)).2 ((Y2 l0_3 0).f0) ((Y2 l0_3 0).f1) _ _ ((Y2 l0_3 0).f2) _ _ ((Y2 l0_3 0).f3) t103 _ ?side1 ?side2 ?side3 ?side4 A9.out).mono ?_); (case side1 => exact Z15); (case side2 => exact HC102_2.out); (case side3 => exact Z16); (case side4 => exact HC102_3.out); rintro e w13 ⟨rfl, hb⟩; refine ⟨_, rfl, ?_⟩; have n_ := Y2i (Yj (g := gb101) (o := .cells #[.int .i64 a0_0, .string a0_1, .slice A0_2 l0_2.length c0_2, .slice (some ad102) l0_3.length c0_3] 37 (0, 0)) QQ hb) (Y6 QB hb); clear BK101 HB; obtain ⟨BK101, HB⟩ := n_; (try clear hb); (try clear hb2); (try clear hk); (try clear hi)))
     go_ret
     exact Z1F
    ·rw [if_neg c10] at H
     exact Zh
   ·rw [if_neg c8] at H
    exact Zh
  ·rw [if_neg c7] at H
   have c7b0 : (a0_0 == 2) = false := beq_eq_false_iff_ne.mpr c7
   have c7b1 : (a0_0 != 2) = true := bne_iff_ne.mpr c7
   by_cases c14 : a0_0 = 3
   ·rw [if_pos c14] at H
    have c14b0 : (a0_0 == 3) = true := beq_iff_eq.mpr c14
    have c14b1 : (a0_0 != 3) = false := bne_eq_false_iff_eq.mpr c14
    clear c14
    by_cases c15 : 0 < (l0_3.length : Int)
    ·rw [if_pos c15] at H
     have c15b0 : decide (0 < (l0_3.length : Int)) = true := decide_eq_true c15
     have c15b1 : decide (0 < l0_3.length) = true := decide_eq_true (by omega)
     clear c15
     replace H := Option.bind_eq_some_iff.mp H
     obtain ⟨t105, A160, H⟩ := H
     replace H : (if t105.size + 1 ≤ 9223372036854775807 then (if 1 < (l0_3.length : Int) then ((YG.f k ((Y2 l0_3 1).f0) ((Y2 l0_3 1).f1) ((Y2 l0_3 1).f2) ((Y2 l0_3 1).f3)).bind fun t107 => (if t105.size + 1 + t107.size ≤ 9223372036854775807 then (some ((t105 ++ (⟨#[47]⟩ : ByteArray)) ++ t107)) else (none))) else (none)) else (none)) = some r := H
     have A16 := Y0.mk A160
     clear A160
     by_cases c17 : t105.size + 1 ≤ 9223372036854775807
     ·rw [if_pos c17] at H
      have c17b0 := eq_true c17
      have c17b1 : decide (t105.size + 1 ≤ 9223372036854775807) = true := decide_eq_true c17
      try have c17b2 : (9223372036854775807 < t105.size + 1) = False := eq_false (Nat.not_lt.2 c17)
      by_cases c18 : 1 < (l0_3.length : Int)
      ·rw [if_pos c18] at H
       have c18b0 : decide (1 < (l0_3.length : Int)) = true := decide_eq_true c18
       have c18b1 : decide (1 < l0_3.length) = true := decide_eq_true (by omega)
       clear c18
       replace H := Option.bind_eq_some_iff.mp H
       obtain ⟨t107, A190, H⟩ := H
       replace H : (if t105.size + 1 + t107.size ≤ 9223372036854775807 then (some ((t105 ++ (⟨#[47]⟩ : ByteArray)) ++ t107)) else (none)) = some r := H
       have A19 := Y0.mk A190
       clear A190
       by_cases c20 : t105.size + 1 + t107.size ≤ 9223372036854775807
       ·rw [if_pos c20] at H
        have c20b0 := eq_true c20
        have c20b1 : decide (t105.size + 1 + t107.size ≤ 9223372036854775807) = true := decide_eq_true c20
        try have c20b2 : (9223372036854775807 < t105.size + 1 + t107.size) = False := eq_false (Nat.not_lt.2 c20)
        obtain rfl := Option.some.inj H
        go_enter Tryd.func24, Tryd.ntmps24
        try go_wp2_with (first | ((with_reducible refine YF (N := 1) rfl ?_); refine YA ?hg (N := 1) ?hd (cs := #[.int .i64 a0_0, .string a0_1, .slice A0_2 l0_2.length c0_2, .slice A0_3 l0_3.length c0_3]) (t := 37) ?hr ?_; (case hd => rfl); (case hg => rfl); (case hr => exact Za); intro gb101 hg w21 hbox hb; have n_ := Y2x (Y6 QB hb) (hbox) ((by rw [hg]; exact (Ya QB) : w.heap.size ≤ gb101)) ((by rw [hg]; exact (Ya QB) : w.heap.size ≤ gb101)); clear HB; obtain ⟨HB, BK101, GW101, GE101⟩ := n_; clear hb hbox hg; obtain ⟨hcz22_0, hcz22_1, hcz22_2, hcz22_3, hfz22_0, hfz22_1, hfz22_2, hfz22_3⟩ := YD BK101.out))
        have n_ := Y2i (Yc BK101.out) (YL HB.out)
        clear BK101
        clear HB
        obtain ⟨BK101, HB⟩ := n_
        have p104 : 0 ≤ (0 : Int) := (by omega)
        have q104 : 0 < (l0_3.length : Int) := of_decide_eq_true Z8
        obtain ⟨ad104, A104_2, c104_2, A104_3, c104_3, e104, hx104_0, hx104_1, hx104_2, hx104_3, hl104_2, hi104_2, hl104_3, hi104_3⟩ := Y1C HR0_3.out 0 p104 q104
        have hw104_3 := hx104_3
        (try rw [show ((0 : Int)).toNat = 0 from rfl] at hw104_3)
        (try rw [show 0 * 4 = 0 from rfl] at hw104_3)
        (try rw [Addr.add_zero'] at hw104_3)
        have hw104_2 := hx104_2
        (try rw [show ((0 : Int)).toNat = 0 from rfl] at hw104_2)
        (try rw [show 0 * 4 = 0 from rfl] at hw104_2)
        (try rw [Addr.add_zero'] at hw104_2)
        have hw104_1 := hx104_1
        (try rw [show ((0 : Int)).toNat = 0 from rfl] at hw104_1)
        (try rw [show 0 * 4 = 0 from rfl] at hw104_1)
        (try rw [Addr.add_zero'] at hw104_1)
        have hw104_0 := hx104_0
        (try rw [show ((0 : Int)).toNat = 0 from rfl] at hw104_0)
        (try rw [show 0 * 4 = 0 from rfl] at hw104_0)
        (try rw [Addr.add_zero'] at hw104_0)
        cases e104
        have qi104 : (0 < l0_3.length) = True := eq_true (by omega)
        (try rw [show ((0 : Int)).toNat = 0 from rfl] at hx104_0)
        (try rw [show 0 * 4 = 0 from rfl] at hx104_0)
        (try rw [Addr.add_zero'] at hx104_0)
        (try rw [show ((0 : Int)).toNat = 0 from rfl] at hx104_1)
        (try rw [show 0 * 4 = 0 from rfl] at hx104_1)
        (try rw [Addr.add_zero'] at hx104_1)
        (try rw [show ((0 : Int)).toNat = 0 from rfl] at hx104_2)
        (try rw [show 0 * 4 = 0 from rfl] at hx104_2)
        (try rw [Addr.add_zero'] at hx104_2)
        (try rw [show ((0 : Int)).toNat = 0 from rfl] at hx104_3)
        (try rw [show 0 * 4 = 0 from rfl] at hx104_3)
        (try rw [Addr.add_zero'] at hx104_3)
        replace hx104_0 := YT HB.out hx104_0
        replace hx104_1 := YT HB.out hx104_1
        replace hx104_2 := YT HB.out hx104_2
        replace hx104_3 := YT HB.out hx104_3
        have HR104_2 := Y0.mk hi104_2
        have HC104_2 := Y0.mk hl104_2
        clear hi104_2 hl104_2
        have HR104_3 := Y0.mk hi104_3
        have HC104_3 := Y0.mk hl104_3
        clear hi104_3 hl104_3
        replace p104 := eq_true p104
        replace q104 := eq_true q104
        have p106 : 0 ≤ (1 : Int) := (by omega)
        have q106 : 1 < (l0_3.length : Int) := of_decide_eq_true Z8
        obtain ⟨ad106, A106_2, c106_2, A106_3, c106_3, e106, hx106_0, hx106_1, hx106_2, hx106_3, hl106_2, hi106_2, hl106_3, hi106_3⟩ := Y1C HR0_3.out 1 p106 q106
        have hw106_3 := hx106_3
        (try rw [show ((1 : Int)).toNat = 1 from rfl] at hw106_3)
        (try rw [show 1 * 4 = 4 from rfl] at hw106_3)
        (try simp only [Nat.reduceMul, Nat.reduceEqDiff, Go.Addr.add, ↓reduceIte] at hw106_3)
        have hw106_2 := hx106_2
        (try rw [show ((1 : Int)).toNat = 1 from rfl] at hw106_2)
        (try rw [show 1 * 4 = 4 from rfl] at hw106_2)
        (try simp only [Nat.reduceMul, Nat.reduceEqDiff, Go.Addr.add, ↓reduceIte] at hw106_2)
        have hw106_1 := hx106_1
        (try rw [show ((1 : Int)).toNat = 1 from rfl] at hw106_1)
        (try rw [show 1 * 4 = 4 from rfl] at hw106_1)
        (try simp only [Nat.reduceMul, Nat.reduceEqDiff, Go.Addr.add, ↓reduceIte] at hw106_1)
        have hw106_0 := hx106_0
        (try rw [show ((1 : Int)).toNat = 1 from rfl] at hw106_0)
        (try rw [show 1 * 4 = 4 from rfl] at hw106_0)
        (try simp only [Nat.reduceMul, Nat.reduceEqDiff, Go.Addr.add, ↓reduceIte] at hw106_0)
        obtain rfl : ad104 = ad106 := (by injection e106)
        (try simp only [show (1 : Int).toNat = 1 from rfl, Nat.reduceMul, Nat.reduceEqDiff, Go.Addr.add, ↓reduceIte] at hx106_0)
        (try simp only [show (1 : Int).toNat = 1 from rfl, Nat.reduceMul, Nat.reduceEqDiff, Go.Addr.add, ↓reduceIte] at hx106_1)
        (try simp only [show (1 : Int).toNat = 1 from rfl, Nat.reduceMul, Nat.reduceEqDiff, Go.Addr.add, ↓reduceIte] at hx106_2)
        (try simp only [show (1 : Int).toNat = 1 from rfl, Nat.reduceMul, Nat.reduceEqDiff, Go.Addr.add, ↓reduceIte] at hx106_3)
        have qi106 : (1 < l0_3.length) = True := eq_true (by omega)
        (try rw [show ((1 : Int)).toNat = 1 from rfl] at hx106_0)
        (try rw [show 1 * 4 = 4 from rfl] at hx106_0)
        (try rw [show ((1 : Int)).toNat = 1 from rfl] at hx106_1)
        (try rw [show 1 * 4 = 4 from rfl] at hx106_1)
        (try rw [show ((1 : Int)).toNat = 1 from rfl] at hx106_2)
        (try rw [show 1 * 4 = 4 from rfl] at hx106_2)
        (try rw [show ((1 : Int)).toNat = 1 from rfl] at hx106_3)
        (try rw [show 1 * 4 = 4 from rfl] at hx106_3)
        replace hx106_0 := YT HB.out hx106_0
        replace hx106_1 := YT HB.out hx106_1
        replace hx106_2 := YT HB.out hx106_2
        replace hx106_3 := YT HB.out hx106_3
        have HR106_2 := Y0.mk hi106_2
        have HC106_2 := Y0.mk hl106_2
        clear hi106_2 hl106_2
        have HR106_3 := Y0.mk hi106_3
        have HC106_3 := Y0.mk hl106_3
        clear hi106_3 hl106_3
        replace p106 := eq_true p106
        replace q106 := eq_true q106
        refine Y1q (n := 13) (S := fun w' => w'.cell? ⟨gb101, 0, none⟩ = some (.int .i64 a0_0) ∧ w'.cell? ⟨gb101, 1, none⟩ = some (.string a0_1) ∧ w'.cell? ⟨gb101, 2, none⟩ = some (.slice A0_2 l0_2.length c0_2) ∧ w'.cell? ⟨gb101, 3, none⟩ = some (.slice (some ad104) l0_3.length c0_3) ∧ w'.cell? ad104 = some (.int .i64 ((Y2 l0_3 0).f0)) ∧ w'.cell? ⟨ad104.block, ad104.off + 1, none⟩ = some (.string ((Y2 l0_3 0).f1)) ∧ w'.cell? ⟨ad104.block, ad104.off + 2, none⟩ = some (.slice A104_2 ((Y2 l0_3 0).f2).length c104_2) ∧ w'.cell? ⟨ad104.block, ad104.off + 3, none⟩ = some (.slice A104_3 ((Y2 l0_3 0).f3).length c104_3) ∧ w'.cell? ⟨ad104.block, ad104.off + 4, none⟩ = some (.int .i64 ((Y2 l0_3 1).f0)) ∧ w'.cell? ⟨ad104.block, ad104.off + 4 + 1, none⟩ = some (.string ((Y2 l0_3 1).f1)) ∧ w'.cell? ⟨ad104.block, ad104.off + 4 + 2, none⟩ = some (.slice A106_2 ((Y2 l0_3 1).f2).length c106_2) ∧ w'.cell? ⟨ad104.block, ad104.off + 4 + 3, none⟩ = some (.slice A106_3 ((Y2 l0_3 1).f3).length c106_3)) (ds := []) Y5M Z6 rfl rfl ⟨(Y1 BK101.out 0).trans rfl, (Y1 BK101.out 1).trans rfl, (Y1 BK101.out 2).trans rfl, (Y1 BK101.out 3).trans rfl, ((HB.out.cell (World.block_lt_of_cell? w _ hw104_0)).trans hw104_0), ((HB.out.cell (World.block_lt_of_cell? w _ hw104_1)).trans hw104_1), ((HB.out.cell (World.block_lt_of_cell? w _ hw104_2)).trans hw104_2), ((HB.out.cell (World.block_lt_of_cell? w _ hw104_3)).trans hw104_3), ((HB.out.cell (World.block_lt_of_cell? w _ hw106_0)).trans hw106_0), ((HB.out.cell (World.block_lt_of_cell? w _ hw106_1)).trans hw106_1), ((HB.out.cell (World.block_lt_of_cell? w _ hw106_2)).trans hw106_2), ((HB.out.cell (World.block_lt_of_cell? w _ hw106_3)).trans hw106_3)⟩ (fun hHeld => ?_); refine YW YC.tab7 YC.bits7 (fun HT_ HW_ => ?_)
        generalize w21.drew = w23 at BK101 HB HR104_2 HR104_3 HR106_2 HR106_3 hx104_0 hx104_1 hx104_2 hx104_3 hx106_0 hx106_1 hx106_2 hx106_3 hHeld ⊢
        refine pY 0 21 Y5N ?_
        refine pY 6 27 Y4x ?_
        refine pT 1 22 Y4y ?_
        refine pY 2 23 Y4z ?_
        refine pT 3 24 Y4A ?_
        refine pT 7 28 Y4B ?_
        refine pY 8 29 Y3K ?_
        refine pT 9 30 Y3L ?_
        refine Y2b (i := 4) (N := some 25) Y3M rfl rfl (Y16 HT_.out Z6) (by decide) (fun K hK => ?_)
        refine Y1r Tryd.func50 Z6 rfl #[.agg #[.int .i64 ((Y2 l0_3 0).f0), .string ((Y2 l0_3 0).f1), .slice A104_2 ((Y2 l0_3 0).f2).length c104_2, .slice A104_3 ((Y2 l0_3 0).f3).length c104_3]] (by rfl) rfl rfl Z0 ?_
        with_reducible refine ((ih k (by omega)).2 ((Y2 l0_3 0).f0) ((Y2 l0_3 0).f1) _ _ ((Y2 l0_3 0).f2) _ _ ((Y2 l0_3 0).f3) t105 _ ?side1 ?side2 ?side3 ?side4 A16.out).mono ?_
        (case side1 => exact Z19)
        (case side2 => exact HC104_2.out)
        (case side3 => exact Z1a)
        (case side4 => exact HC104_3.out)
        rintro e w24 ⟨rfl, hb⟩
        refine ⟨_, rfl, ?_⟩
        have n_ := Y2i (Yj (g := gb101) (o := .cells #[.int .i64 a0_0, .string a0_1, .slice A0_2 l0_2.length c0_2, .slice (some ad104) l0_3.length c0_3] 37 (0, 0)) QQ hb) (Y6 QB hb)
        clear BK101
        clear HB
        obtain ⟨BK101, HB⟩ := n_
        (try clear hb)
        (try clear hb2)
        (try clear hk)
        (try clear hi)
        refine hK.out _ _ ⟨(Y1 BK101.out 0).trans rfl, (Y1 BK101.out 1).trans rfl, (Y1 BK101.out 2).trans rfl, (Y1 BK101.out 3).trans rfl, ((HB.out.cell (World.block_lt_of_cell? w _ hw104_0)).trans hw104_0), ((HB.out.cell (World.block_lt_of_cell? w _ hw104_1)).trans hw104_1), ((HB.out.cell (World.block_lt_of_cell? w _ hw104_2)).trans hw104_2), ((HB.out.cell (World.block_lt_of_cell? w _ hw104_3)).trans hw104_3), ((HB.out.cell (World.block_lt_of_cell? w _ hw106_0)).trans hw106_0), ((HB.out.cell (World.block_lt_of_cell? w _ hw106_1)).trans hw106_1), ((HB.out.cell (World.block_lt_of_cell? w _ hw106_2)).trans hw106_2), ((HB.out.cell (World.block_lt_of_cell? w _ hw106_3)).trans hw106_3)⟩ (fun hHeld => ?_)
        clear hK K
        refine Y1k (a' := ?_) ?_ ?_
        rotate_left
        ·show Act.put _ (some 25) _ = _
         simp only [Act.put, List.setIfInBounds_toArray, List.set_cons_zero, List.set_cons_succ, Y14, Y15]
         rfl
        refine pY 5 26 Y3N ?_
        refine Y2b (i := 10) (N := some 31) Y3O rfl rfl (Y16 HT_.out Z6) (by decide) (fun K hK => ?_)
        refine Y1r Tryd.func50 Z6 rfl #[.agg #[.int .i64 ((Y2 l0_3 1).f0), .string ((Y2 l0_3 1).f1), .slice A106_2 ((Y2 l0_3 1).f2).length c106_2, .slice A106_3 ((Y2 l0_3 1).f3).length c106_3]] (by rfl) rfl rfl Z0 ?_
        with_reducible refine ((ih k (by omega)).2 ((Y2 l0_3 1).f0) ((Y2 l0_3 1).f1) _ _ ((Y2 l0_3 1).f2) _ _ ((Y2 l0_3 1).f3) t107 _ ?side1 ?side2 ?side3 ?side4 A19.out).mono ?_
        (case side1 => exact Zs)
        (case side2 => exact HC106_2.out)
        (case side3 => exact Zt)
        (case side4 => exact HC106_3.out)
        rintro e w25 ⟨rfl, hb⟩
        refine ⟨_, rfl, ?_⟩
        have n_ := Y2i (Yj (g := gb101) (o := .cells #[.int .i64 a0_0, .string a0_1, .slice A0_2 l0_2.length c0_2, .slice (some ad104) l0_3.length c0_3] 37 (0, 0)) QQ hb) (Y6 QB hb)
        clear BK101
        clear HB
        obtain ⟨BK101, HB⟩ := n_
        (try clear hb)
        (try clear hb2)
        (try clear hk)
        (try clear hi)
        refine hK.out _ _ ⟨(Y1 BK101.out 0).trans rfl, (Y1 BK101.out 1).trans rfl, (Y1 BK101.out 2).trans rfl, (Y1 BK101.out 3).trans rfl, ((HB.out.cell (World.block_lt_of_cell? w _ hw104_0)).trans hw104_0), ((HB.out.cell (World.block_lt_of_cell? w _ hw104_1)).trans hw104_1), ((HB.out.cell (World.block_lt_of_cell? w _ hw104_2)).trans hw104_2), ((HB.out.cell (World.block_lt_of_cell? w _ hw104_3)).trans hw104_3), ((HB.out.cell (World.block_lt_of_cell? w _ hw106_0)).trans hw106_0), ((HB.out.cell (World.block_lt_of_cell? w _ hw106_1)).trans hw106_1), ((HB.out.cell (World.block_lt_of_cell? w _ hw106_2)).trans hw106_2), ((HB.out.cell (World.block_lt_of_cell? w _ hw106_3)).trans hw106_3)⟩ (fun hHeld => ?_)
        clear hK K
        refine Y1k (a' := ?_) ?_ ?_
        rotate_left
        ·show Act.put _ (some 31) _ = _
         simp only [Act.put, List.setIfInBounds_toArray, List.set_cons_zero, List.set_cons_succ, Y14, Y15]
         rfl
        refine pY 11 32 Y3P ?_
        refine pY 12 2 Y3l ?_
        refine Y1O (Y1a HT_.out Z6) ?_
        try go_wp2
        go_ret
        exact Z1F
       ·rw [if_neg c20] at H
        exact Zh
      ·rw [if_neg c18] at H
       exact Zh
     ·rw [if_neg c17] at H
      exact Zh
    ·rw [if_neg c15] at H
     exact Zh
   ·rw [if_neg c14] at H
    have c14b0 : (a0_0 == 3) = false := beq_eq_false_iff_ne.mpr c14
    have c14b1 : (a0_0 != 3) = true := bne_iff_ne.mpr c14
    by_cases c26 : a0_0 = 4
    ·rw [if_pos c26] at H
     have c26b0 : (a0_0 == 4) = true := beq_iff_eq.mpr c26
     have c26b1 : (a0_0 != 4) = false := bne_eq_false_iff_eq.mpr c26
     clear c26
     by_cases c27 : 0 < (l0_3.length : Int)
     ·rw [if_pos c27] at H
      have c27b0 : decide (0 < (l0_3.length : Int)) = true := decide_eq_true c27
      have c27b1 : decide (0 < l0_3.length) = true := decide_eq_true (by omega)
      clear c27
      replace H := Option.bind_eq_some_iff.mp H
      obtain ⟨t109, A280, H⟩ := H
      replace H : (if t109.size + 1 ≤ 9223372036854775807 then (if 1 < (l0_3.length : Int) then ((YG.f k ((Y2 l0_3 1).f0) ((Y2 l0_3 1).f1) ((Y2 l0_3 1).f2) ((Y2 l0_3 1).f3)).bind fun t111 => (if t109.size + 1 + t111.size ≤ 9223372036854775807 then (some ((t109 ++ (⟨#[124]⟩ : ByteArray)) ++ t111)) else (none))) else (none)) else (none)) = some r := H
      have A28 := Y0.mk A280
      clear A280
      by_cases c29 : t109.size + 1 ≤ 9223372036854775807
      ·rw [if_pos c29] at H
       have c29b0 := eq_true c29
       have c29b1 : decide (t109.size + 1 ≤ 9223372036854775807) = true := decide_eq_true c29
       try have c29b2 : (9223372036854775807 < t109.size + 1) = False := eq_false (Nat.not_lt.2 c29)
       by_cases c30 : 1 < (l0_3.length : Int)
       ·rw [if_pos c30] at H
        have c30b0 : decide (1 < (l0_3.length : Int)) = true := decide_eq_true c30
        have c30b1 : decide (1 < l0_3.length) = true := decide_eq_true (by omega)
        clear c30
        replace H := Option.bind_eq_some_iff.mp H
        obtain ⟨t111, A310, H⟩ := H
        replace H : (if t109.size + 1 + t111.size ≤ 9223372036854775807 then (some ((t109 ++ (⟨#[124]⟩ : ByteArray)) ++ t111)) else (none)) = some r := H
        have A31 := Y0.mk A310
        clear A310
        by_cases c32 : t109.size + 1 + t111.size ≤ 9223372036854775807
        ·rw [if_pos c32] at H
         have c32b0 := eq_true c32
         have c32b1 : decide (t109.size + 1 + t111.size ≤ 9223372036854775807) = true := decide_eq_true c32
         try have c32b2 : (9223372036854775807 < t109.size + 1 + t111.size) = False := eq_false (Nat.not_lt.2 c32)
         obtain rfl := Option.some.inj H
         go_enter Tryd.func24, Tryd.ntmps24
         try go_wp2_with (first | ((with_reducible refine YF (N := 1) rfl ?_); refine YA ?hg (N := 1) ?hd (cs := #[.int .i64 a0_0, .string a0_1, .slice A0_2 l0_2.length c0_2, .slice A0_3 l0_3.length c0_3]) (t := 37) ?hr ?_; (case hd => rfl); (case hg => rfl); (case hr => exact Za); intro gb101 hg w33 hbox hb; have n_ := Y2x (Y6 QB hb) (hbox) ((by rw [hg]; exact (Ya QB) : w.heap.size ≤ gb101)) ((by rw [hg]; exact (Ya QB) : w.heap.size ≤ gb101)); clear HB; obtain ⟨HB, BK101, GW101, GE101⟩ := n_; clear hb hbox hg; obtain ⟨hcz34_0, hcz34_1, hcz34_2, hcz34_3, hfz34_0, hfz34_1, hfz34_2, hfz34_3⟩ := YD BK101.out))
         have n_ := Y2i (Yc BK101.out) (YL HB.out)
         clear BK101
         clear HB
         obtain ⟨BK101, HB⟩ := n_
         have p108 : 0 ≤ (0 : Int) := (by omega)
         have q108 : 0 < (l0_3.length : Int) := of_decide_eq_true Z8
         obtain ⟨ad108, A108_2, c108_2, A108_3, c108_3, e108, hx108_0, hx108_1, hx108_2, hx108_3, hl108_2, hi108_2, hl108_3, hi108_3⟩ := Y1C HR0_3.out 0 p108 q108
         have hw108_3 := hx108_3
         (try rw [show ((0 : Int)).toNat = 0 from rfl] at hw108_3)
         (try rw [show 0 * 4 = 0 from rfl] at hw108_3)
         (try rw [Addr.add_zero'] at hw108_3)
         have hw108_2 := hx108_2
         (try rw [show ((0 : Int)).toNat = 0 from rfl] at hw108_2)
         (try rw [show 0 * 4 = 0 from rfl] at hw108_2)
         (try rw [Addr.add_zero'] at hw108_2)
         have hw108_1 := hx108_1
         (try rw [show ((0 : Int)).toNat = 0 from rfl] at hw108_1)
         (try rw [show 0 * 4 = 0 from rfl] at hw108_1)
         (try rw [Addr.add_zero'] at hw108_1)
         have hw108_0 := hx108_0
         (try rw [show ((0 : Int)).toNat = 0 from rfl] at hw108_0)
         (try rw [show 0 * 4 = 0 from rfl] at hw108_0)
         (try rw [Addr.add_zero'] at hw108_0)
         cases e108
         have qi108 : (0 < l0_3.length) = True := eq_true (by omega)
         (try rw [show ((0 : Int)).toNat = 0 from rfl] at hx108_0)
         (try rw [show 0 * 4 = 0 from rfl] at hx108_0)
         (try rw [Addr.add_zero'] at hx108_0)
         (try rw [show ((0 : Int)).toNat = 0 from rfl] at hx108_1)
         (try rw [show 0 * 4 = 0 from rfl] at hx108_1)
         (try rw [Addr.add_zero'] at hx108_1)
         (try rw [show ((0 : Int)).toNat = 0 from rfl] at hx108_2)
         (try rw [show 0 * 4 = 0 from rfl] at hx108_2)
         (try rw [Addr.add_zero'] at hx108_2)
         (try rw [show ((0 : Int)).toNat = 0 from rfl] at hx108_3)
         (try rw [show 0 * 4 = 0 from rfl] at hx108_3)
         (try rw [Addr.add_zero'] at hx108_3)
         replace hx108_0 := YT HB.out hx108_0
         replace hx108_1 := YT HB.out hx108_1
         replace hx108_2 := YT HB.out hx108_2
         replace hx108_3 := YT HB.out hx108_3
         have HR108_2 := Y0.mk hi108_2
         have HC108_2 := Y0.mk hl108_2
         clear hi108_2 hl108_2
         have HR108_3 := Y0.mk hi108_3
         have HC108_3 := Y0.mk hl108_3
         clear hi108_3 hl108_3
         replace p108 := eq_true p108
         replace q108 := eq_true q108
         have p110 : 0 ≤ (1 : Int) := (by omega)
         have q110 : 1 < (l0_3.length : Int) := of_decide_eq_true Z8
         obtain ⟨ad110, A110_2, c110_2, A110_3, c110_3, e110, hx110_0, hx110_1, hx110_2, hx110_3, hl110_2, hi110_2, hl110_3, hi110_3⟩ := Y1C HR0_3.out 1 p110 q110
         have hw110_3 := hx110_3
         (try rw [show ((1 : Int)).toNat = 1 from rfl] at hw110_3)
         (try rw [show 1 * 4 = 4 from rfl] at hw110_3)
         (try simp only [Nat.reduceMul, Nat.reduceEqDiff, Go.Addr.add, ↓reduceIte] at hw110_3)
         have hw110_2 := hx110_2
         (try rw [show ((1 : Int)).toNat = 1 from rfl] at hw110_2)
         (try rw [show 1 * 4 = 4 from rfl] at hw110_2)
         (try simp only [Nat.reduceMul, Nat.reduceEqDiff, Go.Addr.add, ↓reduceIte] at hw110_2)
         have hw110_1 := hx110_1
         (try rw [show ((1 : Int)).toNat = 1 from rfl] at hw110_1)
         (try rw [show 1 * 4 = 4 from rfl] at hw110_1)
         (try simp only [Nat.reduceMul, Nat.reduceEqDiff, Go.Addr.add, ↓reduceIte] at hw110_1)
         have hw110_0 := hx110_0
         (try rw [show ((1 : Int)).toNat = 1 from rfl] at hw110_0)
         (try rw [show 1 * 4 = 4 from rfl] at hw110_0)
         (try simp only [Nat.reduceMul, Nat.reduceEqDiff, Go.Addr.add, ↓reduceIte] at hw110_0)
         obtain rfl : ad108 = ad110 := (by injection e110)
         (try simp only [show (1 : Int).toNat = 1 from rfl, Nat.reduceMul, Nat.reduceEqDiff, Go.Addr.add, ↓reduceIte] at hx110_0)
         (try simp only [show (1 : Int).toNat = 1 from rfl, Nat.reduceMul, Nat.reduceEqDiff, Go.Addr.add, ↓reduceIte] at hx110_1)
         (try simp only [show (1 : Int).toNat = 1 from rfl, Nat.reduceMul, Nat.reduceEqDiff, Go.Addr.add, ↓reduceIte] at hx110_2)
         (try simp only [show (1 : Int).toNat = 1 from rfl, Nat.reduceMul, Nat.reduceEqDiff, Go.Addr.add, ↓reduceIte] at hx110_3)
         have qi110 : (1 < l0_3.length) = True := eq_true (by omega)
         (try rw [show ((1 : Int)).toNat = 1 from rfl] at hx110_0)
         (try rw [show 1 * 4 = 4 from rfl] at hx110_0)
         (try rw [show ((1 : Int)).toNat = 1 from rfl] at hx110_1)
         (try rw [show 1 * 4 = 4 from rfl] at hx110_1)
         (try rw [show ((1 : Int)).toNat = 1 from rfl] at hx110_2)
         (try rw [show 1 * 4 = 4 from rfl] at hx110_2)
         (try rw [show ((1 : Int)).toNat = 1 from rfl] at hx110_3)
         (try rw [show 1 * 4 = 4 from rfl] at hx110_3)
         replace hx110_0 := YT HB.out hx110_0
         replace hx110_1 := YT HB.out hx110_1
         replace hx110_2 := YT HB.out hx110_2
         replace hx110_3 := YT HB.out hx110_3
         have HR110_2 := Y0.mk hi110_2
         have HC110_2 := Y0.mk hl110_2
         clear hi110_2 hl110_2
         have HR110_3 := Y0.mk hi110_3
         have HC110_3 := Y0.mk hl110_3
         clear hi110_3 hl110_3
         replace p110 := eq_true p110
         replace q110 := eq_true q110
         refine Y1q (n := 13) (S := fun w' => w'.cell? ⟨gb101, 0, none⟩ = some (.int .i64 a0_0) ∧ w'.cell? ⟨gb101, 1, none⟩ = some (.string a0_1) ∧ w'.cell? ⟨gb101, 2, none⟩ = some (.slice A0_2 l0_2.length c0_2) ∧ w'.cell? ⟨gb101, 3, none⟩ = some (.slice (some ad108) l0_3.length c0_3) ∧ w'.cell? ad108 = some (.int .i64 ((Y2 l0_3 0).f0)) ∧ w'.cell? ⟨ad108.block, ad108.off + 1, none⟩ = some (.string ((Y2 l0_3 0).f1)) ∧ w'.cell? ⟨ad108.block, ad108.off + 2, none⟩ = some (.slice A108_2 ((Y2 l0_3 0).f2).length c108_2) ∧ w'.cell? ⟨ad108.block, ad108.off + 3, none⟩ = some (.slice A108_3 ((Y2 l0_3 0).f3).length c108_3) ∧ w'.cell? ⟨ad108.block, ad108.off + 4, none⟩ = some (.int .i64 ((Y2 l0_3 1).f0)) ∧ w'.cell? ⟨ad108.block, ad108.off + 4 + 1, none⟩ = some (.string ((Y2 l0_3 1).f1)) ∧ w'.cell? ⟨ad108.block, ad108.off + 4 + 2, none⟩ = some (.slice A110_2 ((Y2 l0_3 1).f2).length c110_2) ∧ w'.cell? ⟨ad108.block, ad108.off + 4 + 3, none⟩ = some (.slice A110_3 ((Y2 l0_3 1).f3).length c110_3)) (ds := []) Y5M Z6 rfl rfl ⟨(Y1 BK101.out 0).trans rfl, (Y1 BK101.out 1).trans rfl, (Y1 BK101.out 2).trans rfl, (Y1 BK101.out 3).trans rfl, ((HB.out.cell (World.block_lt_of_cell? w _ hw108_0)).trans hw108_0), ((HB.out.cell (World.block_lt_of_cell? w _ hw108_1)).trans hw108_1), ((HB.out.cell (World.block_lt_of_cell? w _ hw108_2)).trans hw108_2), ((HB.out.cell (World.block_lt_of_cell? w _ hw108_3)).trans hw108_3), ((HB.out.cell (World.block_lt_of_cell? w _ hw110_0)).trans hw110_0), ((HB.out.cell (World.block_lt_of_cell? w _ hw110_1)).trans hw110_1), ((HB.out.cell (World.block_lt_of_cell? w _ hw110_2)).trans hw110_2), ((HB.out.cell (World.block_lt_of_cell? w _ hw110_3)).trans hw110_3)⟩ (fun hHeld => ?_); refine YW YC.tab9 YC.bits9 (fun HT_ HW_ => ?_)
         generalize w33.drew = w35 at BK101 HB HR108_2 HR108_3 HR110_2 HR110_3 hx108_0 hx108_1 hx108_2 hx108_3 hx110_0 hx110_1 hx110_2 hx110_3 hHeld ⊢
         refine pY 0 35 Y5N ?_
         refine pY 6 41 Y4x ?_
         refine pT 1 36 Y4y ?_
         refine pY 2 37 Y4z ?_
         refine pT 3 38 Y4A ?_
         refine pT 7 42 Y4B ?_
         refine pY 8 43 Y3K ?_
         refine pT 9 44 Y3L ?_
         refine Y2b (i := 4) (N := some 39) Y3M rfl rfl (Y16 HT_.out Z6) (by decide) (fun K hK => ?_)
         refine Y1r Tryd.func50 Z6 rfl #[.agg #[.int .i64 ((Y2 l0_3 0).f0), .string ((Y2 l0_3 0).f1), .slice A108_2 ((Y2 l0_3 0).f2).length c108_2, .slice A108_3 ((Y2 l0_3 0).f3).length c108_3]] (by rfl) rfl rfl Z0 ?_
         with_reducible refine ((ih k (by omega)).2 ((Y2 l0_3 0).f0) ((Y2 l0_3 0).f1) _ _ ((Y2 l0_3 0).f2) _ _ ((Y2 l0_3 0).f3) t109 _ ?side1 ?side2 ?side3 ?side4 A28.out).mono ?_
         (case side1 => exact Z1d)
         (case side2 => exact HC108_2.out)
         (case side3 => exact Z1e)
         (case side4 => exact HC108_3.out)
         rintro e w36 ⟨rfl, hb⟩
         refine ⟨_, rfl, ?_⟩
         have n_ := Y2i (Yj (g := gb101) (o := .cells #[.int .i64 a0_0, .string a0_1, .slice A0_2 l0_2.length c0_2, .slice (some ad108) l0_3.length c0_3] 37 (0, 0)) QQ hb) (Y6 QB hb)
         clear BK101
         clear HB
         obtain ⟨BK101, HB⟩ := n_
         (try clear hb)
         (try clear hb2)
         (try clear hk)
         (try clear hi)
         refine hK.out _ _ ⟨(Y1 BK101.out 0).trans rfl, (Y1 BK101.out 1).trans rfl, (Y1 BK101.out 2).trans rfl, (Y1 BK101.out 3).trans rfl, ((HB.out.cell (World.block_lt_of_cell? w _ hw108_0)).trans hw108_0), ((HB.out.cell (World.block_lt_of_cell? w _ hw108_1)).trans hw108_1), ((HB.out.cell (World.block_lt_of_cell? w _ hw108_2)).trans hw108_2), ((HB.out.cell (World.block_lt_of_cell? w _ hw108_3)).trans hw108_3), ((HB.out.cell (World.block_lt_of_cell? w _ hw110_0)).trans hw110_0), ((HB.out.cell (World.block_lt_of_cell? w _ hw110_1)).trans hw110_1), ((HB.out.cell (World.block_lt_of_cell? w _ hw110_2)).trans hw110_2), ((HB.out.cell (World.block_lt_of_cell? w _ hw110_3)).trans hw110_3)⟩ (fun hHeld => ?_)
         clear hK K
         refine Y1k (a' := ?_) ?_ ?_
         rotate_left
         ·show Act.put _ (some 39) _ = _
          simp only [Act.put, List.setIfInBounds_toArray, List.set_cons_zero, List.set_cons_succ, Y14, Y15]
          rfl
         refine pY 5 40 Y3N ?_
         refine Y2b (i := 10) (N := some 45) Y3O rfl rfl (Y16 HT_.out Z6) (by decide) (fun K hK => ?_)
         refine Y1r Tryd.func50 Z6 rfl #[.agg #[.int .i64 ((Y2 l0_3 1).f0), .string ((Y2 l0_3 1).f1), .slice A110_2 ((Y2 l0_3 1).f2).length c110_2, .slice A110_3 ((Y2 l0_3 1).f3).length c110_3]] (by rfl) rfl rfl Z0 ?_
         with_reducible refine ((ih k (by omega)).2 ((Y2 l0_3 1).f0) ((Y2 l0_3 1).f1) _ _ ((Y2 l0_3 1).f2) _ _ ((Y2 l0_3 1).f3) t111 _ ?side1 ?side2 ?side3 ?side4 A31.out).mono ?_
         (case side1 => exact Z1f)
         (case side2 => exact HC110_2.out)
         (case side3 => exact Z1g)
         (case side4 => exact HC110_3.out)
         rintro e w37 ⟨rfl, hb⟩
         refine ⟨_, rfl, ?_⟩
         have n_ := Y2i (Yj (g := gb101) (o := .cells #[.int .i64 a0_0, .string a0_1, .slice A0_2 l0_2.length c0_2, .slice (some ad108) l0_3.length c0_3] 37 (0, 0)) QQ hb) (Y6 QB hb)
         clear BK101
         clear HB
         obtain ⟨BK101, HB⟩ := n_
         (try clear hb)
         (try clear hb2)
         (try clear hk)
         (try clear hi)
         refine hK.out _ _ ⟨(Y1 BK101.out 0).trans rfl, (Y1 BK101.out 1).trans rfl, (Y1 BK101.out 2).trans rfl, (Y1 BK101.out 3).trans rfl, ((HB.out.cell (World.block_lt_of_cell? w _ hw108_0)).trans hw108_0), ((HB.out.cell (World.block_lt_of_cell? w _ hw108_1)).trans hw108_1), ((HB.out.cell (World.block_lt_of_cell? w _ hw108_2)).trans hw108_2), ((HB.out.cell (World.block_lt_of_cell? w _ hw108_3)).trans hw108_3), ((HB.out.cell (World.block_lt_of_cell? w _ hw110_0)).trans hw110_0), ((HB.out.cell (World.block_lt_of_cell? w _ hw110_1)).trans hw110_1), ((HB.out.cell (World.block_lt_of_cell? w _ hw110_2)).trans hw110_2), ((HB.out.cell (World.block_lt_of_cell? w _ hw110_3)).trans hw110_3)⟩ (fun hHeld => ?_)
         clear hK K
         refine Y1k (a' := ?_) ?_ ?_
         rotate_left
         ·show Act.put _ (some 45) _ = _
          simp only [Act.put, List.setIfInBounds_toArray, List.set_cons_zero, List.set_cons_succ, Y14, Y15]
          rfl
         refine pY 11 46 Y3P ?_
         refine pY 12 2 Y3l ?_
         refine Y1O (Y1a HT_.out Z6) ?_
         try go_wp2
         go_ret
         exact Z1F
        ·rw [if_neg c32] at H
         exact Zh
       ·rw [if_neg c30] at H
        exact Zh
      ·rw [if_neg c29] at H
       exact Zh
     ·rw [if_neg c27] at H
      exact Zh
    ·rw [if_neg c26] at H
     have c26b0 : (a0_0 == 4) = false := beq_eq_false_iff_ne.mpr c26
     have c26b1 : (a0_0 != 4) = true := bne_iff_ne.mpr c26
     by_cases c38 : a0_0 = 5
     ·rw [if_pos c38] at H
      have c38b0 : (a0_0 == 5) = true := beq_iff_eq.mpr c38
      have c38b1 : (a0_0 != 5) = false := bne_eq_false_iff_eq.mpr c38
      clear c38
      by_cases c39 : 0 < (l0_3.length : Int)
      ·rw [if_pos c39] at H
       have c39b0 : decide (0 < (l0_3.length : Int)) = true := decide_eq_true c39
       have c39b1 : decide (0 < l0_3.length) = true := decide_eq_true (by omega)
       clear c39
       replace H := Option.bind_eq_some_iff.mp H
       obtain ⟨t113, A400, H⟩ := H
       replace H : (if t113.size + 1 ≤ 9223372036854775807 then (some (t113 ++ (⟨#[42]⟩ : ByteArray))) else (none)) = some r := H
       have A40 := Y0.mk A400
       clear A400
       by_cases c41 : t113.size + 1 ≤ 9223372036854775807
       ·rw [if_pos c41] at H
        have c41b0 := eq_true c41
        have c41b1 : decide (t113.size + 1 ≤ 9223372036854775807) = true := decide_eq_true c41
        try have c41b2 : (9223372036854775807 < t113.size + 1) = False := eq_false (Nat.not_lt.2 c41)
        obtain rfl := Option.some.inj H
        go_enter Tryd.func24, Tryd.ntmps24
        go_wp2_with (first | ((with_reducible refine YF (N := 1) rfl ?_); refine YA ?hg (N := 1) ?hd (cs := #[.int .i64 a0_0, .string a0_1, .slice A0_2 l0_2.length c0_2, .slice A0_3 l0_3.length c0_3]) (t := 37) ?hr ?_; (case hd => rfl); (case hg => rfl); (case hr => exact Za); intro gb101 hg w42 hbox hb; have n_ := Y2x (Y6 QB hb) (hbox) ((by rw [hg]; exact (Ya QB) : w.heap.size ≤ gb101)) ((by rw [hg]; exact (Ya QB) : w.heap.size ≤ gb101)); clear HB; obtain ⟨HB, BK101, GW101, GE101⟩ := n_; clear hb hbox hg; obtain ⟨hcz43_0, hcz43_1, hcz43_2, hcz43_3, hfz43_0, hfz43_1, hfz43_2, hfz43_3⟩ := YD BK101.out; have p112 : 0 ≤ (0 : Int) := (by omega); have q112 : 0 < (l0_3.length : Int) := of_decide_eq_true Z8; obtain ⟨ad112, A112_2, c112_2, A112_3, c112_3, e112, hx112_0, hx112_1, hx112_2, hx112_3, hl112_2, hi112_2, hl112_3, hi112_3⟩ := Y1C HR0_3.out 0 p112 q112; cases e112; have qi112 : (0 < l0_3.length) = True := eq_true (by omega); (try rw [show ((0 : Int)).toNat = 0 from rfl] at hx112_0); (try rw [show 0 * 4 = 0 from rfl] at hx112_0); (try rw [Addr.add_zero'] at hx112_0); (try rw [show ((0 : Int)).toNat = 0 from rfl] at hx112_1); (try rw [show 0 * 4 = 0 from rfl] at hx112_1); (try rw [Addr.add_zero'] at hx112_1); (try rw [show ((0 : Int)).toNat = 0 from rfl] at hx112_2); (try rw [show 0 * 4 = 0 from rfl] at hx112_2); (try rw [Addr.add_zero'] at hx112_2); (try rw [show ((0 : Int)).toNat = 0 from rfl] at hx112_3); (try rw [show 0 * 4 = 0 from rfl] at hx112_3); (try rw [Addr.add_zero'] at hx112_3); replace hx112_0 := YT HB.out hx112_0; replace hx112_1 := YT HB.out hx112_1; replace hx112_2 := YT HB.out hx112_2; replace hx112_3 := YT HB.out hx112_3; have HR112_2 := Y0.mk hi112_2; have HC112_2 := Y0.mk hl112_2; clear hi112_2 hl112_2; have HR112_3 := Y0.mk hi112_3; have HC112_3 := Y0.mk hl112_3; clear hi112_3 hl112_3; replace p112 := eq_true p112; replace q112 := eq_true q112) | ((with_reducible refine Yw (f := 50) rfl ?_); refine YV (some 53) rfl rfl Tryd.func50 Z6 rfl #[.agg #[.int .i64 ((Y2 l0_3 0).f0), .string ((Y2 l0_3 0).f1), .slice A112_2 ((Y2 l0_3 0).f2).length c112_2, .slice A112_3 ((Y2 l0_3 0).f3).length c112_3]] rfl Z0 ?_; (with_reducible refine ((ih k (by omega)).2 ((Y2 l0_3 0).f0) ((Y2 l0_3 0).f1) _ _ ((Y2 l0_3 0).f2) _ _ ((Y2 l0_3 0).f3) t113 _ ?side1 ?side2 ?side3 ?side4 A40.out).mono ?_); (case side1 => repeat (first | exact (Kd.C_below HR112_2.out HB.out) | (with_reducible refine Kd.C_alloc ?_ _) | (with_reducible refine Kd.C_drewN ?_ _) | (with_reducible refine Kd.C_drew ?_))); (case side2 => exact HC112_2.out); (case side3 => repeat (first | exact (Kd.C_below HR112_3.out HB.out) | (with_reducible refine Kd.C_alloc ?_ _) | (with_reducible refine Kd.C_drewN ?_ _) | (with_reducible refine Kd.C_drew ?_))); (case side4 => exact HC112_3.out); rintro e w44 ⟨rfl, hb⟩; refine ⟨_, rfl, ?_⟩; have n_ := Y2i (Yj (g := gb101) (o := .cells #[.int .i64 a0_0, .string a0_1, .slice A0_2 l0_2.length c0_2, .slice (some ad112) l0_3.length c0_3] 37 (0, 0)) QQ hb) (Y6 QB hb); clear BK101 HB; obtain ⟨BK101, HB⟩ := n_; (try clear hb); (try clear hb2); (try clear hk); (try clear hi)))
        go_ret
        exact Z1F
       ·rw [if_neg c41] at H
        exact Zh
      ·rw [if_neg c39] at H
       exact Zh
     ·rw [if_neg c38] at H
      have c38b0 : (a0_0 == 5) = false := beq_eq_false_iff_ne.mpr c38
      have c38b1 : (a0_0 != 5) = true := bne_iff_ne.mpr c38
      by_cases c45 : a0_0 = 6
      ·rw [if_pos c45] at H
       have c45b0 : (a0_0 == 6) = true := beq_iff_eq.mpr c45
       have c45b1 : (a0_0 != 6) = false := bne_eq_false_iff_eq.mpr c45
       clear c45
       by_cases c46 : 0 < (l0_3.length : Int)
       ·rw [if_pos c46] at H
        have c46b0 : decide (0 < (l0_3.length : Int)) = true := decide_eq_true c46
        have c46b1 : decide (0 < l0_3.length) = true := decide_eq_true (by omega)
        clear c46
        replace H := Option.bind_eq_some_iff.mp H
        obtain ⟨t115, A470, H⟩ := H
        replace H : (if t115.size + 1 ≤ 9223372036854775807 then (some (t115 ++ (⟨#[43]⟩ : ByteArray))) else (none)) = some r := H
        have A47 := Y0.mk A470
        clear A470
        by_cases c48 : t115.size + 1 ≤ 9223372036854775807
        ·rw [if_pos c48] at H
         have c48b0 := eq_true c48
         have c48b1 : decide (t115.size + 1 ≤ 9223372036854775807) = true := decide_eq_true c48
         try have c48b2 : (9223372036854775807 < t115.size + 1) = False := eq_false (Nat.not_lt.2 c48)
         obtain rfl := Option.some.inj H
         go_enter Tryd.func24, Tryd.ntmps24
         go_wp2_with (first | ((with_reducible refine YF (N := 1) rfl ?_); refine YA ?hg (N := 1) ?hd (cs := #[.int .i64 a0_0, .string a0_1, .slice A0_2 l0_2.length c0_2, .slice A0_3 l0_3.length c0_3]) (t := 37) ?hr ?_; (case hd => rfl); (case hg => rfl); (case hr => exact Za); intro gb101 hg w49 hbox hb; have n_ := Y2x (Y6 QB hb) (hbox) ((by rw [hg]; exact (Ya QB) : w.heap.size ≤ gb101)) ((by rw [hg]; exact (Ya QB) : w.heap.size ≤ gb101)); clear HB; obtain ⟨HB, BK101, GW101, GE101⟩ := n_; clear hb hbox hg; obtain ⟨hcz50_0, hcz50_1, hcz50_2, hcz50_3, hfz50_0, hfz50_1, hfz50_2, hfz50_3⟩ := YD BK101.out; have p114 : 0 ≤ (0 : Int) := (by omega); have q114 : 0 < (l0_3.length : Int) := of_decide_eq_true Z8; obtain ⟨ad114, A114_2, c114_2, A114_3, c114_3, e114, hx114_0, hx114_1, hx114_2, hx114_3, hl114_2, hi114_2, hl114_3, hi114_3⟩ := Y1C HR0_3.out 0 p114 q114; cases e114; have qi114 : (0 < l0_3.length) = True := eq_true (by omega); (try rw [show ((0 : Int)).toNat = 0 from rfl] at hx114_0); (try rw [show 0 * 4 = 0 from rfl] at hx114_0); (try rw [Addr.add_zero'] at hx114_0); (try rw [show ((0 : Int)).toNat = 0 from rfl] at hx114_1); (try rw [show 0 * 4 = 0 from rfl] at hx114_1); (try rw [Addr.add_zero'] at hx114_1); (try rw [show ((0 : Int)).toNat = 0 from rfl] at hx114_2); (try rw [show 0 * 4 = 0 from rfl] at hx114_2); (try rw [Addr.add_zero'] at hx114_2); (try rw [show ((0 : Int)).toNat = 0 from rfl] at hx114_3); (try rw [show 0 * 4 = 0 from rfl] at hx114_3); (try rw [Addr.add_zero'] at hx114_3); replace hx114_0 := YT HB.out hx114_0; replace hx114_1 := YT HB.out hx114_1; replace hx114_2 := YT HB.out hx114_2; replace hx114_3 := YT HB.out hx114_3; have HR114_2 := Y0.mk hi114_2; have HC114_2 := Y0.mk hl114_2; clear hi114_2 hl114_2; have HR114_3 := Y0.mk hi114_3; have HC114_3 := Y0.mk hl114_3; clear hi114_3 hl114_3; replace p114 := eq_true p114; replace q114 := eq_true q114) | ((with_reducible refine Yw (f := 50) rfl ?_); refine YV (some 61) rfl rfl Tryd.func50 Z6 rfl #[.agg #[.int .i64 ((Y2 l0_3 0).f0), .string ((Y2 l0_3 0).f1), .slice A114_2 ((Y2 l0_3 0).f2).length c114_2, .slice A114_3 ((Y2 l0_3 0).f3).length c114_3]] rfl Z0 ?_; (with_reducible refine ((ih k (by omega)).2 ((Y2 l0_3 0).f0) ((Y2 l0_3 0).f1) _ _ ((Y2 l0_3 0).f2) _ _ ((Y2 l0_3 0).f3) t115 _ ?side1 ?side2 ?side3 ?side4 A47.out).mono ?_); (case side1 => exact Z1h); (case side2 => exact HC114_2.out); (case side3 => exact Z1i); (case side4 => exact HC114_3.out); rintro e w51 ⟨rfl, hb⟩; refine ⟨_, rfl, ?_⟩; have n_ := Y2i (Yj (g := gb101) (o := .cells #[.int .i64 a0_0, .string a0_1, .slice A0_2 l0_2.length c0_2, .slice (some ad114) l0_3.length c0_3] 37 (0, 0)) QQ hb) (Y6 QB hb); clear BK101 HB; obtain ⟨BK101, HB⟩ := n_; (try clear hb); (try clear hb2); (try clear hk); (try clear hi)))
         go_ret
         exact Z1F
        ·rw [if_neg c48] at H
         exact Zh
       ·rw [if_neg c46] at H
        exact Zh
      ·rw [if_neg c45] at H
       have c45b0 : (a0_0 == 6) = false := beq_eq_false_iff_ne.mpr c45
       have c45b1 : (a0_0 != 6) = true := bne_iff_ne.mpr c45
       by_cases c52 : a0_0 = 7
       ·rw [if_pos c52] at H
        have c52b0 : (a0_0 == 7) = true := beq_iff_eq.mpr c52
        have c52b1 : (a0_0 != 7) = false := bne_eq_false_iff_eq.mpr c52
        clear c52
        by_cases c53 : 0 < (l0_3.length : Int)
        ·rw [if_pos c53] at H
         have c53b0 : decide (0 < (l0_3.length : Int)) = true := decide_eq_true c53
         have c53b1 : decide (0 < l0_3.length) = true := decide_eq_true (by omega)
         clear c53
         replace H := Option.bind_eq_some_iff.mp H
         obtain ⟨t117, A540, H⟩ := H
         replace H : (if t117.size + 1 ≤ 9223372036854775807 then (some (t117 ++ (⟨#[63]⟩ : ByteArray))) else (none)) = some r := H
         have A54 := Y0.mk A540
         clear A540
         by_cases c55 : t117.size + 1 ≤ 9223372036854775807
         ·rw [if_pos c55] at H
          have c55b0 := eq_true c55
          have c55b1 : decide (t117.size + 1 ≤ 9223372036854775807) = true := decide_eq_true c55
          try have c55b2 : (9223372036854775807 < t117.size + 1) = False := eq_false (Nat.not_lt.2 c55)
          obtain rfl := Option.some.inj H
          go_enter Tryd.func24, Tryd.ntmps24
          go_wp2_with (first | ((with_reducible refine YF (N := 1) rfl ?_); refine YA ?hg (N := 1) ?hd (cs := #[.int .i64 a0_0, .string a0_1, .slice A0_2 l0_2.length c0_2, .slice A0_3 l0_3.length c0_3]) (t := 37) ?hr ?_; (case hd => rfl); (case hg => rfl); (case hr => exact Za); intro gb101 hg w56 hbox hb; have n_ := Y2x (Y6 QB hb) (hbox) ((by rw [hg]; exact (Ya QB) : w.heap.size ≤ gb101)) ((by rw [hg]; exact (Ya QB) : w.heap.size ≤ gb101)); clear HB; obtain ⟨HB, BK101, GW101, GE101⟩ := n_; clear hb hbox hg; obtain ⟨hcz57_0, hcz57_1, hcz57_2, hcz57_3, hfz57_0, hfz57_1, hfz57_2, hfz57_3⟩ := YD BK101.out; have p116 : 0 ≤ (0 : Int) := (by omega); have q116 : 0 < (l0_3.length : Int) := of_decide_eq_true Z8; obtain ⟨ad116, A116_2, c116_2, A116_3, c116_3, e116, hx116_0, hx116_1, hx116_2, hx116_3, hl116_2, hi116_2, hl116_3, hi116_3⟩ := Y1C HR0_3.out 0 p116 q116; cases e116; have qi116 : (0 < l0_3.length) = True := eq_true (by omega); (try rw [show ((0 : Int)).toNat = 0 from rfl] at hx116_0); (try rw [show 0 * 4 = 0 from rfl] at hx116_0); (try rw [Addr.add_zero'] at hx116_0); (try rw [show ((0 : Int)).toNat = 0 from rfl] at hx116_1); (try rw [show 0 * 4 = 0 from rfl] at hx116_1); (try rw [Addr.add_zero'] at hx116_1); (try rw [show ((0 : Int)).toNat = 0 from rfl] at hx116_2); (try rw [show 0 * 4 = 0 from rfl] at hx116_2); (try rw [Addr.add_zero'] at hx116_2); (try rw [show ((0 : Int)).toNat = 0 from rfl] at hx116_3); (try rw [show 0 * 4 = 0 from rfl] at hx116_3); (try rw [Addr.add_zero'] at hx116_3); replace hx116_0 := YT HB.out hx116_0; replace hx116_1 := YT HB.out hx116_1; replace hx116_2 := YT HB.out hx116_2; replace hx116_3 := YT HB.out hx116_3; have HR116_2 := Y0.mk hi116_2; have HC116_2 := Y0.mk hl116_2; clear hi116_2 hl116_2; have HR116_3 := Y0.mk hi116_3; have HC116_3 := Y0.mk hl116_3; clear hi116_3 hl116_3; replace p116 := eq_true p116; replace q116 := eq_true q116) | ((with_reducible refine Yw (f := 50) rfl ?_); refine YV (some 69) rfl rfl Tryd.func50 Z6 rfl #[.agg #[.int .i64 ((Y2 l0_3 0).f0), .string ((Y2 l0_3 0).f1), .slice A116_2 ((Y2 l0_3 0).f2).length c116_2, .slice A116_3 ((Y2 l0_3 0).f3).length c116_3]] rfl Z0 ?_; (with_reducible refine ((ih k (by omega)).2 ((Y2 l0_3 0).f0) ((Y2 l0_3 0).f1) _ _ ((Y2 l0_3 0).f2) _ _ ((Y2 l0_3 0).f3) t117 _ ?side1 ?side2 ?side3 ?side4 A54.out).mono ?_); (case side1 => repeat (first | exact (Kd.C_below HR116_2.out HB.out) | (with_reducible refine Kd.C_alloc ?_ _) | (with_reducible refine Kd.C_drewN ?_ _) | (with_reducible refine Kd.C_drew ?_))); (case side2 => exact HC116_2.out); (case side3 => repeat (first | exact (Kd.C_below HR116_3.out HB.out) | (with_reducible refine Kd.C_alloc ?_ _) | (with_reducible refine Kd.C_drewN ?_ _) | (with_reducible refine Kd.C_drew ?_))); (case side4 => exact HC116_3.out); rintro e w58 ⟨rfl, hb⟩; refine ⟨_, rfl, ?_⟩; have n_ := Y2i (Yj (g := gb101) (o := .cells #[.int .i64 a0_0, .string a0_1, .slice A0_2 l0_2.length c0_2, .slice (some ad116) l0_3.length c0_3] 37 (0, 0)) QQ hb) (Y6 QB hb); clear BK101 HB; obtain ⟨BK101, HB⟩ := n_; (try clear hb); (try clear hb2); (try clear hk); (try clear hi)))
          go_ret
          exact Z1F
         ·rw [if_neg c55] at H
          exact Zh
        ·rw [if_neg c53] at H
         exact Zh
       ·rw [if_neg c52] at H
        have c52b0 : (a0_0 == 7) = false := beq_eq_false_iff_ne.mpr c52
        have c52b1 : (a0_0 != 7) = true := bne_iff_ne.mpr c52
        replace H := Option.bind_eq_some_iff.mp H
        obtain ⟨t118, A590, H⟩ := H
        replace H : (if 3 + t118.size ≤ 9223372036854775807 then (if 3 + t118.size + 2 ≤ 9223372036854775807 then (some (((⟨#[33, 40, 60]⟩ : ByteArray) ++ t118) ++ (⟨#[62, 41]⟩ : ByteArray))) else (none)) else (none)) = some r := H
        have A59 := Y0.mk A590
        clear A590
        by_cases c60 : 3 + t118.size ≤ 9223372036854775807
        ·rw [if_pos c60] at H
         have c60b0 := eq_true c60
         have c60b1 : decide (3 + t118.size ≤ 9223372036854775807) = true := decide_eq_true c60
         try have c60b2 : (9223372036854775807 < 3 + t118.size) = False := eq_false (Nat.not_lt.2 c60)
         by_cases c61 : 3 + t118.size + 2 ≤ 9223372036854775807
         ·rw [if_pos c61] at H
          have c61b0 := eq_true c61
          have c61b1 : decide (3 + t118.size + 2 ≤ 9223372036854775807) = true := decide_eq_true c61
          try have c61b2 : (9223372036854775807 < 3 + t118.size + 2) = False := eq_false (Nat.not_lt.2 c61)
          obtain rfl := Option.some.inj H
          go_enter Tryd.func24, Tryd.ntmps24
          go_wp2_with (first | ((with_reducible refine YF (N := 1) rfl ?_); refine YA ?hg (N := 1) ?hd (cs := #[.int .i64 a0_0, .string a0_1, .slice A0_2 l0_2.length c0_2, .slice A0_3 l0_3.length c0_3]) (t := 37) ?hr ?_; (case hd => rfl); (case hg => rfl); (case hr => exact Za); intro gb101 hg w62 hbox hb; have n_ := Y2x (Y6 QB hb) (hbox) ((by rw [hg]; exact (Ya QB) : w.heap.size ≤ gb101)) ((by rw [hg]; exact (Ya QB) : w.heap.size ≤ gb101)); clear HB; obtain ⟨HB, BK101, GW101, GE101⟩ := n_; clear hb hbox hg; obtain ⟨hcz63_0, hcz63_1, hcz63_2, hcz63_3, hfz63_0, hfz63_1, hfz63_2, hfz63_3⟩ := YD BK101.out) | ((with_reducible refine Yw (f := 51) rfl ?_); refine YV (some 73) rfl rfl Tryd.func51 Z6 rfl #[.slice A0_2 l0_2.length c0_2, .string (⟨#[62, 124, 60]⟩ : ByteArray)] rfl Z0 ?_; (with_reducible refine (strings_Join.calls _ _ l0_2 (⟨#[62, 124, 60]⟩ : ByteArray) t118 _ ?side1 ?side2 A59.out).mono ?_); (case side1 => exact Z5); (case side2 => exact Z10); rintro e w64 ⟨rfl, hb⟩; refine ⟨_, rfl, ?_⟩; have n_ := Y2i (Yj (g := gb101) (o := .cells #[.int .i64 a0_0, .string a0_1, .slice A0_2 l0_2.length c0_2, .slice A0_3 l0_3.length c0_3] 37 (0, 0)) QQ hb) (Y6 QB hb); clear BK101 HB; obtain ⟨BK101, HB⟩ := n_; (try clear hb); (try clear hb2); (try clear hk); (try clear hi)))
          go_ret
          exact Z1F
         ·rw [if_neg c61] at H
          exact Zh
        ·rw [if_neg c60] at H
         exact Zh
set_option maxHeartbeats 8000000 in
set_option maxRecDepth 100000 in
theorem YG.step (k : Nat) (ih : ∀ j_ < k, YC.Spec j_ ∧ YG.Spec j_) : ∀ (a0_0 : Int) (a0_1 : ByteArray) (A0_2 : Option Addr) (c0_2 : Nat) (l0_2 : List ByteArray) (A0_3 : Option Addr) (c0_3 : Nat) (l0_3 : List (S37)) (r : ByteArray) (w : World) (hr0_2 : Kd.C Kd.string w A0_2 l0_2.length l0_2) (hc0_2 : l0_2.length ≤ c0_2) (hr0_3 : Kd.C k37 w A0_3 l0_3.length l0_3) (hc0_3 : l0_3.length ≤ c0_3) (h : YG.f k a0_0 a0_1 l0_2 l0_3 = some r),
  Calls Tryd.prog 50 #[.agg #[.int .i64 a0_0, .string a0_1, .slice A0_2 l0_2.length c0_2, .slice A0_3 l0_3.length c0_3]] w fun e w' => e = .returned (.string r) ∧ Below w.heap.size w w' := by
 intro a0_0 a0_1 A0_2 c0_2 l0_2 A0_3 c0_3 l0_3 r w hr0_2 hc0_2 hr0_3 hc0_3 h
 cases k with
 | zero => exact absurd h (by simp [YG.f])
 | succ k =>
 simp only [YG.f] at h
 have hu37 := Tryd.underlying37
 have HR0_2 := Y0.mk hr0_2
 have HC0_2 := Y0.mk hc0_2
 clear hr0_2 hc0_2
 have HR0_3 := Y0.mk hr0_3
 have HC0_3 := Y0.mk hc0_3
 clear hr0_3 hc0_3
 have HB := Y0.mk (Below.refl w.heap.size w)
 have H : (if a0_0 = 1 then ((YC.f k a0_0 a0_1 l0_2 l0_3).bind fun t120 => (some t120)) else ((YC.f k a0_0 a0_1 l0_2 l0_3).bind fun t121 => (if 1 + t121.size ≤ 9223372036854775807 then (if 1 + t121.size + 1 ≤ 9223372036854775807 then (some (((⟨#[40]⟩ : ByteArray) ++ t121) ++ (⟨#[41]⟩ : ByteArray))) else (none)) else (none)))) = some r := h
 clear h
 by_cases c2 : a0_0 = 1
 ·rw [if_pos c2] at H
  have c2b0 : (a0_0 == 1) = true := beq_iff_eq.mpr c2
  have c2b1 : (a0_0 != 1) = false := bne_eq_false_iff_eq.mpr c2
  clear c2
  replace H := Option.bind_eq_some_iff.mp H
  obtain ⟨t120, A30, H⟩ := H
  replace H : (some t120) = some r := H
  have A3 := Y0.mk A30
  clear A30
  obtain rfl := Option.some.inj H
  go_enter Tryd.func50, Tryd.ntmps50
  go_wp2_with (first | ((with_reducible refine YF (N := 1) rfl ?_); refine YA ?hg (N := 1) ?hd (cs := #[.int .i64 a0_0, .string a0_1, .slice A0_2 l0_2.length c0_2, .slice A0_3 l0_3.length c0_3]) (t := 37) ?hr ?_; (case hd => rfl); (case hg => rfl); (case hr => exact Za); intro gb119 hg w4 hbox hb; have n_ := Y2x (Y6 QB hb) (hbox) ((by rw [hg]; exact (Ya QB) : w.heap.size ≤ gb119)) ((by rw [hg]; exact (Ya QB) : w.heap.size ≤ gb119)); clear HB; obtain ⟨HB, BK119, GW119, GE119⟩ := n_; clear hb hbox hg; obtain ⟨hcz5_0, hcz5_1, hcz5_2, hcz5_3, hfz5_0, hfz5_1, hfz5_2, hfz5_3⟩ := YD BK119.out) | ((with_reducible refine Yw (f := 24) rfl ?_); refine YV (some 7) rfl rfl Tryd.func24 Z6 rfl #[.agg #[.int .i64 a0_0, .string a0_1, .slice A0_2 l0_2.length c0_2, .slice A0_3 l0_3.length c0_3]] rfl Z0 ?_; (with_reducible refine ((ih k (by omega)).1 a0_0 a0_1 _ _ l0_2 _ _ l0_3 t120 _ ?side1 ?side2 ?side3 ?side4 A3.out).mono ?_); (case side1 => exact Z5); (case side2 => exact Z10); (case side3 => exact Z7); (case side4 => exact Z13); rintro e w6 ⟨rfl, hb⟩; refine ⟨_, rfl, ?_⟩; have n_ := Y2i (Yj (g := gb119) (o := .cells #[.int .i64 a0_0, .string a0_1, .slice A0_2 l0_2.length c0_2, .slice A0_3 l0_3.length c0_3] 37 (0, 0)) QQ hb) (Y6 QB hb); clear BK119 HB; obtain ⟨BK119, HB⟩ := n_; (try clear hb); (try clear hb2); (try clear hk); (try clear hi)))
  go_ret
  exact Z1F
 ·rw [if_neg c2] at H
  have c2b0 : (a0_0 == 1) = false := beq_eq_false_iff_ne.mpr c2
  have c2b1 : (a0_0 != 1) = true := bne_iff_ne.mpr c2
  replace H := Option.bind_eq_some_iff.mp H
  obtain ⟨t121, A70, H⟩ := H
  replace H : (if 1 + t121.size ≤ 9223372036854775807 then (if 1 + t121.size + 1 ≤ 9223372036854775807 then (some (((⟨#[40]⟩ : ByteArray) ++ t121) ++ (⟨#[41]⟩ : ByteArray))) else (none)) else (none)) = some r := H
  have A7 := Y0.mk A70
  clear A70
  by_cases c8 : 1 + t121.size ≤ 9223372036854775807
  ·rw [if_pos c8] at H
   have c8b0 := eq_true c8
   have c8b1 : decide (1 + t121.size ≤ 9223372036854775807) = true := decide_eq_true c8
   try have c8b2 : (9223372036854775807 < 1 + t121.size) = False := eq_false (Nat.not_lt.2 c8)
   by_cases c9 : 1 + t121.size + 1 ≤ 9223372036854775807
   ·rw [if_pos c9] at H
    have c9b0 := eq_true c9
    have c9b1 : decide (1 + t121.size + 1 ≤ 9223372036854775807) = true := decide_eq_true c9
    try have c9b2 : (9223372036854775807 < 1 + t121.size + 1) = False := eq_false (Nat.not_lt.2 c9)
    obtain rfl := Option.some.inj H
    go_enter Tryd.func50, Tryd.ntmps50
    go_wp2_with (first | ((with_reducible refine YF (N := 1) rfl ?_); refine YA ?hg (N := 1) ?hd (cs := #[.int .i64 a0_0, .string a0_1, .slice A0_2 l0_2.length c0_2, .slice A0_3 l0_3.length c0_3]) (t := 37) ?hr ?_; (case hd => rfl); (case hg => rfl); (case hr => exact Za); intro gb119 hg w10 hbox hb; have n_ := Y2x (Y6 QB hb) (hbox) ((by rw [hg]; exact (Ya QB) : w.heap.size ≤ gb119)) ((by rw [hg]; exact (Ya QB) : w.heap.size ≤ gb119)); clear HB; obtain ⟨HB, BK119, GW119, GE119⟩ := n_; clear hb hbox hg; obtain ⟨hcz11_0, hcz11_1, hcz11_2, hcz11_3, hfz11_0, hfz11_1, hfz11_2, hfz11_3⟩ := YD BK119.out) | ((with_reducible refine Yw (f := 24) rfl ?_); refine YV (some 9) rfl rfl Tryd.func24 Z6 rfl #[.agg #[.int .i64 a0_0, .string a0_1, .slice A0_2 l0_2.length c0_2, .slice A0_3 l0_3.length c0_3]] rfl Z0 ?_; (with_reducible refine ((ih k (by omega)).1 a0_0 a0_1 _ _ l0_2 _ _ l0_3 t121 _ ?side1 ?side2 ?side3 ?side4 A7.out).mono ?_); (case side1 => exact Z5); (case side2 => exact Z10); (case side3 => exact Z7); (case side4 => exact Z13); rintro e w12 ⟨rfl, hb⟩; refine ⟨_, rfl, ?_⟩; have n_ := Y2i (Yj (g := gb119) (o := .cells #[.int .i64 a0_0, .string a0_1, .slice A0_2 l0_2.length c0_2, .slice A0_3 l0_3.length c0_3] 37 (0, 0)) QQ hb) (Y6 QB hb); clear BK119 HB; obtain ⟨BK119, HB⟩ := n_; (try clear hb); (try clear hb2); (try clear hk); (try clear hi)))
    go_ret
    exact Z1F
   ·rw [if_neg c9] at H
    exact Zh
  ·rw [if_neg c8] at H
   exact Zh
theorem YC.joint : ∀ k, YC.Spec k ∧ YG.Spec k := by
 intro k
 induction k using Nat.strongRecOn with
 | _ k ih => exact ⟨YC.step k ih, YG.step k ih⟩
theorem YC.calls (k : Nat) : YC.Spec k := (YC.joint k).1
mutual
def Yn.j0 : Nat → Int → Bool → Int → ByteArray → List ByteArray → List (S37) → Option (Bool)
 | 0, _, _, _, _, _, _ => none
 | k + 1, x1, x26, x102000, x102001, x102002, x102003 => if x26 = true then (some true) else (Yn.l0 k x1 0 x102000 x102001 x102002 x102003)
def Yn.l0 : Nat → Int → Int → Int → ByteArray → List ByteArray → List (S37) → Option (Bool)
 | 0, _, _, _, _, _, _ => none
 | k + 1, x1, x5, x102000, x102001, x102002, x102003 => if x5 < (x102002.length : Int) then (if 0 ≤ x5 then (if ((Y25 ByteArray.empty x102002 x5).size : Int) > 300 then (some true) else (Yn.l0 k x1 (wrap64 (x5 + 1)) x102000 x102001 x102002 x102003)) else (none)) else (Yn.l1 k x1 0 x102000 x102001 x102002 x102003)
def Yn.l1 : Nat → Int → Int → Int → ByteArray → List ByteArray → List (S37) → Option (Bool)
 | 0, _, _, _, _, _, _ => none
 | k + 1, x1, x6, x102000, x102001, x102002, x102003 => if x6 < (x102003.length : Int) then (if 0 ≤ x6 then ((Yn.f k ((Y2 x102003 x6).f0) ((Y2 x102003 x6).f1) ((Y2 x102003 x6).f2) ((Y2 x102003 x6).f3) (wrap64 (x1 + 1))).bind fun t104 => (if t104 = true then (some true) else (Yn.l1 k x1 (wrap64 (x6 + 1)) x102000 x102001 x102002 x102003))) else (none)) else (some false)
def Yn.f : Nat → Int → ByteArray → List ByteArray → List (S37) → Int → Option (Bool)
 | 0, _, _, _, _, _ => none
 | k + 1, a0_0, a0_1, l0_2, l0_3, a1 => if a1 > 12 then (Yn.j0 k a1 true a0_0 a0_1 l0_2 l0_3) else (if (l0_3.length : Int) > 4 then (Yn.j0 k a1 true a0_0 a0_1 l0_2 l0_3) else (if (l0_2.length : Int) > 20 then (Yn.j0 k a1 true a0_0 a0_1 l0_2 l0_3) else (Yn.j0 k a1 (decide ((a0_1.size : Int) > 300)) a0_0 a0_1 l0_2 l0_3)))
end
set_option maxHeartbeats 8000000 in
set_option maxRecDepth 100000 in
theorem Yn.calls (k : Nat) : ∀ (a0_0 : Int) (a0_1 : ByteArray) (A0_2 : Option Addr) (c0_2 : Nat) (l0_2 : List ByteArray) (A0_3 : Option Addr) (c0_3 : Nat) (l0_3 : List (S37)) (a1 : Int) (r : Bool) (w : World) (hr0_2 : Kd.C Kd.string w A0_2 l0_2.length l0_2) (hc0_2 : l0_2.length ≤ c0_2) (hr0_3 : Kd.C k37 w A0_3 l0_3.length l0_3) (hc0_3 : l0_3.length ≤ c0_3) (h : Yn.f k a0_0 a0_1 l0_2 l0_3 a1 = some r),
  Calls Tryd.prog 22 #[.agg #[.int .i64 a0_0, .string a0_1, .slice A0_2 l0_2.length c0_2, .slice A0_3 l0_3.length c0_3], .int .i64 a1] w fun e w' => e = .returned (.bool r) ∧ Below w.heap.size w w' := by
 induction k using Nat.strongRecOn with
 | _ k ih =>
 intro a0_0 a0_1 A0_2 c0_2 l0_2 A0_3 c0_3 l0_3 a1 r w hr0_2 hc0_2 hr0_3 hc0_3 h
 cases k with
 | zero => exact absurd h (by simp [Yn.f])
 | succ k =>
 simp only [Yn.f] at h
 have hu37 := Tryd.underlying37
 have HR0_2 := Y0.mk hr0_2
 have HC0_2 := Y0.mk hc0_2
 clear hr0_2 hc0_2
 have HR0_3 := Y0.mk hr0_3
 have HC0_3 := Y0.mk hc0_3
 clear hr0_3 hc0_3
 have HB := Y0.mk (Below.refl w.heap.size w)
 have H : (if a1 > 12 then (Yn.j0 k a1 true a0_0 a0_1 l0_2 l0_3) else (if (l0_3.length : Int) > 4 then (Yn.j0 k a1 true a0_0 a0_1 l0_2 l0_3) else (if (l0_2.length : Int) > 20 then (Yn.j0 k a1 true a0_0 a0_1 l0_2 l0_3) else (Yn.j0 k a1 (decide ((a0_1.size : Int) > 300)) a0_0 a0_1 l0_2 l0_3)))) = some r := h
 clear h
 have HC3 := Y0.mk H
 clear H
 go_enter Tryd.func22, Tryd.ntmps22
 go_upto_region 1 with (first | ((with_reducible refine YF (N := 2) rfl ?_); (try (refine Y19 (by rfl) ?_; dsimp only)); refine YA ?hg (N := 2) ?hd (cs := #[.int .i64 a0_0, .string a0_1, .slice A0_2 l0_2.length c0_2, .slice A0_3 l0_3.length c0_3]) (t := 37) ?hr ?_; (case hd => rfl); (case hg => rfl); (case hr => exact Za); intro gb101 hg w4 hbox hb; have n_ := Y2x (Y6 QB hb) (hbox) ((by rw [hg]; exact (Ya QB) : w.heap.size ≤ gb101)) ((by rw [hg]; exact (Ya QB) : w.heap.size ≤ gb101)); clear HB; obtain ⟨HB, BK101, GW101, GE101⟩ := n_; clear hb hbox hg))
 (try simp only [Act.put, List.setIfInBounds_toArray, List.set_cons_zero, List.set_cons_succ])
 go_cut [26] (fun v26 wc => ∃ (kq : Nat) (x26_2 : Bool), v26 = .bool x26_2 ∧ Y0 (Yn.j0 kq a1 x26_2 a0_0 a0_1 l0_2 l0_3 = some r) ∧ Y0 (kq ≤ k) ∧ Y0 (wc.heap[gb101]? = some (.cells #[.int .i64 a0_0, .string a0_1, (.slice A0_2 l0_2.length c0_2), (.slice A0_3 l0_3.length c0_3)] 37 (0, 0))) ∧ Y0 (Below w.heap.size w wc))
 case first =>
  have H := HC3.out
  clear HC3
  by_cases c5 : a1 > 12
  ·rw [if_pos c5] at H
   have c5b0 : decide (12 < a1) = true := decide_eq_true c5
   clear c5
   (first | rw [c5b0] | (simp only [Y14, Y15]; rw [c5b0]) | skip)
   have H' := Y0.mk H
   clear H
   go_wp2
   go_meet
   case rel => exact Z1G
  ·rw [if_neg c5] at H
   have c5b0 : decide (12 < a1) = false := decide_eq_false c5
   clear c5
   (first | rw [c5b0] | (simp only [Y14, Y15]; rw [c5b0]) | skip)
   by_cases c6 : (l0_3.length : Int) > 4
   ·rw [if_pos c6] at H
    have c6b0 : decide (4 < (l0_3.length : Int)) = true := decide_eq_true c6
    have c6b1 : decide (4 < l0_3.length) = true := decide_eq_true (by omega)
    clear c6
    have H' := Y0.mk H
    clear H
    obtain ⟨hcz7_0, hcz7_1, hcz7_2, hcz7_3, hfz7_0, hfz7_1, hfz7_2, hfz7_3⟩ := YD BK101.out
    go_wp2
    go_meet
    case rel => exact Z1G
   ·rw [if_neg c6] at H
    have c6b0 : decide (4 < (l0_3.length : Int)) = false := decide_eq_false c6
    have c6b1 : decide (4 < l0_3.length) = false := decide_eq_false (by omega)
    clear c6
    by_cases c8 : (l0_2.length : Int) > 20
    ·rw [if_pos c8] at H
     have c8b0 : decide (20 < (l0_2.length : Int)) = true := decide_eq_true c8
     have c8b1 : decide (20 < l0_2.length) = true := decide_eq_true (by omega)
     clear c8
     have H' := Y0.mk H
     clear H
     obtain ⟨hcz9_0, hcz9_1, hcz9_2, hcz9_3, hfz9_0, hfz9_1, hfz9_2, hfz9_3⟩ := YD BK101.out
     go_wp2
     go_meet
     case rel => exact Z1G
    ·rw [if_neg c8] at H
     have c8b0 : decide (20 < (l0_2.length : Int)) = false := decide_eq_false c8
     have c8b1 : decide (20 < l0_2.length) = false := decide_eq_false (by omega)
     clear c8
     have H' := Y0.mk H
     clear H
     obtain ⟨hcz10_0, hcz10_1, hcz10_2, hcz10_3, hfz10_0, hfz10_1, hfz10_2, hfz10_3⟩ := YD BK101.out
     go_wp2
     go_meet
     case rel => exact ⟨_, (decide ((a0_1.size : Int) > 300)), Z9, H', ⟨Zm⟩, ⟨Z4⟩, ⟨QB⟩⟩
 case rest =>
  clear HC3
  try clear c2
  try clear p2
  try clear c5
  try clear c5b0
  try clear c6
  try clear c6b0
  try clear c6b1
  try clear c8
  try clear c8b0
  try clear c8b1
  try clear hcz10_0 hcz10_1 hcz10_2 hcz10_3
  try clear hcz7_0 hcz7_1 hcz7_2 hcz7_3
  try clear hcz9_0 hcz9_1 hcz9_2 hcz9_3
  try clear hfz10_0
  try clear hfz10_1
  try clear hfz10_2
  try clear hfz10_3
  try clear hfz7_0
  try clear hfz7_1
  try clear hfz7_2
  try clear hfz7_3
  try clear hfz9_0
  try clear hfz9_1
  try clear hfz9_2
  try clear hfz9_3
  obtain ⟨kq, x26_2, rfl, HA, HJ2, BK101, HB⟩ := hcut
  cases kq with
  | zero => exact absurd HA.out (by simp [Yn.j0])
  | succ kj2 =>
   have H := HA.out
   clear HA
   simp only [Yn.j0] at H
   by_cases c11 : x26_2 = true
   ·subst c11
    have H1 : (some true) = some r := by rw [if_pos rfl] at H; exact H
    clear H
    have H := H1
    clear H1
    obtain rfl := Option.some.inj H
    go_wp2
    go_ret
    exact Z1F
   ·replace c11 := Bool.eq_false_iff.mpr c11
    subst c11
    have H1 : (Yn.l0 kj2 a1 0 a0_0 a0_1 l0_2 l0_3) = some r := by rw [if_neg (show ¬ (false = true) by decide)] at H; exact H
    clear H
    have H := H1
    clear H1
    have H' := Y0.mk H
    clear H
    go_wp2
    go_loopg [5] kj2 (fun kq v5 w' => ∃ (x5_2 : Int), v5 = .int .i64 x5_2 ∧ Y0 (Yn.l0 kq a1 x5_2 a0_0 a0_1 l0_2 l0_3 = some r) ∧ Y0 (kq ≤ kj2) ∧ Y0 (w'.heap[gb101]? = some (.cells #[.int .i64 a0_0, .string a0_1, (.slice A0_2 l0_2.length c0_2), (.slice A0_3 l0_3.length c0_3)] 37 (0, 0))) ∧ Y0 (Below w.heap.size w w'))
    case atStart => exact Z1L
    case round =>
     clear H'
     try clear c1
     try clear c2
     try clear p2
     try clear c5
     try clear c5b0
     try clear c6
     try clear c6b0
     try clear c6b1
     try clear c8
     try clear c8b0
     try clear c8b1
     try clear c11
     try clear hcz10_0 hcz10_1 hcz10_2 hcz10_3
     try clear hcz7_0 hcz7_1 hcz7_2 hcz7_3
     try clear hcz9_0 hcz9_1 hcz9_2 hcz9_3
     try clear hfz10_0
     try clear hfz10_1
     try clear hfz10_2
     try clear hfz10_3
     try clear hfz7_0
     try clear hfz7_1
     try clear hfz7_2
     try clear hfz7_3
     try clear hfz9_0
     try clear hfz9_1
     try clear hfz9_2
     try clear hfz9_3
     try clear p2
     obtain ⟨x5_2, rfl, HA, HK2, BK101, HB⟩ := hrel
     cases gk with
     | zero => exact absurd HA.out (by simp [Yn.l0])
     | succ k2 =>
      have H := HA.out
      clear HA
      simp only [Yn.l0] at H
      by_cases c12 : x5_2 < (l0_2.length : Int)
      ·rw [if_pos c12] at H
       have c12b0 : decide (x5_2 < (l0_2.length : Int)) = true := decide_eq_true c12
       clear c12
       by_cases c13 : 0 ≤ x5_2
       ·rw [if_pos c13] at H
        have c13b0 : decide (0 ≤ x5_2) = true := decide_eq_true c13
        clear c13
        by_cases c14 : ((Y25 ByteArray.empty l0_2 x5_2).size : Int) > 300
        ·rw [if_pos c14] at H
         have c14b0 : decide (300 < ((Y25 ByteArray.empty l0_2 x5_2).size : Int)) = true := decide_eq_true c14
         have c14b1 : decide (300 < (Y25 ByteArray.empty l0_2 x5_2).size) = true := decide_eq_true (by omega)
         clear c14
         obtain rfl := Option.some.inj H
         obtain ⟨hcz15_0, hcz15_1, hcz15_2, hcz15_3, hfz15_0, hfz15_1, hfz15_2, hfz15_3⟩ := YD BK101.out
         have p102 : 0 ≤ (x5_2 : Int) := of_decide_eq_true Z8
         have q102 : x5_2 < (l0_2.length : Int) := of_decide_eq_true Z8
         obtain ⟨ad102, e102, hx102_0⟩ := Kd.at_string HR0_2.out x5_2 p102 q102
         cases e102
         replace hx102_0 := YT HB.out hx102_0
         replace p102 := eq_true p102
         replace q102 := eq_true q102
         go_wp2
         go_ret
         exact Z1F
        ·rw [if_neg c14] at H
         have c14b0 : decide (300 < ((Y25 ByteArray.empty l0_2 x5_2).size : Int)) = false := decide_eq_false c14
         have c14b1 : decide (300 < (Y25 ByteArray.empty l0_2 x5_2).size) = false := decide_eq_false (by omega)
         clear c14
         have H' := Y0.mk H
         clear H
         obtain ⟨hcz16_0, hcz16_1, hcz16_2, hcz16_3, hfz16_0, hfz16_1, hfz16_2, hfz16_3⟩ := YD BK101.out
         have p102 : 0 ≤ (x5_2 : Int) := of_decide_eq_true Z8
         have q102 : x5_2 < (l0_2.length : Int) := of_decide_eq_true Z8
         obtain ⟨ad102, e102, hx102_0⟩ := Kd.at_string HR0_2.out x5_2 p102 q102
         cases e102
         replace hx102_0 := YT HB.out hx102_0
         replace p102 := eq_true p102
         replace q102 := eq_true q102
         go_wp2
         go_roundg k2
         case measure => have := HJ2.out; have := HK2.out; omega
         case rel => exact ⟨(wrap64 (x5_2 + 1)), Z9, H', ⟨by have := HJ2.out; have := HK2.out; omega⟩, ⟨Z4⟩, ⟨QB⟩⟩
       ·rw [if_neg c13] at H
        exact Zh
      ·rw [if_neg c12] at H
       have c12b0 : decide (x5_2 < (l0_2.length : Int)) = false := decide_eq_false c12
       clear c12
       have H' := Y0.mk H
       clear H
       obtain ⟨hcz17_0, hcz17_1, hcz17_2, hcz17_3, hfz17_0, hfz17_1, hfz17_2, hfz17_3⟩ := YD BK101.out
       go_wp2
       go_loopg [6] k2 (fun kq v6 w' => ∃ (x6_3 : Int), v6 = .int .i64 x6_3 ∧ Y0 (Yn.l1 kq a1 x6_3 a0_0 a0_1 l0_2 l0_3 = some r) ∧ Y0 (kq ≤ k2) ∧ Y0 (w'.heap[gb101]? = some (.cells #[.int .i64 a0_0, .string a0_1, (.slice A0_2 l0_2.length c0_2), (.slice A0_3 l0_3.length c0_3)] 37 (0, 0))) ∧ Y0 (Below w.heap.size w w'))
       case atStart => exact Z1L
       case round =>
        clear H'
        try clear c1
        try clear p1
        try clear q1
        try clear hx1
        try clear c2
        try clear p2
        try clear c5
        try clear c5b0
        try clear c6
        try clear c6b0
        try clear c6b1
        try clear p6
        try clear c8
        try clear c8b0
        try clear c8b1
        try clear p10
        try clear q10
        try clear hx10
        try clear c11
        try clear c12
        try clear c12b0
        try clear c13
        try clear c13b0
        try clear c14
        try clear c14b0
        try clear c14b1
        try clear hcz10_0 hcz10_1 hcz10_2 hcz10_3
        try clear hcz15_0 hcz15_1 hcz15_2 hcz15_3
        try clear hcz16_0 hcz16_1 hcz16_2 hcz16_3
        try clear hcz17_0 hcz17_1 hcz17_2 hcz17_3
        try clear hcz7_0 hcz7_1 hcz7_2 hcz7_3
        try clear hcz9_0 hcz9_1 hcz9_2 hcz9_3
        try clear hfz10_0
        try clear hfz10_1
        try clear hfz10_2
        try clear hfz10_3
        try clear hfz15_0
        try clear hfz15_1
        try clear hfz15_2
        try clear hfz15_3
        try clear hfz16_0
        try clear hfz16_1
        try clear hfz16_2
        try clear hfz16_3
        try clear hfz17_0
        try clear hfz17_1
        try clear hfz17_2
        try clear hfz17_3
        try clear hfz7_0
        try clear hfz7_1
        try clear hfz7_2
        try clear hfz7_3
        try clear hfz9_0
        try clear hfz9_1
        try clear hfz9_2
        try clear hfz9_3
        try clear hx102_0
        try clear p102
        try clear p2
        try clear q102
        obtain ⟨x6_3, rfl, HA, HK3, BK101, HB⟩ := hrel
        cases gk with
        | zero => exact absurd HA.out (by simp [Yn.l1])
        | succ k3 =>
         have H := HA.out
         clear HA
         simp only [Yn.l1] at H
         by_cases c18 : x6_3 < (l0_3.length : Int)
         ·rw [if_pos c18] at H
          have c18b0 : decide (x6_3 < (l0_3.length : Int)) = true := decide_eq_true c18
          clear c18
          by_cases c19 : 0 ≤ x6_3
          ·rw [if_pos c19] at H
           have c19b0 : decide (0 ≤ x6_3) = true := decide_eq_true c19
           clear c19
           replace H := Option.bind_eq_some_iff.mp H
           obtain ⟨t104, A200, H⟩ := H
           replace H : (if t104 = true then (some true) else (Yn.l1 k3 a1 (wrap64 (x6_3 + 1)) a0_0 a0_1 l0_2 l0_3)) = some r := H
           have A20 := Y0.mk A200
           clear A200
           by_cases c21 : t104 = true
           ·subst c21
            have H1 : (some true) = some r := by rw [if_pos rfl] at H; exact H
            clear H
            have H := H1
            clear H1
            obtain rfl := Option.some.inj H
            obtain ⟨hcz22_0, hcz22_1, hcz22_2, hcz22_3, hfz22_0, hfz22_1, hfz22_2, hfz22_3⟩ := YD BK101.out
            have p103 : 0 ≤ (x6_3 : Int) := of_decide_eq_true Z8
            have q103 : x6_3 < (l0_3.length : Int) := of_decide_eq_true Z8
            obtain ⟨ad103, A103_2, c103_2, A103_3, c103_3, e103, hx103_0, hx103_1, hx103_2, hx103_3, hl103_2, hi103_2, hl103_3, hi103_3⟩ := Y1C HR0_3.out x6_3 p103 q103
            cases e103
            replace hx103_0 := YT HB.out hx103_0
            replace hx103_1 := YT HB.out hx103_1
            replace hx103_2 := YT HB.out hx103_2
            replace hx103_3 := YT HB.out hx103_3
            have HR103_2 := Y0.mk hi103_2
            have HC103_2 := Y0.mk hl103_2
            clear hi103_2 hl103_2
            have HR103_3 := Y0.mk hi103_3
            have HC103_3 := Y0.mk hl103_3
            clear hi103_3 hl103_3
            replace p103 := eq_true p103
            replace q103 := eq_true q103
            go_wp2_with (first | ((with_reducible refine Yw (f := 22) rfl ?_); refine YV (some 55) rfl rfl Tryd.func22 Z6 rfl #[.agg #[.int .i64 ((Y2 l0_3 x6_3).f0), .string ((Y2 l0_3 x6_3).f1), .slice A103_2 ((Y2 l0_3 x6_3).f2).length c103_2, .slice A103_3 ((Y2 l0_3 x6_3).f3).length c103_3], .int .i64 (wrap64 (a1 + 1))] rfl Z0 ?_; (with_reducible refine (ih k3 ZV ((Y2 l0_3 x6_3).f0) ((Y2 l0_3 x6_3).f1) _ _ ((Y2 l0_3 x6_3).f2) _ _ ((Y2 l0_3 x6_3).f3) (wrap64 (a1 + 1)) true _ ?side1 ?side2 ?side3 ?side4 A20.out).mono ?_); (case side1 => exact Z17); (case side2 => exact HC103_2.out); (case side3 => exact Z18); (case side4 => exact HC103_3.out); rintro e w23 ⟨rfl, hb⟩; refine ⟨_, rfl, ?_⟩; have n_ := Y2i (Yj (g := gb101) (o := .cells #[.int .i64 a0_0, .string a0_1, .slice A0_2 l0_2.length c0_2, .slice (some ad103) l0_3.length c0_3] 37 (0, 0)) QQ hb) (Y6 QB hb); clear BK101 HB; obtain ⟨BK101, HB⟩ := n_; (try clear hb); (try clear hb2); (try clear hk); (try clear hi)))
            go_ret
            exact Z1F
           ·replace c21 := Bool.eq_false_iff.mpr c21
            subst c21
            have H1 : (Yn.l1 k3 a1 (wrap64 (x6_3 + 1)) a0_0 a0_1 l0_2 l0_3) = some r := by rw [if_neg (show ¬ (false = true) by decide)] at H; exact H
            clear H
            have H := H1
            clear H1
            have H' := Y0.mk H
            clear H
            obtain ⟨hcz24_0, hcz24_1, hcz24_2, hcz24_3, hfz24_0, hfz24_1, hfz24_2, hfz24_3⟩ := YD BK101.out
            have p103 : 0 ≤ (x6_3 : Int) := of_decide_eq_true Z8
            have q103 : x6_3 < (l0_3.length : Int) := of_decide_eq_true Z8
            obtain ⟨ad103, A103_2, c103_2, A103_3, c103_3, e103, hx103_0, hx103_1, hx103_2, hx103_3, hl103_2, hi103_2, hl103_3, hi103_3⟩ := Y1C HR0_3.out x6_3 p103 q103
            cases e103
            replace hx103_0 := YT HB.out hx103_0
            replace hx103_1 := YT HB.out hx103_1
            replace hx103_2 := YT HB.out hx103_2
            replace hx103_3 := YT HB.out hx103_3
            have HR103_2 := Y0.mk hi103_2
            have HC103_2 := Y0.mk hl103_2
            clear hi103_2 hl103_2
            have HR103_3 := Y0.mk hi103_3
            have HC103_3 := Y0.mk hl103_3
            clear hi103_3 hl103_3
            replace p103 := eq_true p103
            replace q103 := eq_true q103
            go_wp2_with (first | ((with_reducible refine Yw (f := 22) rfl ?_); refine YV (some 55) rfl rfl Tryd.func22 Z6 rfl #[.agg #[.int .i64 ((Y2 l0_3 x6_3).f0), .string ((Y2 l0_3 x6_3).f1), .slice A103_2 ((Y2 l0_3 x6_3).f2).length c103_2, .slice A103_3 ((Y2 l0_3 x6_3).f3).length c103_3], .int .i64 (wrap64 (a1 + 1))] rfl Z0 ?_; (with_reducible refine (ih k3 ZV ((Y2 l0_3 x6_3).f0) ((Y2 l0_3 x6_3).f1) _ _ ((Y2 l0_3 x6_3).f2) _ _ ((Y2 l0_3 x6_3).f3) (wrap64 (a1 + 1)) false _ ?side1 ?side2 ?side3 ?side4 A20.out).mono ?_); (case side1 => exact Z17); (case side2 => exact HC103_2.out); (case side3 => exact Z18); (case side4 => exact HC103_3.out); rintro e w25 ⟨rfl, hb⟩; refine ⟨_, rfl, ?_⟩; have n_ := Y2i (Yj (g := gb101) (o := .cells #[.int .i64 a0_0, .string a0_1, .slice A0_2 l0_2.length c0_2, .slice (some ad103) l0_3.length c0_3] 37 (0, 0)) QQ hb) (Y6 QB hb); clear BK101 HB; obtain ⟨BK101, HB⟩ := n_; (try clear hb); (try clear hb2); (try clear hk); (try clear hi)))
            go_roundg k3
            case measure => have := HJ2.out; have := HK2.out; have := HK3.out; omega
            case rel => exact ⟨(wrap64 (x6_3 + 1)), Z9, H', ⟨ZV⟩, ⟨Z4⟩, ⟨QB⟩⟩
          ·rw [if_neg c19] at H
           exact Zh
         ·rw [if_neg c18] at H
          have c18b0 : decide (x6_3 < (l0_3.length : Int)) = false := decide_eq_false c18
          clear c18
          obtain rfl := Option.some.inj H
          obtain ⟨hcz26_0, hcz26_1, hcz26_2, hcz26_3, hfz26_0, hfz26_1, hfz26_2, hfz26_3⟩ := YD BK101.out
          go_wp2
          go_ret
          exact Z1F
def Yt (w0 W : World) (g : Nat) (f0 : ByteArray) (f1 : Int) (f2 : Int) (f3 : Int) : Prop := W.heap[g]? = some (.cells #[.string f0, .int .i64 f1, .int .i64 f2, .int .i64 f3] 75 (0, 0)) ∧ w0.heap.size ≤ g
theorem Yt.grown {w0 W : World} {g : Nat} {f0 : ByteArray} {f1 : Int} {f2 : Int} {f3 : Int} {W1 : World} {row : Option Nat} (h : Yt w0 W g f0 f1 f2 f3) (hw : W.grownBy W1 row) (hne : some g ≠ row) : Yt w0 W1 g f0 f1 f2 f3 := by
 obtain ⟨hb, hg⟩ := h
 exact ⟨Y3k hb hw hne, hg⟩
theorem Yt.fresh {w0 W : World} {g : Nat} {f0 : ByteArray} {f1 : Int} {f2 : Int} {f3 : Int} (h : Yt w0 W g f0 f1 f2 f3) : ∀ k, W.heap.size ≤ k → k ≠ g := by
 obtain ⟨hb, hg⟩ := h
 exact Kd.freshB hb
theorem Yt.kept {w0 W : World} {g : Nat} {f0 : ByteArray} {f1 : Int} {f2 : Int} {f3 : Int} {W1 : World} {S : Nat → Prop} (h : Yt w0 W g f0 f1 f2 f3) (hk : Y3j W W1 S) (hne : ¬ S g) : Yt w0 W1 g f0 f1 f2 f3 := by
 obtain ⟨hb, hg⟩ := h
 exact ⟨Y5G hb hk hne, hg⟩
theorem Yt.below {w0 W : World} {g : Nat} {f0 : ByteArray} {f1 : Int} {f2 : Int} {f3 : Int} {W1 : World} (h : Yt w0 W g f0 f1 f2 f3) (hw : Below W.heap.size W W1) : Yt w0 W1 g f0 f1 f2 f3 := h.grown (Y2N hw none) (by simp)
theorem Yt.alloc {w0 W : World} {g : Nat} {f0 : ByteArray} {f1 : Int} {f2 : Int} {f3 : Int} (h : Yt w0 W g f0 f1 f2 f3) (o : Obj) : Yt w0 (W.alloc o) g f0 f1 f2 f3 := h.below (Y1D (Below.refl _ _) o)
theorem Yt.drewN {w0 W : World} {g : Nat} {f0 : ByteArray} {f1 : Int} {f2 : Int} {f3 : Int} (h : Yt w0 W g f0 f1 f2 f3) (m : Nat) : Yt w0 (W.drewN m) g f0 f1 f2 f3 := h
theorem Yt.drew {w0 W : World} {g : Nat} {f0 : ByteArray} {f1 : Int} {f2 : Int} {f3 : Int} (h : Yt w0 W g f0 f1 f2 f3) : Yt w0 W.drew g f0 f1 f2 f3 := h
theorem Yt.at_ {w0 W : World} {g : Nat} {f0 : ByteArray} {f1 : Int} {f2 : Int} {f3 : Int} {w' : World} {m : Nat} (hq : W.drewN m = w') (h : Yt w0 W g f0 f1 f2 f3) : Yt w0 w' g f0 f1 f2 f3 := by subst hq; exact Yt.drewN h m
theorem Yt.apart {w0 W : World} {g : Nat} {f0 : ByteArray} {f1 : Int} {f2 : Int} {f3 : Int} {α : Type} {d : Kd α} {e : Nat} {base : Nat} {ok : Nat → Prop} {v : Value} {xs : List α} (h : Yt w0 W g f0 f1 f2 f3) (ho : d.R e W base ok v xs) (ht : ∀ q, q ∈ e :: d.E → q ≠ 75) : d.R e W base (fun k => ok k ∧ k ≠ g) v xs := by
 obtain ⟨hb, hg⟩ := h
 exact Kd.R_types ho hb ht
theorem Yt.Y58 {w0 W : World} {g : Nat} {f0 : ByteArray} {f1 : Int} {f2 : Int} {f3 : Int} {α : Type} {d : Kd α} {e : Nat} {base : Nat} {ok : Nat → Prop} {v : Value} {xs : List α} (h : Yt w0 W g f0 f1 f2 f3) (ho : d.R e W base ok v xs) (ht : e ≠ 75) : some g ≠ v.ownBlock := by
 obtain ⟨hb, hg⟩ := h
 exact Kd.R_ne ho hb ht
theorem Yt.lt {w0 W : World} {g : Nat} {f0 : ByteArray} {f1 : Int} {f2 : Int} {f3 : Int} (h : Yt w0 W g f0 f1 f2 f3) : g < W.heap.size := by
 obtain ⟨hb, hg⟩ := h
 exact Y1b hb
theorem Yt.ge {w0 W : World} {g : Nat} {f0 : ByteArray} {f1 : Int} {f2 : Int} {f3 : Int} (h : Yt w0 W g f0 f1 f2 f3) : w0.heap.size ≤ g := by
 obtain ⟨hb, hg⟩ := h
 exact hg
theorem Yt.far {w0 W : World} {g : Nat} {f0 : ByteArray} {f1 : Int} {f2 : Int} {f3 : Int} {p : Addr} (h : Yt w0 W g f0 f1 f2 f3) (hne : g ≠ p.block) (u : Value) : Yt w0 (W.setCell p u) g f0 f1 f2 f3 := by
 obtain ⟨hb, hg⟩ := h
 exact ⟨Y18 hb hne u, hg⟩
theorem YY {W : World} {g : Nat} {f0 : ByteArray} {f1 : Int} {f2 : Int} {f3 : Int} (h : W.heap[g]? = some (.cells #[.string f0, .int .i64 f1, .int .i64 f2, .int .i64 f3] 75 (0, 0))) : W.cell? ⟨g, 0, none⟩ = some (.string f0) := (Y1 h 0).trans rfl
theorem Yt.set_0 {w0 W : World} {g : Nat} {f0 : ByteArray} {f1 : Int} {f2 : Int} {f3 : Int} (h : Yt w0 W g f0 f1 f2 f3) (x : ByteArray) : Yt w0 (W.setCell ⟨g, 0, none⟩ (.string x)) g x f1 f2 f3 := by
 obtain ⟨hb, hg⟩ := h
 exact ⟨by simpa using Y2Q hb 0 (.string x), hg⟩
theorem YZ {W : World} {g : Nat} {f0 : ByteArray} {f1 : Int} {f2 : Int} {f3 : Int} (h : W.heap[g]? = some (.cells #[.string f0, .int .i64 f1, .int .i64 f2, .int .i64 f3] 75 (0, 0))) : W.cell? ⟨g, 1, none⟩ = some (.int .i64 f1) := (Y1 h 1).trans rfl
theorem Yt.set_1 {w0 W : World} {g : Nat} {f0 : ByteArray} {f1 : Int} {f2 : Int} {f3 : Int} (h : Yt w0 W g f0 f1 f2 f3) (x : Int) : Yt w0 (W.setCell ⟨g, 1, none⟩ (.int .i64 x)) g f0 x f2 f3 := by
 obtain ⟨hb, hg⟩ := h
 exact ⟨by simpa using Y2Q hb 1 (.int .i64 x), hg⟩
theorem Y10 {W : World} {g : Nat} {f0 : ByteArray} {f1 : Int} {f2 : Int} {f3 : Int} (h : W.heap[g]? = some (.cells #[.string f0, .int .i64 f1, .int .i64 f2, .int .i64 f3] 75 (0, 0))) : W.cell? ⟨g, 2, none⟩ = some (.int .i64 f2) := (Y1 h 2).trans rfl
theorem Yt.set_2 {w0 W : World} {g : Nat} {f0 : ByteArray} {f1 : Int} {f2 : Int} {f3 : Int} (h : Yt w0 W g f0 f1 f2 f3) (x : Int) : Yt w0 (W.setCell ⟨g, 2, none⟩ (.int .i64 x)) g f0 f1 x f3 := by
 obtain ⟨hb, hg⟩ := h
 exact ⟨by simpa using Y2Q hb 2 (.int .i64 x), hg⟩
theorem Y11 {W : World} {g : Nat} {f0 : ByteArray} {f1 : Int} {f2 : Int} {f3 : Int} (h : W.heap[g]? = some (.cells #[.string f0, .int .i64 f1, .int .i64 f2, .int .i64 f3] 75 (0, 0))) : W.cell? ⟨g, 3, none⟩ = some (.int .i64 f3) := (Y1 h 3).trans rfl
theorem Yt.set_3 {w0 W : World} {g : Nat} {f0 : ByteArray} {f1 : Int} {f2 : Int} {f3 : Int} (h : Yt w0 W g f0 f1 f2 f3) (x : Int) : Yt w0 (W.setCell ⟨g, 3, none⟩ (.int .i64 x)) g f0 f1 f2 x := by
 obtain ⟨hb, hg⟩ := h
 exact ⟨by simpa using Y2Q hb 3 (.int .i64 x), hg⟩
def Y5.l0 : Nat → ByteArray → Int → Int → Int → Option (Int × ByteArray × Int × Int × Int)
 | 0, _, _, _, _ => none
 | k + 1, x1000, x1001, x1002, x1003 => if x1002 = 0 then (if x1001 < (x1000.size : Int) then (if 0 ≤ x1001 then (if (bt x1000 x1001) = 32 then (Y5.l0 k x1000 (wrap64 (x1001 + 1)) x1002 x1003) else (if x1001 ≥ (x1000.size : Int) then (some (0, x1000, x1001, x1002, x1003)) else (some (bt x1000 x1001, x1000, x1001, x1002, x1003)))) else (none)) else (if x1001 ≥ (x1000.size : Int) then (some (0, x1000, x1001, x1002, x1003)) else (if 0 ≤ x1001 then (none) else (none)))) else (some (0, x1000, x1001, x1002, x1003))
def Y5.f (k : Nat) (s0_0 : ByteArray) (s0_1 : Int) (s0_2 : Int) (s0_3 : Int) : Option (Int × ByteArray × Int × Int × Int) := Y5.l0 k s0_0 s0_1 s0_2 s0_3
theorem Y5.mono_l : ∀ k, (∀ y0 y1 y2 y3, LeO (Y5.l0 k y0 y1 y2 y3) (Y5.l0 (k + 1) y0 y1 y2 y3))
 | 0 => fun _ _ _ _ r h => by simp [Y5.l0] at h
 | k + 1 => by
  have ih0 := Y5.mono_l k
  ·intro y0 y1 y2 y3
   unfold Y5.l0
   repeat' first
   | (with_reducible exact ih0 _ _ _ _)
   | (with_reducible exact LeO.refl _)
   | (with_reducible exact LeO.none _)
   | (with_reducible refine LeO.ite ?_ ?_)
   | (with_reducible refine LeO.bind ?_ (fun _ => ?_))
   | exact ih0 _ _ _ _
   | exact LeO.none _
   | refine LeO.ite ?_ ?_
   | refine LeO.bind ?_ (fun _ => ?_)
theorem Y5.mono : ∀ a0 a1 a2 a3 k, LeO (Y5.f k a0 a1 a2 a3) (Y5.f (k + 1) a0 a1 a2 a3) := by
 intro a0 a1 a2 a3 k
 have ih0 := Y5.mono_l k
 unfold Y5.f
 repeat' first
   | (with_reducible exact ih0 _ _ _ _)
   | (with_reducible exact LeO.refl _)
   | (with_reducible exact LeO.none _)
   | (with_reducible refine LeO.ite ?_ ?_)
   | (with_reducible refine LeO.bind ?_ (fun _ => ?_))
   | exact ih0 _ _ _ _
   | exact LeO.none _
   | refine LeO.ite ?_ ?_
   | refine LeO.bind ?_ (fun _ => ?_)
end Go.Proofs.YtbpbfboaofkpaaaDoor.Print
end
