-- printed by xprint.py (our own driver) for this claim; Lean checks it.
import Derived.Test.YtbpbfboaofkpaaaDoorF0
namespace Go.Proofs.YtbpbfboaofkpaaaDoor.Print
open Go.RowKit Go.Proofs.YtbpbfboaofkpaaaDoorW.PrintWords Go.Proofs.YtbpbfboaofkpaaaDoorW.PrintLast Go.Proofs.YtbpbfboaofkpaaaDoorW.PrintMore
attribute [local go_sem] max2_int min2_int max_two min_two max_three min_three max_four min_four
set_option linter.unusedVariables false
set_option linter.unusedSimpArgs false

/-! ### triviumref4_escaped: function 88 -/
mutual
def triviumref4_escaped.l0 : Nat → ByteArray → ByteArray → Int → Option (ByteArray)
  | 0, _, _, _ => none
  | k + 1, x0, x6, x7 => if x7 < (x0.size : Int) then (if 0 ≤ x7 then (triviumref4_escaped.l1 k x0 x6 x7 (bt x0 x7) 0) else (none)) else (some x6)
def triviumref4_escaped.j2 : Nat → ByteArray → ByteArray → Int → Int → Int → Option (ByteArray)
  | 0, _, _, _, _, _ => none
  | k + 1, x0, x6, x7, x8, x9 => if x9 < 7 then (if x6.size + 1 ≤ 9223372036854775807 then (if 0 ≤ x9 then (if x9 ≤ (wrap64 (x9 + 1)) then (if (wrap64 (x9 + 1)) ≤ 7 then (if x6.size + 1 + (wrap64 (x9 + 1)).toNat - x9.toNat ≤ 9223372036854775807 then (triviumref4_escaped.l0 k x0 ((x6 ++ (⟨#[92]⟩ : ByteArray)) ++ ((⟨#[34, 92, 110, 114, 116, 98, 102]⟩ : ByteArray).extract (x9 : Int).toNat ((wrap64 (x9 + 1)) : Int).toNat)) (wrap64 (x7 + 1))) else (none)) else (none)) else (none)) else (none)) else (none)) else (if x8 < 32 then (if x6.size + 4 ≤ 9223372036854775807 then (if 0 ≤ (x8 / 16) then (if (x8 / 16) ≤ (((x8 / 16) + 1) % 256) then (if (((x8 / 16) + 1) % 256) ≤ 16 then (if x6.size + 4 + (((x8 / 16) + 1) % 256).toNat - (x8 / 16).toNat ≤ 9223372036854775807 then (if 0 ≤ (Go.bits .and .u8 x8 15) then (if (Go.bits .and .u8 x8 15) ≤ (((Go.bits .and .u8 x8 15) + 1) % 256) then (if (((Go.bits .and .u8 x8 15) + 1) % 256) ≤ 16 then (if x6.size + 4 + ((((x8 / 16) + 1) % 256).toNat - (x8 / 16).toNat) + (((Go.bits .and .u8 x8 15) + 1) % 256).toNat - (Go.bits .and .u8 x8 15).toNat ≤ 9223372036854775807 then (triviumref4_escaped.l0 k x0 (((x6 ++ (⟨#[92, 117, 48, 48]⟩ : ByteArray)) ++ ((⟨#[48, 49, 50, 51, 52, 53, 54, 55, 56, 57, 65, 66, 67, 68, 69, 70]⟩ : ByteArray).extract ((x8 / 16) : Int).toNat ((((x8 / 16) + 1) % 256) : Int).toNat)) ++ ((⟨#[48, 49, 50, 51, 52, 53, 54, 55, 56, 57, 65, 66, 67, 68, 69, 70]⟩ : ByteArray).extract ((Go.bits .and .u8 x8 15) : Int).toNat ((((Go.bits .and .u8 x8 15) + 1) % 256) : Int).toNat)) (wrap64 (x7 + 1))) else (none)) else (none)) else (none)) else (none)) else (none)) else (none)) else (none)) else (none)) else (none)) else (if x8 = 127 then (if x6.size + 4 ≤ 9223372036854775807 then (if 0 ≤ (x8 / 16) then (if (x8 / 16) ≤ (((x8 / 16) + 1) % 256) then (if (((x8 / 16) + 1) % 256) ≤ 16 then (if x6.size + 4 + (((x8 / 16) + 1) % 256).toNat - (x8 / 16).toNat ≤ 9223372036854775807 then (if 0 ≤ (Go.bits .and .u8 x8 15) then (if (Go.bits .and .u8 x8 15) ≤ (((Go.bits .and .u8 x8 15) + 1) % 256) then (if (((Go.bits .and .u8 x8 15) + 1) % 256) ≤ 16 then (if x6.size + 4 + ((((x8 / 16) + 1) % 256).toNat - (x8 / 16).toNat) + (((Go.bits .and .u8 x8 15) + 1) % 256).toNat - (Go.bits .and .u8 x8 15).toNat ≤ 9223372036854775807 then (triviumref4_escaped.l0 k x0 (((x6 ++ (⟨#[92, 117, 48, 48]⟩ : ByteArray)) ++ ((⟨#[48, 49, 50, 51, 52, 53, 54, 55, 56, 57, 65, 66, 67, 68, 69, 70]⟩ : ByteArray).extract ((x8 / 16) : Int).toNat ((((x8 / 16) + 1) % 256) : Int).toNat)) ++ ((⟨#[48, 49, 50, 51, 52, 53, 54, 55, 56, 57, 65, 66, 67, 68, 69, 70]⟩ : ByteArray).extract ((Go.bits .and .u8 x8 15) : Int).toNat ((((Go.bits .and .u8 x8 15) + 1) % 256) : Int).toNat)) (wrap64 (x7 + 1))) else (none)) else (none)) else (none)) else (none)) else (none)) else (none)) else (none)) else (none)) else (none)) else (if 0 ≤ x7 then (if x7 ≤ (wrap64 (x7 + 1)) then (if (wrap64 (x7 + 1)) ≤ (x0.size : Int) then (if x6.size + (wrap64 (x7 + 1)).toNat - x7.toNat ≤ 9223372036854775807 then (triviumref4_escaped.l0 k x0 (x6 ++ (x0.extract (x7 : Int).toNat ((wrap64 (x7 + 1)) : Int).toNat)) (wrap64 (x7 + 1))) else (none)) else (none)) else (none)) else (none))))
def triviumref4_escaped.l1 : Nat → ByteArray → ByteArray → Int → Int → Int → Option (ByteArray)
  | 0, _, _, _, _, _ => none
  | k + 1, x0, x6, x7, x8, x9 => if x9 < 7 then (if 0 ≤ x9 then (if (bt (⟨#[34, 92, 10, 13, 9, 8, 12]⟩ : ByteArray) x9) = x8 then (triviumref4_escaped.j2 k x0 x6 x7 x8 x9) else (triviumref4_escaped.l1 k x0 x6 x7 x8 (wrap64 (x9 + 1)))) else (none)) else (triviumref4_escaped.j2 k x0 x6 x7 x8 x9)
end
def triviumref4_escaped.f (k : Nat) (a0 : ByteArray) : Option (ByteArray) := triviumref4_escaped.l0 k a0 (⟨#[]⟩ : ByteArray) 0
theorem triviumref4_escaped.mono_l : ∀ k, (∀ y0 y1 y2, LeO (triviumref4_escaped.l0 k y0 y1 y2) (triviumref4_escaped.l0 (k + 1) y0 y1 y2)) ∧ (∀ y0 y1 y2 y3 y4, LeO (triviumref4_escaped.j2 k y0 y1 y2 y3 y4) (triviumref4_escaped.j2 (k + 1) y0 y1 y2 y3 y4)) ∧ (∀ y0 y1 y2 y3 y4, LeO (triviumref4_escaped.l1 k y0 y1 y2 y3 y4) (triviumref4_escaped.l1 (k + 1) y0 y1 y2 y3 y4))
  | 0 => ⟨fun _ _ _ r h => by simp [triviumref4_escaped.l0] at h, fun _ _ _ _ _ r h => by simp [triviumref4_escaped.j2] at h, fun _ _ _ _ _ r h => by simp [triviumref4_escaped.l1] at h⟩
  | k + 1 => by
    obtain ⟨ih0, ih1, ih2⟩ := triviumref4_escaped.mono_l k
    refine ⟨?_, ?_, ?_⟩
    · intro y0 y1 y2
      unfold triviumref4_escaped.l0
      repeat' first
      | (with_reducible exact ih0 _ _ _)
      | (with_reducible exact ih1 _ _ _ _ _)
      | (with_reducible exact ih2 _ _ _ _ _)
      | (with_reducible exact LeO.refl _)
      | (with_reducible exact LeO.none _)
      | (with_reducible refine LeO.ite ?_ ?_)
      | (with_reducible refine LeO.bind ?_ (fun _ => ?_))
      | exact ih0 _ _ _
      | exact ih1 _ _ _ _ _
      | exact ih2 _ _ _ _ _
      | exact LeO.none _
      | refine LeO.ite ?_ ?_
      | refine LeO.bind ?_ (fun _ => ?_)
    · intro y0 y1 y2 y3 y4
      unfold triviumref4_escaped.j2
      repeat' first
      | (with_reducible exact ih0 _ _ _)
      | (with_reducible exact ih1 _ _ _ _ _)
      | (with_reducible exact ih2 _ _ _ _ _)
      | (with_reducible exact LeO.refl _)
      | (with_reducible exact LeO.none _)
      | (with_reducible refine LeO.ite ?_ ?_)
      | (with_reducible refine LeO.bind ?_ (fun _ => ?_))
      | exact ih0 _ _ _
      | exact ih1 _ _ _ _ _
      | exact ih2 _ _ _ _ _
      | exact LeO.none _
      | refine LeO.ite ?_ ?_
      | refine LeO.bind ?_ (fun _ => ?_)
    · intro y0 y1 y2 y3 y4
      unfold triviumref4_escaped.l1
      repeat' first
      | (with_reducible exact ih0 _ _ _)
      | (with_reducible exact ih1 _ _ _ _ _)
      | (with_reducible exact ih2 _ _ _ _ _)
      | (with_reducible exact LeO.refl _)
      | (with_reducible exact LeO.none _)
      | (with_reducible refine LeO.ite ?_ ?_)
      | (with_reducible refine LeO.bind ?_ (fun _ => ?_))
      | exact ih0 _ _ _
      | exact ih1 _ _ _ _ _
      | exact ih2 _ _ _ _ _
      | exact LeO.none _
      | refine LeO.ite ?_ ?_
      | refine LeO.bind ?_ (fun _ => ?_)
theorem triviumref4_escaped.mono : ∀ a0 k, LeO (triviumref4_escaped.f k a0) (triviumref4_escaped.f (k + 1) a0) := by
  intro a0 k
  obtain ⟨ih0, ih1, ih2⟩ := triviumref4_escaped.mono_l k
  unfold triviumref4_escaped.f
  repeat' first
      | (with_reducible exact ih0 _ _ _)
      | (with_reducible exact ih1 _ _ _ _ _)
      | (with_reducible exact ih2 _ _ _ _ _)
      | (with_reducible exact LeO.refl _)
      | (with_reducible exact LeO.none _)
      | (with_reducible refine LeO.ite ?_ ?_)
      | (with_reducible refine LeO.bind ?_ (fun _ => ?_))
      | exact ih0 _ _ _
      | exact ih1 _ _ _ _ _
      | exact ih2 _ _ _ _ _
      | exact LeO.none _
      | refine LeO.ite ?_ ?_
      | refine LeO.bind ?_ (fun _ => ?_)
set_option maxHeartbeats 8000000 in
set_option maxRecDepth 100000 in
theorem triviumref4_escaped.calls (k : Nat) (a0 : ByteArray) (r : ByteArray) (w : World) (h : triviumref4_escaped.f k a0 = some r) :
    Calls Tryd.prog 88 #[.string a0] w fun e w' => e = .returned (.string r) ∧ Drawn0 w w' := by
  have H : (triviumref4_escaped.l0 k a0 (⟨#[]⟩ : ByteArray) 0) = some r := h
  clear h
  have H' := Aside0.mk H
  clear H
  go_enter Tryd.func88, Tryd.ntmps88
  go_wp2
  repeat (go_quiet (fail); try go_wp2)
  go_loopg [6, 7] k (fun kq v6 v7 w' => ∃ (x6_1 : ByteArray) (x7_1 : Int), v6 = .string x6_1 ∧ v7 = .int .i64 x7_1 ∧ Aside0 (triviumref4_escaped.l0 kq a0 x6_1 x7_1 = some r) ∧ Aside0 (kq ≤ k) ∧ Drawn0 w w')
  case atStart => exact ⟨((⟨#[]⟩ : ByteArray)), (0), (by first | rfl | (simp; done) | (simp [*]; done)), (by first | rfl | (simp; done) | (simp [*]; done)), H', ⟨Nat.le_refl _⟩, by repeat (first | exact Drawn0.refl _ | apply Drawn0.step)⟩
  case round =>
    clear H'
    obtain ⟨x6_1, x7_1, rfl, rfl, HA, HK1, ⟨m1, rfl⟩⟩ := hrel
    cases gk with
    | zero => exact absurd HA.out (by simp [triviumref4_escaped.l0])
    | succ k1 =>
      have H := HA.out
      clear HA
      simp only [triviumref4_escaped.l0] at H
      by_cases c2 : x7_1 < (a0.size : Int)
      · rw [if_pos c2] at H
        have c2b0 : decide (x7_1 < (a0.size : Int)) = true := decide_eq_true c2
        clear c2
        by_cases c3 : 0 ≤ x7_1
        · rw [if_pos c3] at H
          have c3b0 : decide (0 ≤ x7_1) = true := decide_eq_true c3
          clear c3
          have HC5 := Aside0.mk H
          clear H
          have p4 : 0 ≤ (x7_1 : Int) := of_decide_eq_true (by first | (with_reducible assumption) | assumption)
          have q4 : x7_1 < (a0.size : Int) := of_decide_eq_true (by first | (with_reducible assumption) | assumption)
          have hx4 := bt_at a0 x7_1
          replace p4 := eq_true p4
          replace q4 := eq_true q4
          go_upto_block 2 with (fail)
          repeat (go_quiet (fail); go_upto_block 2 with (fail))
          go_cut [9] (fun v9 wc => ∃ (kq : Nat) (x9_4 : Int), v9 = .int .i64 x9_4 ∧ Aside0 (triviumref4_escaped.j2 kq a0 x6_1 x7_1 (bt a0 x7_1) x9_4 = some r) ∧ Aside0 (kq ≤ k1) ∧ Drawn0 w wc)
          case first =>
            have H := HC5.out
            clear HC5
            have H' := Aside0.mk H
            clear H
            go_wp2
            repeat (go_quiet (fail); try go_wp2)
            go_loopg [9] k1 (fun kq v9 w' => ∃ (x9_2 : Int), v9 = .int .i64 x9_2 ∧ Aside0 (triviumref4_escaped.l1 kq a0 x6_1 x7_1 (bt a0 x7_1) x9_2 = some r) ∧ Aside0 (kq ≤ k1) ∧ Drawn0 w w')
            case atStart => exact ⟨(0), (by first | rfl | (simp; done) | (simp [*]; done)), H', ⟨Nat.le_refl _⟩, by repeat (first | exact Drawn0.refl _ | apply Drawn0.step)⟩
            case round =>
              clear H'
              try clear c2
              try clear c2b0
              try clear p2
              try clear c3
              try clear c3b0
              try clear p4
              try clear q4
              try clear hx4
              try clear p4
              try clear q4
              obtain ⟨x9_2, rfl, HA, HK2, ⟨m2, rfl⟩⟩ := hrel
              cases gk with
              | zero => exact absurd HA.out (by simp [triviumref4_escaped.l1])
              | succ k2 =>
                have H := HA.out
                clear HA
                simp only [triviumref4_escaped.l1] at H
                by_cases c6 : x9_2 < 7
                · rw [if_pos c6] at H
                  have c6b0 : decide (x9_2 < 7) = true := decide_eq_true c6
                  clear c6
                  (first | rw [c6b0] | (simp only [i64_w, i32_w]; rw [c6b0]) | skip)
                  by_cases c7 : 0 ≤ x9_2
                  · rw [if_pos c7] at H
                    have c7b0 : decide (0 ≤ x9_2) = true := decide_eq_true c7
                    clear c7
                    by_cases c9 : (bt (⟨#[34, 92, 10, 13, 9, 8, 12]⟩ : ByteArray) x9_2) = (bt a0 x7_1)
                    · rw [if_pos c9] at H
                      have c9b0 : ((bt (⟨#[34, 92, 10, 13, 9, 8, 12]⟩ : ByteArray) x9_2) == (bt a0 x7_1)) = true := beq_iff_eq.mpr c9
                      have c9b1 : ((bt (⟨#[34, 92, 10, 13, 9, 8, 12]⟩ : ByteArray) x9_2) != (bt a0 x7_1)) = false := bne_eq_false_iff_eq.mpr c9
                      clear c9
                      have H' := Aside0.mk H
                      clear H
                      have p8 : 0 ≤ (x9_2 : Int) := of_decide_eq_true (by first | (with_reducible assumption) | assumption)
                      have q8 : x9_2 < (7 : Int) := of_decide_eq_true (by first | (with_reducible assumption) | assumption)
                      have hx8 := bt_at (⟨#[34, 92, 10, 13, 9, 8, 12]⟩ : ByteArray) x9_2
                      replace p8 := eq_true p8
                      replace q8 := eq_true q8
                      go_wp2
                      repeat (go_quiet (fail); try go_wp2)
                      go_meet
                      case rel => exact ⟨_, (x9_2), (by first | rfl | (simp; done) | (simp [*]; done)), H', ⟨by have := HK1.out; have := HK2.out; first | omega | exact Nat.le_refl _⟩, by repeat (first | exact Drawn0.refl _ | apply Drawn0.step)⟩
                    · rw [if_neg c9] at H
                      have c9b0 : ((bt (⟨#[34, 92, 10, 13, 9, 8, 12]⟩ : ByteArray) x9_2) == (bt a0 x7_1)) = false := beq_eq_false_iff_ne.mpr c9
                      have c9b1 : ((bt (⟨#[34, 92, 10, 13, 9, 8, 12]⟩ : ByteArray) x9_2) != (bt a0 x7_1)) = true := bne_iff_ne.mpr c9
                      have H' := Aside0.mk H
                      clear H
                      have p8 : 0 ≤ (x9_2 : Int) := of_decide_eq_true (by first | (with_reducible assumption) | assumption)
                      have q8 : x9_2 < (7 : Int) := of_decide_eq_true (by first | (with_reducible assumption) | assumption)
                      have hx8 := bt_at (⟨#[34, 92, 10, 13, 9, 8, 12]⟩ : ByteArray) x9_2
                      replace p8 := eq_true p8
                      replace q8 := eq_true q8
                      go_wp2
                      repeat (go_quiet (fail); try go_wp2)
                      go_roundg k2
                      case measure => have := HK1.out; have := HK2.out; omega
                      case rel => exact ⟨(wrap64 (x9_2 + 1)), (by first | rfl | (simp; done) | (simp [*]; done)), H', ⟨by have := HK1.out; have := HK2.out; omega⟩, by repeat (first | exact Drawn0.refl _ | apply Drawn0.step)⟩
                  · rw [if_neg c7] at H
                    exact absurd H (by simp)
                · rw [if_neg c6] at H
                  have c6b0 : decide (x9_2 < 7) = false := decide_eq_false c6
                  clear c6
                  (first | rw [c6b0] | (simp only [i64_w, i32_w]; rw [c6b0]) | skip)
                  have H' := Aside0.mk H
                  clear H
                  go_wp2
                  repeat (go_quiet (fail); try go_wp2)
                  go_meet
                  case rel => exact ⟨_, (x9_2), (by first | rfl | (simp; done) | (simp [*]; done)), H', ⟨by have := HK1.out; have := HK2.out; first | omega | exact Nat.le_refl _⟩, by repeat (first | exact Drawn0.refl _ | apply Drawn0.step)⟩
          case rest =>
            clear HC5
            try clear c2
            try clear c2b0
            try clear p2
            try clear c3
            try clear c3b0
            try clear p4
            try clear q4
            try clear hx4
            try clear c6
            try clear c6b0
            try clear p6
            try clear c7
            try clear c7b0
            try clear c8
            try clear p8
            try clear q8
            try clear hx8
            try clear c9
            try clear c9b0
            try clear c9b1
            try clear p2
            try clear p4
            try clear p8
            try clear q4
            try clear q8
            obtain ⟨kq, x9_4, rfl, HA, HJ4, ⟨mc4, rfl⟩⟩ := hcut
            cases kq with
            | zero => exact absurd HA.out (by simp [triviumref4_escaped.j2])
            | succ kj4 =>
              have H := HA.out
              clear HA
              simp only [triviumref4_escaped.j2] at H
              by_cases c10 : x9_4 < 7
              · rw [if_pos c10] at H
                have c10b0 : decide (x9_4 < 7) = true := decide_eq_true c10
                clear c10
                by_cases c11 : x6_1.size + 1 ≤ 9223372036854775807
                · rw [if_pos c11] at H
                  have c11b0 := eq_true c11
                  have c11b1 : decide (x6_1.size + 1 ≤ 9223372036854775807) = true := decide_eq_true c11
                  try have c11b2 : (9223372036854775807 < x6_1.size + 1) = False := eq_false (Nat.not_lt.2 c11)
                  by_cases c12 : 0 ≤ x9_4
                  · rw [if_pos c12] at H
                    have c12b0 := eq_true c12
                    have c12b1 : decide (0 ≤ x9_4) = true := decide_eq_true c12
                    clear c12
                    by_cases c13 : x9_4 ≤ (wrap64 (x9_4 + 1))
                    · rw [if_pos c13] at H
                      have c13b0 := eq_true c13
                      have c13b1 : decide (x9_4 ≤ (wrap64 (x9_4 + 1))) = true := decide_eq_true c13
                      by_cases c14 : (wrap64 (x9_4 + 1)) ≤ 7
                      · rw [if_pos c14] at H
                        have c14b0 := eq_true c14
                        have c14b1 : decide ((wrap64 (x9_4 + 1)) ≤ 7) = true := decide_eq_true c14
                        by_cases c15 : x6_1.size + 1 + (wrap64 (x9_4 + 1)).toNat - x9_4.toNat ≤ 9223372036854775807
                        · rw [if_pos c15] at H
                          have c15b0 := eq_true c15
                          have c15b1 : decide (x6_1.size + 1 + (wrap64 (x9_4 + 1)).toNat - x9_4.toNat ≤ 9223372036854775807) = true := decide_eq_true c15
                          try have c15b2 : (9223372036854775807 < x6_1.size + 1 + (wrap64 (x9_4 + 1)).toNat - x9_4.toNat) = False := eq_false (Nat.not_lt.2 c15)
                          have H' := Aside0.mk H
                          clear H
                          go_wp2
                          repeat (go_quiet (fail); try go_wp2)
                          go_roundg kj4
                          case measure => have := HK1.out; have := HJ4.out; omega
                          case rel => exact ⟨((x6_1 ++ (⟨#[92]⟩ : ByteArray)) ++ ((⟨#[34, 92, 110, 114, 116, 98, 102]⟩ : ByteArray).extract (x9_4 : Int).toNat ((wrap64 (x9_4 + 1)) : Int).toNat)), (wrap64 (x7_1 + 1)), (by first | rfl | (simp; done) | (simp [*]; done)), (by first | rfl | (simp; done) | (simp [*]; done)), H', ⟨by have := HK1.out; have := HJ4.out; omega⟩, by repeat (first | exact Drawn0.refl _ | apply Drawn0.step)⟩
                        · rw [if_neg c15] at H
                          exact absurd H (by simp)
                      · rw [if_neg c14] at H
                        exact absurd H (by simp)
                    · rw [if_neg c13] at H
                      exact absurd H (by simp)
                  · rw [if_neg c12] at H
                    exact absurd H (by simp)
                · rw [if_neg c11] at H
                  exact absurd H (by simp)
              · rw [if_neg c10] at H
                have c10b0 : decide (x9_4 < 7) = false := decide_eq_false c10
                clear c10
                by_cases c16 : (bt a0 x7_1) < 32
                · rw [if_pos c16] at H
                  have c16b0 : decide ((bt a0 x7_1) < 32) = true := decide_eq_true c16
                  clear c16
                  by_cases c17 : x6_1.size + 4 ≤ 9223372036854775807
                  · rw [if_pos c17] at H
                    have c17b0 := eq_true c17
                    have c17b1 : decide (x6_1.size + 4 ≤ 9223372036854775807) = true := decide_eq_true c17
                    try have c17b2 : (9223372036854775807 < x6_1.size + 4) = False := eq_false (Nat.not_lt.2 c17)
                    obtain ⟨ji18, hji18⟩ : ∃ j_ : Int, ((bt a0 x7_1) / 16) = j_ := ⟨_, rfl⟩
                    replace H : (if 0 ≤ (ji18) then (if (ji18) ≤ (((ji18) + 1) % 256) then (if (((ji18) + 1) % 256) ≤ 16 then (if x6_1.size + 4 + (((ji18) + 1) % 256).toNat - (ji18).toNat ≤ 9223372036854775807 then (if 0 ≤ (Go.bits .and .u8 (bt a0 x7_1) 15) then (if (Go.bits .and .u8 (bt a0 x7_1) 15) ≤ (((Go.bits .and .u8 (bt a0 x7_1) 15) + 1) % 256) then (if (((Go.bits .and .u8 (bt a0 x7_1) 15) + 1) % 256) ≤ 16 then (if x6_1.size + 4 + ((((ji18) + 1) % 256).toNat - (ji18).toNat) + (((Go.bits .and .u8 (bt a0 x7_1) 15) + 1) % 256).toNat - (Go.bits .and .u8 (bt a0 x7_1) 15).toNat ≤ 9223372036854775807 then (triviumref4_escaped.l0 kj4 a0 (((x6_1 ++ (⟨#[92, 117, 48, 48]⟩ : ByteArray)) ++ ((⟨#[48, 49, 50, 51, 52, 53, 54, 55, 56, 57, 65, 66, 67, 68, 69, 70]⟩ : ByteArray).extract ((ji18) : Int).toNat ((((ji18) + 1) % 256) : Int).toNat)) ++ ((⟨#[48, 49, 50, 51, 52, 53, 54, 55, 56, 57, 65, 66, 67, 68, 69, 70]⟩ : ByteArray).extract ((Go.bits .and .u8 (bt a0 x7_1) 15) : Int).toNat ((((Go.bits .and .u8 (bt a0 x7_1) 15) + 1) % 256) : Int).toNat)) (wrap64 (x7_1 + 1))) else (none)) else (none)) else (none)) else (none)) else (none)) else (none)) else (none)) else (none)) = some r := by first | (rw [hji18] at H; exact H) | (simp only [hji18] at H ⊢; exact H)
                    by_cases c19 : 0 ≤ (ji18)
                    · rw [if_pos c19] at H
                      have c19b0 := eq_true c19
                      have c19b1 : decide (0 ≤ (ji18)) = true := decide_eq_true c19
                      clear c19
                      by_cases c20 : (ji18) ≤ (((ji18) + 1) % 256)
                      · rw [if_pos c20] at H
                        have c20b0 := eq_true c20
                        have c20b1 : decide ((ji18) ≤ (((ji18) + 1) % 256)) = true := decide_eq_true c20
                        by_cases c21 : (((ji18) + 1) % 256) ≤ 16
                        · rw [if_pos c21] at H
                          have c21b0 := eq_true c21
                          have c21b1 : decide ((((ji18) + 1) % 256) ≤ 16) = true := decide_eq_true c21
                          by_cases c22 : x6_1.size + 4 + (((ji18) + 1) % 256).toNat - (ji18).toNat ≤ 9223372036854775807
                          · rw [if_pos c22] at H
                            have c22b0 := eq_true c22
                            have c22b1 : decide (x6_1.size + 4 + (((ji18) + 1) % 256).toNat - (ji18).toNat ≤ 9223372036854775807) = true := decide_eq_true c22
                            try have c22b2 : (9223372036854775807 < x6_1.size + 4 + (((ji18) + 1) % 256).toNat - (ji18).toNat) = False := eq_false (Nat.not_lt.2 c22)
                            by_cases c23 : 0 ≤ (Go.bits .and .u8 (bt a0 x7_1) 15)
                            · rw [if_pos c23] at H
                              have c23b0 := eq_true c23
                              have c23b1 : decide (0 ≤ (Go.bits .and .u8 (bt a0 x7_1) 15)) = true := decide_eq_true c23
                              clear c23
                              by_cases c24 : (Go.bits .and .u8 (bt a0 x7_1) 15) ≤ (((Go.bits .and .u8 (bt a0 x7_1) 15) + 1) % 256)
                              · rw [if_pos c24] at H
                                have c24b0 := eq_true c24
                                have c24b1 : decide ((Go.bits .and .u8 (bt a0 x7_1) 15) ≤ (((Go.bits .and .u8 (bt a0 x7_1) 15) + 1) % 256)) = true := decide_eq_true c24
                                by_cases c25 : (((Go.bits .and .u8 (bt a0 x7_1) 15) + 1) % 256) ≤ 16
                                · rw [if_pos c25] at H
                                  have c25b0 := eq_true c25
                                  have c25b1 : decide ((((Go.bits .and .u8 (bt a0 x7_1) 15) + 1) % 256) ≤ 16) = true := decide_eq_true c25
                                  by_cases c26 : x6_1.size + 4 + ((((ji18) + 1) % 256).toNat - (ji18).toNat) + (((Go.bits .and .u8 (bt a0 x7_1) 15) + 1) % 256).toNat - (Go.bits .and .u8 (bt a0 x7_1) 15).toNat ≤ 9223372036854775807
                                  · rw [if_pos c26] at H
                                    have c26b0 := eq_true c26
                                    have c26b1 : decide (x6_1.size + 4 + ((((ji18) + 1) % 256).toNat - (ji18).toNat) + (((Go.bits .and .u8 (bt a0 x7_1) 15) + 1) % 256).toNat - (Go.bits .and .u8 (bt a0 x7_1) 15).toNat ≤ 9223372036854775807) = true := decide_eq_true c26
                                    try have c26b2 : (9223372036854775807 < x6_1.size + 4 + ((((ji18) + 1) % 256).toNat - (ji18).toNat) + (((Go.bits .and .u8 (bt a0 x7_1) 15) + 1) % 256).toNat - (Go.bits .and .u8 (bt a0 x7_1) 15).toNat) = False := eq_false (Nat.not_lt.2 c26)
                                    have H' := Aside0.mk H
                                    clear H
                                    go_wp2
                                    repeat (go_quiet (fail); try go_wp2)
                                    go_roundg kj4
                                    case measure => have := HK1.out; have := HJ4.out; omega
                                    case rel => exact ⟨(((x6_1 ++ (⟨#[92, 117, 48, 48]⟩ : ByteArray)) ++ ((⟨#[48, 49, 50, 51, 52, 53, 54, 55, 56, 57, 65, 66, 67, 68, 69, 70]⟩ : ByteArray).extract ((ji18) : Int).toNat ((((ji18) + 1) % 256) : Int).toNat)) ++ ((⟨#[48, 49, 50, 51, 52, 53, 54, 55, 56, 57, 65, 66, 67, 68, 69, 70]⟩ : ByteArray).extract ((Go.bits .and .u8 (bt a0 x7_1) 15) : Int).toNat ((((Go.bits .and .u8 (bt a0 x7_1) 15) + 1) % 256) : Int).toNat)), (wrap64 (x7_1 + 1)), (by first | rfl | (simp; done) | (simp only [← hji18] <;> (first | rfl | simp)) | (simp [*]; done)), (by first | rfl | (simp; done) | (simp [*]; done)), H', ⟨by have := HK1.out; have := HJ4.out; omega⟩, by repeat (first | exact Drawn0.refl _ | apply Drawn0.step)⟩
                                  · rw [if_neg c26] at H
                                    exact absurd H (by simp)
                                · rw [if_neg c25] at H
                                  exact absurd H (by simp)
                              · rw [if_neg c24] at H
                                exact absurd H (by simp)
                            · rw [if_neg c23] at H
                              exact absurd H (by simp)
                          · rw [if_neg c22] at H
                            exact absurd H (by simp)
                        · rw [if_neg c21] at H
                          exact absurd H (by simp)
                      · rw [if_neg c20] at H
                        exact absurd H (by simp)
                    · rw [if_neg c19] at H
                      exact absurd H (by simp)
                  · rw [if_neg c17] at H
                    exact absurd H (by simp)
                · rw [if_neg c16] at H
                  have c16b0 : decide ((bt a0 x7_1) < 32) = false := decide_eq_false c16
                  clear c16
                  by_cases c27 : (bt a0 x7_1) = 127
                  · rw [if_pos c27] at H
                    have c27b0 : ((bt a0 x7_1) == 127) = true := beq_iff_eq.mpr c27
                    have c27b1 : ((bt a0 x7_1) != 127) = false := bne_eq_false_iff_eq.mpr c27
                    clear c27
                    by_cases c28 : x6_1.size + 4 ≤ 9223372036854775807
                    · rw [if_pos c28] at H
                      have c28b0 := eq_true c28
                      have c28b1 : decide (x6_1.size + 4 ≤ 9223372036854775807) = true := decide_eq_true c28
                      try have c28b2 : (9223372036854775807 < x6_1.size + 4) = False := eq_false (Nat.not_lt.2 c28)
                      obtain ⟨ji29, hji29⟩ : ∃ j_ : Int, ((bt a0 x7_1) / 16) = j_ := ⟨_, rfl⟩
                      replace H : (if 0 ≤ (ji29) then (if (ji29) ≤ (((ji29) + 1) % 256) then (if (((ji29) + 1) % 256) ≤ 16 then (if x6_1.size + 4 + (((ji29) + 1) % 256).toNat - (ji29).toNat ≤ 9223372036854775807 then (if 0 ≤ (Go.bits .and .u8 (bt a0 x7_1) 15) then (if (Go.bits .and .u8 (bt a0 x7_1) 15) ≤ (((Go.bits .and .u8 (bt a0 x7_1) 15) + 1) % 256) then (if (((Go.bits .and .u8 (bt a0 x7_1) 15) + 1) % 256) ≤ 16 then (if x6_1.size + 4 + ((((ji29) + 1) % 256).toNat - (ji29).toNat) + (((Go.bits .and .u8 (bt a0 x7_1) 15) + 1) % 256).toNat - (Go.bits .and .u8 (bt a0 x7_1) 15).toNat ≤ 9223372036854775807 then (triviumref4_escaped.l0 kj4 a0 (((x6_1 ++ (⟨#[92, 117, 48, 48]⟩ : ByteArray)) ++ ((⟨#[48, 49, 50, 51, 52, 53, 54, 55, 56, 57, 65, 66, 67, 68, 69, 70]⟩ : ByteArray).extract ((ji29) : Int).toNat ((((ji29) + 1) % 256) : Int).toNat)) ++ ((⟨#[48, 49, 50, 51, 52, 53, 54, 55, 56, 57, 65, 66, 67, 68, 69, 70]⟩ : ByteArray).extract ((Go.bits .and .u8 (bt a0 x7_1) 15) : Int).toNat ((((Go.bits .and .u8 (bt a0 x7_1) 15) + 1) % 256) : Int).toNat)) (wrap64 (x7_1 + 1))) else (none)) else (none)) else (none)) else (none)) else (none)) else (none)) else (none)) else (none)) = some r := by first | (rw [hji29] at H; exact H) | (simp only [hji29] at H ⊢; exact H)
                      by_cases c30 : 0 ≤ (ji29)
                      · rw [if_pos c30] at H
                        have c30b0 := eq_true c30
                        have c30b1 : decide (0 ≤ (ji29)) = true := decide_eq_true c30
                        clear c30
                        by_cases c31 : (ji29) ≤ (((ji29) + 1) % 256)
                        · rw [if_pos c31] at H
                          have c31b0 := eq_true c31
                          have c31b1 : decide ((ji29) ≤ (((ji29) + 1) % 256)) = true := decide_eq_true c31
                          by_cases c32 : (((ji29) + 1) % 256) ≤ 16
                          · rw [if_pos c32] at H
                            have c32b0 := eq_true c32
                            have c32b1 : decide ((((ji29) + 1) % 256) ≤ 16) = true := decide_eq_true c32
                            by_cases c33 : x6_1.size + 4 + (((ji29) + 1) % 256).toNat - (ji29).toNat ≤ 9223372036854775807
                            · rw [if_pos c33] at H
                              have c33b0 := eq_true c33
                              have c33b1 : decide (x6_1.size + 4 + (((ji29) + 1) % 256).toNat - (ji29).toNat ≤ 9223372036854775807) = true := decide_eq_true c33
                              try have c33b2 : (9223372036854775807 < x6_1.size + 4 + (((ji29) + 1) % 256).toNat - (ji29).toNat) = False := eq_false (Nat.not_lt.2 c33)
                              by_cases c34 : 0 ≤ (Go.bits .and .u8 (bt a0 x7_1) 15)
                              · rw [if_pos c34] at H
                                have c34b0 := eq_true c34
                                have c34b1 : decide (0 ≤ (Go.bits .and .u8 (bt a0 x7_1) 15)) = true := decide_eq_true c34
                                clear c34
                                by_cases c35 : (Go.bits .and .u8 (bt a0 x7_1) 15) ≤ (((Go.bits .and .u8 (bt a0 x7_1) 15) + 1) % 256)
                                · rw [if_pos c35] at H
                                  have c35b0 := eq_true c35
                                  have c35b1 : decide ((Go.bits .and .u8 (bt a0 x7_1) 15) ≤ (((Go.bits .and .u8 (bt a0 x7_1) 15) + 1) % 256)) = true := decide_eq_true c35
                                  by_cases c36 : (((Go.bits .and .u8 (bt a0 x7_1) 15) + 1) % 256) ≤ 16
                                  · rw [if_pos c36] at H
                                    have c36b0 := eq_true c36
                                    have c36b1 : decide ((((Go.bits .and .u8 (bt a0 x7_1) 15) + 1) % 256) ≤ 16) = true := decide_eq_true c36
                                    by_cases c37 : x6_1.size + 4 + ((((ji29) + 1) % 256).toNat - (ji29).toNat) + (((Go.bits .and .u8 (bt a0 x7_1) 15) + 1) % 256).toNat - (Go.bits .and .u8 (bt a0 x7_1) 15).toNat ≤ 9223372036854775807
                                    · rw [if_pos c37] at H
                                      have c37b0 := eq_true c37
                                      have c37b1 : decide (x6_1.size + 4 + ((((ji29) + 1) % 256).toNat - (ji29).toNat) + (((Go.bits .and .u8 (bt a0 x7_1) 15) + 1) % 256).toNat - (Go.bits .and .u8 (bt a0 x7_1) 15).toNat ≤ 9223372036854775807) = true := decide_eq_true c37
                                      try have c37b2 : (9223372036854775807 < x6_1.size + 4 + ((((ji29) + 1) % 256).toNat - (ji29).toNat) + (((Go.bits .and .u8 (bt a0 x7_1) 15) + 1) % 256).toNat - (Go.bits .and .u8 (bt a0 x7_1) 15).toNat) = False := eq_false (Nat.not_lt.2 c37)
                                      have H' := Aside0.mk H
                                      clear H
                                      go_wp2
                                      repeat (go_quiet (fail); try go_wp2)
                                      go_roundg kj4
                                      case measure => have := HK1.out; have := HJ4.out; omega
                                      case rel => exact ⟨(((x6_1 ++ (⟨#[92, 117, 48, 48]⟩ : ByteArray)) ++ ((⟨#[48, 49, 50, 51, 52, 53, 54, 55, 56, 57, 65, 66, 67, 68, 69, 70]⟩ : ByteArray).extract ((ji29) : Int).toNat ((((ji29) + 1) % 256) : Int).toNat)) ++ ((⟨#[48, 49, 50, 51, 52, 53, 54, 55, 56, 57, 65, 66, 67, 68, 69, 70]⟩ : ByteArray).extract ((Go.bits .and .u8 (bt a0 x7_1) 15) : Int).toNat ((((Go.bits .and .u8 (bt a0 x7_1) 15) + 1) % 256) : Int).toNat)), (wrap64 (x7_1 + 1)), (by first | rfl | (simp; done) | (simp only [← hji29] <;> (first | rfl | simp)) | (simp [*]; done)), (by first | rfl | (simp; done) | (simp [*]; done)), H', ⟨by have := HK1.out; have := HJ4.out; omega⟩, by repeat (first | exact Drawn0.refl _ | apply Drawn0.step)⟩
                                    · rw [if_neg c37] at H
                                      exact absurd H (by simp)
                                  · rw [if_neg c36] at H
                                    exact absurd H (by simp)
                                · rw [if_neg c35] at H
                                  exact absurd H (by simp)
                              · rw [if_neg c34] at H
                                exact absurd H (by simp)
                            · rw [if_neg c33] at H
                              exact absurd H (by simp)
                          · rw [if_neg c32] at H
                            exact absurd H (by simp)
                        · rw [if_neg c31] at H
                          exact absurd H (by simp)
                      · rw [if_neg c30] at H
                        exact absurd H (by simp)
                    · rw [if_neg c28] at H
                      exact absurd H (by simp)
                  · rw [if_neg c27] at H
                    have c27b0 : ((bt a0 x7_1) == 127) = false := beq_eq_false_iff_ne.mpr c27
                    have c27b1 : ((bt a0 x7_1) != 127) = true := bne_iff_ne.mpr c27
                    by_cases c38 : 0 ≤ x7_1
                    · rw [if_pos c38] at H
                      have c38b0 := eq_true c38
                      have c38b1 : decide (0 ≤ x7_1) = true := decide_eq_true c38
                      clear c38
                      by_cases c39 : x7_1 ≤ (wrap64 (x7_1 + 1))
                      · rw [if_pos c39] at H
                        have c39b0 := eq_true c39
                        have c39b1 : decide (x7_1 ≤ (wrap64 (x7_1 + 1))) = true := decide_eq_true c39
                        by_cases c40 : (wrap64 (x7_1 + 1)) ≤ (a0.size : Int)
                        · rw [if_pos c40] at H
                          have c40b0 := eq_true c40
                          have c40b1 : decide ((wrap64 (x7_1 + 1)) ≤ (a0.size : Int)) = true := decide_eq_true c40
                          by_cases c41 : x6_1.size + (wrap64 (x7_1 + 1)).toNat - x7_1.toNat ≤ 9223372036854775807
                          · rw [if_pos c41] at H
                            have c41b0 := eq_true c41
                            have c41b1 : decide (x6_1.size + (wrap64 (x7_1 + 1)).toNat - x7_1.toNat ≤ 9223372036854775807) = true := decide_eq_true c41
                            try have c41b2 : (9223372036854775807 < x6_1.size + (wrap64 (x7_1 + 1)).toNat - x7_1.toNat) = False := eq_false (Nat.not_lt.2 c41)
                            have H' := Aside0.mk H
                            clear H
                            go_wp2
                            repeat (go_quiet (fail); try go_wp2)
                            go_roundg kj4
                            case measure => have := HK1.out; have := HJ4.out; omega
                            case rel => exact ⟨(x6_1 ++ (a0.extract (x7_1 : Int).toNat ((wrap64 (x7_1 + 1)) : Int).toNat)), (wrap64 (x7_1 + 1)), (by first | rfl | (simp; done) | (simp [*]; done)), (by first | rfl | (simp; done) | (simp [*]; done)), H', ⟨by have := HK1.out; have := HJ4.out; omega⟩, by repeat (first | exact Drawn0.refl _ | apply Drawn0.step)⟩
                          · rw [if_neg c41] at H
                            exact absurd H (by simp)
                        · rw [if_neg c40] at H
                          exact absurd H (by simp)
                      · rw [if_neg c39] at H
                        exact absurd H (by simp)
                    · rw [if_neg c38] at H
                      exact absurd H (by simp)
        · rw [if_neg c3] at H
          exact absurd H (by simp)
      · rw [if_neg c2] at H
        have c2b0 : decide (x7_1 < (a0.size : Int)) = false := decide_eq_false c2
        clear c2
        obtain rfl := Option.some.inj H
        go_wp2
        repeat (go_quiet (fail); try go_wp2)
        go_ret
        exact ⟨by first | rfl | (simp; done) | (simp [*]; done), by repeat (first | exact Drawn0.refl _ | apply Drawn0.step)⟩

end Go.Proofs.YtbpbfboaofkpaaaDoor.Print
