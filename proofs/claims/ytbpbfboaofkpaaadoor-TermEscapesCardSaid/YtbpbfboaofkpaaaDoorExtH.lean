/- triviumref5.escape. -/
import Derived.Test.YtbpbfboaofkpaaaDoorExtG
import Derived.Test.YtbpbfboaofkpaaaDoorFtriviumref5hex
import Derived.Laws.Cover4
set_option linter.unusedVariables false
set_option linter.unusedSimpArgs false
namespace Go.Proofs.YtbpbfboaofkpaaaDoor.Print
open Go.RowKit Go.Shelf Go.Lib Go.Proofs.YtbpbfboaofkpaaaDoorW.PrintWords Go.Proofs.YtbpbfboaofkpaaaDoorW.PrintLast Go.Proofs.YtbpbfboaofkpaaaDoorW.PrintMore

def escTab : List (Int × UInt8) := [(34, 34), (92, 92), (110, 10), (114, 13), (116, 9), (98, 8), (102, 12), (39, 39)]
def escGo : List (Int × UInt8) → Int → ByteArray × Int
  | [], _ => (⟨#[]⟩, 0)
  | (a, b) :: l, c => if c = a then (⟨#[b]⟩, 1) else escGo l c
def escHex (a0 : ByteArray) (n : Int) : Option (ByteArray × Int) :=
  (triviumref5_hex.f 40 (a0.extract 1 a0.size) n).bind fun x => if x < 0 then some (⟨#[]⟩, 0) else some (runesBytes [x], 1 + n)
def triviumref5_escape.f (a0 : ByteArray) (a1 : Bool) : Option (ByteArray × Int) :=
  if a0.size = 0 then some (⟨#[]⟩, 0)
  else if a0.size ≤ 9223372036854775807 then
    if bt a0 0 = 117 then escHex a0 4 else if bt a0 0 = 85 then escHex a0 8
    else if a1 = true then some (escGo escTab (bt a0 0)) else some (⟨#[]⟩, 0)
  else none

theorem escFrom0 : (((⟨#[34, 92, 110, 114, 116, 98, 102, 39]⟩ : ByteArray)[0]'(by decide)).toNat : Int) = 34 := rfl
theorem escFrom1 : (((⟨#[34, 92, 110, 114, 116, 98, 102, 39]⟩ : ByteArray)[1]'(by decide)).toNat : Int) = 92 := rfl
theorem escFrom2 : (((⟨#[34, 92, 110, 114, 116, 98, 102, 39]⟩ : ByteArray)[2]'(by decide)).toNat : Int) = 110 := rfl
theorem escFrom3 : (((⟨#[34, 92, 110, 114, 116, 98, 102, 39]⟩ : ByteArray)[3]'(by decide)).toNat : Int) = 114 := rfl
theorem escFrom4 : (((⟨#[34, 92, 110, 114, 116, 98, 102, 39]⟩ : ByteArray)[4]'(by decide)).toNat : Int) = 116 := rfl
theorem escFrom5 : (((⟨#[34, 92, 110, 114, 116, 98, 102, 39]⟩ : ByteArray)[5]'(by decide)).toNat : Int) = 98 := rfl
theorem escFrom6 : (((⟨#[34, 92, 110, 114, 116, 98, 102, 39]⟩ : ByteArray)[6]'(by decide)).toNat : Int) = 102 := rfl
theorem escFrom7 : (((⟨#[34, 92, 110, 114, 116, 98, 102, 39]⟩ : ByteArray)[7]'(by decide)).toNat : Int) = 39 := rfl
theorem escTo0 : (⟨#[34, 92, 10, 13, 9, 8, 12, 39]⟩ : ByteArray).extract 0 1 = ⟨#[34]⟩ := by apply ByteArray.ext; rfl
theorem escTo1 : (⟨#[34, 92, 10, 13, 9, 8, 12, 39]⟩ : ByteArray).extract 1 2 = ⟨#[92]⟩ := by apply ByteArray.ext; rfl
theorem escTo2 : (⟨#[34, 92, 10, 13, 9, 8, 12, 39]⟩ : ByteArray).extract 2 3 = ⟨#[10]⟩ := by apply ByteArray.ext; rfl
theorem escTo3 : (⟨#[34, 92, 10, 13, 9, 8, 12, 39]⟩ : ByteArray).extract 3 4 = ⟨#[13]⟩ := by apply ByteArray.ext; rfl
theorem escTo4 : (⟨#[34, 92, 10, 13, 9, 8, 12, 39]⟩ : ByteArray).extract 4 5 = ⟨#[9]⟩ := by apply ByteArray.ext; rfl
theorem escTo5 : (⟨#[34, 92, 10, 13, 9, 8, 12, 39]⟩ : ByteArray).extract 5 6 = ⟨#[8]⟩ := by apply ByteArray.ext; rfl
theorem escTo6 : (⟨#[34, 92, 10, 13, 9, 8, 12, 39]⟩ : ByteArray).extract 6 7 = ⟨#[12]⟩ := by apply ByteArray.ext; rfl
theorem escTo7 : (⟨#[34, 92, 10, 13, 9, 8, 12, 39]⟩ : ByteArray).extract 7 8 = ⟨#[39]⟩ := by apply ByteArray.ext; rfl

set_option maxRecDepth 100000 in
set_option maxHeartbeats 2000000 in
theorem escape_lit (a0 : ByteArray) (w : World) (h0 : 0 < a0.size) (n1 : bt a0 0 ≠ 117) (n2 : bt a0 0 ≠ 85) (hz : a0.size ≤ 9223372036854775807) :
    Calls Tryd.prog 109 #[.string a0, .bool true] w fun e w' => e = .returned (.tuple #[.string (escGo escTab (bt a0 0)).1, .int .i64 (escGo escTab (bt a0 0)).2]) ∧ Below w.heap.size w w' := by
  have hx : ((a0[0]'h0).toNat : Int) = bt a0 0 := bt_at a0 0 h0
  obtain ⟨c, hc⟩ : ∃ c, bt a0 0 = c := ⟨_, rfl⟩
  rw [hc] at hx n1 n2 ⊢
  have g1 : (c == 117) = false := beq_eq_false_iff_ne.mpr n1
  have g2 : (c == 85) = false := beq_eq_false_iff_ne.mpr n2
  have hn : (a0.toList == []) = false := by
    rw [Lib.toList_data, beq_eq_false_iff_ne]; intro e
    have := data_len a0; rw [e] at this; simp at this; omega
  have q0 : (0 : Int) < (a0.size : Int) := by omega
  obtain ⟨R, hR⟩ : ∃ R, escGo escTab c = R := ⟨_, rfl⟩
  rw [hR]
  have HR := Lib.hid hR
  clear n1 n2 hc hR
  go_enter Tryd.func109, Tryd.ntmps109
  go_wp2
  repeat (go_quiet (fail); try go_wp2)
  have f0 := escFrom0
  have f1 := escFrom1
  have f2 := escFrom2
  have f3 := escFrom3
  have f4 := escFrom4
  have f5 := escFrom5
  have f6 := escFrom6
  have f7 := escFrom7
  have bel0 := Below.refl w.heap.size w
  go_loopw [10] (fun i wr => ∃ k : Nat, k ≤ 8 ∧ i = .int .i64 k ∧ escGo (escTab.drop k) c = R ∧ Below w.heap.size w wr) (fun i _ => 8 - (intOf i).toNat)
  case atStart => exact ⟨0, by omega, rfl, HR.out, by first | exact Below.refl _ _ | exact ⟨rfl, rfl, rfl, Nat.le_refl _, fun _ _ => rfl⟩⟩
  case round =>
    obtain ⟨k, hk, rfl, hg, hb⟩ := hrel
    have HB := Lib.hid hb
    clear hb
    rcases (by omega : k = 8 ∨ k = 0 ∨ k = 1 ∨ k = 2 ∨ k = 3 ∨ k = 4 ∨ k = 5 ∨ k = 6 ∨ k = 7) with rfl | rfl | rfl | rfl | rfl | rfl | rfl | rfl | rfl
    · have HG := Lib.hid hg
      clear hg
      go_wp2
      go_ret2
      exact ⟨by rw [← HG.out]; rfl, HB.out⟩
    all_goals
      simp only [escTab, List.drop, escGo] at hg
      split at hg
      · next hc =>
        have g3 := beq_iff_eq.mpr hc
        have HG := Lib.hid hg
        clear hg hc HR
        go_wp2
        repeat (go_quiet (fail); try go_wp2)
        go_ret2
        exact ⟨by rw [← HG.out]; simp [escTo0, escTo1, escTo2, escTo3, escTo4, escTo5, escTo6, escTo7], HB.out.trans (by first | exact Below.refl _ _ | exact ⟨rfl, rfl, rfl, Nat.le_refl _, fun _ _ => rfl⟩)⟩
      · next hc =>
        have g3 := beq_eq_false_iff_ne.mpr hc
        have HG := Lib.hid hg
        clear hg hc
        go_wp2
        repeat (go_quiet (fail); try go_wp2)
        go_roundw
        case rel =>
          first
            | exact ⟨1, by decide, rfl, by simp only [escTab, List.drop, escGo]; exact HG.out, by first | exact HB.out | exact xbelow_drewN HB.out _⟩
            | exact ⟨2, by decide, rfl, by simp only [escTab, List.drop, escGo]; exact HG.out, by first | exact HB.out | exact xbelow_drewN HB.out _⟩
            | exact ⟨3, by decide, rfl, by simp only [escTab, List.drop, escGo]; exact HG.out, by first | exact HB.out | exact xbelow_drewN HB.out _⟩
            | exact ⟨4, by decide, rfl, by simp only [escTab, List.drop, escGo]; exact HG.out, by first | exact HB.out | exact xbelow_drewN HB.out _⟩
            | exact ⟨5, by decide, rfl, by simp only [escTab, List.drop, escGo]; exact HG.out, by first | exact HB.out | exact xbelow_drewN HB.out _⟩
            | exact ⟨6, by decide, rfl, by simp only [escTab, List.drop, escGo]; exact HG.out, by first | exact HB.out | exact xbelow_drewN HB.out _⟩
            | exact ⟨7, by decide, rfl, by simp only [escTab, List.drop, escGo]; exact HG.out, by first | exact HB.out | exact xbelow_drewN HB.out _⟩
            | exact ⟨8, by decide, rfl, by simp only [escTab, List.drop, escGo]; exact HG.out, by first | exact HB.out | exact xbelow_drewN HB.out _⟩
        case measure => simp [intOf]

set_option maxRecDepth 100000 in
theorem escape_none (a0 : ByteArray) (w : World) (h0 : 0 < a0.size) (n1 : bt a0 0 ≠ 117) (n2 : bt a0 0 ≠ 85) (hz : a0.size ≤ 9223372036854775807) :
    Calls Tryd.prog 109 #[.string a0, .bool false] w fun e w' => e = .returned (.tuple #[.string ⟨#[]⟩, .int .i64 0]) ∧ Below w.heap.size w w' := by
  have hx : ((a0[0]'h0).toNat : Int) = bt a0 0 := bt_at a0 0 h0
  obtain ⟨c, hc⟩ : ∃ c, bt a0 0 = c := ⟨_, rfl⟩
  rw [hc] at hx n1 n2
  have g1 : (c == 117) = false := beq_eq_false_iff_ne.mpr n1
  have g2 : (c == 85) = false := beq_eq_false_iff_ne.mpr n2
  have hn : (a0.toList == []) = false := by
    rw [Lib.toList_data, beq_eq_false_iff_ne]; intro e
    have := data_len a0; rw [e] at this; simp at this; omega
  have q0 : (0 : Int) < (a0.size : Int) := by omega
  have bel0 := Below.refl w.heap.size w
  clear n1 n2 hc
  go_enter Tryd.func109, Tryd.ntmps109
  go_wp2
  repeat (go_quiet (fail); try go_wp2)
  go_loopw [10] (fun i wr => i = .int .i64 0 ∧ Below w.heap.size w wr) (fun i _ => 0)
  case atStart => exact ⟨rfl, by first | exact bel0 | exact xbelow_drewN bel0 _⟩
  case round =>
    obtain ⟨rfl, hb⟩ := hrel
    go_wp2
    repeat (go_quiet (fail); try go_wp2)
    go_ret2
    exact ⟨rfl, by first | exact hb | exact xbelow_drewN hb _⟩
theorem escape_empty (a0 : ByteArray) (b : Bool) (w : World) (h0 : a0.size = 0) :
    Calls Tryd.prog 109 #[.string a0, .bool b] w fun e w' => e = .returned (.tuple #[.string ⟨#[]⟩, .int .i64 0]) ∧ Below w.heap.size w w' := by
  have hn : (a0.toList == []) = true := by
    rw [Lib.toList_data, beq_iff_eq]
    have := data_len a0; rw [h0] at this; exact List.length_eq_zero_iff.1 this
  have bel0 := Below.refl w.heap.size w
  go_enter Tryd.func109, Tryd.ntmps109
  go_wp2
  go_ret2
  exact ⟨rfl, bel0⟩
theorem rune_text (w : World) (x : Int) (m : Nat) :
    (convert 113 9 (.slice (some ⟨w.heap.size, 0, none⟩) 1 1)).run Tryd.prog ((w.drewN m).alloc (Obj.cells #[.int .i32 x] 21)) = .ok (.string (runesBytes [x])) ((w.drewN m).alloc (Obj.cells #[.int .i32 x] 21)) := by
  refine run_convert_runes _ _ _ 21 ⟨w.heap.size, 0, none⟩ 1 1 [x] (by simp) Tryd.underlying113 Tryd.underlying21 Tryd.underlying9 ?_
  intro j hj
  have hj0 : j = 0 := by simp at hj; omega
  subst hj0
  have hh : ((w.drewN m).alloc (Obj.cells #[Value.int .i32 x] 21)).heap[w.heap.size]? = some (.cells #[.int .i32 x] 21) := heap_alloc_new (w.drewN m) _
  show World.cell? _ ⟨w.heap.size, 0, none⟩ = some (.int .i32 x)
  unfold World.cell?
  rw [hh]
  rfl
set_option maxRecDepth 100000 in
theorem escape_hex (a0 : ByteArray) (b : Bool) (n : Int) (hn4 : (n = 4 ∧ bt a0 0 = 117) ∨ (n = 8 ∧ bt a0 0 = 85)) (x : Int) (w : World) (h0 : 0 < a0.size) (hz : a0.size ≤ 9223372036854775807) (hh : triviumref5_hex.f 40 (a0.extract 1 a0.size) n = some x) (R : ByteArray × Int) (hR : (if x < 0 then (⟨#[]⟩, 0) else (runesBytes [x], 1 + n) : ByteArray × Int) = R) :
    Calls Tryd.prog 109 #[.string a0, .bool b] w fun e w' => e = .returned (.tuple #[.string R.1, .int .i64 R.2]) ∧ Below w.heap.size w w' := by
  have hx : ((a0[0]'h0).toNat : Int) = bt a0 0 := bt_at a0 0 h0
  have hn : (a0.toList == []) = false := by
    rw [Lib.toList_data, beq_eq_false_iff_ne]; intro e
    have := data_len a0; rw [e] at this; simp at this; omega
  have q0 : (0 : Int) < (a0.size : Int) := by omega
  have q1 : (1 : Int) ≤ (a0.size : Int) := by omega
  have bel0 := Below.refl w.heap.size w
  have hcall := fun W => triviumref5_hex.calls 40 (a0.extract 1 a0.size) n x W hh
  have HC := Lib.hid hcall
  clear hcall hh
  rcases hn4 with ⟨rfl, e1⟩ | ⟨rfl, e1⟩
  · rw [e1] at hx
    clear e1
    have HR := Lib.hid hR
    clear hR
    have HX := Lib.hid hx
    by_cases hneg : x < 0
    · have d1 : decide (x < 0) = true := decide_eq_true hneg
      have HD := Lib.hid hneg
      clear hneg
      go_enter Tryd.func109, Tryd.ntmps109
      go_wp2_with (go_at_call 121; refine (HC.out _).mono ?_; rintro e w2 ⟨rfl, ⟨m, rfl⟩⟩)
      go_ret2
      exact ⟨by rw [← HR.out, if_pos HD.out]; rfl, xbelow_drewN bel0 _⟩
    · have d1 : decide (x < 0) = false := decide_eq_false hneg
      have HD := Lib.hid hneg
      have KB := Lib.hid (rune_text w x)
      clear hneg
      go_enter Tryd.func109, Tryd.ntmps109
      go_wp2_with (go_at_call 121; refine (HC.out _).mono ?_; rintro e w2 ⟨rfl, ⟨m, rfl⟩⟩; have kb := KB.out m)
      go_ret2
      exact ⟨by rw [← HR.out, if_neg (show ¬ x < 0 by have := HD.out; omega)]; rfl, (xbelow_drewN bel0 m).alloc (Nat.le_refl _) _⟩
  · rw [e1] at hx
    clear e1
    have HR := Lib.hid hR
    clear hR
    have HX := Lib.hid hx
    by_cases hneg : x < 0
    · have d1 : decide (x < 0) = true := decide_eq_true hneg
      have HD := Lib.hid hneg
      clear hneg
      go_enter Tryd.func109, Tryd.ntmps109
      go_wp2_with (go_at_call 121; refine (HC.out _).mono ?_; rintro e w2 ⟨rfl, ⟨m, rfl⟩⟩)
      go_ret2
      exact ⟨by rw [← HR.out, if_pos HD.out]; rfl, xbelow_drewN bel0 _⟩
    · have d1 : decide (x < 0) = false := decide_eq_false hneg
      have HD := Lib.hid hneg
      have KB := Lib.hid (rune_text w x)
      clear hneg
      go_enter Tryd.func109, Tryd.ntmps109
      go_wp2_with (go_at_call 121; refine (HC.out _).mono ?_; rintro e w2 ⟨rfl, ⟨m, rfl⟩⟩; have kb := KB.out m)
      go_ret2
      exact ⟨by rw [← HR.out, if_neg (show ¬ x < 0 by have := HD.out; omega)]; rfl, (xbelow_drewN bel0 m).alloc (Nat.le_refl _) _⟩
theorem escHex_some {a0 : ByteArray} {n r2 : Int} {r1 : ByteArray} (h : escHex a0 n = some (r1, r2)) : ∃ x, triviumref5_hex.f 40 (a0.extract 1 a0.size) n = some x ∧ (if x < 0 then (⟨#[]⟩, 0) else (runesBytes [x], 1 + n) : ByteArray × Int) = (r1, r2) := by
  unfold escHex at h
  obtain ⟨x, h1, h2⟩ := Option.bind_eq_some_iff.1 h
  refine ⟨x, h1, ?_⟩
  split at h2
  · next hx => rw [if_pos hx]; exact Option.some.inj h2
  · next hx => rw [if_neg hx]; exact Option.some.inj h2
theorem triviumref5_escape.calls (a0 : ByteArray) (a1 : Bool) (r1 : ByteArray) (r2 : Int) (w : World) (h : triviumref5_escape.f a0 a1 = some (r1, r2)) :
    Calls Tryd.prog 109 #[.string a0, .bool a1] w fun e w' => e = .returned (.tuple #[.string r1, .int .i64 r2]) ∧ Below w.heap.size w w' := by
  unfold triviumref5_escape.f at h
  split at h
  · next h0 => cases h; exact escape_empty a0 a1 w h0
  next h0 =>
  split at h
  case isFalse => cases h
  next hz =>
  split at h
  · next h1 =>
    obtain ⟨x, hx, hr⟩ := escHex_some h
    exact escape_hex a0 a1 4 (.inl ⟨rfl, h1⟩) x w (by omega) hz hx (r1, r2) hr
  next h1 =>
  split at h
  · next h2 =>
    obtain ⟨x, hx, hr⟩ := escHex_some h
    exact escape_hex a0 a1 8 (.inr ⟨rfl, h2⟩) x w (by omega) hz hx (r1, r2) hr
  next h2 =>
  split at h
  · next h3 =>
    subst h3
    have e := Option.some.inj h
    have hh := escape_lit a0 w (by omega) h1 h2 hz
    rw [e] at hh
    exact hh
  · next h3 =>
    cases h
    obtain rfl : a1 = false := by simpa using h3
    exact escape_none a0 w (by omega) h1 h2 hz
end Go.Proofs.YtbpbfboaofkpaaaDoor.Print
