/- term.quoted. -/
import Derived.Test.YtbpbfboaofkpaaaDoorExtE
set_option linter.unusedVariables false
set_option linter.unusedSimpArgs false
namespace Go.Proofs.YtbpbfboaofkpaaaDoor.Print
open Go.RowKit Go.Shelf Go.Lib

theorem own_below {q n : Nat} {e : TypeId} {v : Value} {xs : List Value} {w W : World} (h : w.ownsRow q e 1 v n xs) (hb : Below w.heap.size w W) : W.ownsRow q e 1 v n xs := by
  refine ⟨h.1, ?_⟩
  rcases h.2 with h3 | ⟨g, cap, cur, e1, hg, e2, e3⟩
  · exact .inl h3
  · refine .inr ⟨g, cap, cur, e1, hg, ?_, e3⟩
    rcases Nat.lt_or_ge g w.heap.size with h' | h'
    · rw [hb.block g h', e2]
    · simp [Array.getElem?_eq_none h'] at e2
theorem Bq.below {B b q : Nat} {p : Value} {bs : List Value} {w W : World} (h : Bq B b q p bs w) (hb : Below w.heap.size w W) : Bq B b q p bs W := by
  obtain ⟨v, h1, h2⟩ := h.held
  exact ⟨h.low, h.lt, Nat.le_trans h.room hb.size, v, by rw [hb.block b (by have := h.lt; have := h.room; omega), h1], own_below h2 hb⟩
structure QAt (B q : Nat) (W1 : World) (l : List UInt8) (k : Nat) (wr : World) : Prop where
  bq : IsBq B B q (byteCells (escL (l.take k))) wr
  kq : Kq B q W1 wr
theorem QAt.below {B q k : Nat} {W1 wr W : World} {l : List UInt8} (h : QAt B q W1 l k wr) (hb : Below wr.heap.size wr W) : QAt B q W1 l k W := by
  have hr : q ≤ wr.heap.size := by rcases h.bq with x | x <;> exact x.room
  refine ⟨?_, h.kq.trans ⟨hb.os, hb.tape, hb.output, hb.size, fun i hi _ => hb.block i (by omega)⟩⟩
  rcases h.bq with x | x
  · exact .inl (x.below hb)
  · exact .inr (x.below hb)
theorem escB_len (c : UInt8) : (escB c).length ≤ 6 := by
  unfold escB
  repeat' (split; · simp)
  simp
theorem escL_len (l : List UInt8) : (escL l).length ≤ 6 * l.length := by
  induction l with
  | nil => simp [escL]
  | cons c l ih =>
    have := escB_len c
    have e : escL (c :: l) = escB c ++ escL l := by simp [escL]
    rw [e, List.length_append, List.length_cons]; omega
theorem escL_take (l : List UInt8) (k : Nat) (c : UInt8) (h : l[k]? = some c) : byteCells (escL (l.take (k + 1))) = byteCells (escL (l.take k)) ++ byteCells (escB c) := by
  have hk : k < l.length := by
    rcases Nat.lt_or_ge k l.length with h1 | h1
    · exact h1
    · rw [List.getElem?_eq_none h1] at h; cases h
  have hc : l[k] = c := by rw [List.getElem?_eq_getElem hk] at h; injection h
  rw [List.take_succ_eq_append_getElem hk, hc]
  simp [escL, byteCells]
theorem escL_room (l : List UInt8) (k n : Nat) (hl : l.length = n) (hn : n ≤ 1000000) : (byteCells (escL (l.take k))).length ≤ 6000000 := by
  have h1 := escL_len (l.take k)
  have h2 : (l.take k).length ≤ l.length := by rw [List.length_take]; omega
  simp only [byteCells, List.length_map]
  omega
theorem escB_plain {c : UInt8} (h : ¬(c.toNat < 32 ∨ c.toNat = 127 ∨ c.toNat = 34 ∨ c.toNat = 92)) : escB c = [c] := by
  have n1 : c ≠ 34 := by rintro rfl; simp at h
  have n2 : c ≠ 92 := by rintro rfl; simp at h
  have n3 : c ≠ 10 := by rintro rfl; simp at h
  have n4 : c ≠ 13 := by rintro rfl; simp at h
  have n5 : c ≠ 9 := by rintro rfl; simp at h
  have n6 : c ≠ 8 := by rintro rfl; simp at h
  have n7 : c ≠ 12 := by rintro rfl; simp at h
  unfold escB
  rw [if_neg n1, if_neg n2, if_neg n3, if_neg n4, if_neg n5, if_neg n6, if_neg n7, if_neg (by omega)]
theorem QAt.str {B q k : Nat} {W1 wr W : World} {l : List UInt8} {c : UInt8} (h : QAt B q W1 l k wr) (hc : l[k]? = some c) {E : ByteArray} (hE : (⟨(escB c).toArray⟩ : ByteArray) = E) (h2 : IsBq B B q (byteCells (escL (l.take k)) ++ strCells E) W) (h3 : Kq B q wr W) : QAt B q W1 l (k + 1) W :=
  ⟨by rw [escL_take l k c hc]; rw [← hE] at h2; exact h2, h.kq.trans h3⟩
theorem QAt.byte {B q k : Nat} {W1 wr W : World} {l : List UInt8} {c : UInt8} (h : QAt B q W1 l k wr) (hc : l[k]? = some c) (hp : escB c = [c]) (h2 : IsBq B B q (byteCells (escL (l.take k)) ++ [.int .u8 (c.toNat : Int)]) W) (h3 : Kq B q wr W) : QAt B q W1 l (k + 1) W :=
  ⟨by rw [escL_take l k c hc, hp]; exact h2, h.kq.trans h3⟩
theorem cell_of_block {w W : World} {a : Addr} (h : W.heap[a.block]? = w.heap[a.block]?) : W.cell? a = w.cell? a := by unfold World.cell?; rw [h]

set_option maxRecDepth 100000 in
set_option maxHeartbeats 2000000 in
theorem quoted_calls (a0 : ByteArray) (w : World) (hz : a0.size ≤ 1000000) :
    Calls Tryd.prog 42 #[.string a0] w fun e w' => e = .returned (.string ⟨(34 :: escL a0.data.toList ++ [34]).toArray⟩) ∧ Below w.heap.size w w' := by
  obtain ⟨W1, cap, kb, hcell, hfr, hbel, hlt⟩ := bytes_made2 a0 (w.alloc (Obj.cells #[Value.pointer none, Value.slice none 0 0] 103))
  have hs : (w.alloc (Obj.cells #[Value.pointer none, Value.slice none 0 0] 103)).heap.size = w.heap.size + 1 := by simp
  rw [hs] at kb hcell hfr hbel hlt
  have hl := data_len a0
  generalize a0.data.toList = l at hcell hl ⊢
  have hq0 : QAt w.heap.size W1.heap.size W1 l 0 W1 := by
    refine ⟨.inl ⟨Nat.le_refl _, by omega, Nat.le_refl _, .slice none 0 0, ?_, World.ownsRow_nil _ _ _ _⟩, Kq.refl _ _ _⟩
    rw [hbel.block _ (by omega)]
    exact heap_alloc_new w _
  have hbw : Below w.heap.size w W1 := ((Below.refl _ _).alloc (Nat.le_refl _) _).trans (hbel.mono (by omega))
  have H0 := Lib.hid hq0
  have HW := Lib.hid hbw
  have HL := Lib.hid hl
  have HC := Lib.hid hcell
  have HT := Lib.hid hlt
  have HZ := Lib.hid hz
  clear hq0 hbw hl hcell hfr hbel
  generalize hQ : W1.heap.size = q at H0 HT
  have HQ := Lib.hid hQ
  clear hQ hlt
  go_enter Tryd.func42, Tryd.ntmps42
  go_wp2
  go_loopw [9] (fun i wr => ∃ k : Nat, k ≤ a0.size ∧ i = .int .i64 k ∧ QAt w.heap.size q W1 l k wr) (fun i _ => a0.size - (intOf i).toNat)
  case atStart => exact ⟨0, Nat.zero_le _, rfl, H0.out⟩
  case round =>
    obtain ⟨k, hk, rfl, hat⟩ := hrel
    by_cases hlt2 : k < a0.size
    · have hkl : k < l.length := by rw [HL.out]; exact hlt2
      obtain ⟨c, hcc⟩ : ∃ c, l[k]? = some c := ⟨_, List.getElem?_eq_getElem hkl⟩
      have hc1 := (cell_of_block (a := ⟨w.heap.size + 1, k, none⟩) (hat.kq.block (w.heap.size + 1) (by have := HT.out; omega) (by omega))).trans (HC.out k c hcc)
      have HAT := Lib.hid hat
      have HCC := Lib.hid hcc
      have HR := Lib.hid (escL_room l k a0.size HL.out HZ.out)
      have hb := c.toNat_lt
      clear hat hcc
      by_cases sp : c.toNat < 32 ∨ c.toNat = 127 ∨ c.toNat = 34 ∨ c.toNat = 92
      · obtain ⟨E, hE⟩ : ∃ E : ByteArray, (⟨(escB c).toArray⟩ : ByteArray) = E := ⟨_, rfl⟩
        have hes := fun W => escaped_calls c (by omega) W
        rw [hE] at hes
        have HES := Lib.hid hes
        have hsz : E.size ≤ 6 := by rw [← hE]; show (escB c).toArray.size ≤ 6; rw [List.size_toArray]; exact escB_len c
        have HSZ := Lib.hid hsz
        have HE := Lib.hid hE
        clear hes hsz hE
        rcases (show c.toNat < 32 ∨ (¬ c.toNat < 32 ∧ c.toNat = 127) ∨ (¬ c.toNat < 32 ∧ ¬ c.toNat = 127 ∧ c.toNat = 34) ∨ (¬ c.toNat < 32 ∧ ¬ c.toNat = 127 ∧ ¬ c.toNat = 34 ∧ c.toNat = 92) by omega) with h1 | ⟨h1, h2⟩ | ⟨h1, h2, h3⟩ | ⟨h1, h2, h3, h4⟩
        all_goals
          try have g1 : decide ((c.toNat : Int) < 32) = false := decide_eq_false (by omega)
          try have g1 : decide ((c.toNat : Int) < 32) = true := decide_eq_true (by omega)
          try have g2 : ((c.toNat : Int) == 127) = false := beq_eq_false_iff_ne.mpr (by omega)
          try have g2 : ((c.toNat : Int) == 127) = true := beq_iff_eq.mpr (by omega)
          try have g3 : ((c.toNat : Int) == 34) = false := beq_eq_false_iff_ne.mpr (by omega)
          try have g3 : ((c.toNat : Int) == 34) = true := beq_iff_eq.mpr (by omega)
          try have g4 : ((c.toNat : Int) == 92) = false := beq_eq_false_iff_ne.mpr (by omega)
          try have g4 : ((c.toNat : Int) == 92) = true := beq_iff_eq.mpr (by omega)
          clear sp h1
          try clear h2
          try clear h3
          try clear h4
          go_wp2_with (first
            | (go_at_call 78; refine (writeString_calls w.heap.size w.heap.size q _ _ _ HAT2.out.bq (by have := HR.out; have := HSZ.out; omega)).mono ?_; rintro e w3 ⟨rfl, hb3, hk3⟩; have HB3 := Lib.hid (HAT2.out.str HCC.out HE.out hb3 hk3); clear hb3 hk3)
            | (go_at_call 79; refine (HES.out _).mono ?_; rintro e w2 ⟨rfl, hb2⟩; have HAT2 := Lib.hid (HAT.out.below hb2); clear hb2))
          go_roundw
          case rel => exact ⟨k + 1, by omega, by go_num, HB3.out⟩
          case measure => simp [intOf]; omega
      · have HPL := Lib.hid (escB_plain sp)
        have g1 : decide ((c.toNat : Int) < 32) = false := decide_eq_false (by omega)
        have g2 : ((c.toNat : Int) == 127) = false := beq_eq_false_iff_ne.mpr (by omega)
        have g3 : ((c.toNat : Int) == 34) = false := beq_eq_false_iff_ne.mpr (by omega)
        have g4 : ((c.toNat : Int) == 92) = false := beq_eq_false_iff_ne.mpr (by omega)
        clear sp
        go_wp2_with (go_at_call 80; refine (writeByte_calls w.heap.size w.heap.size q _ _ _ HAT.out.bq (by have := HR.out; omega)).mono ?_; rintro e w3 ⟨rfl, hb3, hk3⟩; have HB3 := Lib.hid (HAT.out.byte HCC.out HPL.out hb3 hk3); clear hb3 hk3)
        go_roundw
        case rel => exact ⟨k + 1, by omega, by go_num, HB3.out⟩
        case measure => simp [intOf]; omega
    · obtain rfl : k = a0.size := by omega
      have hat' : QAt w.heap.size q W1 l l.length wr := by rw [HL.out]; exact hat
      have hbb : Below w.heap.size w wr := HW.out.trans (hat.kq.below (Nat.le_refl _) (by have := HT.out; omega))
      have hib : Lib.IsBuilder 103 5 w.heap.size w.heap.size (byteCells (escL l)) wr := by
        have h := hat'.bq
        rw [List.take_length] at h
        exact h.elim (fun x => .inl x.at) (fun x => .inr x.at)
      have el : (escL l).length ≤ 6000000 := by have := escL_len l; have := HL.out; have := HZ.out; omega
      obtain ⟨E, hE⟩ : ∃ E : ByteArray, (⟨(escL l).toArray⟩ : ByteArray) = E := ⟨_, rfl⟩
      have e1 : ¬ (9223372036854775807 < 1 + E.size) := by rw [← hE]; show ¬ (_ < 1 + (escL l).toArray.size); rw [List.size_toArray]; omega
      have e2 : ¬ (9223372036854775807 < 1 + E.size + 1) := by rw [← hE]; show ¬ (_ < 1 + (escL l).toArray.size + 1); rw [List.size_toArray]; omega
      have e3 : (⟨(34 :: (escL l ++ [34])).toArray⟩ : ByteArray) = ⟨#[34]⟩ ++ E ++ ⟨#[34]⟩ := by rw [← hE]; apply ByteArray.ext; simp
      have hst := fun W h1 h2 => Tryd.Builder_String_any w.heap.size w.heap.size (escL l) W h1 h2
      rw [hE] at hst
      have HST := Lib.hid hst
      have HE3 := Lib.hid e3
      clear e3 hst el hE
      have HBB := Lib.hid hbb
      have HIB := Lib.hid hib
      clear hat hat' hbb hib
      go_wp2_with (go_at_call 81; refine (HST.out _ HIB.out HBB.out.size).mono ?_; rintro e w3 ⟨rfl, hb3⟩; have HB3 := Lib.hid (HBB.out.trans hb3); clear hb3)
      go_ret
      exact ⟨by first | (rw [← HE3.out]; rfl) | rw [HE3.out], HB3.out⟩
end Go.Proofs.YtbpbfboaofkpaaaDoor.Print
