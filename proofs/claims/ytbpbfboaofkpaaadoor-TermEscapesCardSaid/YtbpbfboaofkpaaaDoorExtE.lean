/- strings.Builder's writing methods, term.escaped and term.quoted. -/
import Derived.Test.YtbpbfboaofkpaaaDoorExtD
set_option linter.unusedVariables false
set_option linter.unusedSimpArgs false
namespace Go.Proofs.YtbpbfboaofkpaaaDoor.Print
open Go.RowKit Go.Shelf Go.Lib

theorem sizeBuilder : (Tryd.prog.info? 103).map (·.size) = some 2 := by kernel_rfl
theorem liesBuilder : liesAt Tryd.prog Tryd.prog.depth 103 (2 / Tryd.prog.cellsOf 103) 0 103 1 = true := by kernel_rfl
theorem infoByte : (Tryd.prog.info? 5).map (fun i => (i.zero, i.size, i.bytes)) = some (some (.int .u8 0), 1, 1) := by kernel_rfl

set_option maxRecDepth 100000 in
theorem copyCheck_used (b : Nat) (w : World) (h0 : w.cell? ⟨b, 0, none⟩ = some (.pointer (some ⟨b, 0, none⟩))) :
    Calls Tryd.prog 108 #[.pointer (some ⟨b, 0, none⟩)] w fun e w' => e = .returned (.tuple #[]) ∧ w' = w := by
  obtain ⟨j, hj, _⟩ := Option.map_eq_some_iff.1 sizeBuilder
  go_enter Tryd.func108, Tryd.ntmps108
  go_wp2
  rw [Lib.run_neq_ptr_same w _ Tryd.underlying101 hj]
  go_wp2
  go_end0
  exact ⟨rfl, rfl⟩

set_option maxRecDepth 100000 in
theorem copyCheck_fresh (b : Nat) (w : World) (h0 : w.cell? ⟨b, 0, none⟩ = some (.pointer none)) (hsh : w.shape? b = some (103, 2)) (hfz : w.frozen? ⟨b, 0, none⟩ = false) :
    Calls Tryd.prog 108 #[.pointer (some ⟨b, 0, none⟩)] w fun e w' => e = .returned (.tuple #[]) ∧ w' = w.setCell ⟨b, 0, none⟩ (.pointer (some ⟨b, 0, none⟩)) := by
  obtain ⟨j, hj, hjs⟩ := Option.map_eq_some_iff.1 sizeBuilder
  go_enter Tryd.func108, Tryd.ntmps108
  go_wp2
  rw [Lib.run_to_unsafe w ⟨b, 0, none⟩ Tryd.underlying101 Tryd.underlying127 hj (by rw [hjs]; decide) hsh (Nat.zero_lt_succ 1)]
  simp only [Result.andThen]
  rw [Oper.upon_value]
  go_wp2
  rw [run_callFunc_extern Tryd.func120 (by kernel_rfl) (by kernel_rfl) (by kernel_rfl) (e := Extern.AbiNoEscape.same) (by kernel_rfl)]
  rw [Lib.run_noEscape]
  simp only [Result.andThen]
  rw [Oper.upon_value]
  go_wp2
  rw [Lib.run_from_unsafe w ⟨b, 0, none⟩ Tryd.underlying127 Tryd.underlying101 hj hsh liesBuilder]
  simp only [Result.andThen]
  rw [Oper.upon_value]
  go_wp2
  go_end0
  exact ⟨rfl, rfl⟩

/-- A builder in block b of the call's own, its buffer at or above q: what lies below q, but b, stays as it is. -/
structure Bq (B b q : Nat) (p : Value) (bs : List Value) (w : World) : Prop where
  low : B ≤ b
  lt : b < q
  room : q ≤ w.heap.size
  held : ∃ v, w.heap[b]? = some (.cells #[p, v] 103 (0, 0)) ∧ w.ownsRow q 5 1 v bs.length bs
structure Kq (b q : Nat) (w w' : World) : Prop where
  os : w'.os = w.os
  tape : w'.tape = w.tape
  output : w'.output = w.output
  size : w.heap.size ≤ w'.heap.size
  block : ∀ k, k < q → k ≠ b → w'.heap[k]? = w.heap[k]?
theorem Kq.refl (b q : Nat) (w : World) : Kq b q w w := ⟨rfl, rfl, rfl, Nat.le_refl _, fun _ _ _ => rfl⟩
theorem Kq.trans {b q : Nat} {u v w : World} (h : Kq b q u v) (k : Kq b q v w) : Kq b q u w :=
  ⟨k.os.trans h.os, k.tape.trans h.tape, k.output.trans h.output, Nat.le_trans h.size k.size, fun i hi hb => (k.block i hi hb).trans (h.block i hi hb)⟩
theorem Kq.below {b q B : Nat} {w w' : World} (h : Kq b q w w') (hB : B ≤ b) (hq : B ≤ q) : Below B w w' :=
  ⟨h.os, h.tape, h.output, h.size, fun k hk => h.block k (by omega) (by omega)⟩
theorem Kq.ofBelow {b q : Nat} {w w' : World} (h : Below q w w') : Kq b q w w' := ⟨h.os, h.tape, h.output, h.size, fun k hk _ => h.block k hk⟩
theorem Bq.ne {q b n : Nat} {e : TypeId} {v : Value} {xs : List Value} {w : World} (h : w.ownsRow q e 1 v n xs) (hb : b < q) : v.ownBlock ≠ some b := by
  rcases h.2 with ⟨rfl, _⟩ | ⟨g, cap, cur, rfl, hg, _⟩
  · simp [Value.ownBlock]
  · simp only [Value.ownBlock]; intro e; injection e with e; omega
theorem own_put {q b n j : Nat} {e : TypeId} {v y : Value} {xs : List Value} {w : World} (h : w.ownsRow q e 1 v n xs) (hb : b < q) : (w.setCell ⟨b, j, none⟩ y).ownsRow q e 1 v n xs :=
  h.kept (row := some b) ⟨rfl, rfl, rfl, by simp [World.setCell], fun k _ hk => Below.heap_setCell _ _ _ _ (fun e => hk (by simp [e]))⟩ (Or.inr (Bq.ne h hb))
theorem Bq.at {B b q : Nat} {p : Value} {bs : List Value} {w : World} (h : Bq B b q p bs w) : Lib.BuilderAt 103 5 B b p bs w := by
  obtain ⟨v, h1, h2, h3⟩ := h.held
  refine ⟨h.low, v, h1, ⟨h2, ?_⟩, Bq.ne ⟨h2, h3⟩ h.lt⟩
  rcases h3 with h3 | ⟨g, cap, cur, e1, hg, e2⟩
  · exact .inl h3
  · exact .inr ⟨g, cap, cur, e1, by have := h.low; have := h.lt; omega, e2⟩
theorem Kq.set {b q : Nat} {u w : World} (h : Kq b q u w) (j : Nat) (y : Value) : Kq b q u (w.setCell ⟨b, j, none⟩ y) :=
  ⟨h.os, h.tape, h.output, by simp [World.setCell]; exact h.size, fun k hk hb => (Below.heap_setCell _ _ _ _ (fun e => hb (by simp [e]))).trans (h.block k hk hb)⟩
theorem Bq.used {B b q : Nat} {p : Value} {bs : List Value} {w : World} (h : Bq B b q p bs w) (y : Value) : Bq B b q y bs (w.setCell ⟨b, 0, none⟩ y) := by
  obtain ⟨v, h1, h2⟩ := h.held
  exact ⟨h.low, h.lt, by simp [World.setCell]; exact h.room, v, by simp [World.setCell, Array.getElem?_modify, h1], own_put h2 h.lt⟩
theorem Bq.put {B b q : Nat} {p v v' : Value} {bs : List Value} {w : World} (hB : B ≤ b) (hl : b < q) (hr : q ≤ w.heap.size) (h1 : w.heap[b]? = some (.cells #[p, v] 103 (0, 0))) (h2 : w.ownsRow q 5 1 v' bs.length bs) : Bq B b q p bs (w.setCell ⟨b, 1, none⟩ v') :=
  ⟨hB, hl, by simp [World.setCell]; exact hr, v', by simp [World.setCell, Array.getElem?_modify, h1], own_put h2 hl⟩
def IsBq (B b q : Nat) (bs : List Value) (w : World) : Prop := Bq B b q (.pointer none) bs w ∨ Bq B b q (.pointer (some ⟨b, 0, none⟩)) bs w

theorem copyCheck_calls (B b q : Nat) (bs : List Value) (w : World) (h : IsBq B b q bs w) :
    Calls Tryd.prog 108 #[.pointer (some ⟨b, 0, none⟩)] w fun e w' => e = .returned (.tuple #[]) ∧ (Bq B b q (.pointer (some ⟨b, 0, none⟩)) bs w' ∧ Kq b q w w') := by
  rcases h with h | h
  · refine (copyCheck_fresh b w h.at.cell0 h.at.shape h.at.frozen0).mono ?_
    rintro e w' ⟨rfl, rfl⟩
    exact ⟨rfl, h.used _, (Kq.refl b q w).set 0 _⟩
  · refine (copyCheck_used b w h.at.cell0).mono ?_
    rintro e w' ⟨rfl, rfl⟩
    exact ⟨rfl, h, Kq.refl b q _⟩

set_option maxHeartbeats 2000000 in
theorem writeByte_calls (B b q : Nat) (bs : List Value) (c : Int) (w : World) (h : IsBq B b q bs w) (hlen : bs.length + 1 ≤ 140737488355328) :
    Calls Tryd.prog 80 #[.pointer (some ⟨b, 0, none⟩), .int .u8 c] w fun e w' => e = .returned .nilIface ∧ (IsBq B b q (bs ++ [.int .u8 c]) w' ∧ Kq b q w w') := by
  obtain ⟨i0, hi, hz0, hz1, hz2⟩ := info_parts infoByte
  go_enter Tryd.func80, Tryd.ntmps80
  go_wp2_with (go_at_call 108; refine (copyCheck_calls B b q bs _ h).mono ?_)
  rintro e w1 ⟨rfl, h1, hb1⟩
  obtain ⟨hB, hbq, hroom, v, hbk, hown⟩ := h1
  have c0 : w1.cell? ⟨b, 0, none⟩ = some (.pointer (some ⟨b, 0, none⟩)) := by rw [Lib.cell_of_heap hbk]; rfl
  have c1 : w1.cell? ⟨b, 1, none⟩ = some v := by rw [Lib.cell_of_heap hbk]; rfl
  go_wp2_with (at_builtin; refine wpList_append_own _ rfl _ _ 22 rfl q 5 i0 (.int .u8 0) 1 1 Tryd.underlying22 hi hz0 hz1 hz2 rfl (by decide) _ _ _ rfl (hown.alloc _) ⟨w1.heap.size, 0, none⟩ 1 1 [.int .u8 c] rfl rfl ?c1 ?c2 ?c3 ?c4 ?c5 ?_)
  case c1 =>
    intro j u hj
    match j, hj with
    | 0, hj => simp at hj; subst hj; simp [Addr.add]
  case c2 => intro u hu; simp at hu; subst hu; rfl
  case c3 => unfold maxLen; omega
  case c4 => omega
  case c5 => simp; omega
  intro v' w2 hown' hgrow _
  have hlt : b < w1.heap.size := by omega
  have hk2 : Kq b q w1 w2 := ⟨hgrow.os, hgrow.tape, hgrow.output, Nat.le_trans (by simp) hgrow.size, fun k hk _ => (hgrow.block k (by simp; omega) (fun e => Bq.ne hown hk e.symm)).trans (Lib.alloc_old w1 _ k (by omega))⟩
  have hb2 : w2.heap[b]? = some (.cells #[.pointer (some ⟨b, 0, none⟩), v] 103 (0, 0)) := by
    rw [hgrow.block b (by simp; omega) (fun e => Bq.ne hown hbq e.symm), Lib.alloc_old w1 _ b hlt]
    exact hbk
  have d0 : w2.cell? ⟨b, 0, none⟩ = some (.pointer (some ⟨b, 0, none⟩)) := by rw [Lib.cell_of_heap hb2]; rfl
  have d1 : w2.cell? ⟨b, 1, none⟩ = some v := by rw [Lib.cell_of_heap hb2]; rfl
  have f1 : w2.frozen? ⟨b, 1, none⟩ = false := Lib.frozen_of_heap hb2 1
  obtain ⟨g, cap, rfl⟩ : ∃ g cap, v' = .slice (some ⟨g, 0, none⟩) (bs.length + 1) cap := by
    rcases hown'.2 with ⟨_, h0⟩ | ⟨g, cap, cur, hv, _⟩
    · omega
    · exact ⟨g, cap, hv⟩
  go_wp2
  go_ret
  exact ⟨rfl, .inr (Bq.put hB hbq (Nat.le_trans hroom hk2.size) hb2 (bs := bs ++ [.int .u8 c]) (by simpa using hown')), (hb1.trans hk2).set 1 _⟩

set_option maxHeartbeats 2000000 in
theorem writeString_calls (B b q : Nat) (bs : List Value) (s : ByteArray) (w : World) (h : IsBq B b q bs w) (hlen : bs.length + s.size ≤ 140737488355328) :
    Calls Tryd.prog 78 #[.pointer (some ⟨b, 0, none⟩), .string s] w fun e w' => e = .returned (.tuple #[.int .i64 s.size, .nilIface]) ∧ (IsBq B b q (bs ++ Lib.strCells s) w' ∧ Kq b q w w') := by
  obtain ⟨i0, hi, hz0, hz1, hz2⟩ := info_parts infoByte
  go_enter Tryd.func78, Tryd.ntmps78
  go_wp2_with (go_at_call 108; refine (copyCheck_calls B b q bs _ h).mono ?_)
  rintro e w1 ⟨rfl, h1, hb1⟩
  obtain ⟨hB, hbq, hroom, v, hbk, hown⟩ := h1
  have c0 : w1.cell? ⟨b, 0, none⟩ = some (.pointer (some ⟨b, 0, none⟩)) := by rw [Lib.cell_of_heap hbk]; rfl
  have c1 : w1.cell? ⟨b, 1, none⟩ = some v := by rw [Lib.cell_of_heap hbk]; rfl
  go_wp2_with (at_builtin; refine Lib.wpList_append_own_string _ rfl _ _ 22 9 rfl q 5 i0 Tryd.underlying22 Tryd.underlying9 hi hz0 hz1 hz2 _ _ _ rfl hown s rfl ?c3 ?c4 ?c5 ?_)
  case c3 => unfold maxLen; omega
  case c4 => omega
  case c5 => omega
  intro v' w2 hown' hgrow _
  have hlt : b < w1.heap.size := by omega
  have hk2 : Kq b q w1 w2 := ⟨hgrow.os, hgrow.tape, hgrow.output, hgrow.size, fun k hk _ => hgrow.block k (by omega) (fun e => Bq.ne hown hk e.symm)⟩
  have hb2 : w2.heap[b]? = some (.cells #[.pointer (some ⟨b, 0, none⟩), v] 103 (0, 0)) := by
    rw [hgrow.block b hlt (fun e => Bq.ne hown hbq e.symm)]
    exact hbk
  have d0 : w2.cell? ⟨b, 0, none⟩ = some (.pointer (some ⟨b, 0, none⟩)) := by rw [Lib.cell_of_heap hb2]; rfl
  have d1 : w2.cell? ⟨b, 1, none⟩ = some v := by rw [Lib.cell_of_heap hb2]; rfl
  have f1 : w2.frozen? ⟨b, 1, none⟩ = false := Lib.frozen_of_heap hb2 1
  obtain ⟨ao, n', cap, rfl⟩ : ∃ ao n' cap, v' = .slice ao n' cap := by
    rcases hown'.2 with ⟨hv, _⟩ | ⟨g, cap, cur, hv, _⟩
    · exact ⟨_, _, _, hv⟩
    · exact ⟨_, _, _, hv⟩
  go_wp2
  go_ret2
  exact ⟨rfl, .inr (Bq.put hB hbq (Nat.le_trans hroom hk2.size) hb2 (bs := bs ++ Lib.strCells s) (by simpa [Lib.strCells_length] using hown')), (hb1.trans hk2).set 1 _⟩

def hexD (n : Nat) : UInt8 := if n < 10 then (48 + n).toUInt8 else (55 + n).toUInt8
/-- A byte as it stands in a literal. -/
def escB (c : UInt8) : List UInt8 :=
  if c = 34 then [92, 34] else if c = 92 then [92, 92] else if c = 10 then [92, 110] else if c = 13 then [92, 114] else if c = 9 then [92, 116] else if c = 8 then [92, 98] else if c = 12 then [92, 102]
  else if c.toNat < 32 ∨ c.toNat = 127 then [92, 117, 48, 48, hexD (c.toNat / 16), hexD (c.toNat % 16)] else [c]
def escL (l : List UInt8) : List UInt8 := l.flatMap escB

theorem escaped_calls (c : UInt8) (hc : c.toNat < 32 ∨ c.toNat = 127 ∨ c.toNat = 34 ∨ c.toNat = 92) (w : World) :
    Calls Tryd.prog 79 #[.int .u8 (c.toNat : Int)] w fun e w' => e = .returned (.string ⟨(escB c).toArray⟩) ∧ Below w.heap.size w w' := by
  obtain ⟨n, hn⟩ : ∃ n, c.toNat = n := ⟨_, rfl⟩
  have hcc : c = UInt8.ofNat n := by rw [← hn]; simp
  subst hcc
  rw [hn] at hc
  have hl : n < 32 ∨ n = 127 ∨ n = 34 ∨ n = 92 := hc
  clear hc hn
  have hm : n ∈ [0,1,2,3,4,5,6,7,8,9,10,11,12,13,14,15,16,17,18,19,20,21,22,23,24,25,26,27,28,29,30,31,127,34,92] := by
    simp only [List.mem_cons, List.not_mem_nil, or_false]; omega
  clear hl
  simp only [List.mem_cons, List.not_mem_nil, or_false] at hm
  rcases hm with rfl | rfl | rfl | rfl | rfl | rfl | rfl | rfl | rfl | rfl | rfl | rfl | rfl | rfl | rfl | rfl | rfl | rfl | rfl | rfl | rfl | rfl | rfl | rfl | rfl | rfl | rfl | rfl | rfl | rfl | rfl | rfl | rfl | rfl | rfl
  all_goals
    simp only [UInt8.reduceOfNat, UInt8.reduceToNat, Int.cast_ofNat_Int, Nat.reduceMod]
    go_enter Tryd.func79, Tryd.ntmps79
    go_wp2
    repeat (go_quiet (fail); try go_wp2)
    go_ret
    exact ⟨by rfl, by first | exact Below.refl _ _ | exact ⟨rfl, rfl, rfl, Nat.le_refl _, fun _ _ => rfl⟩⟩
end Go.Proofs.YtbpbfboaofkpaaaDoor.Print
