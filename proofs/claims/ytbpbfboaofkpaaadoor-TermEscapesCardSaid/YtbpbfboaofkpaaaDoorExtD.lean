/- query.isVar and triviumref5.small, which go through '[]byte(s)'. -/
import Derived.Test.YtbpbfboaofkpaaaDoorExtC
import Derived.Lib.ConvBytes
import Derived.Laws.BytesArg
set_option linter.unusedVariables false
set_option linter.unusedSimpArgs false
namespace Go.Proofs.YtbpbfboaofkpaaaDoor.Print
open Go.RowKit Go.Shelf Go.Lib

theorem data_len (s : ByteArray) : s.data.toList.length = s.size := by rw [Array.length_toList]; rfl
theorem bytes_made (s : ByteArray) : ∃ (BW : World → World) (CAP : World → Nat),
    (∀ W : World, (convert 9 22 (.string s)).run Tryd.prog W = .ok (.slice (some ⟨W.heap.size, 0, none⟩) s.size (CAP W)) (BW W)) ∧
    (∀ (W : World) (j : Nat) (c : UInt8), s.data.toList[j]? = some c → (BW W).cell? ⟨W.heap.size, j, none⟩ = some (.int .u8 (c.toNat : Int))) ∧
    (∀ W : World, Below W.heap.size W (BW W)) ∧ (∀ W : World, W.heap.size < (BW W).heap.size) := by
  refine ⟨fun W => Lib.bytesWorld W 5 s, fun W => grownCap W s.size 0 5, fun W => Lib.run_convert_string_bytes W 9 22 5 s Tryd.underlying9 Tryd.underlying22 Tryd.underlying5, fun W j c hc => ?_, fun W => ⟨rfl, rfl, rfl, by rw [Lib.bytesWorld_size]; omega, fun i hi => Lib.bytesWorld_at_old W 5 s i (by omega)⟩, fun W => by rw [Lib.bytesWorld_size]; omega⟩
  have hj : j < s.data.toList.length := by
    rcases Nat.lt_or_ge j s.data.toList.length with h | h
    · exact h
    · rw [List.getElem?_eq_none h] at hc; cases hc
  rw [data_len] at hj
  rw [Lib.bytesWorld_cell W 5 s j hj]
  have h' : j < s.data.toList.length := by rw [data_len]; exact hj
  rw [List.getElem?_eq_getElem h'] at hc
  injection hc with hc
  rw [← hc]
  have e : s.data.toList.getD j 0 = s.data.toList[j] := by rw [List.getD_eq_getElem?_getD, List.getElem?_eq_getElem h']; rfl
  rw [e]

theorem small_false {n : Nat} (h : smallB n = false) : n < 97 ∨ 122 < n := by
  unfold smallB at h
  rcases Nat.lt_or_ge n 97 with h1 | h1
  · exact .inl h1
  · rcases Nat.lt_or_ge 122 n with h2 | h2
    · exact .inr h2
    · rw [decide_eq_true h1, decide_eq_true h2] at h; cases h
theorem small_true {n : Nat} (h : smallB n = true) : 97 ≤ n ∧ n ≤ 122 := by
  unfold smallB at h
  simpa using h
theorem isVar_calls (a0 : ByteArray) (w : World) (hz : a0.size ≤ 1000000) :
    Calls Tryd.prog 102 #[.string a0] w fun e w' => e = .returned (.bool (a0.data.toList.all (fun c => smallB c.toNat) && (decide (0 < a0.size) && decide (a0.size ≤ 8)))) ∧ Below w.heap.size w w' := by
  obtain ⟨BW, CAP, kb, hcell, hbel, hlt⟩ := bytes_made a0
  have hl := data_len a0
  have hn : a0.toList = a0.data.toList := Lib.toList_data a0
  obtain ⟨b, hb⟩ : ∃ b, decide (0 < a0.size) = b := ⟨_, rfl⟩
  have n2 : (a0.toList == []) = !b := by rw [hn, ← hb, ← hl]; cases a0.data.toList <;> rfl
  have n3 : (a0.toList != []) = b := by rw [bne, n2, Bool.not_not]
  have n4 : a0.toList.isEmpty = !b := by rw [hn, ← hb, ← hl]; cases a0.data.toList <;> rfl
  obtain ⟨c8, hc8⟩ : ∃ b, decide (a0.size ≤ 8) = b := ⟨_, rfl⟩
  have m1 : decide ((a0.size : Int) ≤ 8) = c8 := by rw [← hc8]; exact decide_eq_decide.2 (by omega)
  rw [hb, hc8]
  clear hb hn
  have HC := Lib.hid (hcell w)
  have HB := Lib.hid (hbel w)
  have HL := Lib.hid hl
  have H8 := Lib.hid hc8
  clear hcell hbel hl hc8
  generalize a0.data.toList = l at HC HL ⊢
  have kb' := kb w
  clear kb
  generalize BW w = W1 at kb' HC HB
  generalize CAP w = cap at kb'
  obtain ⟨R, hR⟩ : ∃ R, (l.all (fun c => smallB c.toNat) && (b && c8)) = R := ⟨_, rfl⟩
  rw [hR]
  have HRR := Lib.hid hR
  clear hR
  cases b <;> cases c8
  all_goals
    go_enter Tryd.func102, Tryd.ntmps102
    go_wp2
    go_loop [8] (fun i => ∃ k : Nat, k ≤ a0.size ∧ i = .int .i64 k ∧ (l.take k).all (fun c => smallB c.toNat) = true) (fun i => a0.size - (intOf i).toNat)
    case atStart => exact ⟨0, Nat.zero_le _, rfl, rfl⟩
    case round =>
      obtain ⟨k, hk, rfl, hall⟩ := hrel
      have HALL := Lib.hid hall
      clear hall
      by_cases hlt2 : k < a0.size
      · have hkl : k < l.length := by rw [HL.out]; exact hlt2
        obtain ⟨c, hcc⟩ : ∃ c, l[k] = c := ⟨_, rfl⟩
        have hcl : l[k]? = some c := by rw [List.getElem?_eq_getElem hkl, hcc]
        have hc1 := HC.out k c hcl
        have ht : l.take (k + 1) = l.take k ++ [c] := by rw [List.take_succ_eq_append_getElem hkl, hcc]
        have hns : smallB c.toNat = false → l.all (fun c => smallB c.toNat) = false := by
          intro hf
          rw [List.all_eq_false]
          exact ⟨c, hcc ▸ List.getElem_mem hkl, by simp [hf]⟩
        have HNS := Lib.hid hns
        have HTK := Lib.hid ht
        clear hns ht hcc hcl
        obtain ⟨b, hb⟩ : ∃ b, smallB c.toNat = b := ⟨_, rfl⟩
        have HRB := Lib.hid hb
        cases b
        · rcases small_false hb with h1 | h1
          · have d1 : decide ((c.toNat : Int) < 97) = true := decide_eq_true (by omega)
            clear hb
            go_wp2
            go_ret
            exact ⟨by rw [show R = false from by rw [← HRR.out, HNS.out HRB.out]; rfl]; rfl, HB.out⟩
          · have d1 : decide ((c.toNat : Int) < 97) = false := decide_eq_false (by omega)
            have d2 : decide ((122 : Int) < (c.toNat : Int)) = true := decide_eq_true (by omega)
            clear hb
            go_wp2
            go_ret
            exact ⟨by rw [show R = false from by rw [← HRR.out, HNS.out HRB.out]; rfl]; rfl, HB.out⟩
        · have h1 := small_true hb
          have d1 : decide ((c.toNat : Int) < 97) = false := decide_eq_false (by omega)
          have d2 : decide ((122 : Int) < (c.toNat : Int)) = false := decide_eq_false (by omega)
          clear hb h1
          go_wp2
          go_round
          case rel => exact ⟨k + 1, by omega, by go_num, by rw [HTK.out, List.all_append, HALL.out]; simp [HRB.out]⟩
          case measure => simp [intOf]; omega
      · obtain rfl : k = a0.size := by omega
        have hfin : l.all (fun c => smallB c.toNat) = true := by rw [← HALL.out, ← HL.out, List.take_length]
        rw [hfin] at HRR
        clear hfin
        go_wp2
        go_ret
        exact ⟨by rw [← HRR.out]; rfl, HB.out⟩

theorem bytes_made2 (s : ByteArray) (w : World) : ∃ (W1 : World) (cap : Nat),
    (convert 9 22 (.string s)).run Tryd.prog w = .ok (.slice (some ⟨w.heap.size, 0, none⟩) s.size cap) W1 ∧
    (∀ (j : Nat) (c : UInt8), s.data.toList[j]? = some c → W1.cell? ⟨w.heap.size, j, none⟩ = some (.int .u8 (c.toNat : Int))) ∧
    (∀ (j : Nat), j < s.size → W1.frozen? ⟨w.heap.size, j, none⟩ = false) ∧ Below w.heap.size w W1 ∧ w.heap.size < W1.heap.size := by
  refine ⟨Lib.bytesWorld w 5 s, grownCap w s.size 0 5, Lib.run_convert_string_bytes w 9 22 5 s Tryd.underlying9 Tryd.underlying22 Tryd.underlying5, fun j c hc => ?_, fun j hj => ?_, ⟨rfl, rfl, rfl, by rw [Lib.bytesWorld_size]; omega, fun i hi => Lib.bytesWorld_at_old w 5 s i (by omega)⟩, by rw [Lib.bytesWorld_size]; omega⟩
  · have hj : j < s.data.toList.length := by
      rcases Nat.lt_or_ge j s.data.toList.length with h | h
      · exact h
      · rw [List.getElem?_eq_none h] at hc; cases hc
    rw [data_len] at hj
    rw [Lib.bytesWorld_cell w 5 s j hj]
    have h' : j < s.data.toList.length := by rw [data_len]; exact hj
    rw [List.getElem?_eq_getElem h'] at hc
    injection hc with hc
    rw [← hc]
    have e : s.data.toList.getD j 0 = s.data.toList[j] := by rw [List.getD_eq_getElem?_getD, List.getElem?_eq_getElem h']; rfl
    rw [e]
  · have h1 : s.size ≤ (Lib.bytesCells w 5 s).size := by simp [Lib.bytesCells] <;> (have : s.data.size = s.size := rfl; omega)
    have h2 := Lib.bytesWorld_at_new w 5 s
    simp [World.frozen?, h2]
    omega
def lowB (c : UInt8) : UInt8 := if 65 ≤ c.toNat ∧ c.toNat ≤ 90 then c + 32 else c
theorem strOf_bytes (cs : List UInt8) : strOfNums (cs.map fun c => (c.toNat : Int)) = ⟨cs.toArray⟩ := by
  unfold strOfNums
  first
    | (congr 1; simp [Function.comp_def]; done)
    | simp [Function.comp_def]
theorem low_big {c : UInt8} (h1 : 65 ≤ c.toNat) (h2 : c.toNat ≤ 90) : ((lowB c).toNat : Int) = (c.toNat : Int) + 32 := by
  have e : lowB c = c + 32 := if_pos ⟨h1, h2⟩
  rw [e, UInt8.toNat_add]
  show (((c.toNat + 32) % 256 : Nat) : Int) = _
  omega
theorem low_other {c : UInt8} (h : ¬ (65 ≤ c.toNat ∧ c.toNat ≤ 90)) : lowB c = c := if_neg h
structure LowAt (B n : Nat) (w0 : World) (l : List UInt8) (k : Nat) (wr : World) : Prop where
  cell : ∀ j c, ((l.take k).map lowB ++ l.drop k)[j]? = some c → wr.cell? ⟨B, j, none⟩ = some (.int .u8 (c.toNat : Int))
  froz : ∀ j, j < n → wr.frozen? ⟨B, j, none⟩ = false
  bel : Below B w0 wr
theorem low_split (l : List UInt8) (k : Nat) (c : UInt8) (h : l[k]? = some c) : (l.take k).map lowB ++ l.drop k = (l.take k).map lowB ++ c :: l.drop (k + 1) ∧ (l.take (k + 1)).map lowB ++ l.drop (k + 1) = (l.take k).map lowB ++ lowB c :: l.drop (k + 1) := by
  have hk : k < l.length := by
    rcases Nat.lt_or_ge k l.length with h1 | h1
    · exact h1
    · rw [List.getElem?_eq_none h1] at h; cases h
  have hc : l[k] = c := by rw [List.getElem?_eq_getElem hk] at h; injection h
  constructor
  · rw [← hc, List.drop_eq_getElem_cons hk]
  · rw [List.take_succ_eq_append_getElem hk, hc]; simp
theorem LowAt.here {B n k : Nat} {w0 wr : World} {l : List UInt8} {c : UInt8} (h : LowAt B n w0 l k wr) (hc : l[k]? = some c) (hk : k ≤ l.length) : wr.cell? ⟨B, k, none⟩ = some (.int .u8 (c.toNat : Int)) := by
  apply h.cell
  rw [(low_split l k c hc).1]
  have : ((l.take k).map lowB).length = k := by simp; omega
  rw [List.getElem?_append_right (by omega), this]; simp
theorem LowAt.keep {B n k : Nat} {w0 wr : World} {l : List UInt8} {c : UInt8} (h : LowAt B n w0 l k wr) (hc : l[k]? = some c) (hl : lowB c = c) : LowAt B n w0 l (k + 1) wr :=
  ⟨fun j d hd => h.cell j d (by rw [(low_split l k c hc).1]; rw [(low_split l k c hc).2, hl] at hd; exact hd), h.froz, h.bel⟩
theorem LowAt.set {B n k : Nat} {w0 wr : World} {l : List UInt8} {c : UInt8} (h : LowAt B n w0 l k wr) (hc : l[k]? = some c) (hk : k ≤ l.length) (v : Int) (hv : ((lowB c).toNat : Int) = v) : LowAt B n w0 l (k + 1) (wr.setCell ⟨B, k, none⟩ (.int .u8 v)) := by
  have hl : ((l.take k).map lowB).length = k := by simp; omega
  refine ⟨fun j d hd => ?_, fun j hj => by rw [World.frozen?_setCell]; exact h.froz j hj, h.bel.setCell (Nat.le_refl _) _⟩
  rw [(low_split l k c hc).2] at hd
  by_cases hj : j = k
  · subst hj
    rw [World.cell?_setCell_same _ _ _ (h.here hc hk)]
    rw [List.getElem?_append_right (by omega), hl] at hd
    simp at hd
    rw [← hd, hv]
  · rw [World.cell?_setCell_other _ _ _ _ (fun e => hj (by injection e with _ e2; exact e2.symm))]
    apply h.cell
    rw [(low_split l k c hc).1]
    rcases Nat.lt_or_ge j k with h1 | h1
    · rw [List.getElem?_append_left (by omega)] at hd ⊢; exact hd
    · rw [List.getElem?_append_right (by omega), hl] at hd ⊢
      obtain ⟨m, hm⟩ : ∃ m, j - k = m + 1 := ⟨j - k - 1, by omega⟩
      rw [hm] at hd ⊢
      exact hd

theorem small_calls (a0 : ByteArray) (w : World) (hz : a0.size ≤ 1000000) :
    Calls Tryd.prog 110 #[.string a0] w fun e w' => e = .returned (.string ⟨(a0.data.toList.map lowB).toArray⟩) ∧ Below w.heap.size w w' := by
  obtain ⟨W1, cap, kb, hcell, hfr, hbel, hlt⟩ := bytes_made2 a0 w
  have hl := data_len a0
  generalize a0.data.toList = l at hcell hl ⊢
  have h0 : LowAt w.heap.size a0.size w l 0 W1 := ⟨by simpa using hcell, hfr, hbel⟩
  have H0 := Lib.hid h0
  have HL := Lib.hid hl
  have hconv := fun (wr : World) (hh : LowAt w.heap.size a0.size w l a0.size wr) => run_convert_bytes_arg (P := Tryd.prog) wr 22 5 Tryd.underlying22 Tryd.underlying5 w.heap.size 0 a0.size cap ((l.map lowB).map fun c => (c.toNat : Int)) (by simp [hl]) (fun i hi => by
    have hi' : i < (l.map lowB).length := by simp [hl, hi]
    have := hh.cell i (l.map lowB)[i] (by rw [← hl, List.take_length, List.drop_length, List.append_nil]; exact List.getElem?_eq_getElem hi')
    rw [Nat.zero_add, this]
    simp [List.getD_eq_getElem?_getD, List.getElem?_eq_getElem (show i < l.length by omega)]) 9 Tryd.underlying9
  rw [strOf_bytes] at hconv
  have HCV := Lib.hid hconv
  clear h0 hcell hfr hbel hl hconv
  obtain ⟨R, hR⟩ : ∃ R : ByteArray, (⟨(l.map lowB).toArray⟩ : ByteArray) = R := ⟨_, rfl⟩
  rw [hR] at HCV ⊢
  clear hR
  go_enter Tryd.func110, Tryd.ntmps110
  go_wp2
  go_loopw [4] (fun i wr => ∃ k : Nat, k ≤ a0.size ∧ i = .int .i64 k ∧ LowAt w.heap.size a0.size w l k wr) (fun i _ => a0.size - (intOf i).toNat)
  case atStart => exact ⟨0, Nat.zero_le _, rfl, H0.out⟩
  case round =>
    obtain ⟨k, hk, rfl, hlow⟩ := hrel
    by_cases hlt2 : k < a0.size
    · have hkl : k < l.length := by rw [HL.out]; exact hlt2
      obtain ⟨c, hcc⟩ : ∃ c, l[k]? = some c := ⟨_, List.getElem?_eq_getElem hkl⟩
      have hc1 := hlow.here hcc (Nat.le_of_lt hkl)
      have hf1 := hlow.froz k hlt2
      have HLOW := Lib.hid hlow
      have HCC := Lib.hid hcc
      have hb := c.toNat_lt
      clear hlow hcc
      by_cases h1 : 65 ≤ c.toNat
      · have d1 : decide ((65 : Int) ≤ (c.toNat : Int)) = true := decide_eq_true (by omega)
        by_cases h2 : c.toNat ≤ 90
        · have d2 : decide ((c.toNat : Int) ≤ 90) = true := decide_eq_true (by omega)
          have i1 : (65 : Int) ≤ (c.toNat : Int) := by omega
          have i2 : (c.toNat : Int) ≤ 90 := by omega
          have HV := Lib.hid (low_big h1 h2)
          go_wp2
          go_roundw
          case rel => exact ⟨k + 1, by omega, by go_num, HLOW.out.set HCC.out (Nat.le_of_lt hkl) _ HV.out⟩
          case measure => simp [intOf]; omega
        · have d2 : decide ((c.toNat : Int) ≤ 90) = false := decide_eq_false (by omega)
          have HV := Lib.hid (low_other (c := c) (by omega))
          go_wp2
          go_roundw
          case rel => exact ⟨k + 1, by omega, by go_num, HLOW.out.keep HCC.out HV.out⟩
          case measure => simp [intOf]; omega
      · have d1 : decide ((65 : Int) ≤ (c.toNat : Int)) = false := decide_eq_false (by omega)
        have HV := Lib.hid (low_other (c := c) (by omega))
        go_wp2
        go_roundw
        case rel => exact ⟨k + 1, by omega, by go_num, HLOW.out.keep HCC.out HV.out⟩
        case measure => simp [intOf]; omega
    · obtain rfl : k = a0.size := by omega
      have hc2 := HCV.out _ hlow
      have HBB := Lib.hid hlow.bel
      clear hlow
      go_wp2
      go_ret
      exact ⟨rfl, HBB.out⟩
end Go.Proofs.YtbpbfboaofkpaaaDoor.Print
