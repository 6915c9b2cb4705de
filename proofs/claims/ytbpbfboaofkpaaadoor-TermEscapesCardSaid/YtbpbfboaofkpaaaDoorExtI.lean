/- term.isLang. -/
import Derived.Test.YtbpbfboaofkpaaaDoorExtG
import Derived.Lib.SplitLaws
import Derived.Shelf.Strings.FuncGrows
set_option linter.unusedVariables false
set_option linter.unusedSimpArgs false
namespace Go.Proofs.YtbpbfboaofkpaaaDoor.Print
open Go.RowKit Go.Shelf Go.Lib

theorem term_all_calls (g : Nat) (eg : ∀ args w, (callFunc g args).run Tryd.prog w = .ok (.enter g args) w) (lb : Array Value) (p : Nat → Bool) (s : ByteArray) (w : World) (hp : PredGrows Tryd.prog g lb p w) :
    Calls Tryd.prog 70 #[.string s, .func (.func g) #[] lb] w fun e w' => e = .returned (.bool (allRunes p s)) ∧ Below w.heap.size w w' := by
  unfold allRunes
  have hc : ∀ W : World, Below w.heap.size w W → w.heap.size < W.heap.size → W.cell? ⟨w.heap.size, 0, none⟩ = some (.func (.func g) #[] lb) →
      Calls Tryd.prog 104 #[.string s, .func (.func 105) #[] #[.pointer (some ⟨w.heap.size, 0, none⟩)]] W fun e w' => e = .returned (.bool (decide (0 ≤ Lib.idxFunc (fun r => !p r) true s))) ∧ Below W.heap.size W w' := fun W hb hl hc =>
    Tryd.strings_ContainsFunc_grows 105 _ (enters_of Tryd.func105 (by kernel_rfl) rfl) _ s W (all1_pays g lb eg p W w.heap.size hl (hp.later hb) hc)
  generalize decide (0 ≤ Lib.idxFunc (fun r => !p r) true s) = b at hc ⊢
  have HC := Lib.hid hc
  clear hc
  go_enter Tryd.func70, Tryd.ntmps70
  go_wp2_with (go_at_call 104; refine (HC.out _ ?_ ?_ ?_).mono ?_; exact ((Below.refl _ _).alloc (Nat.le_refl _) _); simp; simp; rintro e w' ⟨rfl, hb⟩)
  go_ret
  exact ⟨rfl, ((Below.refl _ _).alloc (Nat.le_refl _) _).trans (hb.mono (by simp))⟩

def dashS : ByteArray := ⟨#[45]⟩
/-- A rune of a language's part: a small letter; a digit too, but not in the first. -/
def langRuneB (i : Nat) (r : Nat) : Bool := smallB r || (decide (0 < i) && digitB r)
def langPart (i : Nat) (x : ByteArray) : Bool := decide (0 < x.size) && decide (x.size ≤ 8) && allRunes (langRuneB i) x
def langParts : Nat → List ByteArray → Bool
  | _, [] => true
  | i, x :: l => langPart i x && langParts (i + 1) l
def langL (s : ByteArray) : List ByteArray := splitB dashS 0 (countB s dashS) s
def langB (s : ByteArray) : Bool := langParts 0 (langL s) && decide (s.size ≤ 16)
theorem langL_len (s : ByteArray) : (langL s).length = countB s dashS + 1 := splitB_all dashS (by decide) 0 _ s rfl

theorem lang1_pays (i B : Nat) (w : World) (hB : B < w.heap.size) (hc : w.cell? ⟨B, 0, none⟩ = some (.int .i64 (i : Int))) :
    PredGrows Tryd.prog 76 #[.pointer (some ⟨B, 0, none⟩)] (langRuneB i) w := by
  intro W x hx hb
  have hc' := (hb.cell (p := ⟨B, 0, none⟩) hB).trans hc
  show Calls Tryd.prog 76 #[.int .i32 (x : Int), .pointer (some ⟨B, 0, none⟩)] W _
  have h1 := fun w => isSmall_calls (x : Int) w
  have h2 := fun w => isDigit_calls (x : Int) w
  have e1 : langRuneB i x = ((decide (97 ≤ (x : Int)) && decide ((x : Int) ≤ 122)) || (decide ((0 : Int) < (i : Int)) && (decide (48 ≤ (x : Int)) && decide ((x : Int) ≤ 57)))) := by
    unfold langRuneB smallB digitB
    have a1 : decide (97 ≤ (x : Int)) = decide (97 ≤ x) := decide_eq_decide.2 (by omega)
    have a2 : decide ((x : Int) ≤ 122) = decide (x ≤ 122) := decide_eq_decide.2 (by omega)
    have a3 : decide (48 ≤ (x : Int)) = decide (48 ≤ x) := decide_eq_decide.2 (by omega)
    have a4 : decide ((x : Int) ≤ 57) = decide (x ≤ 57) := decide_eq_decide.2 (by omega)
    have a5 : decide ((0 : Int) < (i : Int)) = decide (0 < i) := decide_eq_decide.2 (by omega)
    rw [a1, a2, a3, a4, a5]
  rw [e1]
  generalize (decide (97 ≤ (x : Int)) && decide ((x : Int) ≤ 122)) = a at h1 ⊢
  generalize (decide (48 ≤ (x : Int)) && decide ((x : Int) ≤ 57)) = b at h2 ⊢
  obtain ⟨c, hcc⟩ : ∃ c, decide ((0 : Int) < (i : Int)) = c := ⟨_, rfl⟩
  rw [hcc]
  have hcd : decide (0 < i) = c := by rw [← hcc]; exact decide_eq_decide.2 (by omega)
  have H1 := Lib.hid h1
  have H2 := Lib.hid h2
  clear h1 h2 hc e1
  cases a <;> cases b <;> cases c
  all_goals
    go_enter Tryd.func76, Tryd.ntmps76
    go_wp2_with (first | (go_at_call 77; refine (H1.out _).mono ?_; rintro e w1 ⟨rfl, rfl⟩) | (go_at_call 74; refine (H2.out _).mono ?_; rintro e w2 ⟨rfl, rfl⟩))
    go_ret
    exact ⟨by rfl, Below.refl _ _⟩

set_option maxRecDepth 100000 in
set_option maxHeartbeats 1000000 in
theorem term_isLang_calls (a0 : ByteArray) (w : World) (hT : Tabs w) (hs : a0.size < 4294967281) :
    Calls Tryd.prog 41 #[.string a0] w fun e w' => e = .returned (.bool (langB a0)) ∧ Below w.heap.size w w' := by
  obtain ⟨m, hm⟩ := hT.ml
  have hsp := Tryd.strings_Split a0 dashS m w hs hm (by decide)
  have hlen := langL_len a0
  have hcb := countB_le dashS (by decide) a0.size a0 (Nat.le_refl _)
  have hbd : (langL a0).length < 4294967290 := by rw [hlen]; omega
  obtain ⟨c16, hc16⟩ : ∃ b, decide (a0.size ≤ 16) = b := ⟨_, rfl⟩
  have hd16 : decide ((a0.size : Int) ≤ 16) = c16 := by rw [← hc16]; exact decide_eq_decide.2 (by omega)
  unfold langB
  rw [hc16]
  have hl2 : splitB dashS 0 (countB a0 dashS) a0 = langL a0 := rfl
  rw [hl2] at hsp
  generalize langL a0 = l at hsp hlen hbd ⊢
  rw [← hlen] at hsp
  obtain ⟨R, hR⟩ : ∃ R, (langParts 0 l && c16) = R := ⟨_, rfl⟩
  rw [hR]
  have HR := Lib.hid hR
  have HSP := Lib.hid hsp
  clear hR hsp hlen hl2 hT hm hcb
  go_enter Tryd.func41, Tryd.ntmps41
  go_wp2_with (go_at_call 75; refine HSP.out.mono ?_; rintro e w1 ⟨rfl, rfl⟩)
  have hw0 : (w.alloc (.cells (l.map Value.string).toArray 9)).heap[w.heap.size]? = some (.cells (l.map Value.string).toArray 9) := heap_alloc_new w _
  have hsz : (w.alloc (.cells (l.map Value.string).toArray 9)).heap.size = w.heap.size + 1 := by simp
  have hbl : Below w.heap.size w (w.alloc (.cells (l.map Value.string).toArray 9)) := (Below.refl _ _).alloc (Nat.le_refl _) _
  generalize w.alloc (.cells (l.map Value.string).toArray 9) = W1 at hw0 hsz hbl ⊢
  have HB0 := Lib.hid hbl
  have HW0 := Lib.hid hw0
  have HSZ := Lib.hid hsz
  clear hbl hw0 hsz
  go_loopw [8] (fun i wr => ∃ k : Nat, k ≤ l.length ∧ i = .int .i64 k ∧ (langParts k (l.drop k) && c16) = R ∧ Below (w.heap.size + 1) W1 wr) (fun i _ => l.length - (intOf i).toNat)
  case atStart => exact ⟨0, Nat.zero_le _, rfl, HR.out, Below.refl _ _⟩
  case round =>
    obtain ⟨k, hk, rfl, hr, hb⟩ := hrel
    by_cases hlt : k < l.length
    · obtain ⟨x, hx⟩ : ∃ x, l[k] = x := ⟨_, rfl⟩
      have hd : l.drop k = x :: l.drop (k + 1) := by rw [List.drop_eq_getElem_cons hlt, hx]
      rw [hd] at hr
      have hc1 : wr.cell? ⟨w.heap.size, k, none⟩ = some (.string x) := by
        have e := (hb.block w.heap.size (by omega)).trans HW0.out
        unfold World.cell?
        simp only [e]
        simp [List.getElem?_eq_getElem hlt, hx]
      have hszw : w.heap.size < wr.heap.size := by have := HSZ.out; have := hb.size; omega
      have hlp : langParts k (x :: l.drop (k + 1)) = (langPart k x && langParts (k + 1) (l.drop (k + 1))) := rfl
      rw [hlp] at hr
      have HRR := Lib.hid hr
      have HB := Lib.hid hb
      have HX := Lib.hid hszw
      clear hr hb hd hx hlp
      by_cases h0 : x.size = 0
      · have n2 : (x.toList == []) = true := by
          rw [Lib.toList_data, beq_iff_eq]
          have := data_len x; rw [h0] at this; exact List.length_eq_zero_iff.1 this
        have HRF := Lib.hid (show R = false by rw [← HRR.out]; simp [langPart, h0])
        clear h0
        go_wp2
        go_ret
        exact ⟨by rw [HRF.out]; rfl, HB0.out.trans (((HB.out.mono (Nat.le_succ _))).trans ((Below.refl _ _).alloc (by have := HX.out; omega) _))⟩
      · have n2 : (x.toList == []) = false := by
          rw [Lib.toList_data, beq_eq_false_iff_ne]; intro e
          have := data_len x; rw [e] at this; simp at this; omega
        by_cases h8 : x.size ≤ 8
        · have m1 : decide ((8 : Int) < (x.size : Int)) = false := decide_eq_false (by omega)
          have hall := fun (W : World) (h1 : wr.heap.size < W.heap.size) (h2 : W.cell? ⟨wr.heap.size, 0, none⟩ = some (.int .i64 (k : Int))) => term_all_calls 76 (enters_of Tryd.func76 (by kernel_rfl) rfl) #[.pointer (some ⟨wr.heap.size, 0, none⟩)] (langRuneB k) x W (lang1_pays k wr.heap.size W h1 h2)
          have hre : (allRunes (langRuneB k) x && (langParts (k + 1) (l.drop (k + 1)) && c16)) = R := by
            rw [← HRR.out, langPart, decide_eq_true (by omega : 0 < x.size), decide_eq_true h8]; simp [Bool.and_assoc]
          generalize allRunes (langRuneB k) x = b at hall hre
          have HA := Lib.hid hall
          have HRE := Lib.hid hre
          clear hall hre h0 h8
          cases b
          · go_wp2_with (go_at_call 70; refine (HA.out _ ?_ ?_).mono ?_; simp; simp; rintro e w2 ⟨rfl, hb2⟩)
            go_ret
            exact ⟨by rw [← HRE.out]; rfl, HB0.out.trans ((HB.out.mono (Nat.le_succ _)).trans (((Below.refl _ _).alloc (by have := HX.out; omega) _).trans (hb2.mono (by simp; have := HX.out; omega))))⟩
          · go_wp2_with (go_at_call 70; refine (HA.out _ ?_ ?_).mono ?_; simp; simp; rintro e w2 ⟨rfl, hb2⟩)
            go_roundw
            case rel => exact ⟨k + 1, by omega, by go_num, by rw [← HRE.out]; rfl, HB.out.trans (((Below.refl _ _).alloc (by have := HX.out; omega) _).trans (hb2.mono (by simp; have := HX.out; omega)))⟩
            case measure => simp [intOf]; omega
        · have m1 : decide ((8 : Int) < (x.size : Int)) = true := decide_eq_true (by omega)
          have HRF := Lib.hid (show R = false by rw [← HRR.out]; simp [langPart, h8])
          clear h0 h8
          go_wp2
          go_ret
          exact ⟨by rw [HRF.out]; rfl, HB0.out.trans (((HB.out.mono (Nat.le_succ _))).trans ((Below.refl _ _).alloc (by have := HX.out; omega) _))⟩
    · obtain rfl : k = l.length := by omega
      rw [List.drop_length] at hr
      have HRR := Lib.hid hr
      have HB := Lib.hid hb
      clear hr hb
      go_wp2
      go_ret
      exact ⟨by rw [← HRR.out]; rfl, HB0.out.trans (HB.out.mono (Nat.le_succ _))⟩
def langOk (s : ByteArray) : Bool := decide (s.size < 4294967281)
def term_isLang.f (a0 : ByteArray) : Option Bool := if langOk a0 then some (langB a0) else none
theorem term_isLang.calls (a0 : ByteArray) (r : Bool) (w : World) (hT : Tabs w) (h : term_isLang.f a0 = some r) :
    Calls Tryd.prog 41 #[.string a0] w fun e w' => e = .returned (.bool r) ∧ Below w.heap.size w w' := by
  unfold term_isLang.f at h
  by_cases hs : langOk a0 = true
  · rw [if_pos hs] at h
    obtain rfl := Option.some.inj h
    exact term_isLang_calls a0 w hT (of_decide_eq_true hs)
  · rw [if_neg hs] at h; cases h
end Go.Proofs.YtbpbfboaofkpaaaDoor.Print
