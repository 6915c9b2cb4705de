/- The predicates on runes that term hands to strings.ContainsFunc, and 'all': what each comes to. -/
import Derived.Test.YtbpbfboaofkpaaaDoorTabs
import Derived.Test.YtbpbfboaofkpaaaDoorShelf
import Derived.WalkKit
import Derived.WalkMore
import Derived.KernelRfl
import Derived.Lib.Hide
import Derived.Deep.QuietTactic
import Derived.BigQuiet
import Derived.Laws.Cover1
set_option linter.unusedVariables false
namespace Go.Proofs.YtbpbfboaofkpaaaDoor.Print
open Go.RowKit Go.Shelf Go.Lib

def iriRuneB (r : Nat) : Bool := (decide (33 ≤ r) && decide (r ≤ 126) && r != 34 && r != 60 && r != 62 && r != 92 && r != 94 && r != 96 && r != 123 && r != 124 && r != 125) || decide (160 ≤ r)
def smallB (r : Nat) : Bool := decide (97 ≤ r) && decide (r ≤ 122)
def digitB (r : Nat) : Bool := decide (48 ≤ r) && decide (r ≤ 57)
def alnumB (r : Nat) : Bool := smallB r || (decide (65 ≤ r) && decide (r ≤ 90)) || digitB r

theorem iri_mid : ∀ x : Fin 128, 33 ≤ x.val → x.val ≤ 126 → (!decide (0 ≤ Lib.indexByte [34, 60, 62, 92, 94, 96, 123, 124, 125] x.val.toUInt8)) = iriRuneB x.val := by decide +kernel
theorem iri_lo {x : Nat} (h : x ≤ 32) : iriRuneB x = false := by
  have a : ¬ 33 ≤ x := by omega
  have b : ¬ 160 ≤ x := by omega
  simp [iriRuneB, a, b]
theorem iri_hi {x : Nat} (h : 127 ≤ x) : iriRuneB x = decide (160 ≤ x) := by
  have b : ¬ x ≤ 126 := by omega
  simp [iriRuneB, b]

theorem isRune_pays (w : World) : PredGrows Tryd.prog 71 #[] iriRuneB w := by
  intro W x hx hb
  show Calls Tryd.prog 71 #[.int .i32 (x : Int)] W _
  rcases Nat.lt_or_ge 32 x with h1 | h1
  · rcases Nat.lt_or_ge x 127 with h2 | h2
    · have e1 := iri_mid ⟨x, by omega⟩ (by show 33 ≤ x; omega) (by show x ≤ 126; omega)
      have e1 : (!decide (0 ≤ Lib.indexByte [34, 60, 62, 92, 94, 96, 123, 124, 125] x.toUInt8)) = iriRuneB x := e1
      have h3 : (32 : Int) < (x : Int) := by omega
      have h4 : (x : Int) < 127 := by omega
      have h5 : decide ((160 : Int) ≤ (x : Int)) = false := decide_eq_false (by omega)
      generalize hv : Lib.indexByte [34, 60, 62, 92, 94, 96, 123, 124, 125] x.toUInt8 = v at e1
      have hc : ∀ w2 : World, Calls Tryd.prog 106 #[.string ⟨#[34, 60, 62, 92, 94, 96, 123, 124, 125]⟩, .int .i32 (x : Int)] w2 fun e w' => e = .returned (.bool (decide (0 ≤ v))) ∧ w2 = w' := by
        intro w2
        have := Tryd.strings_ContainsRune_ascii ⟨#[34, 60, 62, 92, 94, 96, 123, 124, 125]⟩ (x : Int) w2 (by omega) (by omega)
        rw [Int.toNat_natCast] at this
        exact this.mono fun e w' ⟨he, hw⟩ => ⟨by rw [he, ← hv], hw.symm⟩
      clear hv
      by_cases h6 : 0 ≤ v
      · have e2 : iriRuneB x = false := by rw [← e1]; simp [h6]
        rw [e2]
        clear e1 e2
        have h7 : decide (0 ≤ v) = true := decide_eq_true h6
        rw [h7] at hc
        clear h7 h6
        have HC := Lib.hid hc
        clear hc
        go_enter Tryd.func71, Tryd.ntmps71
        go_wp2_with (go_at_call 106; refine (HC.out _).mono ?_; rintro e w' ⟨rfl, rfl⟩)
        go_ret
        exact ⟨rfl, Below.refl _ _⟩
      · have e2 : iriRuneB x = true := by rw [← e1]; simp [h6]
        rw [e2]
        clear e1 e2
        have h7 : decide (0 ≤ v) = false := decide_eq_false h6
        rw [h7] at hc
        clear h7 h6
        have HC := Lib.hid hc
        clear hc
        go_enter Tryd.func71, Tryd.ntmps71
        go_wp2_with (go_at_call 106; refine (HC.out _).mono ?_; rintro e w' ⟨rfl, rfl⟩)
        go_ret
        exact ⟨rfl, Below.refl _ _⟩
    · rw [iri_hi h2]
      have h3 : (32 : Int) < (x : Int) := by omega
      have h4 : ¬ (x : Int) < 127 := by omega
      by_cases h5 : 160 ≤ x
      · have h6 : (160 : Int) ≤ (x : Int) := by omega
        rw [decide_eq_true h5]
        clear h5
        go_enter Tryd.func71, Tryd.ntmps71
        go_wp2
        go_ret
        exact ⟨rfl, Below.refl _ _⟩
      · have h6 : ¬ (160 : Int) ≤ (x : Int) := by omega
        rw [decide_eq_false h5]
        clear h5
        go_enter Tryd.func71, Tryd.ntmps71
        go_wp2
        go_ret
        exact ⟨rfl, Below.refl _ _⟩
  · rw [iri_lo h1]
    have h3 : ¬ (32 : Int) < (x : Int) := by omega
    have h5 : ¬ (160 : Int) ≤ (x : Int) := by omega
    go_enter Tryd.func71, Tryd.ntmps71
    go_wp2
    go_ret
    exact ⟨rfl, Below.refl _ _⟩

theorem isSmall_calls (x : Int) (w : World) : Calls Tryd.prog 77 #[.int .i32 x] w fun e w' => e = .returned (.bool (decide (97 ≤ x) && decide (x ≤ 122))) ∧ w = w' := by
  by_cases h1 : 97 ≤ x
  · by_cases h2 : x ≤ 122
    all_goals
      simp only [h1, h2, decide_true, decide_false, Bool.and_true, Bool.and_false]
      go_enter Tryd.func77, Tryd.ntmps77
      go_wp2
      go_ret
      exact ⟨rfl, rfl⟩
  · simp only [h1, decide_false, Bool.false_and]
    go_enter Tryd.func77, Tryd.ntmps77
    go_wp2
    go_ret
    exact ⟨rfl, rfl⟩
theorem isDigit_calls (x : Int) (w : World) : Calls Tryd.prog 74 #[.int .i32 x] w fun e w' => e = .returned (.bool (decide (48 ≤ x) && decide (x ≤ 57))) ∧ w = w' := by
  by_cases h1 : 48 ≤ x
  · by_cases h2 : x ≤ 57
    all_goals
      simp only [h1, h2, decide_true, decide_false, Bool.and_true, Bool.and_false]
      go_enter Tryd.func74, Tryd.ntmps74
      go_wp2
      go_ret
      exact ⟨rfl, rfl⟩
  · simp only [h1, decide_false, Bool.false_and]
    go_enter Tryd.func74, Tryd.ntmps74
    go_wp2
    go_ret
    exact ⟨rfl, rfl⟩
theorem isLetter_calls (x : Int) (w : World) : Calls Tryd.prog 73 #[.int .i32 x] w fun e w' => e = .returned (.bool ((decide (97 ≤ x) && decide (x ≤ 122)) || (decide (65 ≤ x) && decide (x ≤ 90)))) ∧ w = w' := by
  obtain ⟨b, hb⟩ : ∃ b, (decide (97 ≤ x) && decide (x ≤ 122)) = b := ⟨_, rfl⟩
  have hs := fun w => isSmall_calls x w
  rw [hb] at hs ⊢
  clear hb
  cases b
  · by_cases h1 : 65 ≤ x
    · obtain ⟨c, hc⟩ : ∃ c, decide (x ≤ 90) = c := ⟨_, rfl⟩
      have h1' : decide (65 ≤ x) = true := decide_eq_true h1
      rw [hc, h1']
      clear h1
      cases c
      all_goals
        simp only [Bool.and_true, Bool.and_false, Bool.false_or, Bool.or_self, Bool.and_self]
        have HC := Lib.hid hs
        clear hs
        go_enter Tryd.func73, Tryd.ntmps73
        go_wp2_with (go_at_call 77; refine (HC.out _).mono ?_; rintro e w' ⟨rfl, rfl⟩)
        go_ret
        exact ⟨rfl, rfl⟩
    · simp only [h1, decide_false, Bool.false_and, Bool.or_self]
      have HC := Lib.hid hs
      clear hs
      go_enter Tryd.func73, Tryd.ntmps73
      go_wp2_with (go_at_call 77; refine (HC.out _).mono ?_; rintro e w' ⟨rfl, rfl⟩)
      go_ret
      exact ⟨rfl, rfl⟩
  · simp only [Bool.true_or]
    have HC := Lib.hid hs
    clear hs
    go_enter Tryd.func73, Tryd.ntmps73
    go_wp2_with (go_at_call 77; refine (HC.out _).mono ?_; rintro e w' ⟨rfl, rfl⟩)
    go_ret
    exact ⟨rfl, rfl⟩
theorem alnum_int (x : Nat) : alnumB x = (((decide (97 ≤ (x : Int)) && decide ((x : Int) ≤ 122)) || (decide (65 ≤ (x : Int)) && decide ((x : Int) ≤ 90))) || (decide (48 ≤ (x : Int)) && decide ((x : Int) ≤ 57))) := by
  unfold alnumB smallB digitB
  congr 1
  · congr 1
    · congr 1 <;> exact decide_eq_decide.2 (by omega)
    · congr 1 <;> exact decide_eq_decide.2 (by omega)
  · congr 1 <;> exact decide_eq_decide.2 (by omega)
theorem label1_pays (w : World) : PredGrows Tryd.prog 72 #[] alnumB w := by
  intro W x hx hb
  show Calls Tryd.prog 72 #[.int .i32 (x : Int)] W _
  rw [alnum_int]
  have h1 := fun w => isLetter_calls (x : Int) w
  have h2 := fun w => isDigit_calls (x : Int) w
  generalize ((decide (97 ≤ (x : Int)) && decide ((x : Int) ≤ 122)) || (decide (65 ≤ (x : Int)) && decide ((x : Int) ≤ 90))) = a at h1 ⊢
  generalize (decide (48 ≤ (x : Int)) && decide ((x : Int) ≤ 57)) = b at h2 ⊢
  have H1 := Lib.hid h1
  have H2 := Lib.hid h2
  clear h1 h2
  cases a
  · cases b
    all_goals
      go_enter Tryd.func72, Tryd.ntmps72
      go_wp2_with (first | (go_at_call 73; refine (H1.out _).mono ?_; rintro e w' ⟨rfl, rfl⟩) | (go_at_call 74; refine (H2.out _).mono ?_; rintro e w' ⟨rfl, rfl⟩))
      go_ret
      exact ⟨rfl, Below.refl _ _⟩
  · go_enter Tryd.func72, Tryd.ntmps72
    go_wp2_with (first | (go_at_call 73; refine (H1.out _).mono ?_; rintro e w' ⟨rfl, rfl⟩) | (go_at_call 74; refine (H2.out _).mono ?_; rintro e w' ⟨rfl, rfl⟩))
    go_ret
    exact ⟨rfl, Below.refl _ _⟩

/-- 'all': does it hold of all runes? g: a function value that captures lb. -/
def allRunes (p : Nat → Bool) (s : ByteArray) : Bool := !decide (0 ≤ Lib.idxFunc (fun r => !p r) true s)
theorem all1_pays (g : Nat) (lb : Array Value) (eg : ∀ args w, (callFunc g args).run Tryd.prog w = .ok (.enter g args) w) (p : Nat → Bool) (w : World) (B : Nat) (hB : B < w.heap.size) (hp : PredGrows Tryd.prog g lb p w) (hc : w.cell? ⟨B, 0, none⟩ = some (.func (.func g) #[] lb)) :
    PredGrows Tryd.prog 105 #[.pointer (some ⟨B, 0, none⟩)] (fun r => !p r) w := by
  intro W x hx hb
  have hc' := (hb.cell (p := ⟨B, 0, none⟩) hB).trans hc
  have hq := fun W' (h : Below w.heap.size w W') => hp W' x hx h
  have HQ := Lib.hid hq
  have HB := Lib.hid hb
  clear hq hc hp hb
  show Calls Tryd.prog 105 #[.int .i32 (x : Int), .pointer (some ⟨B, 0, none⟩)] W fun e w' => e = .returned (.bool (!p x)) ∧ Below W.heap.size W w'
  generalize p x = b at HQ ⊢
  go_enter Tryd.func105, Tryd.ntmps105
  go_wp2_with (go_at_fn g; refine (HQ.out _ HB.out).mono ?_; rintro e w' ⟨rfl, hb2⟩)
  go_ret
  exact ⟨rfl, hb2⟩
end Go.Proofs.YtbpbfboaofkpaaaDoor.Print
