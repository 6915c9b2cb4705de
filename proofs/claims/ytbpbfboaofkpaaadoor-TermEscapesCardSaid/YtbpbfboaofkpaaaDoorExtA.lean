/- The functions of the program that go through the library's tables, builders or closures: what each comes to, as a plain function, and its contract. -/
import Derived.Test.YtbpbfboaofkpaaaDoorTabs
import Derived.Test.YtbpbfboaofkpaaaDoorExtP
import Derived.Test.YtbpbfboaofkpaaaDoorExtH
import Derived.Test.YtbpbfboaofkpaaaDoorExtI
import Derived.Deep.RegionHeld3
import Derived.Deep.DeepCutAuto
import Derived.Test.YtbpbfboaofkpaaaDoorWWords
import Derived.Shelf.Unicode.ValidAny
import Derived.Lib.IndexMore
namespace Go.Proofs.YtbpbfboaofkpaaaDoor.Print
open Go.RowKit Go.Shelf Go.Proofs.YtbpbfboaofkpaaaDoorW.PrintWords
set_option linter.unusedVariables false
set_option linter.unusedSimpArgs false

def sizeOk (s : ByteArray) : Bool := decide (s.size ≤ 9223372036854775807)
def iriB (s : ByteArray) : Bool := decide (0 < s.size) && decide (s.size ≤ 60) && Lib.validD s.data.toList && allRunes iriRuneB s

def utf8_ValidString.f (a0 : ByteArray) : Option Bool := if sizeOk a0 then some (Lib.validD a0.data.toList) else none
theorem utf8_ValidString.calls (a0 : ByteArray) (r : Bool) (w : World) (hT : Tabs w) (h : utf8_ValidString.f a0 = some r) :
    Calls Tryd.prog 38 #[.string a0] w fun e w' => e = .returned (.bool r) ∧ Below w.heap.size w w' := by
  unfold utf8_ValidString.f at h
  by_cases hs : sizeOk a0 = true
  · rw [if_pos hs] at h
    obtain rfl := Option.some.inj h
    exact Any.utf8_ValidString Tryd.lays196 a0 w (of_decide_eq_true hs) hT.u8
  · rw [if_neg hs] at h; cases h

theorem ba_toList (a : ByteArray) : a.toList = a.data.toList := Lib.toList_data a
theorem ba_ne {a : ByteArray} (h : 0 < a.size) : a.toList ≠ [] := by
  intro e
  rw [ba_toList] at e
  have : a.data.toList.length = 0 := by rw [e]; rfl
  rw [Array.length_toList] at this
  have h2 : a.size = a.data.size := rfl
  omega
theorem ba_empty {a : ByteArray} (h : a.size = 0) : a = ⟨#[]⟩ := by
  cases a with | mk d =>
  have : d.size = 0 := h
  congr
  exact Array.eq_empty_of_size_eq_zero this
def term_IsIRI.f (a0 : ByteArray) : Option Bool := if sizeOk a0 then some (iriB a0) else none
theorem term_IsIRI.calls (a0 : ByteArray) (r : Bool) (w : World) (hT : Tabs w) (h : term_IsIRI.f a0 = some r) :
    Calls Tryd.prog 39 #[.string a0] w fun e w' => e = .returned (.bool r) ∧ Below w.heap.size w w' := by
  unfold term_IsIRI.f at h
  by_cases hs : sizeOk a0 = true
  · rw [if_pos hs] at h
    obtain rfl := Option.some.inj h
    have hz : a0.size ≤ 9223372036854775807 := of_decide_eq_true hs
    clear h hs
    unfold iriB
    rcases Nat.eq_zero_or_pos a0.size with h0 | h0
    · obtain rfl := ba_empty h0
      clear h0 hT
      show Calls _ _ _ w fun e w' => e = .returned (.bool false) ∧ _
      go_enter Tryd.func39, Tryd.ntmps39
      go_wp2
      go_ret
      exact ⟨rfl, Below.refl _ _⟩
    · have n1 := ba_ne h0
      have n2 : (a0.toList == []) = false := beq_eq_false_iff_ne.mpr n1
      have n3 : (a0.toList != []) = true := bne_iff_ne.mpr n1
      have n4 : a0.toList.isEmpty = false := by cases e : a0.toList <;> simp_all
      rw [decide_eq_true h0, Bool.true_and]
      by_cases h60 : a0.size ≤ 60
      · have m1 : decide ((a0.size : Int) ≤ 60) = true := decide_eq_true (by omega)
        have m2 : decide (a0.size ≤ 60) = true := decide_eq_true h60
        rw [decide_eq_true h60, Bool.true_and]
        have c1 := fun W (hb : Below w.heap.size w W) => Any.utf8_ValidString Tryd.lays196 a0 W hz (XTabs_below hT hb).u8
        have c2 := fun W => term_all_calls 71 (enters_of Tryd.func71 (by kernel_rfl) rfl) #[] iriRuneB a0 W (isRune_pays W)
        generalize Lib.validD a0.data.toList = b1 at c1 ⊢
        generalize allRunes iriRuneB a0 = b2 at c2 ⊢
        have C1 := Lib.hid c1
        have C2 := Lib.hid c2
        clear c1 c2 hT h0 h60 n1
        cases b1
        · show Calls _ _ _ w fun e w' => e = .returned (.bool false) ∧ _
          go_enter Tryd.func39, Tryd.ntmps39
          go_wp2_with (go_at_call 38; refine (C1.out _ (Below.refl _ _)).mono ?_; rintro e w1 ⟨rfl, hb1⟩)
          go_ret
          exact ⟨rfl, hb1⟩
        · show Calls _ _ _ w fun e w' => e = .returned (.bool b2) ∧ _
          go_enter Tryd.func39, Tryd.ntmps39
          go_wp2_with (first | (go_at_call 38; refine (C1.out _ (Below.refl _ _)).mono ?_; rintro e w1 ⟨rfl, hb1⟩) | (go_at_call 70; refine (C2.out _).mono ?_; rintro e w2 ⟨rfl, hb2⟩))
          go_ret
          exact ⟨rfl, hb1.trans (hb2.mono hb1.size)⟩
      · have m1 : decide ((a0.size : Int) ≤ 60) = false := decide_eq_false (by omega)
        have m2 : decide (a0.size ≤ 60) = false := decide_eq_false h60
        rw [decide_eq_false h60, Bool.false_and]
        rw [Bool.false_and]
        clear hT h0 h60 n1
        go_enter Tryd.func39, Tryd.ntmps39
        go_wp2
        go_ret
        exact ⟨rfl, Below.refl _ _⟩
  · rw [if_neg hs] at h; cases h

def triviumref4_IsIRI.f (a0 : ByteArray) : Option Bool := if sizeOk a0 then some (iriB a0) else none
theorem triviumref4_IsIRI.calls (a0 : ByteArray) (r : Bool) (w : World) (hT : Tabs w) (h : triviumref4_IsIRI.f a0 = some r) :
    Calls Tryd.prog 45 #[.string a0] w fun e w' => e = .returned (.bool r) ∧ Below w.heap.size w w' := by
  unfold triviumref4_IsIRI.f at h
  by_cases hs : sizeOk a0 = true
  · rw [if_pos hs] at h
    obtain rfl := Option.some.inj h
    have e : refIriOk a0 = iriB a0 := by
      unfold refIriOk iriB
      by_cases h1 : a0.size < 1
      · rw [decide_eq_true h1, decide_eq_false (by omega : ¬ 0 < a0.size)]; simp
      · by_cases h2 : 60 < a0.size
        · rw [decide_eq_true h2, decide_eq_false (by omega : ¬ a0.size ≤ 60)]; simp
        · rw [decide_eq_false h1, decide_eq_false h2, decide_eq_true (by omega : 0 < a0.size), decide_eq_true (by omega : a0.size ≤ 60)]; simp
    rw [← e]
    exact refIri_calls a0 w hT (of_decide_eq_true hs)
  · rw [if_neg hs] at h; cases h

def labelB (s : ByteArray) : Bool := decide (0 < s.size) && decide (s.size ≤ 8) && allRunes alnumB s
def term_isLabel.f (a0 : ByteArray) : Option Bool := if sizeOk a0 then some (labelB a0) else none
theorem term_isLabel.calls (a0 : ByteArray) (r : Bool) (w : World) (h : term_isLabel.f a0 = some r) :
    Calls Tryd.prog 40 #[.string a0] w fun e w' => e = .returned (.bool r) ∧ Below w.heap.size w w' := by
  unfold term_isLabel.f at h
  by_cases hs : sizeOk a0 = true
  · rw [if_pos hs] at h
    obtain rfl := Option.some.inj h
    have hz : a0.size ≤ 9223372036854775807 := of_decide_eq_true hs
    clear h hs
    unfold labelB
    rcases Nat.eq_zero_or_pos a0.size with h0 | h0
    · obtain rfl := ba_empty h0
      clear h0
      show Calls _ _ _ w fun e w' => e = .returned (.bool false) ∧ _
      go_enter Tryd.func40, Tryd.ntmps40
      go_wp2
      go_ret
      exact ⟨rfl, Below.refl _ _⟩
    · have n1 := ba_ne h0
      have n2 : (a0.toList == []) = false := beq_eq_false_iff_ne.mpr n1
      have n3 : (a0.toList != []) = true := bne_iff_ne.mpr n1
      have n4 : a0.toList.isEmpty = false := by cases e : a0.toList <;> simp_all
      rw [decide_eq_true h0, Bool.true_and]
      by_cases h60 : a0.size ≤ 8
      · have m1 : decide ((a0.size : Int) ≤ 8) = true := decide_eq_true (by omega)
        have m2 : decide (a0.size ≤ 8) = true := decide_eq_true h60
        rw [decide_eq_true h60, Bool.true_and]
        have c2 := fun W => term_all_calls 72 (enters_of Tryd.func72 (by kernel_rfl) rfl) #[] alnumB a0 W (label1_pays W)
        generalize allRunes alnumB a0 = b2 at c2 ⊢
        have C2 := Lib.hid c2
        clear c2 h0 h60 n1
        go_enter Tryd.func40, Tryd.ntmps40
        go_wp2_with (go_at_call 70; refine (C2.out _).mono ?_; rintro e w2 ⟨rfl, hb2⟩)
        go_ret
        exact ⟨rfl, hb2⟩
      · have m1 : decide ((a0.size : Int) ≤ 8) = false := decide_eq_false (by omega)
        have m2 : decide (a0.size ≤ 8) = false := decide_eq_false h60
        rw [decide_eq_false h60, Bool.false_and]
        clear h0 h60 n1
        go_enter Tryd.func40, Tryd.ntmps40
        go_wp2
        go_ret
        exact ⟨rfl, Below.refl _ _⟩
  · rw [if_neg hs] at h; cases h

def quotOk (s : ByteArray) : Bool := decide (s.size ≤ 1000000)
def quotB (s : ByteArray) : ByteArray := ⟨(34 :: escL s.data.toList ++ [34]).toArray⟩
def term_quoted.f (a0 : ByteArray) : Option ByteArray := if quotOk a0 then some (quotB a0) else none
theorem term_quoted.calls (a0 : ByteArray) (r : ByteArray) (w : World) (h : term_quoted.f a0 = some r) :
    Calls Tryd.prog 42 #[.string a0] w fun e w' => e = .returned (.string r) ∧ Below w.heap.size w w' := by
  unfold term_quoted.f at h
  by_cases hs : quotOk a0 = true
  · rw [if_pos hs] at h
    obtain rfl := Option.some.inj h
    exact quoted_calls a0 w (of_decide_eq_true hs)
  · rw [if_neg hs] at h; cases h

def smallL (s : ByteArray) : ByteArray := ⟨(s.data.toList.map lowB).toArray⟩
def smallOk (s : ByteArray) : Bool := decide (s.size ≤ 1000000)
def triviumref5_small.f (a0 : ByteArray) : Option ByteArray := if smallOk a0 then some (smallL a0) else none
theorem triviumref5_small.calls (a0 : ByteArray) (r : ByteArray) (w : World) (h : triviumref5_small.f a0 = some r) :
    Calls Tryd.prog 110 #[.string a0] w fun e w' => e = .returned (.string r) ∧ Below w.heap.size w w' := by
  unfold triviumref5_small.f at h
  by_cases hs : smallOk a0 = true
  · rw [if_pos hs] at h
    obtain rfl := Option.some.inj h
    exact small_calls a0 w (of_decide_eq_true hs)
  · rw [if_neg hs] at h; cases h

def strings_Cut.f (a0 a1 : ByteArray) : Option (ByteArray × ByteArray × Bool) := if langOk a0 then some (⟨(Lib.cut a0.data.toList a1.data.toList).1.toArray⟩, ⟨(Lib.cut a0.data.toList a1.data.toList).2.1.toArray⟩, (Lib.cut a0.data.toList a1.data.toList).2.2) else none
theorem strings_Cut.calls (a0 a1 : ByteArray) (r1 r2 : ByteArray) (r3 : Bool) (w : World) (hT : Tabs w) (h : strings_Cut.f a0 a1 = some (r1, r2, r3)) :
    Calls Tryd.prog 145 #[.string a0, .string a1] w fun e w' => e = .returned (.tuple #[.string r1, .string r2, .bool r3]) ∧ Drawn0 w w' := by
  unfold strings_Cut.f at h
  by_cases hs : langOk a0 = true
  · rw [if_pos hs] at h
    obtain ⟨m, hm⟩ := hT.ml
    have e := Option.some.inj h
    simp only [Prod.mk.injEq] at e
    obtain ⟨rfl, rfl, rfl⟩ := e
    exact (Tryd.strings_Cut a0 a1 m w (of_decide_eq_true hs) hm).mono fun _ _ ⟨he, hw⟩ => ⟨he, ⟨hw⟩⟩
  · rw [if_neg hs] at h; cases h

def varB (s : ByteArray) : Bool := s.data.toList.all (fun c => smallB c.toNat) && decide (0 < s.size) && decide (s.size ≤ 8)
def query_isVar.f (a0 : ByteArray) : Option Bool := if smallOk a0 then some (varB a0) else none
theorem query_isVar.calls (a0 : ByteArray) (r : Bool) (w : World) (h : query_isVar.f a0 = some r) :
    Calls Tryd.prog 102 #[.string a0] w fun e w' => e = .returned (.bool r) ∧ Below w.heap.size w w' := by
  unfold query_isVar.f at h
  by_cases hs : smallOk a0 = true
  · rw [if_pos hs] at h
    obtain rfl := Option.some.inj h
    have e : varB a0 = (a0.data.toList.all (fun c => smallB c.toNat) && (decide (0 < a0.size) && decide (a0.size ≤ 8))) := by unfold varB; rw [Bool.and_assoc]
    rw [e]
    exact isVar_calls a0 w (of_decide_eq_true hs)
  · rw [if_neg hs] at h; cases h
end Go.Proofs.YtbpbfboaofkpaaaDoor.Print
