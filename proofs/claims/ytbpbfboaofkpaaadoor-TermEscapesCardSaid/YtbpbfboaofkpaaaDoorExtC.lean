/- triviumref4.IsIRI, which reads its text rune by rune. -/
import Derived.Test.YtbpbfboaofkpaaaDoorExtP
import Derived.Laws.IdiomStrings
import Derived.LoopTactic
set_option linter.unusedVariables false
set_option linter.unusedSimpArgs false
namespace Go.Proofs.YtbpbfboaofkpaaaDoor.Print
open Go.RowKit Go.Shelf Go.Lib

/-- The runes of a text, from a place on. -/
def runesL (s : ByteArray) : Nat → Nat → List Nat
  | 0, _ => []
  | b + 1, i => if i < s.size then (Utf8.decode s i).1 :: runesL s b (i + (Utf8.decode s i).2) else []
theorem runesL_length (s : ByteArray) : ∀ b i, (runesL s b i).length ≤ b
  | 0, _ => Nat.le_refl _
  | b + 1, i => by
    unfold runesL
    split
    · have := runesL_length s b (i + (Utf8.decode s i).2); simp; omega
    · simp
theorem runesFrom_eq (s : ByteArray) : ∀ b i (acc : Array Value), (Conv.runesFrom s b i acc).toList = acc.toList ++ (runesL s b i).map fun n : Nat => Value.int .i32 (Int.ofNat n)
  | 0, _, acc => by simp [Conv.runesFrom, runesL]
  | b + 1, i, acc => by
    unfold Conv.runesFrom runesL
    split
    · rw [runesFrom_eq s b]; simp
    · simp
theorem idx_all (p : Nat → Bool) (s : ByteArray) : ∀ f pos, decide (0 ≤ Lib.idxFuncFrom (fun r => !p r) true s f pos) = !(runesL s f pos).all p
  | 0, pos => by simp [Lib.idxFuncFrom, runesL]
  | f + 1, pos => by
    unfold Lib.idxFuncFrom runesL
    by_cases h : pos < s.size
    · simp only [h, if_true]
      by_cases hp : p (Utf8.decode s pos).1 = true
      · simp only [hp, Bool.not_true, Bool.false_eq_true, if_false, List.all_cons, Bool.true_and]
        exact idx_all p s f _
      · have hp' : p (Utf8.decode s pos).1 = false := by simpa using hp
        simp [hp']
    · simp [h]
theorem allRunes_eq (p : Nat → Bool) (s : ByteArray) : allRunes p s = (runesL s s.size 0).all p := by
  unfold allRunes Lib.idxFunc
  rw [idx_all]; simp

theorem cell_blk {W : World} {g : Nat} {cs : Array Value} {t : TypeId} {fr : Nat × Nat} (h : W.heap[g]? = some (.cells cs t fr)) (j : Nat) : W.cell? ⟨g, j, none⟩ = cs[j]? := by simp [World.cell?, h]
/-- '[]rune(s)' of a text that is not too long: some world, in which the runes lie. -/
theorem runes_made (s : ByteArray) (h : s.size ≤ 1000000) : ∃ (RW : World → World) (CAP : World → Nat),
    (∀ W : World, (convert 9 113 (.string s)).run Tryd.prog W = .ok (.slice (some ⟨W.heap.size, 0, none⟩) (runesL s s.size 0).length (CAP W)) (RW W)) ∧
    (∀ (W : World) (j : Nat), j < (runesL s s.size 0).length → (RW W).cell? ⟨W.heap.size, j, none⟩ = some (.int .i32 ((runesL s s.size 0).getD j 0 : Nat))) ∧
    (∀ W : World, Below W.heap.size W (RW W)) ∧ (∀ W : World, W.heap.size < (RW W).heap.size) := by
  have hl := runesL_length s s.size 0
  have e1 := runesFrom_eq s s.size 0 #[]
  have e2 : (Conv.runesFrom s s.size 0 #[]).size = (runesL s s.size 0).length := by rw [← Array.length_toList, e1]; simp
  refine ⟨fun W => W.drew.alloc (.cells (Conv.runesFrom s s.size 0 #[] ++ Array.replicate (grownCap W (Conv.runesFrom s s.size 0 #[]).size 0 21 - (Conv.runesFrom s s.size 0 #[]).size) (.int .i32 0)) 21), fun W => grownCap W (Conv.runesFrom s s.size 0 #[]).size 0 21, fun W => ?_, fun W j hj => ?_, fun W => ?_, fun W => by simp⟩
  · rw [run_runes_of_string W 9 113 21 s Tryd.underlying9 Tryd.underlying113 Tryd.underlying21 (by omega), e2]
  · refine (cell_blk (heap_alloc_new W.drew _) j).trans ?_
    have e3 : (Conv.runesFrom s s.size 0 #[])[j]? = some (.int .i32 ((runesL s s.size 0).getD j 0 : Nat)) := by
      rw [← Array.getElem?_toList, e1]
      simp [List.getElem?_map, List.getElem?_eq_getElem hj]
    have e4 : (Conv.runesFrom s s.size 0 #[] ++ Array.replicate (grownCap W (Conv.runesFrom s s.size 0 #[]).size 0 21 - (Conv.runesFrom s s.size 0 #[]).size) (.int .i32 0))[j]? = some (.int .i32 ((runesL s s.size 0).getD j 0 : Nat)) := by
      rw [Array.getElem?_append_left (by rw [e2]; exact hj)]; exact e3
    exact e4
  · exact ((Below.refl _ _).drew).alloc (by simp) _

theorem iriRune_calls (x : Nat) (w : World) : Calls Tryd.prog 89 #[.int .i32 (x : Int)] w fun e w' => e = .returned (.bool (iriRuneB x)) ∧ w = w' := by
  by_cases hq : x = 34 ∨ x = 60 ∨ x = 62 ∨ x = 92 ∨ x = 94 ∨ x = 96 ∨ x = 123 ∨ x = 124 ∨ x = 125
  · rcases hq with rfl | rfl | rfl | rfl | rfl | rfl | rfl | rfl | rfl
    all_goals
      show Calls _ _ _ w fun e w' => e = .returned (.bool false) ∧ _
      go_enter Tryd.func89, Tryd.ntmps89
      go_wp2
      go_ret
      exact ⟨rfl, rfl⟩
  · have q : ¬ x = 34 ∧ ¬ x = 60 ∧ ¬ x = 62 ∧ ¬ x = 92 ∧ ¬ x = 94 ∧ ¬ x = 96 ∧ ¬ x = 123 ∧ ¬ x = 124 ∧ ¬ x = 125 := by omega
    have v : iriRuneB x = ((decide (33 ≤ x) && decide (x ≤ 126)) || decide (160 ≤ x)) := by
      unfold iriRuneB
      have f : ∀ n : Nat, ¬ x = n → (x != n) = true := fun n h => bne_iff_ne.mpr h
      rw [f 34 (by omega), f 60 (by omega), f 62 (by omega), f 92 (by omega), f 94 (by omega), f 96 (by omega), f 123 (by omega), f 124 (by omega), f 125 (by omega)]
      simp
    have f : ∀ n : Int, ¬ (x : Int) = n → ((x : Int) == n) = false := fun n h => beq_eq_false_iff_ne.mpr h
    have f1 := f 34 (by omega)
    have f2 := f 60 (by omega)
    have f3 := f 62 (by omega)
    have f4 := f 92 (by omega)
    have f5 := f 94 (by omega)
    have f6 := f 96 (by omega)
    have f7 := f 123 (by omega)
    have f8 := f 124 (by omega)
    have f9 := f 125 (by omega)
    clear f hq q
    rw [v]
    clear v
    by_cases a1 : 33 ≤ x
    · rw [decide_eq_true a1]
      have b1 : decide ((33 : Int) ≤ (x : Int)) = true := decide_eq_true (by omega)
      by_cases a2 : x ≤ 126
      · rw [decide_eq_true a2]
        have b2 : decide ((x : Int) ≤ 126) = true := decide_eq_true (by omega)
        clear a1 a2
        show Calls _ _ _ w fun e w' => e = .returned (.bool true) ∧ _
        go_enter Tryd.func89, Tryd.ntmps89
        go_wp2
        go_ret
        exact ⟨rfl, rfl⟩
      · rw [decide_eq_false a2]
        have b2 : decide ((x : Int) ≤ 126) = false := decide_eq_false (by omega)
        obtain ⟨c, hc⟩ : ∃ c, decide (160 ≤ x) = c := ⟨_, rfl⟩
        have b3 : decide ((160 : Int) ≤ (x : Int)) = c := by rw [← hc]; exact decide_eq_decide.2 (by omega)
        rw [hc]
        clear hc a1 a2
        cases c
        all_goals
          go_enter Tryd.func89, Tryd.ntmps89
          go_wp2
          go_ret
          exact ⟨rfl, rfl⟩
    · rw [decide_eq_false a1]
      have b1 : decide ((33 : Int) ≤ (x : Int)) = false := decide_eq_false (by omega)
      have b3 : decide ((160 : Int) ≤ (x : Int)) = false := decide_eq_false (by omega)
      rw [decide_eq_false (show ¬ 160 ≤ x by omega)]
      clear a1
      show Calls _ _ _ w fun e w' => e = .returned (.bool false) ∧ _
      go_enter Tryd.func89, Tryd.ntmps89
      go_wp2
      go_ret
      exact ⟨rfl, rfl⟩

def refIriOk (a0 : ByteArray) : Bool := !(!Lib.validD a0.data.toList || decide (a0.size < 1) || decide (60 < a0.size)) && allRunes iriRuneB a0
theorem refIri_calls (a0 : ByteArray) (w : World) (hT : Tabs w) (hz : a0.size ≤ 9223372036854775807) :
    Calls Tryd.prog 45 #[.string a0] w fun e w' => e = .returned (.bool (refIriOk a0)) ∧ Below w.heap.size w w' := by
  have c1 := fun W (hb : Below w.heap.size w W) => Any.utf8_ValidString Tryd.lays196 a0 W hz (XTabs_below hT hb).u8
  unfold refIriOk
  generalize Lib.validD a0.data.toList = b1 at c1 ⊢
  have C1 := Lib.hid c1
  clear c1 hT
  cases b1
  · show Calls _ _ _ w fun e w' => e = .returned (.bool false) ∧ _
    go_enter Tryd.func45, Tryd.ntmps45
    go_wp2_with (go_at_call 38; refine (C1.out _ (Below.refl _ _)).mono ?_; rintro e w1 ⟨rfl, hb1⟩)
    go_ret
    exact ⟨rfl, hb1⟩
  · by_cases h1 : a0.size < 1
    · have m1 : decide ((a0.size : Int) < 1) = true := decide_eq_true (by omega)
      have m2 : decide (a0.size < 1) = true := decide_eq_true h1
      have v : (!(!true || decide (a0.size < 1) || decide (60 < a0.size)) && allRunes iriRuneB a0) = false := by rw [m2]; simp
      rw [v]
      clear v h1
      go_enter Tryd.func45, Tryd.ntmps45
      go_wp2_with (go_at_call 38; refine (C1.out _ (Below.refl _ _)).mono ?_; rintro e w1 ⟨rfl, hb1⟩)
      go_ret
      exact ⟨rfl, hb1⟩
    · by_cases h2 : 60 < a0.size
      · have m1 : decide ((a0.size : Int) < 1) = false := decide_eq_false (by omega)
        have m2 : decide (a0.size < 1) = false := decide_eq_false h1
        have m3 : decide ((60 : Int) < (a0.size : Int)) = true := decide_eq_true (by omega)
        have m4 : decide (60 < a0.size) = true := decide_eq_true h2
        have v : (!(!true || decide (a0.size < 1) || decide (60 < a0.size)) && allRunes iriRuneB a0) = false := by rw [m2, m4]; simp
        rw [v]
        clear v h1 h2
        go_enter Tryd.func45, Tryd.ntmps45
        go_wp2_with (go_at_call 38; refine (C1.out _ (Below.refl _ _)).mono ?_; rintro e w1 ⟨rfl, hb1⟩)
        go_ret
        exact ⟨rfl, hb1⟩
      · have m1 : decide ((a0.size : Int) < 1) = false := decide_eq_false (by omega)
        have m2 : decide (a0.size < 1) = false := decide_eq_false h1
        have m3 : decide ((60 : Int) < (a0.size : Int)) = false := decide_eq_false (by omega)
        have m4 : decide (60 < a0.size) = false := decide_eq_false h2
        have v : (!(!true || decide (a0.size < 1) || decide (60 < a0.size)) && allRunes iriRuneB a0) = allRunes iriRuneB a0 := by rw [m2, m4]; simp
        rw [v, allRunes_eq]
        obtain ⟨RW, CAP, kc, hcell, hbel, hlt⟩ := runes_made a0 (by omega)
        have hl : (runesL a0 a0.size 0).length ≤ 60 := Nat.le_trans (runesL_length a0 a0.size 0) (by omega)
        clear v h1 h2
        generalize runesL a0 a0.size 0 = ns at kc hcell hl ⊢
        have HC := Lib.hid hcell
        have HB := Lib.hid hbel
        clear hcell hbel
        go_enter Tryd.func45, Tryd.ntmps45
        go_wp2_with (go_at_call 38; refine (C1.out _ (Below.refl _ _)).mono ?_; rintro e w1 ⟨rfl, hb1⟩)
        have hbb : Below w.heap.size w (RW w1) := hb1.trans ((HB.out w1).mono hb1.size)
        have HBB := Lib.hid hbb
        clear kc hbb hb1 m1 m2 m3 m4
        go_loop [4] (fun i => ∃ k : Nat, k ≤ ns.length ∧ i = .int .i64 k ∧ (ns.take k).all iriRuneB = true) (fun i => ns.length - (intOf i).toNat)
        case atStart => exact ⟨0, Nat.zero_le _, rfl, rfl⟩
        case round =>
          obtain ⟨k, hk, rfl, hall⟩ := hrel
          have HALL := Lib.hid hall
          clear hall
          by_cases hlt2 : k < ns.length
          · have hc1 := HC.out w1 k hlt2
            have ht : ns.take (k + 1) = ns.take k ++ [ns.getD k 0] := by rw [List.take_succ_eq_append_getElem hlt2]; simp [List.getD_eq_getElem?_getD, List.getElem?_eq_getElem hlt2]
            obtain ⟨x, hx⟩ : ∃ x, ns.getD k 0 = x := ⟨_, rfl⟩
            rw [hx] at hc1 ht
            have hns : iriRuneB x = false → ns.all iriRuneB = false := by
              intro hf
              rw [List.all_eq_false]
              refine ⟨x, ?_, by simp [hf]⟩
              rw [← hx]
              simp [List.getD_eq_getElem?_getD, List.getElem?_eq_getElem hlt2]
            have HNS := Lib.hid hns
            have HTK := Lib.hid ht
            clear hns ht hx
            have hr := fun W => iriRune_calls x W
            obtain ⟨b, hb⟩ : ∃ b, iriRuneB x = b := ⟨_, rfl⟩
            rw [hb] at hr
            have HRB := Lib.hid hb
            have HR := Lib.hid hr
            clear hr hb
            cases b
            · go_wp2_with (go_at_call 89; refine (HR.out _).mono ?_; rintro e w' ⟨rfl, rfl⟩)
              go_ret
              exact ⟨by rw [HNS.out HRB.out]; rfl, HBB.out⟩
            · go_wp2_with (go_at_call 89; refine (HR.out _).mono ?_; rintro e w' ⟨rfl, rfl⟩)
              go_round
              case rel => exact ⟨k + 1, by omega, by go_num, by rw [HTK.out, List.all_append, HALL.out]; simp [HRB.out]⟩
              case measure => simp [intOf]; omega
          · obtain rfl : k = ns.length := by omega
            go_wp2
            go_ret
            exact ⟨by rw [← HALL.out, List.take_length]; rfl, HBB.out⟩
end Go.Proofs.YtbpbfboaofkpaaaDoor.Print
