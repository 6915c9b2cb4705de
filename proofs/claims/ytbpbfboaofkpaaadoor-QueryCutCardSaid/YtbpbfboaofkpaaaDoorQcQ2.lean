/- Proofs for this claim: printed by our driver and joined by pack.py; the last text holds the statement. -/
import Derived.Test.YtbpbfboaofkpaaaDoorQcQ1
import Derived.WalkMore
import Derived.Lib.Hide
import Derived.Laws.Cover1
import Derived.Laws.IdiomStrings
import Derived.LoopTactic
import Derived.Laws.Cover4
import Derived.Lib.SplitLaws
import Derived.Lib.IndexMore
section
namespace Go.Proofs.YtbpbfboaofkpaaaDoor.Print
open Go.RowKit Go.Proofs.YtbpbfboaofkpaaaDoorW.PrintWords Go.Proofs.YtbpbfboaofkpaaaDoorW.PrintLast Go.Proofs.YtbpbfboaofkpaaaDoorW.PrintMore
attribute [local go_sem] max2_int min2_int max_two min_two max_three min_three max_four min_four
set_option linter.unusedVariables false
set_option linter.unusedSimpArgs false
set_option maxHeartbeats 8000000 in
set_option maxRecDepth 100000 in
theorem Ys.calls (g : Nat) (s0_0 : ByteArray) (s0_1 : Int) (s0_2 : Int) (s0_3 : Int) (a1 : Int) (a2 : Int) (r1 : Int) (r2 : ByteArray) (r3 : List ByteArray) (r4 : List (S37)) (r5 : ByteArray) (r6 : Int) (r7 : Int) (r8 : Int) (w0 w : World) (hI : Yw w0 w g s0_0 s0_1 s0_2 s0_3) (hB : Below w0.heap.size w0 w) (h : Ys.f s0_0 s0_1 s0_2 s0_3 a1 a2 = some (r1, r2, r3, r4, r5, r6, r7, r8)) :
  Calls Tryd.prog 54 #[.pointer (some ⟨g, 0, none⟩), .int .i64 a1, .int .i64 a2] w fun e w' => ∃ v2_ v3_ : Value, e = .returned (.agg #[.int .i64 r1, .string r2, v2_, v3_]) ∧ Kd.R Kd.string 9 w' w.heap.size (fun k_ => (w.heap.size ≤ k_)) v2_ r3 ∧ Kd.N k37 37 w' w.heap.size (fun k_ => (w.heap.size ≤ k_) ∧ some k_ ≠ (v2_ : Value).ownBlock) v3_ r4 ∧ Yw w0 w' g r5 r6 r7 r8 ∧ Below w0.heap.size w0 w' ∧ Y1 w w' g none := by
 have hu37 := Tryd.underlying37
 have HI0 := Y0.mk hI
 have HK := Y0.mk (Y1.refl w g none)
 have HL := Y0.mk hB.size
 clear hI
 have HW0 := Y0.mk hB.size
 have HB := Y0.mk hB
 clear hB
 have H : (if s0_2 = 0 then (some (0, (⟨#[]⟩ : ByteArray), ([] : List ByteArray), ([] : List (S37)), s0_0, s0_1, a2, a1)) else (some (0, (⟨#[]⟩ : ByteArray), ([] : List ByteArray), ([] : List (S37)), s0_0, s0_1, s0_2, s0_3))) = some (r1, r2, r3, r4, r5, r6, r7, r8) := h
 clear h
 by_cases c4 : s0_2 = 0
 ·rw [if_pos c4] at H
  have c4b0 : (s0_2 == 0) = true := beq_iff_eq.mpr c4
  have c4b1 : (s0_2 != 0) = false := bne_eq_false_iff_eq.mpr c4
  clear c4
  simp only [Option.some.injEq, Prod.mk.injEq] at H
  obtain ⟨rfl, rfl, rfl, rfl, rfl, rfl, rfl, rfl⟩ := H
  go_enter Tryd.func54, Tryd.ntmps54
  go_wp2_with (first | ((with_reducible refine YF (N := 6) rfl ?_); refine YD ?hg (N := 6) ?hd (cs := #[.int .i64 0, .string (⟨#[]⟩ : ByteArray), .slice none 0 0, .slice none 0 0]) (t := 37) ?hr ?_; (case hd => rfl); (case hg => rfl); (case hr => exact Zb); intro gb101 hg w5 hbox hb; have n_ := Y4q (Yw.below QI75_0 hb) (Y1.trans QK (Y1.of_below hb g none) (.inl rfl)) (Y8 QB hb) (hbox) ((by rw [hg]; exact (Y7 (w := w) (g := g) (row := none) QK) : w.heap.size ≤ gb101)) ((Nat.le_trans HW0.out (by rw [hg]; exact (Y7 (w := w) (g := g) (row := none) QK) : w.heap.size ≤ gb101) : w0.heap.size ≤ gb101)) ((by rw [hg]; exact Nat.ne_of_lt (Yw.lt (show Yw w0 _ g s0_0 s0_1 s0_2 s0_3 from QI75_0)) : g ≠ gb101)) ((by rw [hg]; exact Nat.ne_of_gt (Yw.lt (show Yw w0 _ g s0_0 s0_1 s0_2 s0_3 from QI75_0)) : gb101 ≠ g)); clear HI0 HK HB; obtain ⟨HI0, HK, HB, BK101, GW101, GE101, NB0_101, NB101_0⟩ := n_; clear hb hbox hg; obtain ⟨HGz6, hgz6⟩ := HI0.out; have hcz6_0 := YX HGz6; have hcz6_1 := YY HGz6; have hcz6_2 := YZ HGz6; have hcz6_3 := Y10 HGz6; have hfz6_0 := Y6 HGz6 0; have hfz6_1 := Y6 HGz6 1; have hfz6_2 := Y6 HGz6 2; have hfz6_3 := Y6 HGz6 3; clear HGz6 hgz6; have hnb7 := NB101_0.out; have hnc7 := NB0_101.out; obtain ⟨hcz8_0, hcz8_1, hcz8_2, hcz8_3, hfz8_0, hfz8_1, hfz8_2, hfz8_3⟩ := YA BK101.out))
  refine bodyPost_ret (results_cell_row rfl _ _ gb101 37 #[.int .i64 0, .string (⟨#[]⟩ : ByteArray), .slice none 0 0, .slice none 0 0] (0, 0) _ rfl Zp Tryd.underlying37 rfl Z4) rfl ?_
  exact ⟨_, _, Z2, Z5, Z5, QI75_0, QB, QK⟩
 ·rw [if_neg c4] at H
  have c4b0 : (s0_2 == 0) = false := beq_eq_false_iff_ne.mpr c4
  have c4b1 : (s0_2 != 0) = true := bne_iff_ne.mpr c4
  simp only [Option.some.injEq, Prod.mk.injEq] at H
  obtain ⟨rfl, rfl, rfl, rfl, rfl, rfl, rfl, rfl⟩ := H
  go_enter Tryd.func54, Tryd.ntmps54
  go_wp2_with (first | ((with_reducible refine YF (N := 6) rfl ?_); refine YD ?hg (N := 6) ?hd (cs := #[.int .i64 0, .string (⟨#[]⟩ : ByteArray), .slice none 0 0, .slice none 0 0]) (t := 37) ?hr ?_; (case hd => rfl); (case hg => rfl); (case hr => exact Zb); intro gb101 hg w9 hbox hb; have n_ := Y4q (Yw.below QI75_0 hb) (Y1.trans QK (Y1.of_below hb g none) (.inl rfl)) (Y8 QB hb) (hbox) ((by rw [hg]; exact (Y7 (w := w) (g := g) (row := none) QK) : w.heap.size ≤ gb101)) ((Nat.le_trans HW0.out (by rw [hg]; exact (Y7 (w := w) (g := g) (row := none) QK) : w.heap.size ≤ gb101) : w0.heap.size ≤ gb101)) ((by rw [hg]; exact Nat.ne_of_lt (Yw.lt (show Yw w0 _ g s0_0 s0_1 s0_2 s0_3 from QI75_0)) : g ≠ gb101)) ((by rw [hg]; exact Nat.ne_of_gt (Yw.lt (show Yw w0 _ g s0_0 s0_1 s0_2 s0_3 from QI75_0)) : gb101 ≠ g)); clear HI0 HK HB; obtain ⟨HI0, HK, HB, BK101, GW101, GE101, NB0_101, NB101_0⟩ := n_; clear hb hbox hg; obtain ⟨HGz10, hgz10⟩ := HI0.out; have hcz10_0 := YX HGz10; have hcz10_1 := YY HGz10; have hcz10_2 := YZ HGz10; have hcz10_3 := Y10 HGz10; have hfz10_0 := Y6 HGz10 0; have hfz10_1 := Y6 HGz10 1; have hfz10_2 := Y6 HGz10 2; have hfz10_3 := Y6 HGz10 3; clear HGz10 hgz10; have hnb11 := NB101_0.out; have hnc11 := NB0_101.out; obtain ⟨hcz12_0, hcz12_1, hcz12_2, hcz12_3, hfz12_0, hfz12_1, hfz12_2, hfz12_3⟩ := YA BK101.out))
  refine bodyPost_ret (results_cell_row rfl _ _ gb101 37 #[.int .i64 0, .string (⟨#[]⟩ : ByteArray), .slice none 0 0, .slice none 0 0] (0, 0) _ rfl Z2a Tryd.underlying37 rfl Z4) rfl ?_
  exact ⟨_, _, Z2, Z5, Z5, QI75_0, QB, QK⟩
end Go.Proofs.YtbpbfboaofkpaaaDoor.Print
end
section
set_option linter.unusedVariables false
namespace Go.Proofs.YtbpbfboaofkpaaaDoor.Print
open Go.RowKit Go.Shelf Go.Lib
def Y1e (r : Nat) : Bool := (decide (33 ≤ r) && decide (r ≤ 126) && r != 34 && r != 60 && r != 62 && r != 92 && r != 94 && r != 96 && r != 123 && r != 124 && r != 125) || decide (160 ≤ r)
theorem iri_mid : ∀ x : Fin 128, 33 ≤ x.val → x.val ≤ 126 → (!decide (0 ≤ Lib.indexByte [34, 60, 62, 92, 94, 96, 123, 124, 125] x.val.toUInt8)) = Y1e x.val := by decide +kernel
theorem iri_lo {x : Nat} (h : x ≤ 32) : Y1e x = false := by
 have a : ¬ 33 ≤ x := by omega
 have b : ¬ 160 ≤ x := by omega
 simp [Y1e, a, b]
theorem iri_hi {x : Nat} (h : 127 ≤ x) : Y1e x = decide (160 ≤ x) := by
 have b : ¬ x ≤ 126 := by omega
 simp [Y1e, b]
theorem Y69 (w : World) : PredGrows Tryd.prog 71 #[] Y1e w := by
 intro W x hx hb
 show Calls Tryd.prog 71 #[.int .i32 (x : Int)] W _
 rcases Nat.lt_or_ge 32 x with h1 | h1
 ·rcases Nat.lt_or_ge x 127 with h2 | h2
  ·have e1 := iri_mid ⟨x, by omega⟩ (by show 33 ≤ x; omega) (by show x ≤ 126; omega)
   have e1 : (!decide (0 ≤ Lib.indexByte [34, 60, 62, 92, 94, 96, 123, 124, 125] x.toUInt8)) = Y1e x := e1
   have h3 : (32 : Int) < (x : Int) := by omega
   have h4 : (x : Int) < 127 := by omega
   have h5 : decide ((160 : Int) ≤ (x : Int)) = false := decide_eq_false (by omega)
   generalize hv : Lib.indexByte [34, 60, 62, 92, 94, 96, 123, 124, 125] x.toUInt8 = v at e1
   have hc : ∀ w2 : World, Calls Tryd.prog 106 #[.string ⟨#[34, 60, 62, 92, 94, 96, 123, 124, 125]⟩, .int .i32 (x : Int)] w2 fun e w' => e = .returned (.bool (decide (0 ≤ v))) ∧ w2 = w' := by
    intro w2
    have := Tryd.strings_ContainsRune_ascii ⟨#[34, 60, 62, 92, 94, 96, 123, 124, 125]⟩ (x : Int) w2 (by omega) (by omega)
    rw [Int.toNat_natCast] at this
    exact this.mono fun e w' ⟨he, hw⟩ => ⟨by rw [he, ← hv], hw.symm⟩
   clear hv
   by_cases h6 : 0 ≤ v
   ·have e2 : Y1e x = false := by rw [← e1]; simp [h6]
    rw [e2]
    clear e1 e2
    have h7 : decide (0 ≤ v) = true := decide_eq_true h6
    rw [h7] at hc
    clear h7 h6
    have HC := Lib.hid hc
    clear hc
    go_enter Tryd.func71, Tryd.ntmps71
    go_wp2_with (go_at_call 106; refine (HC.out _).mono ?_; rintro e w' ⟨rfl, rfl⟩)
    go_ret
    exact Z21
   ·have e2 : Y1e x = true := by rw [← e1]; simp [h6]
    rw [e2]
    clear e1 e2
    have h7 : decide (0 ≤ v) = false := decide_eq_false h6
    rw [h7] at hc
    clear h7 h6
    have HC := Lib.hid hc
    clear hc
    go_enter Tryd.func71, Tryd.ntmps71
    go_wp2_with (go_at_call 106; refine (HC.out _).mono ?_; rintro e w' ⟨rfl, rfl⟩)
    go_ret
    exact Z21
  ·rw [iri_hi h2]
   have h3 : (32 : Int) < (x : Int) := by omega
   have h4 : ¬ (x : Int) < 127 := by omega
   by_cases h5 : 160 ≤ x
   ·have h6 : (160 : Int) ≤ (x : Int) := by omega
    rw [decide_eq_true h5]
    clear h5
    go_enter Tryd.func71, Tryd.ntmps71
    go_wp2
    go_ret
    exact Z21
   ·have h6 : ¬ (160 : Int) ≤ (x : Int) := by omega
    rw [decide_eq_false h5]
    clear h5
    go_enter Tryd.func71, Tryd.ntmps71
    go_wp2
    go_ret
    exact Z21
 ·rw [iri_lo h1]
  have h3 : ¬ (32 : Int) < (x : Int) := by omega
  have h5 : ¬ (160 : Int) ≤ (x : Int) := by omega
  go_enter Tryd.func71, Tryd.ntmps71
  go_wp2
  go_ret
  exact Z21
def Y2w (p : Nat → Bool) (s : ByteArray) : Bool := !decide (0 ≤ Lib.idxFunc (fun r => !p r) true s)
theorem all1_pays (g : Nat) (lb : Array Value) (eg : ∀ args w, (callFunc g args).run Tryd.prog w = .ok (.enter g args) w) (p : Nat → Bool) (w : World) (B : Nat) (hB : B < w.heap.size) (hp : PredGrows Tryd.prog g lb p w) (hc : w.cell? ⟨B, 0, none⟩ = some (.func (.func g) #[] lb)) :
  PredGrows Tryd.prog 105 #[.pointer (some ⟨B, 0, none⟩)] (fun r => !p r) w := by
 intro W x hx hb
 have hc' := (hb.cell (p := ⟨B, 0, none⟩) hB).trans hc
 have hq := fun W' (h : Below w.heap.size w W') => hp W' x hx h
 have HQ := Lib.hid hq
 have HB := Lib.hid hb
 clear hq hc hp hb
 show Calls Tryd.prog 105 #[.int .i32 (x : Int), .pointer (some ⟨B, 0, none⟩)] W fun e w' => e = .returned (.bool (!p x)) ∧ Below W.heap.size W w'
 generalize p x = b at HQ ⊢
 go_enter Tryd.func105, Tryd.ntmps105
 go_wp2_with (go_at_fn g; refine (HQ.out _ HB.out).mono ?_; rintro e w' ⟨rfl, hb2⟩)
 go_ret
 exact ⟨rfl, hb2⟩
end Go.Proofs.YtbpbfboaofkpaaaDoor.Print
end
section
set_option linter.unusedVariables false
set_option linter.unusedSimpArgs false
namespace Go.Proofs.YtbpbfboaofkpaaaDoor.Print
open Go.RowKit Go.Shelf Go.Lib
def Y2u (s : ByteArray) : Nat → Nat → List Nat
 | 0, _ => []
 | b + 1, i => if i < s.size then (Utf8.decode s i).1 :: Y2u s b (i + (Utf8.decode s i).2) else []
theorem Y3n (s : ByteArray) : ∀ b i, (Y2u s b i).length ≤ b
 | 0, _ => Nat.le_refl _
 | b + 1, i => by
  unfold Y2u
  split
  ·have := Y3n s b (i + (Utf8.decode s i).2); simp; omega
  ·simp
theorem Y4g (s : ByteArray) : ∀ b i (acc : Array Value), (Conv.runesFrom s b i acc).toList = acc.toList ++ (Y2u s b i).map fun n : Nat => Value.int .i32 (Int.ofNat n)
 | 0, _, acc => by simp [Conv.runesFrom, Y2u]
 | b + 1, i, acc => by
  unfold Conv.runesFrom Y2u
  split
  ·rw [Y4g s b]; simp
  ·simp
theorem idx_all (p : Nat → Bool) (s : ByteArray) : ∀ f pos, decide (0 ≤ Lib.idxFuncFrom (fun r => !p r) true s f pos) = !(Y2u s f pos).all p
 | 0, pos => by simp [Lib.idxFuncFrom, Y2u]
 | f + 1, pos => by
  unfold Lib.idxFuncFrom Y2u
  by_cases h : pos < s.size
  ·simp only [h, if_true]
   by_cases hp : p (Utf8.decode s pos).1 = true
   ·simp only [hp, Bool.not_true, Bool.false_eq_true, if_false, List.all_cons, Bool.true_and]
    exact idx_all p s f _
   ·have hp' : p (Utf8.decode s pos).1 = false := by simpa using hp
    simp [hp']
  ·simp [h]
theorem Y4v (p : Nat → Bool) (s : ByteArray) : Y2w p s = (Y2u s s.size 0).all p := by
 unfold Y2w Lib.idxFunc
 rw [idx_all]; simp
theorem cell_blk {W : World} {g : Nat} {cs : Array Value} {t : TypeId} {fr : Nat × Nat} (h : W.heap[g]? = some (.cells cs t fr)) (j : Nat) : W.cell? ⟨g, j, none⟩ = cs[j]? := by simp [World.cell?, h]
theorem Y6L (s : ByteArray) (h : s.size ≤ 1000000) : ∃ (RW : World → World) (CAP : World → Nat),
  (∀ W : World, (convert 9 113 (.string s)).run Tryd.prog W = .ok (.slice (some ⟨W.heap.size, 0, none⟩) (Y2u s s.size 0).length (CAP W)) (RW W)) ∧
  (∀ (W : World) (j : Nat), j < (Y2u s s.size 0).length → (RW W).cell? ⟨W.heap.size, j, none⟩ = some (.int .i32 ((Y2u s s.size 0).getD j 0 : Nat))) ∧
  (∀ W : World, Below W.heap.size W (RW W)) ∧ (∀ W : World, W.heap.size < (RW W).heap.size) := by
 have hl := Y3n s s.size 0
 have e1 := Y4g s s.size 0 #[]
 have e2 : (Conv.runesFrom s s.size 0 #[]).size = (Y2u s s.size 0).length := by rw [← Array.length_toList, e1]; simp
 refine ⟨fun W => W.drew.alloc (.cells (Conv.runesFrom s s.size 0 #[] ++ Array.replicate (grownCap W (Conv.runesFrom s s.size 0 #[]).size 0 21 - (Conv.runesFrom s s.size 0 #[]).size) (.int .i32 0)) 21), fun W => grownCap W (Conv.runesFrom s s.size 0 #[]).size 0 21, fun W => ?_, fun W j hj => ?_, fun W => ?_, fun W => by simp⟩
 ·rw [run_runes_of_string W 9 113 21 s Tryd.underlying9 Tryd.underlying113 Tryd.underlying21 (by omega), e2]
 ·refine (cell_blk (heap_alloc_new W.drew _) j).trans ?_
  have e3 : (Conv.runesFrom s s.size 0 #[])[j]? = some (.int .i32 ((Y2u s s.size 0).getD j 0 : Nat)) := by
   rw [← Array.getElem?_toList, e1]
   simp [List.getElem?_map, List.getElem?_eq_getElem hj]
  have e4 : (Conv.runesFrom s s.size 0 #[] ++ Array.replicate (grownCap W (Conv.runesFrom s s.size 0 #[]).size 0 21 - (Conv.runesFrom s s.size 0 #[]).size) (.int .i32 0))[j]? = some (.int .i32 ((Y2u s s.size 0).getD j 0 : Nat)) := by
   rw [Array.getElem?_append_left (by rw [e2]; exact hj)]; exact e3
  exact e4
 ·exact ((Below.refl _ _).drew).alloc (by simp) _
theorem Y5u (x : Nat) (w : World) : Calls Tryd.prog 89 #[.int .i32 (x : Int)] w fun e w' => e = .returned (.bool (Y1e x)) ∧ w = w' := by
 by_cases hq : x = 34 ∨ x = 60 ∨ x = 62 ∨ x = 92 ∨ x = 94 ∨ x = 96 ∨ x = 123 ∨ x = 124 ∨ x = 125
 ·rcases hq with rfl | rfl | rfl | rfl | rfl | rfl | rfl | rfl | rfl
  all_goals
   show Calls _ _ _ w fun e w' => e = .returned (.bool false) ∧ _
   go_enter Tryd.func89, Tryd.ntmps89
   go_wp2
   go_ret
   exact ⟨rfl, rfl⟩
 ·have q : ¬ x = 34 ∧ ¬ x = 60 ∧ ¬ x = 62 ∧ ¬ x = 92 ∧ ¬ x = 94 ∧ ¬ x = 96 ∧ ¬ x = 123 ∧ ¬ x = 124 ∧ ¬ x = 125 := by omega
  have v : Y1e x = ((decide (33 ≤ x) && decide (x ≤ 126)) || decide (160 ≤ x)) := by
   unfold Y1e
   have f : ∀ n : Nat, ¬ x = n → (x != n) = true := fun n h => bne_iff_ne.mpr h
   rw [f 34 (by omega), f 60 (by omega), f 62 (by omega), f 92 (by omega), f 94 (by omega), f 96 (by omega), f 123 (by omega), f 124 (by omega), f 125 (by omega)]
   simp
  have f : ∀ n : Int, ¬ (x : Int) = n → ((x : Int) == n) = false := fun n h => beq_eq_false_iff_ne.mpr h
  have f1 := f 34 (by omega)
  have f2 := f 60 (by omega)
  have f3 := f 62 (by omega)
  have f4 := f 92 (by omega)
  have f5 := f 94 (by omega)
  have f6 := f 96 (by omega)
  have f7 := f 123 (by omega)
  have f8 := f 124 (by omega)
  have f9 := f 125 (by omega)
  clear f hq q
  rw [v]
  clear v
  by_cases a1 : 33 ≤ x
  ·rw [decide_eq_true a1]
   have b1 : decide ((33 : Int) ≤ (x : Int)) = true := decide_eq_true (by omega)
   by_cases a2 : x ≤ 126
   ·rw [decide_eq_true a2]
    have b2 : decide ((x : Int) ≤ 126) = true := decide_eq_true (by omega)
    clear a1 a2
    show Calls _ _ _ w fun e w' => e = .returned (.bool true) ∧ _
    go_enter Tryd.func89, Tryd.ntmps89
    go_wp2
    go_ret
    exact ⟨rfl, rfl⟩
   ·rw [decide_eq_false a2]
    have b2 : decide ((x : Int) ≤ 126) = false := decide_eq_false (by omega)
    obtain ⟨c, hc⟩ : ∃ c, decide (160 ≤ x) = c := ⟨_, rfl⟩
    have b3 : decide ((160 : Int) ≤ (x : Int)) = c := by rw [← hc]; exact decide_eq_decide.2 (by omega)
    rw [hc]
    clear hc a1 a2
    cases c
    all_goals
     go_enter Tryd.func89, Tryd.ntmps89
     go_wp2
     go_ret
     exact ⟨rfl, rfl⟩
  ·rw [decide_eq_false a1]
   have b1 : decide ((33 : Int) ≤ (x : Int)) = false := decide_eq_false (by omega)
   have b3 : decide ((160 : Int) ≤ (x : Int)) = false := decide_eq_false (by omega)
   rw [decide_eq_false (show ¬ 160 ≤ x by omega)]
   clear a1
   show Calls _ _ _ w fun e w' => e = .returned (.bool false) ∧ _
   go_enter Tryd.func89, Tryd.ntmps89
   go_wp2
   go_ret
   exact ⟨rfl, rfl⟩
def Y4r (a0 : ByteArray) : Bool := !(!Lib.validD a0.data.toList || decide (a0.size < 1) || decide (60 < a0.size)) && Y2w Y1e a0
theorem Y5W (a0 : ByteArray) (w : World) (hT : Tabs w) (hz : a0.size ≤ 9223372036854775807) :
  Calls Tryd.prog 45 #[.string a0] w fun e w' => e = .returned (.bool (Y4r a0)) ∧ Below w.heap.size w w' := by
 have c1 := fun W (hb : Below w.heap.size w W) => Any.utf8_ValidString Tryd.lays196 a0 W hz (Y2z hT hb).u8
 unfold Y4r
 generalize Lib.validD a0.data.toList = b1 at c1 ⊢
 have C1 := Lib.hid c1
 clear c1 hT
 cases b1
 ·show Calls _ _ _ w fun e w' => e = .returned (.bool false) ∧ _
  go_enter Tryd.func45, Tryd.ntmps45
  go_wp2_with (go_at_call 38; refine (C1.out _ (Below.refl _ _)).mono ?_; rintro e w1 ⟨rfl, hb1⟩)
  go_ret
  exact ⟨rfl, hb1⟩
 ·by_cases h1 : a0.size < 1
  ·have m1 : decide ((a0.size : Int) < 1) = true := decide_eq_true (by omega)
   have m2 : decide (a0.size < 1) = true := decide_eq_true h1
   have v : (!(!true || decide (a0.size < 1) || decide (60 < a0.size)) && Y2w Y1e a0) = false := by rw [m2]; simp
   rw [v]
   clear v h1
   go_enter Tryd.func45, Tryd.ntmps45
   go_wp2_with (go_at_call 38; refine (C1.out _ (Below.refl _ _)).mono ?_; rintro e w1 ⟨rfl, hb1⟩)
   go_ret
   exact ⟨rfl, hb1⟩
  ·by_cases h2 : 60 < a0.size
   ·have m1 : decide ((a0.size : Int) < 1) = false := decide_eq_false (by omega)
    have m2 : decide (a0.size < 1) = false := decide_eq_false h1
    have m3 : decide ((60 : Int) < (a0.size : Int)) = true := decide_eq_true (by omega)
    have m4 : decide (60 < a0.size) = true := decide_eq_true h2
    have v : (!(!true || decide (a0.size < 1) || decide (60 < a0.size)) && Y2w Y1e a0) = false := by rw [m2, m4]; simp
    rw [v]
    clear v h1 h2
    go_enter Tryd.func45, Tryd.ntmps45
    go_wp2_with (go_at_call 38; refine (C1.out _ (Below.refl _ _)).mono ?_; rintro e w1 ⟨rfl, hb1⟩)
    go_ret
    exact ⟨rfl, hb1⟩
   ·have m1 : decide ((a0.size : Int) < 1) = false := decide_eq_false (by omega)
    have m2 : decide (a0.size < 1) = false := decide_eq_false h1
    have m3 : decide ((60 : Int) < (a0.size : Int)) = false := decide_eq_false (by omega)
    have m4 : decide (60 < a0.size) = false := decide_eq_false h2
    have v : (!(!true || decide (a0.size < 1) || decide (60 < a0.size)) && Y2w Y1e a0) = Y2w Y1e a0 := by rw [m2, m4]; simp
    rw [v, Y4v]
    obtain ⟨RW, CAP, kc, hcell, hbel, hlt⟩ := Y6L a0 (by omega)
    have hl : (Y2u a0 a0.size 0).length ≤ 60 := Nat.le_trans (Y3n a0 a0.size 0) (by omega)
    clear v h1 h2
    generalize Y2u a0 a0.size 0 = ns at kc hcell hl ⊢
    have HC := Lib.hid hcell
    have HB := Lib.hid hbel
    clear hcell hbel
    go_enter Tryd.func45, Tryd.ntmps45
    go_wp2_with (go_at_call 38; refine (C1.out _ (Below.refl _ _)).mono ?_; rintro e w1 ⟨rfl, hb1⟩)
    have hbb : Below w.heap.size w (RW w1) := hb1.trans ((HB.out w1).mono hb1.size)
    have HBB := Lib.hid hbb
    clear kc hbb hb1 m1 m2 m3 m4
    go_loop [4] (fun i => ∃ k : Nat, k ≤ ns.length ∧ i = .int .i64 k ∧ (ns.take k).all Y1e = true) (fun i => ns.length - (intOf i).toNat)
    case atStart => exact ⟨0, Nat.zero_le _, rfl, rfl⟩
    case round =>
     obtain ⟨k, hk, rfl, hall⟩ := hrel
     have HALL := Lib.hid hall
     clear hall
     by_cases hlt2 : k < ns.length
     ·have hc1 := HC.out w1 k hlt2
      have ht : ns.take (k + 1) = ns.take k ++ [ns.getD k 0] := by rw [List.take_succ_eq_append_getElem hlt2]; simp [List.getD_eq_getElem?_getD, List.getElem?_eq_getElem hlt2]
      obtain ⟨x, hx⟩ : ∃ x, ns.getD k 0 = x := ⟨_, rfl⟩
      rw [hx] at hc1 ht
      have hns : Y1e x = false → ns.all Y1e = false := by
       intro hf
       rw [List.all_eq_false]
       refine ⟨x, ?_, by simp [hf]⟩
       rw [← hx]
       simp [List.getD_eq_getElem?_getD, List.getElem?_eq_getElem hlt2]
      have HNS := Lib.hid hns
      have HTK := Lib.hid ht
      clear hns ht hx
      have hr := fun W => Y5u x W
      obtain ⟨b, hb⟩ : ∃ b, Y1e x = b := ⟨_, rfl⟩
      rw [hb] at hr
      have HRB := Lib.hid hb
      have HR := Lib.hid hr
      clear hr hb
      cases b
      ·go_wp2_with (go_at_call 89; refine (HR.out _).mono ?_; rintro e w' ⟨rfl, rfl⟩)
       go_ret
       exact ⟨by rw [HNS.out HRB.out]; rfl, HBB.out⟩
      ·go_wp2_with (go_at_call 89; refine (HR.out _).mono ?_; rintro e w' ⟨rfl, rfl⟩)
       go_round
       case rel => exact ⟨k + 1, by omega, by go_num, by rw [HTK.out, List.all_append, HALL.out]; simp [HRB.out]⟩
       case measure => simp [intOf]; omega
     ·obtain rfl : k = ns.length := by omega
      go_wp2
      go_ret
      exact ⟨by rw [← HALL.out, List.take_length]; rfl, HBB.out⟩
theorem Y5s (s : ByteArray) : s.data.toList.length = s.size := by rw [Array.length_toList]; rfl
def lowB (c : UInt8) : UInt8 := if 65 ≤ c.toNat ∧ c.toNat ≤ 90 then c + 32 else c
structure LowAt (B n : Nat) (w0 : World) (l : List UInt8) (k : Nat) (wr : World) : Prop where
 cell : ∀ j c, ((l.take k).map lowB ++ l.drop k)[j]? = some c → wr.cell? ⟨B, j, none⟩ = some (.int .u8 (c.toNat : Int))
 froz : ∀ j, j < n → wr.frozen? ⟨B, j, none⟩ = false
 bel : Below B w0 wr
theorem Y4J (l : List UInt8) (k : Nat) (c : UInt8) (h : l[k]? = some c) : (l.take k).map lowB ++ l.drop k = (l.take k).map lowB ++ c :: l.drop (k + 1) ∧ (l.take (k + 1)).map lowB ++ l.drop (k + 1) = (l.take k).map lowB ++ lowB c :: l.drop (k + 1) := by
 have hk : k < l.length := by
  rcases Nat.lt_or_ge k l.length with h1 | h1
  ·exact h1
  ·rw [List.getElem?_eq_none h1] at h; cases h
 have hc : l[k] = c := by rw [List.getElem?_eq_getElem hk] at h; injection h
 constructor
 ·rw [← hc, List.drop_eq_getElem_cons hk]
 ·rw [List.take_succ_eq_append_getElem hk, hc]; simp
theorem LowAt.here {B n k : Nat} {w0 wr : World} {l : List UInt8} {c : UInt8} (h : LowAt B n w0 l k wr) (hc : l[k]? = some c) (hk : k ≤ l.length) : wr.cell? ⟨B, k, none⟩ = some (.int .u8 (c.toNat : Int)) := by
 apply h.cell
 rw [(Y4J l k c hc).1]
 have : ((l.take k).map lowB).length = k := by simp; omega
 rw [List.getElem?_append_right (by omega), this]; simp
theorem LowAt.set {B n k : Nat} {w0 wr : World} {l : List UInt8} {c : UInt8} (h : LowAt B n w0 l k wr) (hc : l[k]? = some c) (hk : k ≤ l.length) (v : Int) (hv : ((lowB c).toNat : Int) = v) : LowAt B n w0 l (k + 1) (wr.setCell ⟨B, k, none⟩ (.int .u8 v)) := by
 have hl : ((l.take k).map lowB).length = k := by simp; omega
 refine ⟨fun j d hd => ?_, fun j hj => by rw [World.frozen?_setCell]; exact h.froz j hj, h.bel.setCell (Nat.le_refl _) _⟩
 rw [(Y4J l k c hc).2] at hd
 by_cases hj : j = k
 ·subst hj
  rw [World.cell?_setCell_same _ _ _ (h.here hc hk)]
  rw [List.getElem?_append_right (by omega), hl] at hd
  simp at hd
  rw [← hd, hv]
 ·rw [World.cell?_setCell_other _ _ _ _ (fun e => hj (by injection e with _ e2; exact e2.symm))]
  apply h.cell
  rw [(Y4J l k c hc).1]
  rcases Nat.lt_or_ge j k with h1 | h1
  ·rw [List.getElem?_append_left (by omega)] at hd ⊢; exact hd
  ·rw [List.getElem?_append_right (by omega), hl] at hd ⊢
   obtain ⟨m, hm⟩ : ∃ m, j - k = m + 1 := ⟨j - k - 1, by omega⟩
   rw [hm] at hd ⊢
   exact hd
theorem sizeBuilder : (Tryd.prog.info? 103).map (·.size) = some 2 := by kernel_rfl
theorem liesBuilder : liesAt Tryd.prog Tryd.prog.depth 103 (2 / Tryd.prog.cellsOf 103) 0 103 1 = true := by kernel_rfl
theorem infoByte : (Tryd.prog.info? 5).map (fun i => (i.zero, i.size, i.bytes)) = some (some (.int .u8 0), 1, 1) := by kernel_rfl
structure Bq (B b q : Nat) (p : Value) (bs : List Value) (w : World) : Prop where
 low : B ≤ b
 lt : b < q
 room : q ≤ w.heap.size
 held : ∃ v, w.heap[b]? = some (.cells #[p, v] 103 (0, 0)) ∧ w.ownsRow q 5 1 v bs.length bs
structure Kq (b q : Nat) (w w' : World) : Prop where
 os : w'.os = w.os
 tape : w'.tape = w.tape
 output : w'.output = w.output
 size : w.heap.size ≤ w'.heap.size
 block : ∀ k, k < q → k ≠ b → w'.heap[k]? = w.heap[k]?
theorem Kq.refl (b q : Nat) (w : World) : Kq b q w w := ⟨rfl, rfl, rfl, Nat.le_refl _, fun _ _ _ => rfl⟩
theorem Kq.trans {b q : Nat} {u v w : World} (h : Kq b q u v) (k : Kq b q v w) : Kq b q u w :=
 ⟨k.os.trans h.os, k.tape.trans h.tape, k.output.trans h.output, Nat.le_trans h.size k.size, fun i hi hb => (k.block i hi hb).trans (h.block i hi hb)⟩
theorem Kq.below {b q B : Nat} {w w' : World} (h : Kq b q w w') (hB : B ≤ b) (hq : B ≤ q) : Below B w w' :=
 ⟨h.os, h.tape, h.output, h.size, fun k hk => h.block k (by omega) (by omega)⟩
theorem Bq.ne {q b n : Nat} {e : TypeId} {v : Value} {xs : List Value} {w : World} (h : w.ownsRow q e 1 v n xs) (hb : b < q) : v.ownBlock ≠ some b := by
 rcases h.2 with ⟨rfl, _⟩ | ⟨g, cap, cur, rfl, hg, _⟩
 ·simp [Value.ownBlock]
 ·simp only [Value.ownBlock]; intro e; injection e with e; omega
theorem own_put {q b n j : Nat} {e : TypeId} {v y : Value} {xs : List Value} {w : World} (h : w.ownsRow q e 1 v n xs) (hb : b < q) : (w.setCell ⟨b, j, none⟩ y).ownsRow q e 1 v n xs :=
 h.kept (row := some b) ⟨rfl, rfl, rfl, by simp [World.setCell], fun k _ hk => Below.heap_setCell _ _ _ _ (fun e => hk (by simp [e]))⟩ (Or.inr (Bq.ne h hb))
theorem Bq.at {B b q : Nat} {p : Value} {bs : List Value} {w : World} (h : Bq B b q p bs w) : Lib.BuilderAt 103 5 B b p bs w := by
 obtain ⟨v, h1, h2, h3⟩ := h.held
 refine ⟨h.low, v, h1, ⟨h2, ?_⟩, Bq.ne ⟨h2, h3⟩ h.lt⟩
 rcases h3 with h3 | ⟨g, cap, cur, e1, hg, e2⟩
 ·exact .inl h3
 ·exact .inr ⟨g, cap, cur, e1, by have := h.low; have := h.lt; omega, e2⟩
theorem Kq.set {b q : Nat} {u w : World} (h : Kq b q u w) (j : Nat) (y : Value) : Kq b q u (w.setCell ⟨b, j, none⟩ y) :=
 ⟨h.os, h.tape, h.output, by simp [World.setCell]; exact h.size, fun k hk hb => (Below.heap_setCell _ _ _ _ (fun e => hb (by simp [e]))).trans (h.block k hk hb)⟩
theorem Bq.put {B b q : Nat} {p v v' : Value} {bs : List Value} {w : World} (hB : B ≤ b) (hl : b < q) (hr : q ≤ w.heap.size) (h1 : w.heap[b]? = some (.cells #[p, v] 103 (0, 0))) (h2 : w.ownsRow q 5 1 v' bs.length bs) : Bq B b q p bs (w.setCell ⟨b, 1, none⟩ v') :=
 ⟨hB, hl, by simp [World.setCell]; exact hr, v', by simp [World.setCell, Array.getElem?_modify, h1], own_put h2 hl⟩
def IsBq (B b q : Nat) (bs : List Value) (w : World) : Prop := Bq B b q (.pointer none) bs w ∨ Bq B b q (.pointer (some ⟨b, 0, none⟩)) bs w
def hexD (n : Nat) : UInt8 := if n < 10 then (48 + n).toUInt8 else (55 + n).toUInt8
def escB (c : UInt8) : List UInt8 :=
 if c = 34 then [92, 34] else if c = 92 then [92, 92] else if c = 10 then [92, 110] else if c = 13 then [92, 114] else if c = 9 then [92, 116] else if c = 8 then [92, 98] else if c = 12 then [92, 102]
 else if c.toNat < 32 ∨ c.toNat = 127 then [92, 117, 48, 48, hexD (c.toNat / 16), hexD (c.toNat % 16)] else [c]
def escL (l : List UInt8) : List UInt8 := l.flatMap escB
theorem own_below {q n : Nat} {e : TypeId} {v : Value} {xs : List Value} {w W : World} (h : w.ownsRow q e 1 v n xs) (hb : Below w.heap.size w W) : W.ownsRow q e 1 v n xs := by
 refine ⟨h.1, ?_⟩
 rcases h.2 with h3 | ⟨g, cap, cur, e1, hg, e2, e3⟩
 ·exact .inl h3
 ·refine .inr ⟨g, cap, cur, e1, hg, ?_, e3⟩
  rcases Nat.lt_or_ge g w.heap.size with h' | h'
  ·rw [hb.block g h', e2]
  ·simp [Array.getElem?_eq_none h'] at e2
theorem Bq.below {B b q : Nat} {p : Value} {bs : List Value} {w W : World} (h : Bq B b q p bs w) (hb : Below w.heap.size w W) : Bq B b q p bs W := by
 obtain ⟨v, h1, h2⟩ := h.held
 exact ⟨h.low, h.lt, Nat.le_trans h.room hb.size, v, by rw [hb.block b (by have := h.lt; have := h.room; omega), h1], own_below h2 hb⟩
structure QAt (B q : Nat) (W1 : World) (l : List UInt8) (k : Nat) (wr : World) : Prop where
 bq : IsBq B B q (byteCells (escL (l.take k))) wr
 kq : Kq B q W1 wr
theorem QAt.below {B q k : Nat} {W1 wr W : World} {l : List UInt8} (h : QAt B q W1 l k wr) (hb : Below wr.heap.size wr W) : QAt B q W1 l k W := by
 have hr : q ≤ wr.heap.size := by rcases h.bq with x | x <;> exact x.room
 refine ⟨?_, h.kq.trans ⟨hb.os, hb.tape, hb.output, hb.size, fun i hi _ => hb.block i (by omega)⟩⟩
 rcases h.bq with x | x
 ·exact .inl (x.below hb)
 ·exact .inr (x.below hb)
theorem Y4X (g : Nat) (eg : ∀ args w, (callFunc g args).run Tryd.prog w = .ok (.enter g args) w) (lb : Array Value) (p : Nat → Bool) (s : ByteArray) (w : World) (hp : PredGrows Tryd.prog g lb p w) :
  Calls Tryd.prog 70 #[.string s, .func (.func g) #[] lb] w fun e w' => e = .returned (.bool (Y2w p s)) ∧ Below w.heap.size w w' := by
 unfold Y2w
 have hc : ∀ W : World, Below w.heap.size w W → w.heap.size < W.heap.size → W.cell? ⟨w.heap.size, 0, none⟩ = some (.func (.func g) #[] lb) →
   Calls Tryd.prog 104 #[.string s, .func (.func 105) #[] #[.pointer (some ⟨w.heap.size, 0, none⟩)]] W fun e w' => e = .returned (.bool (decide (0 ≤ Lib.idxFunc (fun r => !p r) true s))) ∧ Below W.heap.size W w' := fun W hb hl hc =>
  Tryd.strings_ContainsFunc_grows 105 _ (enters_of Tryd.func105 Z4 rfl) _ s W (all1_pays g lb eg p W w.heap.size hl (hp.later hb) hc)
 generalize decide (0 ≤ Lib.idxFunc (fun r => !p r) true s) = b at hc ⊢
 have HC := Lib.hid hc
 clear hc
 go_enter Tryd.func70, Tryd.ntmps70
 go_wp2_with (go_at_call 104; refine (HC.out _ ?_ ?_ ?_).mono ?_; exact ((Below.refl _ _).alloc (Nat.le_refl _) _); simp; simp; rintro e w' ⟨rfl, hb⟩)
 go_ret
 exact ⟨rfl, ((Below.refl _ _).alloc (Nat.le_refl _) _).trans (hb.mono (by simp))⟩
def Y6v (s : ByteArray) : Bool := decide (s.size < 4294967281)
end Go.Proofs.YtbpbfboaofkpaaaDoor.Print
end
section
namespace Go.Proofs.YtbpbfboaofkpaaaDoor.Print
open Go.RowKit Go.Shelf Go.Proofs.YtbpbfboaofkpaaaDoorW.PrintWords
set_option linter.unusedVariables false
set_option linter.unusedSimpArgs false
def Y4S (s : ByteArray) : Bool := decide (s.size ≤ 9223372036854775807)
def Y36 (s : ByteArray) : Bool := decide (0 < s.size) && decide (s.size ≤ 60) && Lib.validD s.data.toList && Y2w Y1e s
theorem ba_toList (a : ByteArray) : a.toList = a.data.toList := Lib.toList_data a
theorem ba_ne {a : ByteArray} (h : 0 < a.size) : a.toList ≠ [] := by
 intro e
 rw [ba_toList] at e
 have : a.data.toList.length = 0 := by rw [e]; rfl
 rw [Array.length_toList] at this
 have h2 : a.size = a.data.size := rfl
 omega
theorem ba_empty {a : ByteArray} (h : a.size = 0) : a = ⟨#[]⟩ := by
 cases a with | mk d =>
 have : d.size = 0 := h
 congr
 exact Array.eq_empty_of_size_eq_zero this
def Y18.f (a0 : ByteArray) : Option Bool := if Y4S a0 then some (Y36 a0) else none
theorem Y18.calls (a0 : ByteArray) (r : Bool) (w : World) (hT : Tabs w) (h : Y18.f a0 = some r) :
  Calls Tryd.prog 39 #[.string a0] w fun e w' => e = .returned (.bool r) ∧ Below w.heap.size w w' := by
 unfold Y18.f at h
 by_cases hs : Y4S a0 = true
 ·rw [if_pos hs] at h
  obtain rfl := Option.some.inj h
  have hz : a0.size ≤ 9223372036854775807 := of_decide_eq_true hs
  clear h hs
  unfold Y36
  rcases Nat.eq_zero_or_pos a0.size with h0 | h0
  ·obtain rfl := ba_empty h0
   clear h0 hT
   show Calls _ _ _ w fun e w' => e = .returned (.bool false) ∧ _
   go_enter Tryd.func39, Tryd.ntmps39
   go_wp2
   go_ret
   exact Z21
  ·have n1 := ba_ne h0
   have n2 : (a0.toList == []) = false := beq_eq_false_iff_ne.mpr n1
   have n3 : (a0.toList != []) = true := bne_iff_ne.mpr n1
   have n4 : a0.toList.isEmpty = false := by cases e : a0.toList <;> simp_all
   rw [decide_eq_true h0, Bool.true_and]
   by_cases h60 : a0.size ≤ 60
   ·have m1 : decide ((a0.size : Int) ≤ 60) = true := decide_eq_true (by omega)
    have m2 : decide (a0.size ≤ 60) = true := decide_eq_true h60
    rw [decide_eq_true h60, Bool.true_and]
    have c1 := fun W (hb : Below w.heap.size w W) => Any.utf8_ValidString Tryd.lays196 a0 W hz (Y2z hT hb).u8
    have c2 := fun W => Y4X 71 (enters_of Tryd.func71 Z4 rfl) #[] Y1e a0 W (Y69 W)
    generalize Lib.validD a0.data.toList = b1 at c1 ⊢
    generalize Y2w Y1e a0 = b2 at c2 ⊢
    have C1 := Lib.hid c1
    have C2 := Lib.hid c2
    clear c1 c2 hT h0 h60 n1
    cases b1
    ·show Calls _ _ _ w fun e w' => e = .returned (.bool false) ∧ _
     go_enter Tryd.func39, Tryd.ntmps39
     go_wp2_with (go_at_call 38; refine (C1.out _ (Below.refl _ _)).mono ?_; rintro e w1 ⟨rfl, hb1⟩)
     go_ret
     exact ⟨rfl, hb1⟩
    ·show Calls _ _ _ w fun e w' => e = .returned (.bool b2) ∧ _
     go_enter Tryd.func39, Tryd.ntmps39
     go_wp2_with (first | (go_at_call 38; refine (C1.out _ (Below.refl _ _)).mono ?_; rintro e w1 ⟨rfl, hb1⟩) | (go_at_call 70; refine (C2.out _).mono ?_; rintro e w2 ⟨rfl, hb2⟩))
     go_ret
     exact ⟨rfl, hb1.trans (hb2.mono hb1.size)⟩
   ·have m1 : decide ((a0.size : Int) ≤ 60) = false := decide_eq_false (by omega)
    have m2 : decide (a0.size ≤ 60) = false := decide_eq_false h60
    rw [decide_eq_false h60, Bool.false_and]
    rw [Bool.false_and]
    clear hT h0 h60 n1
    go_enter Tryd.func39, Tryd.ntmps39
    go_wp2
    go_ret
    exact Z21
 ·rw [if_neg hs] at h; cases h
def YU.f (a0 : ByteArray) : Option Bool := if Y4S a0 then some (Y36 a0) else none
theorem YU.calls (a0 : ByteArray) (r : Bool) (w : World) (hT : Tabs w) (h : YU.f a0 = some r) :
  Calls Tryd.prog 45 #[.string a0] w fun e w' => e = .returned (.bool r) ∧ Below w.heap.size w w' := by
 unfold YU.f at h
 by_cases hs : Y4S a0 = true
 ·rw [if_pos hs] at h
  obtain rfl := Option.some.inj h
  have e : Y4r a0 = Y36 a0 := by
   unfold Y4r Y36
   by_cases h1 : a0.size < 1
   ·rw [decide_eq_true h1, decide_eq_false (by omega : ¬ 0 < a0.size)]; simp
   ·by_cases h2 : 60 < a0.size
    ·rw [decide_eq_true h2, decide_eq_false (by omega : ¬ a0.size ≤ 60)]; simp
    ·rw [decide_eq_false h1, decide_eq_false h2, decide_eq_true (by omega : 0 < a0.size), decide_eq_true (by omega : a0.size ≤ 60)]; simp
  rw [← e]
  exact Y5W a0 w hT (of_decide_eq_true hs)
 ·rw [if_neg hs] at h; cases h
def strings_Cut.f (a0 a1 : ByteArray) : Option (ByteArray × ByteArray × Bool) := if Y6v a0 then some (⟨(Lib.cut a0.data.toList a1.data.toList).1.toArray⟩, ⟨(Lib.cut a0.data.toList a1.data.toList).2.1.toArray⟩, (Lib.cut a0.data.toList a1.data.toList).2.2) else none
theorem strings_Cut.calls (a0 a1 : ByteArray) (r1 r2 : ByteArray) (r3 : Bool) (w : World) (hT : Tabs w) (h : strings_Cut.f a0 a1 = some (r1, r2, r3)) :
  Calls Tryd.prog 145 #[.string a0, .string a1] w fun e w' => e = .returned (.tuple #[.string r1, .string r2, .bool r3]) ∧ Y2v w w' := by
 unfold strings_Cut.f at h
 by_cases hs : Y6v a0 = true
 ·rw [if_pos hs] at h
  obtain ⟨m, hm⟩ := hT.ml
  have e := Option.some.inj h
  simp only [Prod.mk.injEq] at e
  obtain ⟨rfl, rfl, rfl⟩ := e
  exact (Tryd.strings_Cut a0 a1 m w (of_decide_eq_true hs) hm).mono fun _ _ ⟨he, hw⟩ => ⟨he, ⟨hw⟩⟩
 ·rw [if_neg hs] at h; cases h
end Go.Proofs.YtbpbfboaofkpaaaDoor.Print
end
section
namespace Go.Proofs.YtbpbfboaofkpaaaDoor.Print
open Go.RowKit Go.Proofs.YtbpbfboaofkpaaaDoorW.PrintWords Go.Proofs.YtbpbfboaofkpaaaDoorW.PrintLast Go.Proofs.YtbpbfboaofkpaaaDoorW.PrintMore
attribute [local go_sem] max2_int min2_int max_two min_two max_three min_three max_four min_four
set_option linter.unusedVariables false
set_option linter.unusedSimpArgs false
def YR.f (k : Nat) (s0_0 : ByteArray) (s0_1 : Int) (s0_2 : Int) (s0_3 : Int) : Option (ByteArray × ByteArray × Int × Int × Int) := (Ym.f k s0_0 s0_1 s0_2 s0_3).bind fun bt101 => (if bt101.1 = 60 then (if 0 ≤ (wrap64 (bt101.2.2.1 + 1)) then (if (wrap64 (bt101.2.2.1 + 1)) ≤ (bt101.2.1.size : Int) then ((strings_Cut.f (bt101.2.1.extract ((wrap64 (bt101.2.2.1 + 1)) : Int).toNat bt101.2.1.size) (⟨#[62]⟩ : ByteArray)).bind fun bt118 => (if bt118.2.2 = true then ((Y18.f bt118.1).bind fun t121 => (if t121 = true then (some (bt118.1, bt101.2.1, wrap64 (bt101.2.2.1 + (wrap64 ((bt118.1.size : Int) + 2))), bt101.2.2.2.1, bt101.2.2.2.2)) else ((Ys.f bt101.2.1 bt101.2.2.1 bt101.2.2.2.1 bt101.2.2.2.2 bt101.2.2.1 2).bind fun bt122 => (some ((⟨#[]⟩ : ByteArray), bt122.2.2.2.2.1, bt122.2.2.2.2.2.1, bt122.2.2.2.2.2.2.1, bt122.2.2.2.2.2.2.2))))) else ((Ys.f bt101.2.1 bt101.2.2.1 bt101.2.2.2.1 bt101.2.2.2.2 bt101.2.2.1 2).bind fun bt134 => (some ((⟨#[]⟩ : ByteArray), bt134.2.2.2.2.1, bt134.2.2.2.2.2.1, bt134.2.2.2.2.2.2.1, bt134.2.2.2.2.2.2.2))))) else (none)) else (none)) else ((Ys.f bt101.2.1 bt101.2.2.1 bt101.2.2.2.1 bt101.2.2.2.2 bt101.2.2.1 2).bind fun bt106 => (some ((⟨#[]⟩ : ByteArray), bt106.2.2.2.2.1, bt106.2.2.2.2.2.1, bt106.2.2.2.2.2.2.1, bt106.2.2.2.2.2.2.2))))
theorem YR.mono : ∀ a0 a1 a2 a3 k, LeO (YR.f k a0 a1 a2 a3) (YR.f (k + 1) a0 a1 a2 a3) := by
 intro a0 a1 a2 a3 k
 unfold YR.f
 exact QM
set_option maxHeartbeats 8000000 in
set_option maxRecDepth 100000 in
theorem YR.calls (k : Nat) (g : Nat) (s0_0 : ByteArray) (s0_1 : Int) (s0_2 : Int) (s0_3 : Int) (r1 : ByteArray) (r2 : ByteArray) (r3 : Int) (r4 : Int) (r5 : Int) (w0 w : World) (hI : Yw w0 w g s0_0 s0_1 s0_2 s0_3) (hB : Below w0.heap.size w0 w) (hT : Tabs w0) (h : YR.f k s0_0 s0_1 s0_2 s0_3 = some (r1, r2, r3, r4, r5)) :
  Calls Tryd.prog 140 #[.pointer (some ⟨g, 0, none⟩)] w fun e w' => e = .returned (.string r1) ∧ Yw w0 w' g r2 r3 r4 r5 ∧ Below w0.heap.size w0 w' ∧ Y1 w w' g none := by
 have HT := Y0.mk hT
 clear hT
 have HI0 := Y0.mk hI
 have HK := Y0.mk (Y1.refl w g none)
 have HL := Y0.mk hB.size
 clear hI
 have HW0 := Y0.mk hB.size
 have HB := Y0.mk hB
 clear hB
 have H : ((Ym.f k s0_0 s0_1 s0_2 s0_3).bind fun bt101 => (if bt101.1 = 60 then (if 0 ≤ (wrap64 (bt101.2.2.1 + 1)) then (if (wrap64 (bt101.2.2.1 + 1)) ≤ (bt101.2.1.size : Int) then ((strings_Cut.f (bt101.2.1.extract ((wrap64 (bt101.2.2.1 + 1)) : Int).toNat bt101.2.1.size) (⟨#[62]⟩ : ByteArray)).bind fun bt118 => (if bt118.2.2 = true then ((Y18.f bt118.1).bind fun t121 => (if t121 = true then (some (bt118.1, bt101.2.1, wrap64 (bt101.2.2.1 + (wrap64 ((bt118.1.size : Int) + 2))), bt101.2.2.2.1, bt101.2.2.2.2)) else ((Ys.f bt101.2.1 bt101.2.2.1 bt101.2.2.2.1 bt101.2.2.2.2 bt101.2.2.1 2).bind fun bt122 => (some ((⟨#[]⟩ : ByteArray), bt122.2.2.2.2.1, bt122.2.2.2.2.2.1, bt122.2.2.2.2.2.2.1, bt122.2.2.2.2.2.2.2))))) else ((Ys.f bt101.2.1 bt101.2.2.1 bt101.2.2.2.1 bt101.2.2.2.2 bt101.2.2.1 2).bind fun bt134 => (some ((⟨#[]⟩ : ByteArray), bt134.2.2.2.2.1, bt134.2.2.2.2.2.1, bt134.2.2.2.2.2.2.1, bt134.2.2.2.2.2.2.2))))) else (none)) else (none)) else ((Ys.f bt101.2.1 bt101.2.2.1 bt101.2.2.2.1 bt101.2.2.2.2 bt101.2.2.1 2).bind fun bt106 => (some ((⟨#[]⟩ : ByteArray), bt106.2.2.2.2.1, bt106.2.2.2.2.2.1, bt106.2.2.2.2.2.2.1, bt106.2.2.2.2.2.2.2))))) = some (r1, r2, r3, r4, r5) := h
 clear h
 replace H := Option.bind_eq_some_iff.mp H
 obtain ⟨⟨t101, t102, t103, t104, t105⟩, A20, H⟩ := H
 replace H : (if t101 = 60 then (if 0 ≤ (wrap64 (t103 + 1)) then (if (wrap64 (t103 + 1)) ≤ (t102.size : Int) then ((strings_Cut.f (t102.extract ((wrap64 (t103 + 1)) : Int).toNat t102.size) (⟨#[62]⟩ : ByteArray)).bind fun bt118 => (if bt118.2.2 = true then ((Y18.f bt118.1).bind fun t121 => (if t121 = true then (some (bt118.1, t102, wrap64 (t103 + (wrap64 ((bt118.1.size : Int) + 2))), t104, t105)) else ((Ys.f t102 t103 t104 t105 t103 2).bind fun bt122 => (some ((⟨#[]⟩ : ByteArray), bt122.2.2.2.2.1, bt122.2.2.2.2.2.1, bt122.2.2.2.2.2.2.1, bt122.2.2.2.2.2.2.2))))) else ((Ys.f t102 t103 t104 t105 t103 2).bind fun bt134 => (some ((⟨#[]⟩ : ByteArray), bt134.2.2.2.2.1, bt134.2.2.2.2.2.1, bt134.2.2.2.2.2.2.1, bt134.2.2.2.2.2.2.2))))) else (none)) else (none)) else ((Ys.f t102 t103 t104 t105 t103 2).bind fun bt106 => (some ((⟨#[]⟩ : ByteArray), bt106.2.2.2.2.1, bt106.2.2.2.2.2.1, bt106.2.2.2.2.2.2.1, bt106.2.2.2.2.2.2.2)))) = some (r1, r2, r3, r4, r5) := H
 have A2 := Y0.mk A20
 clear A20
 by_cases c3 : t101 = 60
 ·rw [if_pos c3] at H
  have c3b0 : (t101 == 60) = true := beq_iff_eq.mpr c3
  have c3b1 : (t101 != 60) = false := bne_eq_false_iff_eq.mpr c3
  clear c3
  obtain ⟨ji4, hji4⟩ : ∃ j_ : Int, (wrap64 (t103 + 1)) = j_ := ⟨_, rfl⟩
  replace H : (if 0 ≤ (ji4) then (if (ji4) ≤ (t102.size : Int) then ((strings_Cut.f (t102.extract ((ji4) : Int).toNat t102.size) (⟨#[62]⟩ : ByteArray)).bind fun bt118 => (if bt118.2.2 = true then ((Y18.f bt118.1).bind fun t121 => (if t121 = true then (some (bt118.1, t102, wrap64 (t103 + (wrap64 ((bt118.1.size : Int) + 2))), t104, t105)) else ((Ys.f t102 t103 t104 t105 t103 2).bind fun bt122 => (some ((⟨#[]⟩ : ByteArray), bt122.2.2.2.2.1, bt122.2.2.2.2.2.1, bt122.2.2.2.2.2.2.1, bt122.2.2.2.2.2.2.2))))) else ((Ys.f t102 t103 t104 t105 t103 2).bind fun bt134 => (some ((⟨#[]⟩ : ByteArray), bt134.2.2.2.2.1, bt134.2.2.2.2.2.1, bt134.2.2.2.2.2.2.1, bt134.2.2.2.2.2.2.2))))) else (none)) else (none)) = some (r1, r2, r3, r4, r5) := by first | (rw [hji4] at H; exact H) | (simp only [hji4] at H ⊢; exact H)
  (try rw [hji4] at A2)
  have hji4w : (IntKind.i64.wrap (t103 + 1)) = ji4 := (Y16 _).trans hji4
  by_cases c5 : 0 ≤ (ji4)
  ·rw [if_pos c5] at H
   have c5b0 := eq_true c5
   have c5b1 : decide (0 ≤ (ji4)) = true := decide_eq_true c5
   clear c5
   by_cases c6 : (ji4) ≤ (t102.size : Int)
   ·rw [if_pos c6] at H
    have c6b0 := eq_true c6
    have c6b1 : decide ((ji4) ≤ (t102.size : Int)) = true := decide_eq_true c6
    clear c6
    replace H := Option.bind_eq_some_iff.mp H
    obtain ⟨⟨t118, t119, t120⟩, A70, H⟩ := H
    replace H : (if t120 = true then ((Y18.f t118).bind fun t121 => (if t121 = true then (some (t118, t102, wrap64 (t103 + (wrap64 ((t118.size : Int) + 2))), t104, t105)) else ((Ys.f t102 t103 t104 t105 t103 2).bind fun bt122 => (some ((⟨#[]⟩ : ByteArray), bt122.2.2.2.2.1, bt122.2.2.2.2.2.1, bt122.2.2.2.2.2.2.1, bt122.2.2.2.2.2.2.2))))) else ((Ys.f t102 t103 t104 t105 t103 2).bind fun bt134 => (some ((⟨#[]⟩ : ByteArray), bt134.2.2.2.2.1, bt134.2.2.2.2.2.1, bt134.2.2.2.2.2.2.1, bt134.2.2.2.2.2.2.2)))) = some (r1, r2, r3, r4, r5) := H
    have A7 := Y0.mk A70
    clear A70
    by_cases c8 : t120 = true
    ·subst c8
     have H1 : ((Y18.f t118).bind fun t121 => (if t121 = true then (some (t118, t102, wrap64 (t103 + (wrap64 ((t118.size : Int) + 2))), t104, t105)) else ((Ys.f t102 t103 t104 t105 t103 2).bind fun bt122 => (some ((⟨#[]⟩ : ByteArray), bt122.2.2.2.2.1, bt122.2.2.2.2.2.1, bt122.2.2.2.2.2.2.1, bt122.2.2.2.2.2.2.2))))) = some (r1, r2, r3, r4, r5) := by rw [if_pos rfl] at H; exact H
     clear H
     have H := H1
     clear H1
     replace H := Option.bind_eq_some_iff.mp H
     obtain ⟨t121, A90, H⟩ := H
     replace H : (if t121 = true then (some (t118, t102, wrap64 (t103 + (wrap64 ((t118.size : Int) + 2))), t104, t105)) else ((Ys.f t102 t103 t104 t105 t103 2).bind fun bt122 => (some ((⟨#[]⟩ : ByteArray), bt122.2.2.2.2.1, bt122.2.2.2.2.2.1, bt122.2.2.2.2.2.2.1, bt122.2.2.2.2.2.2.2)))) = some (r1, r2, r3, r4, r5) := H
     have A9 := Y0.mk A90
     clear A90
     by_cases c10 : t121 = true
     ·subst c10
      have H1 : (some (t118, t102, wrap64 (t103 + (wrap64 ((t118.size : Int) + 2))), t104, t105)) = some (r1, r2, r3, r4, r5) := by rw [if_pos rfl] at H; exact H
      clear H
      have H := H1
      clear H1
      simp only [Option.some.injEq, Prod.mk.injEq] at H
      obtain ⟨rfl, rfl, rfl, rfl, rfl⟩ := H
      go_enter Tryd.func140, Tryd.ntmps140
      go_wp2_with (first | (go_at_call 53; (with_reducible refine (Ym.calls k g s0_0 s0_1 s0_2 s0_3 t101 t102 t103 t104 t105 w0 _ ?side1 ?side2 A2.out).mono ?_); (case side1 => exact Z1k); (case side2 => exact QB); rintro e w11 ⟨rfl, hi, hb, hk⟩; have n_ := Y38 (Y1.trans QK hk (.inl rfl)) (hb) (hi); clear HK HB HI0; obtain ⟨HK, HB, HI0⟩ := n_; (try clear hb); (try clear hb2); (try clear hk); (try clear hi); obtain ⟨HGz12, hgz12⟩ := HI0.out; have hcz12_0 := YX HGz12; have hcz12_1 := YY HGz12; have hcz12_2 := YZ HGz12; have hcz12_3 := Y10 HGz12; have hfz12_0 := Y6 HGz12 0; have hfz12_1 := Y6 HGz12 1; have hfz12_2 := Y6 HGz12 2; have hfz12_3 := Y6 HGz12 3; clear HGz12 hgz12) | (go_at_call 145; (with_reducible refine (strings_Cut.calls (t102.extract ((ji4) : Int).toNat t102.size) (⟨#[62]⟩ : ByteArray) t118 t119 true _ ?side1 A7.out).mono ?_); (case side1 => exact Z3); rintro e w' ⟨rfl, ⟨nd, rfl⟩⟩; (try first | exact ⟨rfl, _, World.drewN_drewN _ _ _⟩ | exact ⟨rfl, _, Eq.trans (World.drewN_drewN _ _ _) (congrArg (World.drewN _) (Nat.add_assoc _ _ _))⟩)) | (go_at_call 39; (with_reducible refine (Y18.calls t118 true _ ?side1 A9.out).mono ?_); (case side1 => exact Z3); rintro e w13 ⟨rfl, hb⟩; have n_ := Y38 (Yw.below QI75_0 hb) (Y1.trans QK (Y1.of_below hb g none) (.inl rfl)) (Y8 QB hb); clear HI0 HK HB; obtain ⟨HI0, HK, HB⟩ := n_; (try clear hb); (try clear hb2); (try clear hk); (try clear hi); obtain ⟨HGz14, hgz14⟩ := HI0.out; have hcz14_0 := YX HGz14; have hcz14_1 := YY HGz14; have hcz14_2 := YZ HGz14; have hcz14_3 := Y10 HGz14; have hfz14_0 := Y6 HGz14 0; have hfz14_1 := Y6 HGz14 1; have hfz14_2 := Y6 HGz14 2; have hfz14_3 := Y6 HGz14 3; clear HGz14 hgz14))
      repeat (go_quiet (first | (go_at_call 53; (with_reducible refine (Ym.calls k g s0_0 s0_1 s0_2 s0_3 t101 t102 t103 t104 t105 w0 _ ?side1 ?side2 A2.out).mono ?_); (case side1 => exact Z1k); (case side2 => exact QB); rintro e w11 ⟨rfl, hi, hb, hk⟩; have n_ := Y38 (Y1.trans QK hk (.inl rfl)) (hb) (hi); clear HK HB HI0; obtain ⟨HK, HB, HI0⟩ := n_; (try clear hb); (try clear hb2); (try clear hk); (try clear hi); obtain ⟨HGz12, hgz12⟩ := HI0.out; have hcz12_0 := YX HGz12; have hcz12_1 := YY HGz12; have hcz12_2 := YZ HGz12; have hcz12_3 := Y10 HGz12; have hfz12_0 := Y6 HGz12 0; have hfz12_1 := Y6 HGz12 1; have hfz12_2 := Y6 HGz12 2; have hfz12_3 := Y6 HGz12 3; clear HGz12 hgz12) | (go_at_call 145; (with_reducible refine (strings_Cut.calls (t102.extract ((ji4) : Int).toNat t102.size) (⟨#[62]⟩ : ByteArray) t118 t119 true _ ?side1 A7.out).mono ?_); (case side1 => exact Z3); rintro e w' ⟨rfl, ⟨nd, rfl⟩⟩; (try first | exact ⟨rfl, _, World.drewN_drewN _ _ _⟩ | exact ⟨rfl, _, Eq.trans (World.drewN_drewN _ _ _) (congrArg (World.drewN _) (Nat.add_assoc _ _ _))⟩)) | (go_at_call 39; (with_reducible refine (Y18.calls t118 true _ ?side1 A9.out).mono ?_); (case side1 => exact Z3); rintro e w13 ⟨rfl, hb⟩; have n_ := Y38 (Yw.below QI75_0 hb) (Y1.trans QK (Y1.of_below hb g none) (.inl rfl)) (Y8 QB hb); clear HI0 HK HB; obtain ⟨HI0, HK, HB⟩ := n_; (try clear hb); (try clear hb2); (try clear hk); (try clear hi); obtain ⟨HGz14, hgz14⟩ := HI0.out; have hcz14_0 := YX HGz14; have hcz14_1 := YY HGz14; have hcz14_2 := YZ HGz14; have hcz14_3 := Y10 HGz14; have hfz14_0 := Y6 HGz14 0; have hfz14_1 := Y6 HGz14 1; have hfz14_2 := Y6 HGz14 2; have hfz14_3 := Y6 HGz14 3; clear HGz14 hgz14)); try go_wp2_with (first | (go_at_call 53; (with_reducible refine (Ym.calls k g s0_0 s0_1 s0_2 s0_3 t101 t102 t103 t104 t105 w0 _ ?side1 ?side2 A2.out).mono ?_); (case side1 => exact Z1k); (case side2 => exact QB); rintro e w11 ⟨rfl, hi, hb, hk⟩; have n_ := Y38 (Y1.trans QK hk (.inl rfl)) (hb) (hi); clear HK HB HI0; obtain ⟨HK, HB, HI0⟩ := n_; (try clear hb); (try clear hb2); (try clear hk); (try clear hi); obtain ⟨HGz12, hgz12⟩ := HI0.out; have hcz12_0 := YX HGz12; have hcz12_1 := YY HGz12; have hcz12_2 := YZ HGz12; have hcz12_3 := Y10 HGz12; have hfz12_0 := Y6 HGz12 0; have hfz12_1 := Y6 HGz12 1; have hfz12_2 := Y6 HGz12 2; have hfz12_3 := Y6 HGz12 3; clear HGz12 hgz12) | (go_at_call 145; (with_reducible refine (strings_Cut.calls (t102.extract ((ji4) : Int).toNat t102.size) (⟨#[62]⟩ : ByteArray) t118 t119 true _ ?side1 A7.out).mono ?_); (case side1 => exact Z3); rintro e w' ⟨rfl, ⟨nd, rfl⟩⟩; (try first | exact ⟨rfl, _, World.drewN_drewN _ _ _⟩ | exact ⟨rfl, _, Eq.trans (World.drewN_drewN _ _ _) (congrArg (World.drewN _) (Nat.add_assoc _ _ _))⟩)) | (go_at_call 39; (with_reducible refine (Y18.calls t118 true _ ?side1 A9.out).mono ?_); (case side1 => exact Z3); rintro e w13 ⟨rfl, hb⟩; have n_ := Y38 (Yw.below QI75_0 hb) (Y1.trans QK (Y1.of_below hb g none) (.inl rfl)) (Y8 QB hb); clear HI0 HK HB; obtain ⟨HI0, HK, HB⟩ := n_; (try clear hb); (try clear hb2); (try clear hk); (try clear hi); obtain ⟨HGz14, hgz14⟩ := HI0.out; have hcz14_0 := YX HGz14; have hcz14_1 := YY HGz14; have hcz14_2 := YZ HGz14; have hcz14_3 := Y10 HGz14; have hfz14_0 := Y6 HGz14 0; have hfz14_1 := Y6 HGz14 1; have hfz14_2 := Y6 HGz14 2; have hfz14_3 := Y6 HGz14 3; clear HGz14 hgz14)))
      go_ret
      exact Z1d
     ·replace c10 := Bool.eq_false_iff.mpr c10
      subst c10
      have H1 : ((Ys.f t102 t103 t104 t105 t103 2).bind fun bt122 => (some ((⟨#[]⟩ : ByteArray), bt122.2.2.2.2.1, bt122.2.2.2.2.2.1, bt122.2.2.2.2.2.2.1, bt122.2.2.2.2.2.2.2))) = some (r1, r2, r3, r4, r5) := by rw [if_neg (show ¬ (false = true) by decide)] at H; exact H
      clear H
      have H := H1
      clear H1
      replace H := Option.bind_eq_some_iff.mp H
      obtain ⟨⟨t122, t123, t124, t127, t130, t131, t132, t133⟩, A150, H⟩ := H
      replace H : (some ((⟨#[]⟩ : ByteArray), t130, t131, t132, t133)) = some (r1, r2, r3, r4, r5) := H
      have A15 := Y0.mk A150
      clear A150
      simp only [Option.some.injEq, Prod.mk.injEq] at H
      obtain ⟨rfl, rfl, rfl, rfl, rfl⟩ := H
      go_enter Tryd.func140, Tryd.ntmps140
      go_wp2_with (first | (go_at_call 53; (with_reducible refine (Ym.calls k g s0_0 s0_1 s0_2 s0_3 t101 t102 t103 t104 t105 w0 _ ?side1 ?side2 A2.out).mono ?_); (case side1 => exact Z1k); (case side2 => exact QB); rintro e w16 ⟨rfl, hi, hb, hk⟩; have n_ := Y38 (Y1.trans QK hk (.inl rfl)) (hb) (hi); clear HK HB HI0; obtain ⟨HK, HB, HI0⟩ := n_; (try clear hb); (try clear hb2); (try clear hk); (try clear hi); obtain ⟨HGz17, hgz17⟩ := HI0.out; have hcz17_0 := YX HGz17; have hcz17_1 := YY HGz17; have hcz17_2 := YZ HGz17; have hcz17_3 := Y10 HGz17; have hfz17_0 := Y6 HGz17 0; have hfz17_1 := Y6 HGz17 1; have hfz17_2 := Y6 HGz17 2; have hfz17_3 := Y6 HGz17 3; clear HGz17 hgz17) | (go_at_call 145; (with_reducible refine (strings_Cut.calls (t102.extract ((ji4) : Int).toNat t102.size) (⟨#[62]⟩ : ByteArray) t118 t119 true _ ?side1 A7.out).mono ?_); (case side1 => exact Z3); rintro e w' ⟨rfl, ⟨nd, rfl⟩⟩; (try first | exact ⟨rfl, _, World.drewN_drewN _ _ _⟩ | exact ⟨rfl, _, Eq.trans (World.drewN_drewN _ _ _) (congrArg (World.drewN _) (Nat.add_assoc _ _ _))⟩)) | (go_at_call 39; (with_reducible refine (Y18.calls t118 false _ ?side1 A9.out).mono ?_); (case side1 => exact Z3); rintro e w18 ⟨rfl, hb⟩; have n_ := Y38 (Yw.below QI75_0 hb) (Y1.trans QK (Y1.of_below hb g none) (.inl rfl)) (Y8 QB hb); clear HI0 HK HB; obtain ⟨HI0, HK, HB⟩ := n_; (try clear hb); (try clear hb2); (try clear hk); (try clear hi); obtain ⟨HGz19, hgz19⟩ := HI0.out; have hcz19_0 := YX HGz19; have hcz19_1 := YY HGz19; have hcz19_2 := YZ HGz19; have hcz19_3 := Y10 HGz19; have hfz19_0 := Y6 HGz19 0; have hfz19_1 := Y6 HGz19 1; have hfz19_2 := Y6 HGz19 2; have hfz19_3 := Y6 HGz19 3; clear HGz19 hgz19) | (go_at_call 54; (with_reducible refine (Ys.calls g t102 t103 t104 t105 t103 2 t122 t123 t124 t127 t130 t131 t132 t133 w0 _ ?side1 ?side2 A15.out).mono ?_); (case side1 => exact Z1k); (case side2 => exact QB); rintro e w20 ⟨v125, v128, rfl, ho0, ho1, hi, hb, hk⟩; have n_ := Y4L (Kd.R_lower (Kd.R_mono (ok' := fun k_ => True) ho0 (fun _ hk_ => trivial)) (Y7 (w := w) (g := g) (row := none) QK)) (Kd.N_lower (Kd.N_mono (ok' := fun k_ => some k_ ≠ (v125 : Value).ownBlock ∧ k_ ≠ g) ho1 (fun k_ hk_ => ⟨hk_.2, (Yw.fresh QI75_0 k_ hk_.1)⟩)) (Y7 (w := w) (g := g) (row := none) QK)) (Y1.trans QK hk (.inl rfl)) (hb) (hi); clear HK HB HI0; obtain ⟨HO126, HO129, HK, HB, HI0⟩ := n_; (try clear hb); (try clear hb2); (try clear hk); (try clear hi); (try clear ho0); (try clear ho1)))
      repeat (go_quiet (first | (go_at_call 53; (with_reducible refine (Ym.calls k g s0_0 s0_1 s0_2 s0_3 t101 t102 t103 t104 t105 w0 _ ?side1 ?side2 A2.out).mono ?_); (case side1 => exact Z1k); (case side2 => exact QB); rintro e w16 ⟨rfl, hi, hb, hk⟩; have n_ := Y38 (Y1.trans QK hk (.inl rfl)) (hb) (hi); clear HK HB HI0; obtain ⟨HK, HB, HI0⟩ := n_; (try clear hb); (try clear hb2); (try clear hk); (try clear hi); obtain ⟨HGz17, hgz17⟩ := HI0.out; have hcz17_0 := YX HGz17; have hcz17_1 := YY HGz17; have hcz17_2 := YZ HGz17; have hcz17_3 := Y10 HGz17; have hfz17_0 := Y6 HGz17 0; have hfz17_1 := Y6 HGz17 1; have hfz17_2 := Y6 HGz17 2; have hfz17_3 := Y6 HGz17 3; clear HGz17 hgz17) | (go_at_call 145; (with_reducible refine (strings_Cut.calls (t102.extract ((ji4) : Int).toNat t102.size) (⟨#[62]⟩ : ByteArray) t118 t119 true _ ?side1 A7.out).mono ?_); (case side1 => exact Z3); rintro e w' ⟨rfl, ⟨nd, rfl⟩⟩; (try first | exact ⟨rfl, _, World.drewN_drewN _ _ _⟩ | exact ⟨rfl, _, Eq.trans (World.drewN_drewN _ _ _) (congrArg (World.drewN _) (Nat.add_assoc _ _ _))⟩)) | (go_at_call 39; (with_reducible refine (Y18.calls t118 false _ ?side1 A9.out).mono ?_); (case side1 => exact Z3); rintro e w18 ⟨rfl, hb⟩; have n_ := Y38 (Yw.below QI75_0 hb) (Y1.trans QK (Y1.of_below hb g none) (.inl rfl)) (Y8 QB hb); clear HI0 HK HB; obtain ⟨HI0, HK, HB⟩ := n_; (try clear hb); (try clear hb2); (try clear hk); (try clear hi); obtain ⟨HGz19, hgz19⟩ := HI0.out; have hcz19_0 := YX HGz19; have hcz19_1 := YY HGz19; have hcz19_2 := YZ HGz19; have hcz19_3 := Y10 HGz19; have hfz19_0 := Y6 HGz19 0; have hfz19_1 := Y6 HGz19 1; have hfz19_2 := Y6 HGz19 2; have hfz19_3 := Y6 HGz19 3; clear HGz19 hgz19) | (go_at_call 54; (with_reducible refine (Ys.calls g t102 t103 t104 t105 t103 2 t122 t123 t124 t127 t130 t131 t132 t133 w0 _ ?side1 ?side2 A15.out).mono ?_); (case side1 => exact Z1k); (case side2 => exact QB); rintro e w20 ⟨v125, v128, rfl, ho0, ho1, hi, hb, hk⟩; have n_ := Y4L (Kd.R_lower (Kd.R_mono (ok' := fun k_ => True) ho0 (fun _ hk_ => trivial)) (Y7 (w := w) (g := g) (row := none) QK)) (Kd.N_lower (Kd.N_mono (ok' := fun k_ => some k_ ≠ (v125 : Value).ownBlock ∧ k_ ≠ g) ho1 (fun k_ hk_ => ⟨hk_.2, (Yw.fresh QI75_0 k_ hk_.1)⟩)) (Y7 (w := w) (g := g) (row := none) QK)) (Y1.trans QK hk (.inl rfl)) (hb) (hi); clear HK HB HI0; obtain ⟨HO126, HO129, HK, HB, HI0⟩ := n_; (try clear hb); (try clear hb2); (try clear hk); (try clear hi); (try clear ho0); (try clear ho1))); try go_wp2_with (first | (go_at_call 53; (with_reducible refine (Ym.calls k g s0_0 s0_1 s0_2 s0_3 t101 t102 t103 t104 t105 w0 _ ?side1 ?side2 A2.out).mono ?_); (case side1 => exact Z1k); (case side2 => exact QB); rintro e w16 ⟨rfl, hi, hb, hk⟩; have n_ := Y38 (Y1.trans QK hk (.inl rfl)) (hb) (hi); clear HK HB HI0; obtain ⟨HK, HB, HI0⟩ := n_; (try clear hb); (try clear hb2); (try clear hk); (try clear hi); obtain ⟨HGz17, hgz17⟩ := HI0.out; have hcz17_0 := YX HGz17; have hcz17_1 := YY HGz17; have hcz17_2 := YZ HGz17; have hcz17_3 := Y10 HGz17; have hfz17_0 := Y6 HGz17 0; have hfz17_1 := Y6 HGz17 1; have hfz17_2 := Y6 HGz17 2; have hfz17_3 := Y6 HGz17 3; clear HGz17 hgz17) | (go_at_call 145; (with_reducible refine (strings_Cut.calls (t102.extract ((ji4) : Int).toNat t102.size) (⟨#[62]⟩ : ByteArray) t118 t119 true _ ?side1 A7.out).mono ?_); (case side1 => exact Z3); rintro e w' ⟨rfl, ⟨nd, rfl⟩⟩; (try first | exact ⟨rfl, _, World.drewN_drewN _ _ _⟩ | exact ⟨rfl, _, Eq.trans (World.drewN_drewN _ _ _) (congrArg (World.drewN _) (Nat.add_assoc _ _ _))⟩)) | (go_at_call 39; (with_reducible refine (Y18.calls t118 false _ ?side1 A9.out).mono ?_); (case side1 => exact Z3); rintro e w18 ⟨rfl, hb⟩; have n_ := Y38 (Yw.below QI75_0 hb) (Y1.trans QK (Y1.of_below hb g none) (.inl rfl)) (Y8 QB hb); clear HI0 HK HB; obtain ⟨HI0, HK, HB⟩ := n_; (try clear hb); (try clear hb2); (try clear hk); (try clear hi); obtain ⟨HGz19, hgz19⟩ := HI0.out; have hcz19_0 := YX HGz19; have hcz19_1 := YY HGz19; have hcz19_2 := YZ HGz19; have hcz19_3 := Y10 HGz19; have hfz19_0 := Y6 HGz19 0; have hfz19_1 := Y6 HGz19 1; have hfz19_2 := Y6 HGz19 2; have hfz19_3 := Y6 HGz19 3; clear HGz19 hgz19) | (go_at_call 54; (with_reducible refine (Ys.calls g t102 t103 t104 t105 t103 2 t122 t123 t124 t127 t130 t131 t132 t133 w0 _ ?side1 ?side2 A15.out).mono ?_); (case side1 => exact Z1k); (case side2 => exact QB); rintro e w20 ⟨v125, v128, rfl, ho0, ho1, hi, hb, hk⟩; have n_ := Y4L (Kd.R_lower (Kd.R_mono (ok' := fun k_ => True) ho0 (fun _ hk_ => trivial)) (Y7 (w := w) (g := g) (row := none) QK)) (Kd.N_lower (Kd.N_mono (ok' := fun k_ => some k_ ≠ (v125 : Value).ownBlock ∧ k_ ≠ g) ho1 (fun k_ hk_ => ⟨hk_.2, (Yw.fresh QI75_0 k_ hk_.1)⟩)) (Y7 (w := w) (g := g) (row := none) QK)) (Y1.trans QK hk (.inl rfl)) (hb) (hi); clear HK HB HI0; obtain ⟨HO126, HO129, HK, HB, HI0⟩ := n_; (try clear hb); (try clear hb2); (try clear hk); (try clear hi); (try clear ho0); (try clear ho1))))
      go_ret
      exact Z1d
    ·replace c8 := Bool.eq_false_iff.mpr c8
     subst c8
     have H1 : ((Ys.f t102 t103 t104 t105 t103 2).bind fun bt134 => (some ((⟨#[]⟩ : ByteArray), bt134.2.2.2.2.1, bt134.2.2.2.2.2.1, bt134.2.2.2.2.2.2.1, bt134.2.2.2.2.2.2.2))) = some (r1, r2, r3, r4, r5) := by rw [if_neg (show ¬ (false = true) by decide)] at H; exact H
     clear H
     have H := H1
     clear H1
     replace H := Option.bind_eq_some_iff.mp H
     obtain ⟨⟨t134, t135, t136, t139, t142, t143, t144, t145⟩, A210, H⟩ := H
     replace H : (some ((⟨#[]⟩ : ByteArray), t142, t143, t144, t145)) = some (r1, r2, r3, r4, r5) := H
     have A21 := Y0.mk A210
     clear A210
     simp only [Option.some.injEq, Prod.mk.injEq] at H
     obtain ⟨rfl, rfl, rfl, rfl, rfl⟩ := H
     go_enter Tryd.func140, Tryd.ntmps140
     go_wp2_with (first | (go_at_call 53; (with_reducible refine (Ym.calls k g s0_0 s0_1 s0_2 s0_3 t101 t102 t103 t104 t105 w0 _ ?side1 ?side2 A2.out).mono ?_); (case side1 => exact Z1k); (case side2 => exact QB); rintro e w22 ⟨rfl, hi, hb, hk⟩; have n_ := Y38 (Y1.trans QK hk (.inl rfl)) (hb) (hi); clear HK HB HI0; obtain ⟨HK, HB, HI0⟩ := n_; (try clear hb); (try clear hb2); (try clear hk); (try clear hi); obtain ⟨HGz23, hgz23⟩ := HI0.out; have hcz23_0 := YX HGz23; have hcz23_1 := YY HGz23; have hcz23_2 := YZ HGz23; have hcz23_3 := Y10 HGz23; have hfz23_0 := Y6 HGz23 0; have hfz23_1 := Y6 HGz23 1; have hfz23_2 := Y6 HGz23 2; have hfz23_3 := Y6 HGz23 3; clear HGz23 hgz23) | (go_at_call 145; (with_reducible refine (strings_Cut.calls (t102.extract ((ji4) : Int).toNat t102.size) (⟨#[62]⟩ : ByteArray) t118 t119 false _ ?side1 A7.out).mono ?_); (case side1 => exact Z3); rintro e w' ⟨rfl, ⟨nd, rfl⟩⟩; (try first | exact ⟨rfl, _, World.drewN_drewN _ _ _⟩ | exact ⟨rfl, _, Eq.trans (World.drewN_drewN _ _ _) (congrArg (World.drewN _) (Nat.add_assoc _ _ _))⟩)) | (go_at_call 54; (with_reducible refine (Ys.calls g t102 t103 t104 t105 t103 2 t134 t135 t136 t139 t142 t143 t144 t145 w0 _ ?side1 ?side2 A21.out).mono ?_); (case side1 => exact Z1k); (case side2 => exact QB); rintro e w24 ⟨v137, v140, rfl, ho0, ho1, hi, hb, hk⟩; have n_ := Y4L (Kd.R_lower (Kd.R_mono (ok' := fun k_ => True) ho0 (fun _ hk_ => trivial)) (Y7 (w := w) (g := g) (row := none) QK)) (Kd.N_lower (Kd.N_mono (ok' := fun k_ => some k_ ≠ (v137 : Value).ownBlock ∧ k_ ≠ g) ho1 (fun k_ hk_ => ⟨hk_.2, (Yw.fresh QI75_0 k_ hk_.1)⟩)) (Y7 (w := w) (g := g) (row := none) QK)) (Y1.trans QK hk (.inl rfl)) (hb) (hi); clear HK HB HI0; obtain ⟨HO138, HO141, HK, HB, HI0⟩ := n_; (try clear hb); (try clear hb2); (try clear hk); (try clear hi); (try clear ho0); (try clear ho1)))
     repeat (go_quiet (first | (go_at_call 53; (with_reducible refine (Ym.calls k g s0_0 s0_1 s0_2 s0_3 t101 t102 t103 t104 t105 w0 _ ?side1 ?side2 A2.out).mono ?_); (case side1 => exact Z1k); (case side2 => exact QB); rintro e w22 ⟨rfl, hi, hb, hk⟩; have n_ := Y38 (Y1.trans QK hk (.inl rfl)) (hb) (hi); clear HK HB HI0; obtain ⟨HK, HB, HI0⟩ := n_; (try clear hb); (try clear hb2); (try clear hk); (try clear hi); obtain ⟨HGz23, hgz23⟩ := HI0.out; have hcz23_0 := YX HGz23; have hcz23_1 := YY HGz23; have hcz23_2 := YZ HGz23; have hcz23_3 := Y10 HGz23; have hfz23_0 := Y6 HGz23 0; have hfz23_1 := Y6 HGz23 1; have hfz23_2 := Y6 HGz23 2; have hfz23_3 := Y6 HGz23 3; clear HGz23 hgz23) | (go_at_call 145; (with_reducible refine (strings_Cut.calls (t102.extract ((ji4) : Int).toNat t102.size) (⟨#[62]⟩ : ByteArray) t118 t119 false _ ?side1 A7.out).mono ?_); (case side1 => exact Z3); rintro e w' ⟨rfl, ⟨nd, rfl⟩⟩; (try first | exact ⟨rfl, _, World.drewN_drewN _ _ _⟩ | exact ⟨rfl, _, Eq.trans (World.drewN_drewN _ _ _) (congrArg (World.drewN _) (Nat.add_assoc _ _ _))⟩)) | (go_at_call 54; (with_reducible refine (Ys.calls g t102 t103 t104 t105 t103 2 t134 t135 t136 t139 t142 t143 t144 t145 w0 _ ?side1 ?side2 A21.out).mono ?_); (case side1 => exact Z1k); (case side2 => exact QB); rintro e w24 ⟨v137, v140, rfl, ho0, ho1, hi, hb, hk⟩; have n_ := Y4L (Kd.R_lower (Kd.R_mono (ok' := fun k_ => True) ho0 (fun _ hk_ => trivial)) (Y7 (w := w) (g := g) (row := none) QK)) (Kd.N_lower (Kd.N_mono (ok' := fun k_ => some k_ ≠ (v137 : Value).ownBlock ∧ k_ ≠ g) ho1 (fun k_ hk_ => ⟨hk_.2, (Yw.fresh QI75_0 k_ hk_.1)⟩)) (Y7 (w := w) (g := g) (row := none) QK)) (Y1.trans QK hk (.inl rfl)) (hb) (hi); clear HK HB HI0; obtain ⟨HO138, HO141, HK, HB, HI0⟩ := n_; (try clear hb); (try clear hb2); (try clear hk); (try clear hi); (try clear ho0); (try clear ho1))); try go_wp2_with (first | (go_at_call 53; (with_reducible refine (Ym.calls k g s0_0 s0_1 s0_2 s0_3 t101 t102 t103 t104 t105 w0 _ ?side1 ?side2 A2.out).mono ?_); (case side1 => exact Z1k); (case side2 => exact QB); rintro e w22 ⟨rfl, hi, hb, hk⟩; have n_ := Y38 (Y1.trans QK hk (.inl rfl)) (hb) (hi); clear HK HB HI0; obtain ⟨HK, HB, HI0⟩ := n_; (try clear hb); (try clear hb2); (try clear hk); (try clear hi); obtain ⟨HGz23, hgz23⟩ := HI0.out; have hcz23_0 := YX HGz23; have hcz23_1 := YY HGz23; have hcz23_2 := YZ HGz23; have hcz23_3 := Y10 HGz23; have hfz23_0 := Y6 HGz23 0; have hfz23_1 := Y6 HGz23 1; have hfz23_2 := Y6 HGz23 2; have hfz23_3 := Y6 HGz23 3; clear HGz23 hgz23) | (go_at_call 145; (with_reducible refine (strings_Cut.calls (t102.extract ((ji4) : Int).toNat t102.size) (⟨#[62]⟩ : ByteArray) t118 t119 false _ ?side1 A7.out).mono ?_); (case side1 => exact Z3); rintro e w' ⟨rfl, ⟨nd, rfl⟩⟩; (try first | exact ⟨rfl, _, World.drewN_drewN _ _ _⟩ | exact ⟨rfl, _, Eq.trans (World.drewN_drewN _ _ _) (congrArg (World.drewN _) (Nat.add_assoc _ _ _))⟩)) | (go_at_call 54; (with_reducible refine (Ys.calls g t102 t103 t104 t105 t103 2 t134 t135 t136 t139 t142 t143 t144 t145 w0 _ ?side1 ?side2 A21.out).mono ?_); (case side1 => exact Z1k); (case side2 => exact QB); rintro e w24 ⟨v137, v140, rfl, ho0, ho1, hi, hb, hk⟩; have n_ := Y4L (Kd.R_lower (Kd.R_mono (ok' := fun k_ => True) ho0 (fun _ hk_ => trivial)) (Y7 (w := w) (g := g) (row := none) QK)) (Kd.N_lower (Kd.N_mono (ok' := fun k_ => some k_ ≠ (v137 : Value).ownBlock ∧ k_ ≠ g) ho1 (fun k_ hk_ => ⟨hk_.2, (Yw.fresh QI75_0 k_ hk_.1)⟩)) (Y7 (w := w) (g := g) (row := none) QK)) (Y1.trans QK hk (.inl rfl)) (hb) (hi); clear HK HB HI0; obtain ⟨HO138, HO141, HK, HB, HI0⟩ := n_; (try clear hb); (try clear hb2); (try clear hk); (try clear hi); (try clear ho0); (try clear ho1))))
     go_ret
     exact Z1d
   ·rw [if_neg c6] at H
    exact Zn
  ·rw [if_neg c5] at H
   exact Zn
 ·rw [if_neg c3] at H
  have c3b0 : (t101 == 60) = false := beq_eq_false_iff_ne.mpr c3
  have c3b1 : (t101 != 60) = true := bne_iff_ne.mpr c3
  replace H := Option.bind_eq_some_iff.mp H
  obtain ⟨⟨t106, t107, t108, t111, t114, t115, t116, t117⟩, A250, H⟩ := H
  replace H : (some ((⟨#[]⟩ : ByteArray), t114, t115, t116, t117)) = some (r1, r2, r3, r4, r5) := H
  have A25 := Y0.mk A250
  clear A250
  simp only [Option.some.injEq, Prod.mk.injEq] at H
  obtain ⟨rfl, rfl, rfl, rfl, rfl⟩ := H
  go_enter Tryd.func140, Tryd.ntmps140
  go_wp2_with (first | (go_at_call 53; (with_reducible refine (Ym.calls k g s0_0 s0_1 s0_2 s0_3 t101 t102 t103 t104 t105 w0 _ ?side1 ?side2 A2.out).mono ?_); (case side1 => exact Z1k); (case side2 => exact QB); rintro e w26 ⟨rfl, hi, hb, hk⟩; have n_ := Y38 (Y1.trans QK hk (.inl rfl)) (hb) (hi); clear HK HB HI0; obtain ⟨HK, HB, HI0⟩ := n_; (try clear hb); (try clear hb2); (try clear hk); (try clear hi); obtain ⟨HGz27, hgz27⟩ := HI0.out; have hcz27_0 := YX HGz27; have hcz27_1 := YY HGz27; have hcz27_2 := YZ HGz27; have hcz27_3 := Y10 HGz27; have hfz27_0 := Y6 HGz27 0; have hfz27_1 := Y6 HGz27 1; have hfz27_2 := Y6 HGz27 2; have hfz27_3 := Y6 HGz27 3; clear HGz27 hgz27) | (go_at_call 54; (with_reducible refine (Ys.calls g t102 t103 t104 t105 t103 2 t106 t107 t108 t111 t114 t115 t116 t117 w0 _ ?side1 ?side2 A25.out).mono ?_); (case side1 => exact Z1k); (case side2 => exact QB); rintro e w28 ⟨v109, v112, rfl, ho0, ho1, hi, hb, hk⟩; have n_ := Y4L (Kd.R_lower (Kd.R_mono (ok' := fun k_ => True) ho0 (fun _ hk_ => trivial)) (Y7 (w := w) (g := g) (row := none) QK)) (Kd.N_lower (Kd.N_mono (ok' := fun k_ => some k_ ≠ (v109 : Value).ownBlock ∧ k_ ≠ g) ho1 (fun k_ hk_ => ⟨hk_.2, (Yw.fresh QI75_0 k_ hk_.1)⟩)) (Y7 (w := w) (g := g) (row := none) QK)) (Y1.trans QK hk (.inl rfl)) (hb) (hi); clear HK HB HI0; obtain ⟨HO110, HO113, HK, HB, HI0⟩ := n_; (try clear hb); (try clear hb2); (try clear hk); (try clear hi); (try clear ho0); (try clear ho1)))
  repeat (go_quiet (first | (go_at_call 53; (with_reducible refine (Ym.calls k g s0_0 s0_1 s0_2 s0_3 t101 t102 t103 t104 t105 w0 _ ?side1 ?side2 A2.out).mono ?_); (case side1 => exact Z1k); (case side2 => exact QB); rintro e w26 ⟨rfl, hi, hb, hk⟩; have n_ := Y38 (Y1.trans QK hk (.inl rfl)) (hb) (hi); clear HK HB HI0; obtain ⟨HK, HB, HI0⟩ := n_; (try clear hb); (try clear hb2); (try clear hk); (try clear hi); obtain ⟨HGz27, hgz27⟩ := HI0.out; have hcz27_0 := YX HGz27; have hcz27_1 := YY HGz27; have hcz27_2 := YZ HGz27; have hcz27_3 := Y10 HGz27; have hfz27_0 := Y6 HGz27 0; have hfz27_1 := Y6 HGz27 1; have hfz27_2 := Y6 HGz27 2; have hfz27_3 := Y6 HGz27 3; clear HGz27 hgz27) | (go_at_call 54; (with_reducible refine (Ys.calls g t102 t103 t104 t105 t103 2 t106 t107 t108 t111 t114 t115 t116 t117 w0 _ ?side1 ?side2 A25.out).mono ?_); (case side1 => exact Z1k); (case side2 => exact QB); rintro e w28 ⟨v109, v112, rfl, ho0, ho1, hi, hb, hk⟩; have n_ := Y4L (Kd.R_lower (Kd.R_mono (ok' := fun k_ => True) ho0 (fun _ hk_ => trivial)) (Y7 (w := w) (g := g) (row := none) QK)) (Kd.N_lower (Kd.N_mono (ok' := fun k_ => some k_ ≠ (v109 : Value).ownBlock ∧ k_ ≠ g) ho1 (fun k_ hk_ => ⟨hk_.2, (Yw.fresh QI75_0 k_ hk_.1)⟩)) (Y7 (w := w) (g := g) (row := none) QK)) (Y1.trans QK hk (.inl rfl)) (hb) (hi); clear HK HB HI0; obtain ⟨HO110, HO113, HK, HB, HI0⟩ := n_; (try clear hb); (try clear hb2); (try clear hk); (try clear hi); (try clear ho0); (try clear ho1))); try go_wp2_with (first | (go_at_call 53; (with_reducible refine (Ym.calls k g s0_0 s0_1 s0_2 s0_3 t101 t102 t103 t104 t105 w0 _ ?side1 ?side2 A2.out).mono ?_); (case side1 => exact Z1k); (case side2 => exact QB); rintro e w26 ⟨rfl, hi, hb, hk⟩; have n_ := Y38 (Y1.trans QK hk (.inl rfl)) (hb) (hi); clear HK HB HI0; obtain ⟨HK, HB, HI0⟩ := n_; (try clear hb); (try clear hb2); (try clear hk); (try clear hi); obtain ⟨HGz27, hgz27⟩ := HI0.out; have hcz27_0 := YX HGz27; have hcz27_1 := YY HGz27; have hcz27_2 := YZ HGz27; have hcz27_3 := Y10 HGz27; have hfz27_0 := Y6 HGz27 0; have hfz27_1 := Y6 HGz27 1; have hfz27_2 := Y6 HGz27 2; have hfz27_3 := Y6 HGz27 3; clear HGz27 hgz27) | (go_at_call 54; (with_reducible refine (Ys.calls g t102 t103 t104 t105 t103 2 t106 t107 t108 t111 t114 t115 t116 t117 w0 _ ?side1 ?side2 A25.out).mono ?_); (case side1 => exact Z1k); (case side2 => exact QB); rintro e w28 ⟨v109, v112, rfl, ho0, ho1, hi, hb, hk⟩; have n_ := Y4L (Kd.R_lower (Kd.R_mono (ok' := fun k_ => True) ho0 (fun _ hk_ => trivial)) (Y7 (w := w) (g := g) (row := none) QK)) (Kd.N_lower (Kd.N_mono (ok' := fun k_ => some k_ ≠ (v109 : Value).ownBlock ∧ k_ ≠ g) ho1 (fun k_ hk_ => ⟨hk_.2, (Yw.fresh QI75_0 k_ hk_.1)⟩)) (Y7 (w := w) (g := g) (row := none) QK)) (Y1.trans QK hk (.inl rfl)) (hb) (hi); clear HK HB HI0; obtain ⟨HO110, HO113, HK, HB, HI0⟩ := n_; (try clear hb); (try clear hb2); (try clear hk); (try clear hi); (try clear ho0); (try clear ho1))))
  go_ret
  exact Z2u
def YS.f (k : Nat) (s0_0 : ByteArray) (s0_1 : Int) (s0_2 : Int) (s0_3 : Int) (a1 : Int) : Option (Bool × ByteArray × Int × Int × Int) := (Ym.f k s0_0 s0_1 s0_2 s0_3).bind fun bt101 => (if bt101.1 = a1 then (some (true, bt101.2.1, wrap64 (bt101.2.2.1 + 1), bt101.2.2.2.1, bt101.2.2.2.2)) else (some (false, bt101.2.1, bt101.2.2.1, bt101.2.2.2.1, bt101.2.2.2.2)))
theorem YS.mono : ∀ a0 a1 a2 a3 a4 k, LeO (YS.f k a0 a1 a2 a3 a4) (YS.f (k + 1) a0 a1 a2 a3 a4) := by
 intro a0 a1 a2 a3 a4 k
 unfold YS.f
 exact QM
set_option maxHeartbeats 8000000 in
set_option maxRecDepth 100000 in
theorem YS.calls (k : Nat) (g : Nat) (s0_0 : ByteArray) (s0_1 : Int) (s0_2 : Int) (s0_3 : Int) (a1 : Int) (r1 : Bool) (r2 : ByteArray) (r3 : Int) (r4 : Int) (r5 : Int) (w0 w : World) (hI : Yw w0 w g s0_0 s0_1 s0_2 s0_3) (hB : Below w0.heap.size w0 w) (h : YS.f k s0_0 s0_1 s0_2 s0_3 a1 = some (r1, r2, r3, r4, r5)) :
  Calls Tryd.prog 95 #[.pointer (some ⟨g, 0, none⟩), .int .u8 a1] w fun e w' => e = .returned (.bool r1) ∧ Yw w0 w' g r2 r3 r4 r5 ∧ Below w0.heap.size w0 w' ∧ Y1 w w' g none := by
 have HI0 := Y0.mk hI
 have HK := Y0.mk (Y1.refl w g none)
 have HL := Y0.mk hB.size
 clear hI
 have HW0 := Y0.mk hB.size
 have HB := Y0.mk hB
 clear hB
 have H : ((Ym.f k s0_0 s0_1 s0_2 s0_3).bind fun bt101 => (if bt101.1 = a1 then (some (true, bt101.2.1, wrap64 (bt101.2.2.1 + 1), bt101.2.2.2.1, bt101.2.2.2.2)) else (some (false, bt101.2.1, bt101.2.2.1, bt101.2.2.2.1, bt101.2.2.2.2)))) = some (r1, r2, r3, r4, r5) := h
 clear h
 replace H := Option.bind_eq_some_iff.mp H
 obtain ⟨⟨t101, t102, t103, t104, t105⟩, A30, H⟩ := H
 replace H : (if t101 = a1 then (some (true, t102, wrap64 (t103 + 1), t104, t105)) else (some (false, t102, t103, t104, t105))) = some (r1, r2, r3, r4, r5) := H
 have A3 := Y0.mk A30
 clear A30
 by_cases c4 : t101 = a1
 ·rw [if_pos c4] at H
  have c4b0 : (t101 == a1) = true := beq_iff_eq.mpr c4
  have c4b1 : (t101 != a1) = false := bne_eq_false_iff_eq.mpr c4
  clear c4
  simp only [Option.some.injEq, Prod.mk.injEq] at H
  obtain ⟨rfl, rfl, rfl, rfl, rfl⟩ := H
  go_enter Tryd.func95, Tryd.ntmps95
  go_wp2_with (first | ((with_reducible refine Yl (f := 53) rfl ?_); refine YO (some 6) rfl rfl Tryd.func53 Z4 rfl #[.pointer (some ⟨g, 0, none⟩)] rfl Z0 ?_; (with_reducible refine (Ym.calls k g s0_0 s0_1 s0_2 s0_3 t101 t102 t103 t104 t105 w0 _ ?side1 ?side2 A3.out).mono ?_); (case side1 => exact Z1k); (case side2 => exact QB); rintro e w5 ⟨rfl, hi, hb, hk⟩; refine ⟨_, rfl, ?_⟩; have n_ := Y38 (Y1.trans QK hk (.inl rfl)) (hb) (hi); clear HK HB HI0; obtain ⟨HK, HB, HI0⟩ := n_; (try clear hb); (try clear hb2); (try clear hk); (try clear hi); obtain ⟨HGz6, hgz6⟩ := HI0.out; have hcz6_0 := YX HGz6; have hcz6_1 := YY HGz6; have hcz6_2 := YZ HGz6; have hcz6_3 := Y10 HGz6; have hfz6_0 := Y6 HGz6 0; have hfz6_1 := Y6 HGz6 1; have hfz6_2 := Y6 HGz6 2; have hfz6_3 := Y6 HGz6 3; clear HGz6 hgz6))
  go_ret
  exact Z2u
 ·rw [if_neg c4] at H
  have c4b0 : (t101 == a1) = false := beq_eq_false_iff_ne.mpr c4
  have c4b1 : (t101 != a1) = true := bne_iff_ne.mpr c4
  simp only [Option.some.injEq, Prod.mk.injEq] at H
  obtain ⟨rfl, rfl, rfl, rfl, rfl⟩ := H
  go_enter Tryd.func95, Tryd.ntmps95
  go_wp2_with (first | ((with_reducible refine Yl (f := 53) rfl ?_); refine YO (some 6) rfl rfl Tryd.func53 Z4 rfl #[.pointer (some ⟨g, 0, none⟩)] rfl Z0 ?_; (with_reducible refine (Ym.calls k g s0_0 s0_1 s0_2 s0_3 t101 t102 t103 t104 t105 w0 _ ?side1 ?side2 A3.out).mono ?_); (case side1 => exact Z1k); (case side2 => exact QB); rintro e w7 ⟨rfl, hi, hb, hk⟩; refine ⟨_, rfl, ?_⟩; have n_ := Y38 (Y1.trans QK hk (.inl rfl)) (hb) (hi); clear HK HB HI0; obtain ⟨HK, HB, HI0⟩ := n_; (try clear hb); (try clear hb2); (try clear hk); (try clear hi)))
  go_ret
  exact Z2u
def YT.f (k : Nat) (s0_0 : ByteArray) (s0_1 : Int) (s0_2 : Int) (s0_3 : Int) (a1 : Int) : Option (ByteArray × Int × Int × Int) := (YS.f k s0_0 s0_1 s0_2 s0_3 a1).bind fun bt101 => (if bt101.1 = true then (some (bt101.2.1, bt101.2.2.1, bt101.2.2.2.1, bt101.2.2.2.2)) else ((Ys.f bt101.2.1 bt101.2.2.1 bt101.2.2.2.1 bt101.2.2.2.2 bt101.2.2.1 2).bind fun bt106 => (some (bt106.2.2.2.2.1, bt106.2.2.2.2.2.1, bt106.2.2.2.2.2.2.1, bt106.2.2.2.2.2.2.2))))
theorem YT.mono : ∀ a0 a1 a2 a3 a4 k, LeO (YT.f k a0 a1 a2 a3 a4) (YT.f (k + 1) a0 a1 a2 a3 a4) := by
 intro a0 a1 a2 a3 a4 k
 unfold YT.f
 exact QM
set_option maxHeartbeats 8000000 in
set_option maxRecDepth 100000 in
theorem YT.calls (k : Nat) (g : Nat) (s0_0 : ByteArray) (s0_1 : Int) (s0_2 : Int) (s0_3 : Int) (a1 : Int) (r1 : ByteArray) (r2 : Int) (r3 : Int) (r4 : Int) (w0 w : World) (hI : Yw w0 w g s0_0 s0_1 s0_2 s0_3) (hB : Below w0.heap.size w0 w) (h : YT.f k s0_0 s0_1 s0_2 s0_3 a1 = some (r1, r2, r3, r4)) :
  Calls Tryd.prog 142 #[.pointer (some ⟨g, 0, none⟩), .int .u8 a1] w fun e w' => e = .returned (.tuple #[]) ∧ Yw w0 w' g r1 r2 r3 r4 ∧ Below w0.heap.size w0 w' ∧ Y1 w w' g none := by
 have HI0 := Y0.mk hI
 have HK := Y0.mk (Y1.refl w g none)
 have HL := Y0.mk hB.size
 clear hI
 have HW0 := Y0.mk hB.size
 have HB := Y0.mk hB
 clear hB
 have H : ((YS.f k s0_0 s0_1 s0_2 s0_3 a1).bind fun bt101 => (if bt101.1 = true then (some (bt101.2.1, bt101.2.2.1, bt101.2.2.2.1, bt101.2.2.2.2)) else ((Ys.f bt101.2.1 bt101.2.2.1 bt101.2.2.2.1 bt101.2.2.2.2 bt101.2.2.1 2).bind fun bt106 => (some (bt106.2.2.2.2.1, bt106.2.2.2.2.2.1, bt106.2.2.2.2.2.2.1, bt106.2.2.2.2.2.2.2))))) = some (r1, r2, r3, r4) := h
 clear h
 replace H := Option.bind_eq_some_iff.mp H
 obtain ⟨⟨t101, t102, t103, t104, t105⟩, A30, H⟩ := H
 replace H : (if t101 = true then (some (t102, t103, t104, t105)) else ((Ys.f t102 t103 t104 t105 t103 2).bind fun bt106 => (some (bt106.2.2.2.2.1, bt106.2.2.2.2.2.1, bt106.2.2.2.2.2.2.1, bt106.2.2.2.2.2.2.2)))) = some (r1, r2, r3, r4) := H
 have A3 := Y0.mk A30
 clear A30
 by_cases c4 : t101 = true
 ·subst c4
  have H1 : (some (t102, t103, t104, t105)) = some (r1, r2, r3, r4) := by rw [if_pos rfl] at H; exact H
  clear H
  have H := H1
  clear H1
  simp only [Option.some.injEq, Prod.mk.injEq] at H
  obtain ⟨rfl, rfl, rfl, rfl⟩ := H
  go_enter Tryd.func142, Tryd.ntmps142
  go_wp2_with (first | ((with_reducible refine Yl (f := 95) rfl ?_); refine YO (some 6) rfl rfl Tryd.func95 Z4 rfl #[.pointer (some ⟨g, 0, none⟩), .int .u8 a1] rfl Z0 ?_; (with_reducible refine (YS.calls k g s0_0 s0_1 s0_2 s0_3 a1 true t102 t103 t104 t105 w0 _ ?side1 ?side2 A3.out).mono ?_); (case side1 => exact Z1k); (case side2 => exact QB); rintro e w5 ⟨rfl, hi, hb, hk⟩; refine ⟨_, rfl, ?_⟩; have n_ := Y38 (Y1.trans QK hk (.inl rfl)) (hb) (hi); clear HK HB HI0; obtain ⟨HK, HB, HI0⟩ := n_; (try clear hb); (try clear hb2); (try clear hk); (try clear hi)))
  first | go_end0 | ((try simp only [Exit.inBlock, Exit.then]); refine bodyPost_ret (results_none rfl _ _ _) rfl ?_)
  exact Z2u
 ·replace c4 := Bool.eq_false_iff.mpr c4
  subst c4
  have H1 : ((Ys.f t102 t103 t104 t105 t103 2).bind fun bt106 => (some (bt106.2.2.2.2.1, bt106.2.2.2.2.2.1, bt106.2.2.2.2.2.2.1, bt106.2.2.2.2.2.2.2))) = some (r1, r2, r3, r4) := by rw [if_neg (show ¬ (false = true) by decide)] at H; exact H
  clear H
  have H := H1
  clear H1
  replace H := Option.bind_eq_some_iff.mp H
  obtain ⟨⟨t106, t107, t108, t111, t114, t115, t116, t117⟩, A60, H⟩ := H
  replace H : (some (t114, t115, t116, t117)) = some (r1, r2, r3, r4) := H
  have A6 := Y0.mk A60
  clear A60
  simp only [Option.some.injEq, Prod.mk.injEq] at H
  obtain ⟨rfl, rfl, rfl, rfl⟩ := H
  go_enter Tryd.func142, Tryd.ntmps142
  go_wp2_with (first | ((with_reducible refine Yl (f := 95) rfl ?_); refine YO (some 6) rfl rfl Tryd.func95 Z4 rfl #[.pointer (some ⟨g, 0, none⟩), .int .u8 a1] rfl Z0 ?_; (with_reducible refine (YS.calls k g s0_0 s0_1 s0_2 s0_3 a1 false t102 t103 t104 t105 w0 _ ?side1 ?side2 A3.out).mono ?_); (case side1 => exact Z1k); (case side2 => exact QB); rintro e w7 ⟨rfl, hi, hb, hk⟩; refine ⟨_, rfl, ?_⟩; have n_ := Y38 (Y1.trans QK hk (.inl rfl)) (hb) (hi); clear HK HB HI0; obtain ⟨HK, HB, HI0⟩ := n_; (try clear hb); (try clear hb2); (try clear hk); (try clear hi); obtain ⟨HGz8, hgz8⟩ := HI0.out; have hcz8_0 := YX HGz8; have hcz8_1 := YY HGz8; have hcz8_2 := YZ HGz8; have hcz8_3 := Y10 HGz8; have hfz8_0 := Y6 HGz8 0; have hfz8_1 := Y6 HGz8 1; have hfz8_2 := Y6 HGz8 2; have hfz8_3 := Y6 HGz8 3; clear HGz8 hgz8) | ((with_reducible refine Yl (f := 54) rfl ?_); refine YO (some 13) rfl rfl Tryd.func54 Z4 rfl #[.pointer (some ⟨g, 0, none⟩), .int .i64 t103, .int .i64 2] rfl Z0 ?_; (with_reducible refine (Ys.calls g t102 t103 t104 t105 t103 2 t106 t107 t108 t111 t114 t115 t116 t117 w0 _ ?side1 ?side2 A6.out).mono ?_); (case side1 => exact Z1k); (case side2 => exact QB); rintro e w9 ⟨v109, v112, rfl, ho0, ho1, hi, hb, hk⟩; refine ⟨_, rfl, ?_⟩; have n_ := Y4L (Kd.R_lower (Kd.R_mono (ok' := fun k_ => True) ho0 (fun _ hk_ => trivial)) (Y7 (w := w) (g := g) (row := none) QK)) (Kd.N_lower (Kd.N_mono (ok' := fun k_ => some k_ ≠ (v109 : Value).ownBlock ∧ k_ ≠ g) ho1 (fun k_ hk_ => ⟨hk_.2, (Yw.fresh QI75_0 k_ hk_.1)⟩)) (Y7 (w := w) (g := g) (row := none) QK)) (Y1.trans QK hk (.inl rfl)) (hb) (hi); clear HK HB HI0; obtain ⟨HO110, HO113, HK, HB, HI0⟩ := n_; (try clear hb); (try clear hb2); (try clear hk); (try clear hi); (try clear ho0); (try clear ho1)))
  first | go_end0 | ((try simp only [Exit.inBlock, Exit.then]); refine bodyPost_ret (results_none rfl _ _ _) rfl ?_)
  exact Z2u
mutual
def Yk.j0 : Nat → Bool → ByteArray → Int → Int → Int → Int → Option (Int × ByteArray × List ByteArray × (List (S37)) × ByteArray × Int × Int × Int)
 | 0, _, _, _, _, _, _ => none
 | k + 1, x26, x1000, x1001, x1002, x1003, x103000 => if x26 = true then ((YR.f k x1000 x1001 x1002 x1003).bind fun bt103 => (some (x103000, (⟨#[]⟩ : ByteArray), (([bt103.1] : List ByteArray)), ([] : List (S37)), bt103.2.1, bt103.2.2.1, bt103.2.2.2.1, bt103.2.2.2.2))) else ((YR.f k x1000 (wrap64 (x1001 + 1)) x1002 x1003).bind fun bt111 => (Yk.l0 k bt111.2.1 bt111.2.2.1 bt111.2.2.2.1 bt111.2.2.2.2 x103000 (([bt111.1] : List ByteArray))))
def Yk.l0 : Nat → ByteArray → Int → Int → Int → Int → List ByteArray → Option (Int × ByteArray × List ByteArray × (List (S37)) × ByteArray × Int × Int × Int)
 | 0, _, _, _, _, _, _ => none
 | k + 1, x1000, x1001, x1002, x1003, x103000, x103002 => (YS.f k x1000 x1001 x1002 x1003 124).bind fun bt119 => (if bt119.1 = true then ((YR.f k bt119.2.1 bt119.2.2.1 bt119.2.2.2.1 bt119.2.2.2.2).bind fun bt124 => (if x103002.length < 8796093022208 then (Yk.l0 k bt124.2.1 bt124.2.2.1 bt124.2.2.2.1 bt124.2.2.2.2 x103000 (x103002 ++ [bt124.1])) else (none))) else ((YT.f k bt119.2.1 bt119.2.2.1 bt119.2.2.2.1 bt119.2.2.2.2 41).bind fun bt132 => (some (x103000, (⟨#[]⟩ : ByteArray), x103002, ([] : List (S37)), bt132.1, bt132.2.1, bt132.2.2.1, bt132.2.2.2))))
end
def Yk.f (k : Nat) (s0_0 : ByteArray) (s0_1 : Int) (s0_2 : Int) (s0_3 : Int) : Option (Int × ByteArray × List ByteArray × (List (S37)) × ByteArray × Int × Int × Int) := if s0_1 ≥ (s0_0.size : Int) then (Yk.j0 k true s0_0 s0_1 s0_2 s0_3 8) else (if 0 ≤ s0_1 then (if s0_1 < (s0_0.size : Int) then (Yk.j0 k ((bt s0_0 s0_1) != 40) s0_0 s0_1 s0_2 s0_3 8) else (none)) else (none))
theorem Yk.mono_l : ∀ k, (∀ y0 y1 y2 y3 y4 y5, LeO (Yk.j0 k y0 y1 y2 y3 y4 y5) (Yk.j0 (k + 1) y0 y1 y2 y3 y4 y5)) ∧ (∀ y0 y1 y2 y3 y4 y5, LeO (Yk.l0 k y0 y1 y2 y3 y4 y5) (Yk.l0 (k + 1) y0 y1 y2 y3 y4 y5))
 | 0 => ⟨fun _ _ _ _ _ _ r h => by simp [Yk.j0] at h, fun _ _ _ _ _ _ r h => by simp [Yk.l0] at h⟩
 | k + 1 => by
  obtain ⟨ih0, ih1⟩ := Yk.mono_l k
  refine ⟨?_, ?_⟩
  ·intro y0 y1 y2 y3 y4 y5
   unfold Yk.j0
   exact QM
  ·intro y0 y1 y2 y3 y4 y5
   unfold Yk.l0
   exact QM
theorem Yk.mono : ∀ a0 a1 a2 a3 k, LeO (Yk.f k a0 a1 a2 a3) (Yk.f (k + 1) a0 a1 a2 a3) := by
 intro a0 a1 a2 a3 k
 obtain ⟨ih0, ih1⟩ := Yk.mono_l k
 unfold Yk.f
 exact QM
def Yk.T2 : Bool × List (List Nat × List Nat) := (true, [([], []), ([0], [0]), ([1], [1]), ([2], [2]), ([], []), ([4], [4]), ([5], [5]), ([6], [6]), ([7], [7]), ([3, 8], [3, 8]), ([9], [9]), ([10], [10]), ([11, 10], [10, 11]), ([12, 10], [10, 12]), ([13, 10], [10, 13]), ([10], [10]), ([15, 10], [10, 15]), ([16, 10], [10, 16]), ([17, 10], [10, 17]), ([14, 18, 10], [10, 14, 18]), ([19, 10], [10, 19]), ([10, 20], [10, 20])])
def Yk.B2 : List Nat := [0, 1, 3, 7, 0, 16, 48, 112, 240, 511, 1023, 2047, 4095, 8191, 16383, 2047, 34815, 100351, 231423, 524287, 1048575, 2097151]
theorem Yk.tab2 : Y3x .any (Y3P Tryd.f141 2) = Yk.T2 := by kernel_rfl
theorem Yk.bits2 : Y1Y Yk.T2.2 Yk.B2 = true := by kernel_rfl
def Yk.T8 : Bool × List (List Nat × List Nat) := (true, [([], []), ([0], [0]), ([], []), ([2], [2]), ([3], [3]), ([1, 4, 3], [1, 4]), ([0, 1, 2, 3, 4, 5], []), ([6, 5, 5, 0, 1, 2, 3, 4, 5], [5, 6])])
def Yk.B8 : List Nat := [0, 1, 0, 4, 12, 31, 63, 127]
theorem Yk.tab8 : Y3x .any (Y3P Tryd.f141 8) = Yk.T8 := by kernel_rfl
theorem Yk.bits8 : Y1Y Yk.T8.2 Yk.B8 = true := by kernel_rfl
set_option maxHeartbeats 8000000 in
set_option maxRecDepth 100000 in
theorem Yk.calls (k : Nat) (g : Nat) (s0_0 : ByteArray) (s0_1 : Int) (s0_2 : Int) (s0_3 : Int) (r1 : Int) (r2 : ByteArray) (r3 : List ByteArray) (r4 : List (S37)) (r5 : ByteArray) (r6 : Int) (r7 : Int) (r8 : Int) (w0 w : World) (hI : Yw w0 w g s0_0 s0_1 s0_2 s0_3) (hB : Below w0.heap.size w0 w) (hT : Tabs w0) (h : Yk.f k s0_0 s0_1 s0_2 s0_3 = some (r1, r2, r3, r4, r5, r6, r7, r8)) :
  Calls Tryd.prog 141 #[.pointer (some ⟨g, 0, none⟩)] w fun e w' => ∃ v2_ v3_ : Value, e = .returned (.agg #[.int .i64 r1, .string r2, v2_, v3_]) ∧ Kd.R Kd.string 9 w' w.heap.size (fun _ => True) v2_ r3 ∧ Kd.R k37 37 w' w.heap.size (fun k_ => some k_ ≠ (v2_ : Value).ownBlock) v3_ r4 ∧ Yw w0 w' g r5 r6 r7 r8 ∧ Below w0.heap.size w0 w' ∧ Y1 w w' g none := by
 have HT := Y0.mk hT
 clear hT
 have hu37 := Tryd.underlying37
 have HI0 := Y0.mk hI
 have HK := Y0.mk (Y1.refl w g none)
 have HL := Y0.mk hB.size
 clear hI
 have HW0 := Y0.mk hB.size
 have HB := Y0.mk hB
 clear hB
 have H : (if s0_1 ≥ (s0_0.size : Int) then (Yk.j0 k true s0_0 s0_1 s0_2 s0_3 8) else (if 0 ≤ s0_1 then (if s0_1 < (s0_0.size : Int) then (Yk.j0 k ((bt s0_0 s0_1) != 40) s0_0 s0_1 s0_2 s0_3 8) else (none)) else (none))) = some (r1, r2, r3, r4, r5, r6, r7, r8) := h
 clear h
 have HC2 := Y0.mk H
 clear H
 go_enter Tryd.func141, Tryd.ntmps141
 go_upto_region 2 with (first | ((with_reducible refine YF (N := 2) rfl ?_); refine YD ?hg (N := 2) ?hd (cs := #[.int .i64 0, .string (⟨#[]⟩ : ByteArray), .slice none 0 0, .slice none 0 0]) (t := 37) ?hr ?_; (case hd => rfl); (case hg => rfl); (case hr => exact Zb); intro gb101 hg w3 hbox hb; have n_ := Y4q (Yw.below QI75_0 hb) (Y1.trans QK (Y1.of_below hb g none) (.inl rfl)) (Y8 QB hb) (hbox) ((by rw [hg]; exact (Y7 (w := w) (g := g) (row := none) QK) : w.heap.size ≤ gb101)) ((Nat.le_trans HW0.out (by rw [hg]; exact (Y7 (w := w) (g := g) (row := none) QK) : w.heap.size ≤ gb101) : w0.heap.size ≤ gb101)) ((by rw [hg]; exact Nat.ne_of_lt (Yw.lt (show Yw w0 _ g s0_0 s0_1 s0_2 s0_3 from QI75_0)) : g ≠ gb101)) ((by rw [hg]; exact Nat.ne_of_gt (Yw.lt (show Yw w0 _ g s0_0 s0_1 s0_2 s0_3 from QI75_0)) : gb101 ≠ g)); clear HI0 HK HB; obtain ⟨HI0, HK, HB, BK101, GW101, GE101, NB0_101, NB101_0⟩ := n_; clear hb hbox hg) | ((with_reducible refine YF (N := 3) rfl ?_); refine YD ?hg (N := 3) ?hd (cs := #[.int .i64 0, .string (⟨#[]⟩ : ByteArray), .slice none 0 0, .slice none 0 0]) (t := 37) ?hr ?_; (case hd => rfl); (case hg => rfl); (case hr => exact Zb); intro gb102 hg w4 hbox hb; have n0_ := Y0.mk (Yw.below QI75_0 hb); have n1_ := Y0.mk (Yt (g := gb101) (o := .cells #[.int .i64 0, .string (⟨#[]⟩ : ByteArray), .slice none 0 0, .slice none 0 0] 37 (0, 0)) QQ hb); have n2_ := Y0.mk (Y1.trans QK (Y1.of_below hb g none) (.inl rfl)); have n3_ := Y0.mk (Y8 QB hb); have n4_ := Y0.mk (hbox); have n5_ := Y0.mk ((by rw [hg]; exact (Y7 (w := w) (g := g) (row := none) QK) : w.heap.size ≤ gb102)); have n6_ := Y0.mk ((Nat.le_trans HW0.out (by rw [hg]; exact (Y7 (w := w) (g := g) (row := none) QK) : w.heap.size ≤ gb102) : w0.heap.size ≤ gb102)); have n7_ := Y0.mk ((by rw [hg]; exact Nat.ne_of_lt (Y14 (g := gb101) (o := .cells #[.int .i64 0, .string (⟨#[]⟩ : ByteArray), .slice none 0 0, .slice none 0 0] 37 (0, 0)) QQ) : gb101 ≠ gb102)); have n8_ := Y0.mk ((by rw [hg]; exact Nat.ne_of_gt (Y14 (g := gb101) (o := .cells #[.int .i64 0, .string (⟨#[]⟩ : ByteArray), .slice none 0 0, .slice none 0 0] 37 (0, 0)) QQ) : gb102 ≠ gb101)); have n9_ := Y0.mk ((by rw [hg]; exact Nat.ne_of_lt (Yw.lt (show Yw w0 _ g s0_0 s0_1 s0_2 s0_3 from QI75_0)) : g ≠ gb102)); have n10_ := Y0.mk ((by rw [hg]; exact Nat.ne_of_gt (Yw.lt (show Yw w0 _ g s0_0 s0_1 s0_2 s0_3 from QI75_0)) : gb102 ≠ g)); clear HI0 BK101 HK HB; have HI0 := n0_; have BK101 := n1_; have HK := n2_; have HB := n3_; have BK102 := n4_; have GW102 := n5_; have GE102 := n6_; have NB101_102 := n7_; have NB102_101 := n8_; have NB0_102 := n9_; have NB102_0 := n10_; clear n0_ n1_ n2_ n3_ n4_ n5_ n6_ n7_ n8_ n9_ n10_ hb hbox hg; have hnb5 := NB102_101.out; have hnc5 := NB101_102.out; have hnb6 := NB102_0.out; have hnc6 := NB0_102.out; obtain ⟨hcz7_0, hcz7_1, hcz7_2, hcz7_3, hfz7_0, hfz7_1, hfz7_2, hfz7_3⟩ := YA BK102.out))
 (try simp only [Act.put, List.setIfInBounds_toArray, List.set_cons_zero, List.set_cons_succ])
 go_cut [26] (fun v26 wc => ∃ (kq : Nat) (x26_1 : Bool), v26 = .bool x26_1 ∧ Y0 (Yk.j0 kq x26_1 s0_0 s0_1 s0_2 s0_3 8 = some (r1, r2, r3, r4, r5, r6, r7, r8)) ∧ Y0 (kq ≤ k) ∧ Y0 (wc.heap[gb101]? = some (.cells #[.int .i64 0, .string (⟨#[]⟩ : ByteArray), (.slice none 0 0), (.slice none 0 0)] 37 (0, 0))) ∧ Y0 (wc.heap[gb102]? = some (.cells #[.int .i64 8, .string (⟨#[]⟩ : ByteArray), (.slice none 0 0), (.slice none 0 0)] 37 (0, 0))) ∧ Y0 (Yw w0 wc g s0_0 s0_1 s0_2 s0_3) ∧ Y0 (Y1 w wc g none) ∧ Y0 (Below w0.heap.size w0 wc))
 case first =>
  have H := HC2.out
  clear HC2
  by_cases c8 : s0_1 ≥ (s0_0.size : Int)
  ·rw [if_pos c8] at H
   have c8b0 : decide ((s0_0.size : Int) ≤ s0_1) = true := decide_eq_true c8
   clear c8
   (first | rw [c8b0] | (simp only [Y16, Y17]; rw [c8b0]) | skip)
   have H' := Y0.mk H
   clear H
   try go_wp2
   have n0_ : Y0 (((((w4.setCell ⟨gb102, 0, none⟩ (.int .i64 8)).setCell ⟨gb102, 1, none⟩ (.string (⟨#[]⟩ : ByteArray))).setCell ⟨gb102, 2, none⟩ (.slice none 0 0)).setCell ⟨gb102, 3, none⟩ (.slice none 0 0)).heap[gb101]? = some (.cells #[.int .i64 0, .string (⟨#[]⟩ : ByteArray), .slice none 0 0, .slice none 0 0] 37 (0, 0))) := ⟨Zg⟩
   have n1_ : Y0 (((((w4.setCell ⟨gb102, 0, none⟩ (.int .i64 8)).setCell ⟨gb102, 1, none⟩ (.string (⟨#[]⟩ : ByteArray))).setCell ⟨gb102, 2, none⟩ (.slice none 0 0)).setCell ⟨gb102, 3, none⟩ (.slice none 0 0)).heap[gb102]? = some (.cells #[.int .i64 8, .string (⟨#[]⟩ : ByteArray), .slice none 0 0, .slice none 0 0] 37 (0, 0))) := ⟨Z2B⟩
   have n2_ : Y0 (Yw w0 ((((w4.setCell ⟨gb102, 0, none⟩ (.int .i64 8)).setCell ⟨gb102, 1, none⟩ (.string (⟨#[]⟩ : ByteArray))).setCell ⟨gb102, 2, none⟩ (.slice none 0 0)).setCell ⟨gb102, 3, none⟩ (.slice none 0 0)) g s0_0 s0_1 s0_2 s0_3) := ⟨QI75_0⟩
   have n3_ : Y0 (Y1 w ((((w4.setCell ⟨gb102, 0, none⟩ (.int .i64 8)).setCell ⟨gb102, 1, none⟩ (.string (⟨#[]⟩ : ByteArray))).setCell ⟨gb102, 2, none⟩ (.slice none 0 0)).setCell ⟨gb102, 3, none⟩ (.slice none 0 0)) g none) := ⟨QK⟩
   have n4_ : Y0 (Below w0.heap.size w0 ((((w4.setCell ⟨gb102, 0, none⟩ (.int .i64 8)).setCell ⟨gb102, 1, none⟩ (.string (⟨#[]⟩ : ByteArray))).setCell ⟨gb102, 2, none⟩ (.slice none 0 0)).setCell ⟨gb102, 3, none⟩ (.slice none 0 0))) := ⟨QB⟩
   (try clear BK101)
   (try clear BK102)
   (try clear HI0)
   (try clear HK)
   (try clear HB)
   generalize ((((w4.setCell ⟨gb102, 0, none⟩ (.int .i64 8)).setCell ⟨gb102, 1, none⟩ (.string (⟨#[]⟩ : ByteArray))).setCell ⟨gb102, 2, none⟩ (.slice none 0 0)).setCell ⟨gb102, 3, none⟩ (.slice none 0 0)) = w9 at n0_ n1_ n2_ n3_ n4_ ⊢
   have BK101 := n0_
   have BK102 := n1_
   have HI0 := n2_
   have HK := n3_
   have HB := n4_
   clear n0_ n1_ n2_ n3_ n4_
   have n_ := Y4L (Yb BK101.out) (Yb BK102.out) (Yw.drew HI0.out) (Y1G HK.out) (YP HB.out)
   clear BK101
   clear BK102
   clear HI0
   clear HK
   clear HB
   obtain ⟨BK101, BK102, HI0, HK, HB⟩ := n_
   refine Y1m (n := 22) (S := fun w' => w'.cell? ⟨g, 0, none⟩ = some (.string s0_0) ∧ w'.cell? ⟨g, 1, none⟩ = some (.int .i64 s0_1) ∧ w'.cell? ⟨g, 2, none⟩ = some (.int .i64 s0_2) ∧ w'.cell? ⟨g, 3, none⟩ = some (.int .i64 s0_3)) (ds := []) Y4x Z4 rfl rfl ⟨YX HI0.out.1, YY HI0.out.1, YZ HI0.out.1, Y10 HI0.out.1⟩ (fun hHeld => ?_); refine Y11 Yk.tab2 Yk.bits2 (fun HT_ HW_ => ?_)
   generalize w9.drew = w10 at BK101 BK102 HI0 HK HB hHeld ⊢
   refine pY 0 5 Y4y ?_
   refine pY 1 6 Y4z ?_
   refine pY 2 7 Y4A ?_
   refine pY 4 9 Y5o ?_
   refine pY 5 10 Y5p ?_
   refine pY 6 11 Y5q ?_
   refine pT 3 8 Y3I ?_
   refine pT 7 12 Y3J ?_
   refine pY 8 13 Y3b ?_
   refine pY 9 14 Y3c ?_
   refine pY 10 15 Y3d ?_
   refine pU 11 16 Y3V ?_
   refine pU 12 17 Y3q ?_
   refine pU 13 18 Y3r ?_
   refine pU 14 19 Y4B ?_
   refine pU 15 20 Y4C ?_
   refine pU 16 21 Y48 ?_
   refine pU 17 22 Y2A ?_
   refine pU 18 23 Y2B ?_
   refine pU 19 24 Y2C ?_
   refine pU 20 25 Y2o ?_
   refine pY 21 26 Y2p ?_
   refine Y1S (Y1a HT_.out Z4) ?_
   try go_wp2
   go_meet
   case rel => exact ⟨_, (true), Z8, H', ⟨Zr⟩, ⟨Z6⟩, ⟨Z1e⟩, ⟨QI75_0⟩, ⟨QK⟩, ⟨QB⟩⟩
  ·rw [if_neg c8] at H
   have c8b0 : decide ((s0_0.size : Int) ≤ s0_1) = false := decide_eq_false c8
   clear c8
   (first | rw [c8b0] | (simp only [Y16, Y17]; rw [c8b0]) | skip)
   by_cases c11 : 0 ≤ s0_1
   ·rw [if_pos c11] at H
    have c11b0 : decide (0 ≤ s0_1) = true := decide_eq_true c11
    clear c11
    by_cases c12 : s0_1 < (s0_0.size : Int)
    ·rw [if_pos c12] at H
     have c12b0 : decide (s0_1 < (s0_0.size : Int)) = true := decide_eq_true c12
     clear c12
     have H' := Y0.mk H
     clear H
     try go_wp2
     have n0_ : Y0 (((((w4.setCell ⟨gb102, 0, none⟩ (.int .i64 8)).setCell ⟨gb102, 1, none⟩ (.string (⟨#[]⟩ : ByteArray))).setCell ⟨gb102, 2, none⟩ (.slice none 0 0)).setCell ⟨gb102, 3, none⟩ (.slice none 0 0)).heap[gb101]? = some (.cells #[.int .i64 0, .string (⟨#[]⟩ : ByteArray), .slice none 0 0, .slice none 0 0] 37 (0, 0))) := ⟨Zg⟩
     have n1_ : Y0 (((((w4.setCell ⟨gb102, 0, none⟩ (.int .i64 8)).setCell ⟨gb102, 1, none⟩ (.string (⟨#[]⟩ : ByteArray))).setCell ⟨gb102, 2, none⟩ (.slice none 0 0)).setCell ⟨gb102, 3, none⟩ (.slice none 0 0)).heap[gb102]? = some (.cells #[.int .i64 8, .string (⟨#[]⟩ : ByteArray), .slice none 0 0, .slice none 0 0] 37 (0, 0))) := ⟨Z2B⟩
     have n2_ : Y0 (Yw w0 ((((w4.setCell ⟨gb102, 0, none⟩ (.int .i64 8)).setCell ⟨gb102, 1, none⟩ (.string (⟨#[]⟩ : ByteArray))).setCell ⟨gb102, 2, none⟩ (.slice none 0 0)).setCell ⟨gb102, 3, none⟩ (.slice none 0 0)) g s0_0 s0_1 s0_2 s0_3) := ⟨QI75_0⟩
     have n3_ : Y0 (Y1 w ((((w4.setCell ⟨gb102, 0, none⟩ (.int .i64 8)).setCell ⟨gb102, 1, none⟩ (.string (⟨#[]⟩ : ByteArray))).setCell ⟨gb102, 2, none⟩ (.slice none 0 0)).setCell ⟨gb102, 3, none⟩ (.slice none 0 0)) g none) := ⟨QK⟩
     have n4_ : Y0 (Below w0.heap.size w0 ((((w4.setCell ⟨gb102, 0, none⟩ (.int .i64 8)).setCell ⟨gb102, 1, none⟩ (.string (⟨#[]⟩ : ByteArray))).setCell ⟨gb102, 2, none⟩ (.slice none 0 0)).setCell ⟨gb102, 3, none⟩ (.slice none 0 0))) := ⟨QB⟩
     (try clear BK101)
     (try clear BK102)
     (try clear HI0)
     (try clear HK)
     (try clear HB)
     generalize ((((w4.setCell ⟨gb102, 0, none⟩ (.int .i64 8)).setCell ⟨gb102, 1, none⟩ (.string (⟨#[]⟩ : ByteArray))).setCell ⟨gb102, 2, none⟩ (.slice none 0 0)).setCell ⟨gb102, 3, none⟩ (.slice none 0 0)) = w14 at n0_ n1_ n2_ n3_ n4_ ⊢
     have BK101 := n0_
     have BK102 := n1_
     have HI0 := n2_
     have HK := n3_
     have HB := n4_
     clear n0_ n1_ n2_ n3_ n4_
     have n_ := Y4L (Yb BK101.out) (Yb BK102.out) (Yw.drew HI0.out) (Y1G HK.out) (YP HB.out)
     clear BK101
     clear BK102
     clear HI0
     clear HK
     clear HB
     obtain ⟨BK101, BK102, HI0, HK, HB⟩ := n_
     have p13 : 0 ≤ (s0_1 : Int) := of_decide_eq_true Za
     have q13 : s0_1 < (s0_0.size : Int) := of_decide_eq_true Za
     have hx13 := Y47 s0_0 s0_1
     replace p13 := eq_true p13
     replace q13 := eq_true q13
     refine Y1m (n := 22) (S := fun w' => w'.cell? ⟨g, 0, none⟩ = some (.string s0_0) ∧ w'.cell? ⟨g, 1, none⟩ = some (.int .i64 s0_1) ∧ w'.cell? ⟨g, 2, none⟩ = some (.int .i64 s0_2) ∧ w'.cell? ⟨g, 3, none⟩ = some (.int .i64 s0_3)) (ds := []) Y4x Z4 rfl rfl ⟨YX HI0.out.1, YY HI0.out.1, YZ HI0.out.1, Y10 HI0.out.1⟩ (fun hHeld => ?_); refine Y11 Yk.tab2 Yk.bits2 (fun HT_ HW_ => ?_)
     generalize w14.drew = w15 at BK101 BK102 HI0 HK HB hHeld ⊢
     refine pY 0 5 Y4y ?_
     refine pY 1 6 Y4z ?_
     refine pY 2 7 Y4A ?_
     refine pY 4 9 Y5o ?_
     refine pY 5 10 Y5p ?_
     refine pY 6 11 Y5q ?_
     refine pT 3 8 Y3I ?_
     refine pT 7 12 Y3J ?_
     refine pY 8 13 Y3b ?_
     refine pY 9 14 Y3c ?_
     refine pY 10 15 Y3d ?_
     refine pY 11 16 Y3V ?_
     refine pY 12 17 Y3q ?_
     refine pY 13 18 Y3r ?_
     refine pY 15 20 Y5N ?_
     refine pY 16 21 Y53 ?_
     refine pY 17 22 Y57 ?_
     refine pT 14 19 Y2A ?_
     refine pT 18 23 Y2B ?_
     refine pT 19 24 Y2C ?_
     refine pY 20 25 Y2o ?_
     refine pY 21 26 Y2p ?_
     refine Y1S (Y1a HT_.out Z4) ?_
     try go_wp2
     go_meet
     case rel => exact ⟨_, (((bt s0_0 s0_1) != 40)), Z8, H', ⟨Zr⟩, ⟨Z6⟩, ⟨Z1e⟩, ⟨QI75_0⟩, ⟨QK⟩, ⟨QB⟩⟩
    ·rw [if_neg c12] at H
     exact Zn
   ·rw [if_neg c11] at H
    exact Zn
 case rest =>
  clear HC2
  try clear c1
  try clear p1
  try clear q1
  try clear hx1
  try clear p2
  try clear c5
  try clear c6
  try clear c8
  try clear c8b0
  try clear c11
  try clear c11b0
  try clear c12
  try clear c12b0
  try clear p13
  try clear q13
  try clear hx13
  try clear c14
  try clear hcz7_0 hcz7_1 hcz7_2 hcz7_3 hfz7_0 hfz7_1 hfz7_2 hfz7_3
  try clear p13
  try clear q13
  obtain ⟨kq, x26_1, rfl, HA, HJ1, BK101, BK102, HI0, HK, HB⟩ := hcut
  cases kq with
  | zero => exact absurd HA.out (by simp [Yk.j0])
  | succ kj1 =>
   have H := HA.out
   clear HA
   simp only [Yk.j0] at H
   by_cases c16 : x26_1 = true
   ·subst c16
    have H1 : ((YR.f kj1 s0_0 s0_1 s0_2 s0_3).bind fun bt103 => (some (8, (⟨#[]⟩ : ByteArray), (([bt103.1] : List ByteArray)), ([] : List (S37)), bt103.2.1, bt103.2.2.1, bt103.2.2.2.1, bt103.2.2.2.2))) = some (r1, r2, r3, r4, r5, r6, r7, r8) := by rw [if_pos rfl] at H; exact H
    clear H
    have H := H1
    clear H1
    replace H := Option.bind_eq_some_iff.mp H
    obtain ⟨⟨t103, t104, t105, t106, t107⟩, A170, H⟩ := H
    replace H : (some (8, (⟨#[]⟩ : ByteArray), (([t103] : List ByteArray)), ([] : List (S37)), t104, t105, t106, t107)) = some (r1, r2, r3, r4, r5, r6, r7, r8) := H
    have A17 := Y0.mk A170
    clear A170
    obtain ⟨y108, hy108⟩ : ∃ y_ : List ByteArray, y_ = (([t103] : List ByteArray)) := ⟨_, rfl⟩
    replace H : (some (8, (⟨#[]⟩ : ByteArray), y108, ([] : List (S37)), t104, t105, t106, t107)) = some (r1, r2, r3, r4, r5, r6, r7, r8) := by first | (rw [hy108]; with_reducible exact H) | (have H2_ := (Option.bind_some _ _).symm.trans H; rw [hy108]; with_reducible exact H2_) | (have H2_ := (Option.bind_some _ _).symm.trans H; with_reducible exact H2_) | with_reducible exact H | (rw [hy108]; exact H) | exact H
    have Ny108 := Y0.mk hy108
    clear hy108
    simp only [Option.some.injEq, Prod.mk.injEq] at H
    obtain ⟨rfl, rfl, rfl, rfl, rfl, rfl, rfl, rfl⟩ := H
    go_wp2_with (first | ((with_reducible refine Yl (f := 140) rfl ?_); refine YO (some 28) rfl rfl Tryd.func140 Z4 rfl #[.pointer (some ⟨g, 0, none⟩)] rfl Z0 ?_; (with_reducible refine (YR.calls kj1 g s0_0 s0_1 s0_2 s0_3 t103 t104 t105 t106 t107 w0 _ ?side1 ?side2 ?side3 A17.out).mono ?_); (case side1 => exact Z1k); (case side2 => exact QB); (case side3 => exact Z22); rintro e w18 ⟨rfl, hi, hb, hk⟩; refine ⟨_, rfl, ?_⟩; have n_ := Y4L (Y1.blk hk (g' := gb101) (o := .cells #[.int .i64 0, .string (⟨#[]⟩ : ByteArray), .slice none 0 0, .slice none 0 0] 37 (0, 0)) QQ NB101_0.out (by simp)) (Y1.blk hk (g' := gb102) (o := .cells #[.int .i64 8, .string (⟨#[]⟩ : ByteArray), .slice none 0 0, .slice none 0 0] 37 (0, 0)) QQ NB102_0.out (by simp)) (Y1.trans QK hk (.inl rfl)) (hb) (hi); clear BK101 BK102 HK HB HI0; obtain ⟨BK101, BK102, HK, HB, HI0⟩ := n_; (try clear hb); (try clear hb2); (try clear hk); (try clear hi)) | ((with_reducible refine YF (N := 29) rfl ?_); refine Kd.R_lit Kd.string _ 9 ?hg (N := 29) ?hd (xs := ([t103] : List ByteArray)) (inner := [.string t103]) (ok := fun _ => True) (okp := fun _ => True) ?hr ?hp (fun _ hk => hk) trivial (Below.refl _ _) (Nat.le_refl _) (by simp) ?_; (case hd => rfl); (case hg => rfl); (case hr => exact Zb); (case hp => exact Z28); intro v109 w19 ho20 hb hg_ hnew_; clear hg_ hnew_; (first | rw [← Ny108.out] at ho20 | (simp only [Int.reduceToNat] at ho20; rw [← Ny108.out] at ho20)); have n_ := Y3t (Kd.R_lower ho20 (Y7 (w := w) (g := g) (row := none) QK)) (Yt (g := gb101) (o := .cells #[.int .i64 0, .string (⟨#[]⟩ : ByteArray), .slice none 0 0, .slice none 0 0] 37 (0, 0)) QQ hb) (Yt (g := gb102) (o := .cells #[.int .i64 8, .string (⟨#[]⟩ : ByteArray), .slice none 0 0, .slice none 0 0] 37 (0, 0)) QQ hb) (Yw.below QI75_0 hb) (Y1.trans QK (Y1.of_below hb g none) (.inl rfl)) (Y8 QB hb); clear BK101 BK102 HI0 HK HB; obtain ⟨HO110, BK101, BK102, HI0, HK, HB⟩ := n_; clear hb ho20; obtain ⟨Ao21, co21, eo21⟩ := Kd.R_slice HO110.out; subst eo21; have hnb22 := NB102_101.out; have hnc22 := NB101_102.out; have hnb23 := NB102_0.out; have hnc23 := NB0_102.out; obtain ⟨hcz24_0, hcz24_1, hcz24_2, hcz24_3, hfz24_0, hfz24_1, hfz24_2, hfz24_3⟩ := YA BK102.out; have hnb25 := NB101_0.out; have hnc25 := NB0_101.out; obtain ⟨hcz26_0, hcz26_1, hcz26_2, hcz26_3, hfz26_0, hfz26_1, hfz26_2, hfz26_3⟩ := YA BK101.out))
    refine bodyPost_ret (results_cell_row rfl _ _ gb101 37 #[.int .i64 8, .string (⟨#[]⟩ : ByteArray), .slice Ao21 y108.length co21, .slice none 0 0] (0, 0) _ rfl (by (with_reducible repeat (first | refine Yh ?_ _ | refine Yb ?_ | refine Yd ?_ _)); exact YE (cs := #[.int .i64 8, .string (⟨#[]⟩ : ByteArray), .slice Ao21 y108.length co21, .slice none 0 0]) ZD 3 _ rfl) Tryd.underlying37 rfl Z4) rfl ?_
    exact ⟨_, _, Z2, by (with_reducible repeat (first | apply Kd.R_alloc | apply Kd.R_drewN | apply Kd.R_drew)); exact Kd.R_mono (Kd.R_far (p := ⟨gb101, 3, none⟩) (Kd.R_far (p := ⟨gb101, 2, none⟩) (Kd.R_far (p := ⟨gb101, 1, none⟩) (Kd.R_far (p := ⟨gb101, 0, none⟩) (Kd.R_far (p := ⟨gb102, 2, none⟩) (Kd.R_types (Kd.R_types HO110.out BK102.out (by decide)) BK101.out (by decide)) (fun _ hk => hk.1.2) (.slice Ao21 y108.length co21)) (fun _ hk => hk.2) (.int .i64 8)) (fun _ hk => hk.2) (.string (⟨#[]⟩ : ByteArray))) (fun _ hk => hk.2) (.slice Ao21 y108.length co21)) (fun _ hk => hk.2) (.slice none 0 0)) (fun _ hk => trivial), Z5, QI75_0, QB, QK⟩
   ·replace c16 := Bool.eq_false_iff.mpr c16
    subst c16
    have H1 : ((YR.f kj1 s0_0 (wrap64 (s0_1 + 1)) s0_2 s0_3).bind fun bt111 => (Yk.l0 kj1 bt111.2.1 bt111.2.2.1 bt111.2.2.2.1 bt111.2.2.2.2 8 (([bt111.1] : List ByteArray)))) = some (r1, r2, r3, r4, r5, r6, r7, r8) := by rw [if_neg (show ¬ (false = true) by decide)] at H; exact H
    clear H
    have H := H1
    clear H1
    replace H := Option.bind_eq_some_iff.mp H
    obtain ⟨⟨t111, t112, t113, t114, t115⟩, A270, H⟩ := H
    replace H : (Yk.l0 kj1 t112 t113 t114 t115 8 (([t111] : List ByteArray))) = some (r1, r2, r3, r4, r5, r6, r7, r8) := H
    have A27 := Y0.mk A270
    clear A270
    obtain ⟨y116, hy116⟩ : ∃ y_ : List ByteArray, y_ = (([t111] : List ByteArray)) := ⟨_, rfl⟩
    replace H : (Yk.l0 kj1 t112 t113 t114 t115 8 y116) = some (r1, r2, r3, r4, r5, r6, r7, r8) := by first | (rw [hy116]; with_reducible exact H) | (have H2_ := (Option.bind_some _ _).symm.trans H; rw [hy116]; with_reducible exact H2_) | (have H2_ := (Option.bind_some _ _).symm.trans H; with_reducible exact H2_) | with_reducible exact H | (rw [hy116]; exact H) | exact H
    have Ny116 := Y0.mk hy116
    clear hy116
    have H' := Y0.mk H
    clear H
    obtain ⟨hcz28_0, hcz28_1, hcz28_2, hcz28_3, hfz28_0, hfz28_1, hfz28_2, hfz28_3⟩ := YA HI0.out.1
    go_wp2_with (first | ((with_reducible refine Yl (f := 140) rfl ?_); refine YO (some 40) rfl rfl Tryd.func140 Z4 rfl #[.pointer (some ⟨g, 0, none⟩)] rfl Z0 ?_; (with_reducible refine (YR.calls kj1 g s0_0 (wrap64 (s0_1 + 1)) s0_2 s0_3 t111 t112 t113 t114 t115 w0 _ ?side1 ?side2 ?side3 A27.out).mono ?_); (case side1 => exact Z1k); (case side2 => exact QB); (case side3 => exact Z22); rintro e w29 ⟨rfl, hi, hb, hk⟩; refine ⟨_, rfl, ?_⟩; have n_ := Y4L (Y1.blk hk (g' := gb101) (o := .cells #[.int .i64 0, .string (⟨#[]⟩ : ByteArray), .slice none 0 0, .slice none 0 0] 37 (0, 0)) Z2q NB101_0.out (by simp)) (Y1.blk hk (g' := gb102) (o := .cells #[.int .i64 8, .string (⟨#[]⟩ : ByteArray), .slice none 0 0, .slice none 0 0] 37 (0, 0)) Z1N NB102_0.out (by simp)) (Y1.trans QK hk (.inl rfl)) (hb) (hi); clear BK101 BK102 HK HB HI0; obtain ⟨BK101, BK102, HK, HB, HI0⟩ := n_; (try clear hb); (try clear hb2); (try clear hk); (try clear hi)) | ((with_reducible refine YF (N := 41) rfl ?_); refine Kd.R_lit Kd.string _ 9 ?hg (N := 41) ?hd (xs := ([t111] : List ByteArray)) (inner := [.string t111]) (ok := fun _ => True) (okp := fun _ => True) ?hr ?hp (fun _ hk => hk) trivial (Below.refl _ _) (Nat.le_refl _) (by simp) ?_; (case hd => rfl); (case hg => rfl); (case hr => exact Zb); (case hp => exact (Y1F.one (show Kd.M Kd.string _ _ _ t111 [.string t111] from rfl) (Y1F.none _ _))); intro v117 w30 ho31 hb hg_ hnew_; clear hg_ hnew_; (first | rw [← Ny116.out] at ho31 | (simp only [Int.reduceToNat] at ho31; rw [← Ny116.out] at ho31)); have n_ := Y3t (Kd.R_lower ho31 (Y7 (w := w) (g := g) (row := none) QK)) (Yt (g := gb101) (o := .cells #[.int .i64 0, .string (⟨#[]⟩ : ByteArray), .slice none 0 0, .slice none 0 0] 37 (0, 0)) QQ hb) (Yt (g := gb102) (o := .cells #[.int .i64 8, .string (⟨#[]⟩ : ByteArray), .slice none 0 0, .slice none 0 0] 37 (0, 0)) QQ hb) (Yw.below QI75_0 hb) (Y1.trans QK (Y1.of_below hb g none) (.inl rfl)) (Y8 QB hb); clear BK101 BK102 HI0 HK HB; obtain ⟨HO118, BK101, BK102, HI0, HK, HB⟩ := n_; clear hb ho31; obtain ⟨Ao32, co32, eo32⟩ := Kd.R_slice HO118.out; subst eo32; have hnb33 := NB102_101.out; have hnc33 := NB101_102.out; have hnb34 := NB102_0.out; have hnc34 := NB0_102.out; obtain ⟨hcz35_0, hcz35_1, hcz35_2, hcz35_3, hfz35_0, hfz35_1, hfz35_2, hfz35_3⟩ := YA BK102.out))
    go_loopg [] kj1 (fun kq w' => ∃ (x1000_2 : ByteArray) (x1001_2 : Int) (x1002_2 : Int) (x1003_2 : Int) (x103002_2 : List ByteArray) (u103002 : Value), Y0 (Yk.l0 kq x1000_2 x1001_2 x1002_2 x1003_2 8 x103002_2 = some (r1, r2, r3, r4, r5, r6, r7, r8)) ∧ Y0 (kq ≤ kj1) ∧ Y0 (Kd.R Kd.string 9 w' w.heap.size (fun _ => True) u103002 x103002_2) ∧ Y0 (w'.heap[gb101]? = some (.cells #[.int .i64 0, .string (⟨#[]⟩ : ByteArray), (.slice none 0 0), (.slice none 0 0)] 37 (0, 0))) ∧ Y0 (w'.heap[gb102]? = some (.cells #[.int .i64 8, .string (⟨#[]⟩ : ByteArray), u103002, (.slice none 0 0)] 37 (0, 0))) ∧ Y0 (Yw w0 w' g x1000_2 x1001_2 x1002_2 x1003_2) ∧ Y0 (Y1 w w' g none) ∧ Y0 (Below w0.heap.size w0 w'))
    case atStart => exact ⟨(t112), (t113), (t114), (t115), (y116), (.slice Ao32 y116.length co32), H', ⟨Nat.le_refl _⟩, ⟨by (with_reducible repeat (first | apply Kd.R_alloc | apply Kd.R_drewN | apply Kd.R_drew)); exact Kd.R_mono (Kd.R_far (p := ⟨gb102, 2, none⟩) (Kd.R_types HO118.out BK102.out (by decide)) (fun _ hk => hk.2) (.slice Ao32 y116.length co32)) (fun _ hk => trivial)⟩, ⟨Z2g⟩, ⟨Z1p⟩, ⟨QI75_0⟩, ⟨QK⟩, ⟨QB⟩⟩
    case round =>
     clear H'
     try clear c1
     try clear p1
     try clear q1
     try clear hx1
     try clear c2
     try clear p2
     try clear c3
     try clear c5
     try clear c6
     try clear p6
     try clear c8
     try clear c8b0
     try clear c11
     try clear c11b0
     try clear c12
     try clear c12b0
     try clear p13
     try clear q13
     try clear hx13
     try clear c14
     try clear c16
     try clear c22
     try clear c23
     try clear c25
     try clear c33
     try clear c34
     try clear hcz24_0 hcz24_1 hcz24_2 hcz24_3
     try clear hcz26_0 hcz26_1 hcz26_2 hcz26_3
     try clear hcz28_0 hcz28_1 hcz28_2 hcz28_3
     try clear hcz35_0 hcz35_1 hcz35_2 hcz35_3
     try clear hcz7_0 hcz7_1 hcz7_2 hcz7_3
     try clear hfz24_0
     try clear hfz24_1
     try clear hfz24_2
     try clear hfz24_3
     try clear hfz26_0
     try clear hfz26_1
     try clear hfz26_2
     try clear hfz26_3
     try clear hfz28_0
     try clear hfz28_1
     try clear hfz28_2
     try clear hfz28_3
     try clear hfz35_0
     try clear hfz35_1
     try clear hfz35_2
     try clear hfz35_3
     try clear hfz7_0
     try clear hfz7_1
     try clear hfz7_2
     try clear hfz7_3
     try clear p1
     try clear p13
     try clear p2
     try clear q1
     try clear q13
     obtain ⟨x1000_2, x1001_2, x1002_2, x1003_2, x103002_2, u103002, HA, HK2, HO_103002, BK101, BK102, HI0, HK, HB⟩ := hrel
     cases gk with
     | zero => exact absurd HA.out (by simp [Yk.l0])
     | succ k2 =>
      have H := HA.out
      clear HA
      simp only [Yk.l0] at H
      replace H := Option.bind_eq_some_iff.mp H
      obtain ⟨⟨t119, t120, t121, t122, t123⟩, A360, H⟩ := H
      replace H : (if t119 = true then ((YR.f k2 t120 t121 t122 t123).bind fun bt124 => (if x103002_2.length < 8796093022208 then (Yk.l0 k2 bt124.2.1 bt124.2.2.1 bt124.2.2.2.1 bt124.2.2.2.2 8 (x103002_2 ++ [bt124.1])) else (none))) else ((YT.f k2 t120 t121 t122 t123 41).bind fun bt132 => (some (8, (⟨#[]⟩ : ByteArray), x103002_2, ([] : List (S37)), bt132.1, bt132.2.1, bt132.2.2.1, bt132.2.2.2)))) = some (r1, r2, r3, r4, r5, r6, r7, r8) := H
      have A36 := Y0.mk A360
      clear A360
      by_cases c37 : t119 = true
      ·subst c37
       have H1 : ((YR.f k2 t120 t121 t122 t123).bind fun bt124 => (if x103002_2.length < 8796093022208 then (Yk.l0 k2 bt124.2.1 bt124.2.2.1 bt124.2.2.2.1 bt124.2.2.2.2 8 (x103002_2 ++ [bt124.1])) else (none))) = some (r1, r2, r3, r4, r5, r6, r7, r8) := by rw [if_pos rfl] at H; exact H
       clear H
       have H := H1
       clear H1
       replace H := Option.bind_eq_some_iff.mp H
       obtain ⟨⟨t124, t125, t126, t127, t128⟩, A380, H⟩ := H
       replace H : (if x103002_2.length < 8796093022208 then (Yk.l0 k2 t125 t126 t127 t128 8 (x103002_2 ++ [t124])) else (none)) = some (r1, r2, r3, r4, r5, r6, r7, r8) := H
       have A38 := Y0.mk A380
       clear A380
       by_cases c39 : x103002_2.length < 8796093022208
       ·rw [if_pos c39] at H
        have LMc39 := Y0.mk c39
        clear c39
        obtain ⟨y129, hy129⟩ : ∃ y_ : List ByteArray, y_ = (x103002_2 ++ [t124]) := ⟨_, rfl⟩
        replace H : (Yk.l0 k2 t125 t126 t127 t128 8 y129) = some (r1, r2, r3, r4, r5, r6, r7, r8) := by first | (rw [hy129]; with_reducible exact H) | (have H2_ := (Option.bind_some _ _).symm.trans H; rw [hy129]; with_reducible exact H2_) | (have H2_ := (Option.bind_some _ _).symm.trans H; with_reducible exact H2_) | with_reducible exact H | (rw [hy129]; exact H) | exact H
        have Ny129 := Y0.mk hy129
        clear hy129
        have H' := Y0.mk H
        clear H
        try go_wp2_with (first | ((with_reducible refine Yl (f := 95) rfl ?_); refine YO (some 44) rfl rfl Tryd.func95 Z4 rfl #[.pointer (some ⟨g, 0, none⟩), .int .u8 124] rfl Z0 ?_; (with_reducible refine (YS.calls k2 g x1000_2 x1001_2 x1002_2 x1003_2 124 true t120 t121 t122 t123 w0 _ ?side1 ?side2 A36.out).mono ?_); (case side1 => exact Z1k); (case side2 => exact QB); rintro e w40 ⟨rfl, hi, hb, hk⟩; refine ⟨_, rfl, ?_⟩; have n_ := Y3t (Kd.R_mono (Kd.R_keep (Yw.apart (show Yw w0 _ g x1000_2 x1001_2 x1002_2 x1003_2 from QI75_0) Zj (by decide)) hk (fun _ h => h.2)) (fun _ h => h.1)) (Y1.blk hk (g' := gb101) (o := .cells #[.int .i64 0, .string (⟨#[]⟩ : ByteArray), .slice none 0 0, .slice none 0 0] 37 (0, 0)) QQ NB101_0.out (by simp)) (Y1.blk hk (g' := gb102) (o := .cells #[.int .i64 8, .string (⟨#[]⟩ : ByteArray), u103002, .slice none 0 0] 37 (0, 0)) QQ NB102_0.out (by simp)) (Y1.trans QK hk (.inl rfl)) (hb) (hi); clear HO_103002 BK101 BK102 HK HB HI0; obtain ⟨HO_103002, BK101, BK102, HK, HB, HI0⟩ := n_; (try clear hb); (try clear hb2); (try clear hk); (try clear hi)))
        have n_ := Y3t (Kd.R_drew HO_103002.out) (Yb BK101.out) (Yb BK102.out) (Yw.drew HI0.out) (Y1G HK.out) (YP HB.out)
        clear HO_103002
        clear BK101
        clear BK102
        clear HI0
        clear HK
        clear HB
        obtain ⟨HO_103002, BK101, BK102, HI0, HK, HB⟩ := n_
        refine Y1m (n := 8) (S := fun w' => w'.cell? ⟨gb102, 0, none⟩ = some (.int .i64 8) ∧ w'.cell? ⟨gb102, 1, none⟩ = some (.string (⟨#[]⟩ : ByteArray)) ∧ w'.cell? ⟨gb102, 2, none⟩ = some (u103002) ∧ w'.cell? ⟨gb102, 3, none⟩ = some (.slice none 0 0)) (ds := [7]) bz8_0 Z4 rfl rfl ⟨(Y2 BK102.out 0).trans rfl, (Y2 BK102.out 1).trans rfl, (Y2 BK102.out 2).trans rfl, (Y2 BK102.out 3).trans rfl⟩ (fun hHeld => ?_); refine Y11 Yk.tab8 Yk.bits8 (fun HT_ HW_ => ?_)
        generalize w40.drew = w41 at HO_103002 BK101 BK102 HI0 HK HB hHeld ⊢
        refine pY 0 45 bz8_1 ?_
        refine pY 2 47 bz8_5 ?_
        refine pT 1 46 bz8_7 ?_
        refine Y2Q (i := 3) (N := some 48) bz8_f rfl rfl (Y1b HT_.out Z4) (by decide) (fun K hK => ?_)
        refine Y1Q Tryd.func140 Z4 rfl #[.pointer (some ⟨g, 0, none⟩)] (by rfl) rfl rfl Z0 ?_
        with_reducible refine (YR.calls k2 g t120 t121 t122 t123 t124 t125 t126 t127 t128 w0 _ ?side1 ?side2 ?side3 A38.out).mono ?_
        (case side1 => exact Z1k)
        (case side2 => exact QB)
        (case side3 => exact Z22)
        rintro e w42 ⟨rfl, hi, hb, hk⟩
        refine ⟨_, rfl, ?_⟩
        have n_ := Y3t (Kd.R_mono (Kd.R_keep (Yw.apart (show Yw w0 _ g t120 t121 t122 t123 from QI75_0) Zj (by decide)) hk (fun _ h => h.2)) (fun _ h => h.1)) (Y1.blk hk (g' := gb101) (o := .cells #[.int .i64 0, .string (⟨#[]⟩ : ByteArray), .slice none 0 0, .slice none 0 0] 37 (0, 0)) QQ NB101_0.out (by simp)) (Y1.blk hk (g' := gb102) (o := .cells #[.int .i64 8, .string (⟨#[]⟩ : ByteArray), u103002, .slice none 0 0] 37 (0, 0)) QQ NB102_0.out (by simp)) (Y1.trans QK hk (.inl rfl)) (hb) (hi)
        clear HO_103002
        clear BK101
        clear BK102
        clear HK
        clear HB
        clear HI0
        obtain ⟨HO_103002, BK101, BK102, HK, HB, HI0⟩ := n_
        (try clear hb)
        (try clear hb2)
        (try clear hk)
        (try clear hi)
        refine hK.out _ _ ⟨(Y2 BK102.out 0).trans rfl, (Y2 BK102.out 1).trans rfl, (Y2 BK102.out 2).trans rfl, (Y2 BK102.out 3).trans rfl⟩ (fun hHeld => ?_)
        clear hK K
        refine Y1A (a' := ?_) ?_ ?_
        rotate_left
        ·show Act.put _ (some 48) _ = _
         simp only [Act.put, List.setIfInBounds_toArray, List.set_cons_zero, List.set_cons_succ, Y16, Y17]
         rfl
        refine Y2Q (i := 4) (N := some 49) bz8_1f rfl rfl (Y1b HT_.out Z4) (by decide) (fun K hK => ?_)
        refine value_ (w1 := ?_) (v := ?_) (by rfl) rfl ?_ ?_
        rotate_left 2
        ·go_simp
         constructor
         ·rfl
         ·rfl
        refine hK.out _ _ ⟨(Y2 (Yd BK102.out _) 0).trans rfl, (Y2 (Yd BK102.out _) 1).trans rfl, (Y2 (Yd BK102.out _) 2).trans rfl, (Y2 (Yd BK102.out _) 3).trans rfl⟩ (fun hHeld => ?_)
        clear hK K
        refine Y1A (a' := ?_) ?_ ?_
        rotate_left
        ·show Act.put _ (some 49) _ = _
         simp only [Act.put, List.setIfInBounds_toArray, List.set_cons_zero, List.set_cons_succ, Y16, Y17]
         rfl
        refine Y2Q (i := 5) (N := some 50) bz8_3f rfl rfl (Y1b HT_.out Z4) (by decide) (fun K hK => ?_)
        refine Kd.R_append_step Kd.string w.heap.size (by rfl) (.tmp 46) (.tmp 49) 34 9 (.string ⟨#[]⟩) 16 rfl Tryd.underlying34 info9 rfl (by decide) (by omega) u103002 x103002_2 t124 [.string t124] (fun _ => True) (fun _ => False) rfl rfl ?aP (fun _ hk => hk.elim) ?aF ?aO (Below.refl _ _) ?aS ?aL ?_
        (case aP => exact rfl)
        (case aF => exact (fun _ _ => trivial))
        (case aO => exact Zj)
        (case aS => exact (Y7 (w := w) (g := g) (row := none) QK))
        (case aL => have := LMc39.out; omega)
        intro v130 w43 ho hb hg hat
        rw [← Ny129.out] at ho
        have n_ := Y3t (Y37 (g := gb101) (o := .cells #[.int .i64 0, .string (⟨#[]⟩ : ByteArray), .slice none 0 0, .slice none 0 0] 37 (0, 0)) QQ hg (Kd.R_ne HO_103002.out BK101.out (by decide))) (Y37 (g := gb102) (o := .cells #[.int .i64 8, .string (⟨#[]⟩ : ByteArray), u103002, .slice none 0 0] 37 (0, 0)) QQ hg (Kd.R_ne HO_103002.out BK102.out (by decide))) (Yw.grown QI75_0 hg (Yw.Y5a HI0.out HO_103002.out (by decide))) (Y4e QB HL.out hb) (Y1.trans QK (Y1.of_grown hg g) (Kd.R_base2 HO_103002.out)) (ho)
        clear BK101
        clear BK102
        clear HI0
        clear HB
        clear HK
        clear HO_103002
        obtain ⟨BK101, BK102, HI0, HB, HK, HO131⟩ := n_
        clear ho hb hg hat
        obtain ⟨Ao44, co44, eo44⟩ := Kd.R_slice HO131.out
        (first | subst eo44 | (injection eo44 with f1_ f2_ f3_; have f4_ := f1_.symm; have f5_ := f3_.symm; clear f1_ f2_ f3_; subst f4_; subst f5_))
        refine hK.out _ _ ⟨(Y2 BK102.out 0).trans rfl, (Y2 BK102.out 1).trans rfl, (Y2 BK102.out 2).trans rfl, (Y2 BK102.out 3).trans rfl⟩ (fun hHeld => ?_)
        clear hK K
        refine Y1A (a' := ?_) ?_ ?_
        rotate_left
        ·show Act.put _ (some 50) _ = _
         simp only [Act.put, List.setIfInBounds_toArray, List.set_cons_zero, List.set_cons_succ, Y16, Y17]
         rfl
        refine pY 6 51 bz8_7f ?_
        refine Y6H (i := 7) (N := none) bz8_ff rfl rfl (Y1b HT_.out Z4) (by decide) (fun K hK => ?_)
        have hs45 : w43.cell? ⟨gb102, 2, none⟩ = some (u103002) := (Y2 BK102.out 2).trans rfl
        have hfs45 := Y6 BK102.out 2
        have hns45_0 := NB101_102.out
        have hms45_0 := NB102_101.out
        refine Y4W (w1 := ?_) (by rfl) rfl ?_ ?_
        rotate_left
        ·go_simp
         rfl
        refine hK.out _ _ ?_
        clear hK K
        refine Y1S (Y1a HT_.out Z4) ?_
        try go_wp2
        go_roundg k2
        case measure => have := HJ1.out; have := HK2.out; omega
        case rel => exact ⟨(t125), (t126), (t127), (t128), (y129), (.slice Ao44 y129.length co44), H', ⟨by have := HJ1.out; have := HK2.out; omega⟩, ⟨by (with_reducible repeat (first | apply Kd.R_alloc | apply Kd.R_drewN | apply Kd.R_drew)); exact Kd.R_mono (Kd.R_far (p := ⟨gb102, 2, none⟩) (Kd.R_types HO131.out BK102.out (by decide)) (fun _ hk => hk.2) (.slice Ao44 y129.length co44)) (fun _ hk => trivial)⟩, ⟨Z2g⟩, ⟨Z1q⟩, ⟨QI75_0⟩, ⟨QK⟩, ⟨QB⟩⟩
       ·rw [if_neg c39] at H
        exact Zn
      ·replace c37 := Bool.eq_false_iff.mpr c37
       subst c37
       have H1 : ((YT.f k2 t120 t121 t122 t123 41).bind fun bt132 => (some (8, (⟨#[]⟩ : ByteArray), x103002_2, ([] : List (S37)), bt132.1, bt132.2.1, bt132.2.2.1, bt132.2.2.2))) = some (r1, r2, r3, r4, r5, r6, r7, r8) := by rw [if_neg (show ¬ (false = true) by decide)] at H; exact H
       clear H
       have H := H1
       clear H1
       replace H := Option.bind_eq_some_iff.mp H
       obtain ⟨⟨t132, t133, t134, t135⟩, A460, H⟩ := H
       replace H : (some (8, (⟨#[]⟩ : ByteArray), x103002_2, ([] : List (S37)), t132, t133, t134, t135)) = some (r1, r2, r3, r4, r5, r6, r7, r8) := H
       have A46 := Y0.mk A460
       clear A460
       simp only [Option.some.injEq, Prod.mk.injEq] at H
       obtain ⟨rfl, rfl, rfl, rfl, rfl, rfl, rfl, rfl⟩ := H
       go_wp2_with (first | ((with_reducible refine Yl (f := 95) rfl ?_); refine YO (some 44) rfl rfl Tryd.func95 Z4 rfl #[.pointer (some ⟨g, 0, none⟩), .int .u8 124] rfl Z0 ?_; (with_reducible refine (YS.calls k2 g x1000_2 x1001_2 x1002_2 x1003_2 124 false t120 t121 t122 t123 w0 _ ?side1 ?side2 A36.out).mono ?_); (case side1 => exact Z1k); (case side2 => exact QB); rintro e w47 ⟨rfl, hi, hb, hk⟩; refine ⟨_, rfl, ?_⟩; have n_ := Y3t (Kd.R_mono (Kd.R_keep (Yw.apart (show Yw w0 _ g x1000_2 x1001_2 x1002_2 x1003_2 from QI75_0) Zj (by decide)) hk (fun _ h => h.2)) (fun _ h => h.1)) (Y1.blk hk (g' := gb101) (o := .cells #[.int .i64 0, .string (⟨#[]⟩ : ByteArray), .slice none 0 0, .slice none 0 0] 37 (0, 0)) QQ NB101_0.out (by simp)) (Y1.blk hk (g' := gb102) (o := .cells #[.int .i64 8, .string (⟨#[]⟩ : ByteArray), u103002, .slice none 0 0] 37 (0, 0)) QQ NB102_0.out (by simp)) (Y1.trans QK hk (.inl rfl)) (hb) (hi); clear HO_103002 BK101 BK102 HK HB HI0; obtain ⟨HO_103002, BK101, BK102, HK, HB, HI0⟩ := n_; (try clear hb); (try clear hb2); (try clear hk); (try clear hi)) | ((with_reducible refine Yl (f := 142) rfl ?_); refine YO (some 53) rfl rfl Tryd.func142 Z4 rfl #[.pointer (some ⟨g, 0, none⟩), .int .u8 41] rfl Z0 ?_; (with_reducible refine (YT.calls k2 g t120 t121 t122 t123 41 t132 t133 t134 t135 w0 _ ?side1 ?side2 A46.out).mono ?_); (case side1 => exact Z1k); (case side2 => exact QB); rintro e w48 ⟨rfl, hi, hb, hk⟩; refine ⟨_, rfl, ?_⟩; have n_ := Y3t (Kd.R_mono (Kd.R_keep (Yw.apart (show Yw w0 _ g t120 t121 t122 t123 from QI75_0) Zj (by decide)) hk (fun _ h => h.2)) (fun _ h => h.1)) (Y1.blk hk (g' := gb101) (o := .cells #[.int .i64 0, .string (⟨#[]⟩ : ByteArray), .slice none 0 0, .slice none 0 0] 37 (0, 0)) QQ NB101_0.out (by simp)) (Y1.blk hk (g' := gb102) (o := .cells #[.int .i64 8, .string (⟨#[]⟩ : ByteArray), u103002, .slice none 0 0] 37 (0, 0)) QQ NB102_0.out (by simp)) (Y1.trans QK hk (.inl rfl)) (hb) (hi); clear HO_103002 BK101 BK102 HK HB HI0; obtain ⟨HO_103002, BK101, BK102, HK, HB, HI0⟩ := n_; (try clear hb); (try clear hb2); (try clear hk); (try clear hi); have hnb49 := NB102_101.out; have hnc49 := NB101_102.out; have hnb50 := NB102_0.out; have hnc50 := NB0_102.out; obtain ⟨hcz51_0, hcz51_1, hcz51_2, hcz51_3, hfz51_0, hfz51_1, hfz51_2, hfz51_3⟩ := YA BK102.out; have hnb52 := NB101_0.out; have hnc52 := NB0_101.out; obtain ⟨hcz53_0, hcz53_1, hcz53_2, hcz53_3, hfz53_0, hfz53_1, hfz53_2, hfz53_3⟩ := YA BK101.out; obtain ⟨Ao54, co54, eo54⟩ := Kd.R_slice HO_103002.out; subst eo54))
       refine bodyPost_ret (results_cell_row rfl _ _ gb101 37 #[.int .i64 8, .string (⟨#[]⟩ : ByteArray), .slice Ao54 x103002_2.length co54, .slice none 0 0] (0, 0) _ rfl (by (with_reducible repeat (first | refine Yh ?_ _ | refine Yb ?_ | refine Yd ?_ _)); exact YE (cs := #[.int .i64 8, .string (⟨#[]⟩ : ByteArray), .slice Ao54 x103002_2.length co54, .slice none 0 0]) Z2d 3 _ rfl) Tryd.underlying37 rfl Z4) rfl ?_
       exact ⟨_, _, Z2, by (with_reducible repeat (first | apply Kd.R_alloc | apply Kd.R_drewN | apply Kd.R_drew)); exact Kd.R_mono (Kd.R_far (p := ⟨gb101, 3, none⟩) (Kd.R_far (p := ⟨gb101, 2, none⟩) (Kd.R_far (p := ⟨gb101, 1, none⟩) (Kd.R_far (p := ⟨gb101, 0, none⟩) (Kd.R_types HO_103002.out BK101.out (by decide)) (fun _ hk => hk.2) (.int .i64 8)) (fun _ hk => hk.2) (.string (⟨#[]⟩ : ByteArray))) (fun _ hk => hk.2) (.slice Ao54 x103002_2.length co54)) (fun _ hk => hk.2) (.slice none 0 0)) (fun _ hk => trivial), Z5, QI75_0, QB, QK⟩
mutual
def Yq.l0 : Nat → Int → ByteArray → Int → Int → Int → Int → ByteArray → List ByteArray → List (S37) → Option (Int × ByteArray × List ByteArray × (List (S37)) × ByteArray × Int × Int × Int)
 | 0, _, _, _, _, _, _, _, _, _ => none
 | k + 1, x1, x1000, x1001, x1002, x1003, x115000, x115001, x115002, x115003 => (YS.f k x1000 x1001 x1002 x1003 124).bind fun bt115 => (if bt115.1 = true then ((Yz.f k bt115.2.1 bt115.2.2.1 bt115.2.2.2.1 bt115.2.2.2.2 x1).bind fun bt120 => (Yq.l0 k x1 bt120.2.2.2.2.1 bt120.2.2.2.2.2.1 bt120.2.2.2.2.2.2.1 bt120.2.2.2.2.2.2.2 4 (⟨#[]⟩ : ByteArray) ([] : List ByteArray) (([(⟨x115000, x115001, x115002, x115003⟩ : S37), (⟨bt120.1, bt120.2.1, bt120.2.2.1, bt120.2.2.2.1⟩ : S37)] : List (S37))))) else (some (x115000, x115001, x115002, x115003, bt115.2.1, bt115.2.2.1, bt115.2.2.2.1, bt115.2.2.2.2)))
def Yq.f : Nat → ByteArray → Int → Int → Int → Int → Option (Int × ByteArray × List ByteArray × (List (S37)) × ByteArray × Int × Int × Int)
 | 0, _, _, _, _, _ => none
 | k + 1, s0_0, s0_1, s0_2, s0_3, a1 => (Yz.f k s0_0 s0_1 s0_2 s0_3 a1).bind fun bt102 => (Yq.l0 k a1 bt102.2.2.2.2.1 bt102.2.2.2.2.2.1 bt102.2.2.2.2.2.2.1 bt102.2.2.2.2.2.2.2 bt102.1 bt102.2.1 bt102.2.2.1 bt102.2.2.2.1)
def Yz.l0 : Nat → Int → ByteArray → Int → Int → Int → Int → ByteArray → List ByteArray → List (S37) → Option (Int × ByteArray × List ByteArray × (List (S37)) × ByteArray × Int × Int × Int)
 | 0, _, _, _, _, _, _, _, _, _ => none
 | k + 1, x1, x1000, x1001, x1002, x1003, x149000, x149001, x149002, x149003 => (YS.f k x1000 x1001 x1002 x1003 47).bind fun bt149 => (if bt149.1 = true then ((Yi.f k bt149.2.1 bt149.2.2.1 bt149.2.2.2.1 bt149.2.2.2.2 x1).bind fun bt154 => (Yz.l0 k x1 bt154.2.2.2.2.1 bt154.2.2.2.2.2.1 bt154.2.2.2.2.2.2.1 bt154.2.2.2.2.2.2.2 3 (⟨#[]⟩ : ByteArray) ([] : List ByteArray) (([(⟨x149000, x149001, x149002, x149003⟩ : S37), (⟨bt154.1, bt154.2.1, bt154.2.2.1, bt154.2.2.2.1⟩ : S37)] : List (S37))))) else (some (x149000, x149001, x149002, x149003, bt149.2.1, bt149.2.2.1, bt149.2.2.2.1, bt149.2.2.2.2)))
def Yz.f : Nat → ByteArray → Int → Int → Int → Int → Option (Int × ByteArray × List ByteArray × (List (S37)) × ByteArray × Int × Int × Int)
 | 0, _, _, _, _, _ => none
 | k + 1, s0_0, s0_1, s0_2, s0_3, a1 => (Yi.f k s0_0 s0_1 s0_2 s0_3 a1).bind fun bt136 => (Yz.l0 k a1 bt136.2.2.2.2.1 bt136.2.2.2.2.2.1 bt136.2.2.2.2.2.2.1 bt136.2.2.2.2.2.2.2 bt136.1 bt136.2.1 bt136.2.2.1 bt136.2.2.2.1)
def Yi.l0 : Nat → ByteArray → Int → Int → Int → Int → ByteArray → List ByteArray → List (S37) → Option (Int × ByteArray × List ByteArray × (List (S37)) × ByteArray × Int × Int × Int)
 | 0, _, _, _, _, _, _, _, _ => none
 | k + 1, x1000, x1001, x1002, x1003, x183000, x183001, x183002, x183003 => (Ym.f k x1000 x1001 x1002 x1003).bind fun bt183 => (if bt183.1 = 42 then (Yi.j1 k 5 bt183.2.1 (wrap64 (bt183.2.2.1 + 1)) bt183.2.2.2.1 bt183.2.2.2.2 x183000 x183001 x183002 x183003) else (if bt183.1 = 43 then (Yi.j2 k 6 bt183.2.1 (wrap64 (bt183.2.2.1 + 1)) bt183.2.2.2.1 bt183.2.2.2.2 x183000 x183001 x183002 x183003) else (if bt183.1 = 63 then (Yi.j3 k 7 bt183.2.1 (wrap64 (bt183.2.2.1 + 1)) bt183.2.2.2.1 bt183.2.2.2.2 x183000 x183001 x183002 x183003) else (some (x183000, x183001, x183002, x183003, bt183.2.1, bt183.2.2.1, bt183.2.2.2.1, bt183.2.2.2.2)))))
def Yi.j1 : Nat → Int → ByteArray → Int → Int → Int → Int → ByteArray → List ByteArray → List (S37) → Option (Int × ByteArray × List ByteArray × (List (S37)) × ByteArray × Int × Int × Int)
 | 0, _, _, _, _, _, _, _, _, _ => none
 | k + 1, x6, x1000, x1001, x1002, x1003, x183000, x183001, x183002, x183003 => Yi.l0 k x1000 x1001 x1002 x1003 x6 (⟨#[]⟩ : ByteArray) ([] : List ByteArray) (([(⟨x183000, x183001, x183002, x183003⟩ : S37)] : List (S37)))
def Yi.j2 : Nat → Int → ByteArray → Int → Int → Int → Int → ByteArray → List ByteArray → List (S37) → Option (Int × ByteArray × List ByteArray × (List (S37)) × ByteArray × Int × Int × Int)
 | 0, _, _, _, _, _, _, _, _, _ => none
 | k + 1, x6, x1000, x1001, x1002, x1003, x183000, x183001, x183002, x183003 => Yi.l0 k x1000 x1001 x1002 x1003 x6 (⟨#[]⟩ : ByteArray) ([] : List ByteArray) (([(⟨x183000, x183001, x183002, x183003⟩ : S37)] : List (S37)))
def Yi.j3 : Nat → Int → ByteArray → Int → Int → Int → Int → ByteArray → List ByteArray → List (S37) → Option (Int × ByteArray × List ByteArray × (List (S37)) × ByteArray × Int × Int × Int)
 | 0, _, _, _, _, _, _, _, _, _ => none
 | k + 1, x6, x1000, x1001, x1002, x1003, x183000, x183001, x183002, x183003 => Yi.l0 k x1000 x1001 x1002 x1003 x6 (⟨#[]⟩ : ByteArray) ([] : List ByteArray) (([(⟨x183000, x183001, x183002, x183003⟩ : S37)] : List (S37)))
def Yi.f : Nat → ByteArray → Int → Int → Int → Int → Option (Int × ByteArray × List ByteArray × (List (S37)) × ByteArray × Int × Int × Int)
 | 0, _, _, _, _, _ => none
 | k + 1, s0_0, s0_1, s0_2, s0_3, a1 => (YH.f k s0_0 s0_1 s0_2 s0_3 a1).bind fun bt170 => (Yi.l0 k bt170.2.2.2.2.1 bt170.2.2.2.2.2.1 bt170.2.2.2.2.2.2.1 bt170.2.2.2.2.2.2.2 bt170.1 bt170.2.1 bt170.2.2.1 bt170.2.2.2.1)
def YH.f : Nat → ByteArray → Int → Int → Int → Int → Option (Int × ByteArray × List ByteArray × (List (S37)) × ByteArray × Int × Int × Int)
 | 0, _, _, _, _, _ => none
 | k + 1, s0_0, s0_1, s0_2, s0_3, a1 => (Ym.f k s0_0 s0_1 s0_2 s0_3).bind fun bt198 => (if bt198.1 = 94 then (if a1 ≥ 5 then ((Ys.f bt198.2.1 bt198.2.2.1 bt198.2.2.2.1 bt198.2.2.2.2 bt198.2.2.1 3).bind fun bt215 => (some (bt215.1, bt215.2.1, bt215.2.2.1, bt215.2.2.2.1, bt215.2.2.2.2.1, bt215.2.2.2.2.2.1, bt215.2.2.2.2.2.2.1, bt215.2.2.2.2.2.2.2))) else ((YH.f k bt198.2.1 (wrap64 (bt198.2.2.1 + 1)) bt198.2.2.2.1 bt198.2.2.2.2 (wrap64 (a1 + 1))).bind fun bt227 => (some (2, (⟨#[]⟩ : ByteArray), ([] : List ByteArray), (([(⟨bt227.1, bt227.2.1, bt227.2.2.1, bt227.2.2.2.1⟩ : S37)] : List (S37))), bt227.2.2.2.2.1, bt227.2.2.2.2.2.1, bt227.2.2.2.2.2.2.1, bt227.2.2.2.2.2.2.2)))) else ((YN.f k bt198.2.1 bt198.2.2.1 bt198.2.2.2.1 bt198.2.2.2.2 a1).bind fun bt203 => (some (bt203.1, bt203.2.1, bt203.2.2.1, bt203.2.2.2.1, bt203.2.2.2.2.1, bt203.2.2.2.2.2.1, bt203.2.2.2.2.2.2.1, bt203.2.2.2.2.2.2.2))))
def YN.f : Nat → ByteArray → Int → Int → Int → Int → Option (Int × ByteArray × List ByteArray × (List (S37)) × ByteArray × Int × Int × Int)
 | 0, _, _, _, _, _ => none
 | k + 1, s0_0, s0_1, s0_2, s0_3, a1 => (Ym.f k s0_0 s0_1 s0_2 s0_3).bind fun bt243 => (if bt243.1 = 60 then ((YR.f k bt243.2.1 bt243.2.2.1 bt243.2.2.2.1 bt243.2.2.2.2).bind fun bt248 => (some (1, bt248.1, ([] : List ByteArray), ([] : List (S37)), bt248.2.1, bt248.2.2.1, bt248.2.2.2.1, bt248.2.2.2.2))) else (if bt243.1 = 33 then ((Yk.f k bt243.2.1 (wrap64 (bt243.2.2.1 + 1)) bt243.2.2.2.1 bt243.2.2.2.2).bind fun bt253 => (some (bt253.1, bt253.2.1, bt253.2.2.1, bt253.2.2.2.1, bt253.2.2.2.2.1, bt253.2.2.2.2.2.1, bt253.2.2.2.2.2.2.1, bt253.2.2.2.2.2.2.2))) else (if bt243.1 = 40 then (if a1 ≥ 5 then ((Ys.f bt243.2.1 bt243.2.2.1 bt243.2.2.2.1 bt243.2.2.2.2 bt243.2.2.1 3).bind fun bt265 => (some (bt265.1, bt265.2.1, bt265.2.2.1, bt265.2.2.2.1, bt265.2.2.2.2.1, bt265.2.2.2.2.2.1, bt265.2.2.2.2.2.2.1, bt265.2.2.2.2.2.2.2))) else ((Yq.f k bt243.2.1 (wrap64 (bt243.2.2.1 + 1)) bt243.2.2.2.1 bt243.2.2.2.2 (wrap64 (a1 + 1))).bind fun bt277 => ((YT.f k bt277.2.2.2.2.1 bt277.2.2.2.2.2.1 bt277.2.2.2.2.2.2.1 bt277.2.2.2.2.2.2.2 41).bind fun bt290 => (some (bt277.1, bt277.2.1, bt277.2.2.1, bt277.2.2.2.1, bt290.1, bt290.2.1, bt290.2.2.1, bt290.2.2.2))))) else ((Ys.f bt243.2.1 bt243.2.2.1 bt243.2.2.2.1 bt243.2.2.2.2 bt243.2.2.1 2).bind fun bt294 => (some (bt294.1, bt294.2.1, bt294.2.2.1, bt294.2.2.2.1, bt294.2.2.2.2.1, bt294.2.2.2.2.2.1, bt294.2.2.2.2.2.2.1, bt294.2.2.2.2.2.2.2))))))
end
theorem Yq.mono_j : ∀ k, (∀ y0 y1 y2 y3 y4, LeO (Yq.f k y0 y1 y2 y3 y4) (Yq.f (k + 1) y0 y1 y2 y3 y4)) ∧ (∀ y0 y1 y2 y3 y4 y5 y6 y7 y8, LeO (Yq.l0 k y0 y1 y2 y3 y4 y5 y6 y7 y8) (Yq.l0 (k + 1) y0 y1 y2 y3 y4 y5 y6 y7 y8)) ∧ (∀ y0 y1 y2 y3 y4, LeO (Yz.f k y0 y1 y2 y3 y4) (Yz.f (k + 1) y0 y1 y2 y3 y4)) ∧ (∀ y0 y1 y2 y3 y4 y5 y6 y7 y8, LeO (Yz.l0 k y0 y1 y2 y3 y4 y5 y6 y7 y8) (Yz.l0 (k + 1) y0 y1 y2 y3 y4 y5 y6 y7 y8)) ∧ (∀ y0 y1 y2 y3 y4, LeO (Yi.f k y0 y1 y2 y3 y4) (Yi.f (k + 1) y0 y1 y2 y3 y4)) ∧ (∀ y0 y1 y2 y3 y4 y5 y6 y7, LeO (Yi.l0 k y0 y1 y2 y3 y4 y5 y6 y7) (Yi.l0 (k + 1) y0 y1 y2 y3 y4 y5 y6 y7)) ∧ (∀ y0 y1 y2 y3 y4 y5 y6 y7 y8, LeO (Yi.j1 k y0 y1 y2 y3 y4 y5 y6 y7 y8) (Yi.j1 (k + 1) y0 y1 y2 y3 y4 y5 y6 y7 y8)) ∧ (∀ y0 y1 y2 y3 y4 y5 y6 y7 y8, LeO (Yi.j2 k y0 y1 y2 y3 y4 y5 y6 y7 y8) (Yi.j2 (k + 1) y0 y1 y2 y3 y4 y5 y6 y7 y8)) ∧ (∀ y0 y1 y2 y3 y4 y5 y6 y7 y8, LeO (Yi.j3 k y0 y1 y2 y3 y4 y5 y6 y7 y8) (Yi.j3 (k + 1) y0 y1 y2 y3 y4 y5 y6 y7 y8)) ∧ (∀ y0 y1 y2 y3 y4, LeO (YH.f k y0 y1 y2 y3 y4) (YH.f (k + 1) y0 y1 y2 y3 y4)) ∧ (∀ y0 y1 y2 y3 y4, LeO (YN.f k y0 y1 y2 y3 y4) (YN.f (k + 1) y0 y1 y2 y3 y4))
 | 0 => ⟨fun _ _ _ _ _ r h => by simp [Yq.f] at h, fun _ _ _ _ _ _ _ _ _ r h => by simp [Yq.l0] at h, fun _ _ _ _ _ r h => by simp [Yz.f] at h, fun _ _ _ _ _ _ _ _ _ r h => by simp [Yz.l0] at h, fun _ _ _ _ _ r h => by simp [Yi.f] at h, fun _ _ _ _ _ _ _ _ r h => by simp [Yi.l0] at h, fun _ _ _ _ _ _ _ _ _ r h => by simp [Yi.j1] at h, fun _ _ _ _ _ _ _ _ _ r h => by simp [Yi.j2] at h, fun _ _ _ _ _ _ _ _ _ r h => by simp [Yi.j3] at h, fun _ _ _ _ _ r h => by simp [YH.f] at h, fun _ _ _ _ _ r h => by simp [YN.f] at h⟩
 | k + 1 => by
  obtain ⟨ih0, ih1, ih2, ih3, ih4, ih5, ih6, ih7, ih8, ih9, ih10⟩ := Yq.mono_j k
  refine ⟨?_, ?_, ?_, ?_, ?_, ?_, ?_, ?_, ?_, ?_, ?_⟩
  ·intro y0 y1 y2 y3 y4
   unfold Yq.f
   exact QM
  ·intro y0 y1 y2 y3 y4 y5 y6 y7 y8
   unfold Yq.l0
   exact QM
  ·intro y0 y1 y2 y3 y4
   unfold Yz.f
   exact QM
  ·intro y0 y1 y2 y3 y4 y5 y6 y7 y8
   unfold Yz.l0
   exact QM
  ·intro y0 y1 y2 y3 y4
   unfold Yi.f
   exact QM
  ·intro y0 y1 y2 y3 y4 y5 y6 y7
   unfold Yi.l0
   exact QM
  ·intro y0 y1 y2 y3 y4 y5 y6 y7 y8
   unfold Yi.j1
   exact QM
  ·intro y0 y1 y2 y3 y4 y5 y6 y7 y8
   unfold Yi.j2
   exact QM
  ·intro y0 y1 y2 y3 y4 y5 y6 y7 y8
   unfold Yi.j3
   exact QM
  ·intro y0 y1 y2 y3 y4
   unfold YH.f
   exact QM
  ·intro y0 y1 y2 y3 y4
   unfold YN.f
   exact QM
theorem Yq.mono : ∀ a0 a1 a2 a3 a4 k, LeO (Yq.f k a0 a1 a2 a3 a4) (Yq.f (k + 1) a0 a1 a2 a3 a4) := fun a0 a1 a2 a3 a4 k => (Yq.mono_j k).1 a0 a1 a2 a3 a4
abbrev Yq.Spec (k : Nat) : Prop := ∀ (g : Nat) (s0_0 : ByteArray) (s0_1 : Int) (s0_2 : Int) (s0_3 : Int) (a1 : Int) (r1 : Int) (r2 : ByteArray) (r3 : List ByteArray) (r4 : List (S37)) (r5 : ByteArray) (r6 : Int) (r7 : Int) (r8 : Int) (w0 w : World) (hI : Yw w0 w g s0_0 s0_1 s0_2 s0_3) (hB : Below w0.heap.size w0 w) (hT : Tabs w0) (h : Yq.f k s0_0 s0_1 s0_2 s0_3 a1 = some (r1, r2, r3, r4, r5, r6, r7, r8)),
  Calls Tryd.prog 52 #[.pointer (some ⟨g, 0, none⟩), .int .i64 a1] w fun e w' => ∃ v2_ v3_ : Value, e = .returned (.agg #[.int .i64 r1, .string r2, v2_, v3_]) ∧ Kd.R Kd.string 9 w' w.heap.size (fun k_ => (w.heap.size ≤ k_)) v2_ r3 ∧ Kd.N k37 37 w' w.heap.size (fun k_ => (w.heap.size ≤ k_) ∧ some k_ ≠ (v2_ : Value).ownBlock) v3_ r4 ∧ Yw w0 w' g r5 r6 r7 r8 ∧ Below w0.heap.size w0 w' ∧ Y1 w w' g none
abbrev Yz.Spec (k : Nat) : Prop := ∀ (g : Nat) (s0_0 : ByteArray) (s0_1 : Int) (s0_2 : Int) (s0_3 : Int) (a1 : Int) (r1 : Int) (r2 : ByteArray) (r3 : List ByteArray) (r4 : List (S37)) (r5 : ByteArray) (r6 : Int) (r7 : Int) (r8 : Int) (w0 w : World) (hI : Yw w0 w g s0_0 s0_1 s0_2 s0_3) (hB : Below w0.heap.size w0 w) (hT : Tabs w0) (h : Yz.f k s0_0 s0_1 s0_2 s0_3 a1 = some (r1, r2, r3, r4, r5, r6, r7, r8)),
  Calls Tryd.prog 94 #[.pointer (some ⟨g, 0, none⟩), .int .i64 a1] w fun e w' => ∃ v2_ v3_ : Value, e = .returned (.agg #[.int .i64 r1, .string r2, v2_, v3_]) ∧ Kd.R Kd.string 9 w' w.heap.size (fun k_ => (w.heap.size ≤ k_)) v2_ r3 ∧ Kd.N k37 37 w' w.heap.size (fun k_ => (w.heap.size ≤ k_) ∧ some k_ ≠ (v2_ : Value).ownBlock) v3_ r4 ∧ Yw w0 w' g r5 r6 r7 r8 ∧ Below w0.heap.size w0 w' ∧ Y1 w w' g none
abbrev Yi.Spec (k : Nat) : Prop := ∀ (g : Nat) (s0_0 : ByteArray) (s0_1 : Int) (s0_2 : Int) (s0_3 : Int) (a1 : Int) (r1 : Int) (r2 : ByteArray) (r3 : List ByteArray) (r4 : List (S37)) (r5 : ByteArray) (r6 : Int) (r7 : Int) (r8 : Int) (w0 w : World) (hI : Yw w0 w g s0_0 s0_1 s0_2 s0_3) (hB : Below w0.heap.size w0 w) (hT : Tabs w0) (h : Yi.f k s0_0 s0_1 s0_2 s0_3 a1 = some (r1, r2, r3, r4, r5, r6, r7, r8)),
  Calls Tryd.prog 112 #[.pointer (some ⟨g, 0, none⟩), .int .i64 a1] w fun e w' => ∃ v2_ v3_ : Value, e = .returned (.agg #[.int .i64 r1, .string r2, v2_, v3_]) ∧ Kd.R Kd.string 9 w' w.heap.size (fun k_ => (w.heap.size ≤ k_)) v2_ r3 ∧ Kd.N k37 37 w' w.heap.size (fun k_ => (w.heap.size ≤ k_) ∧ some k_ ≠ (v2_ : Value).ownBlock) v3_ r4 ∧ Yw w0 w' g r5 r6 r7 r8 ∧ Below w0.heap.size w0 w' ∧ Y1 w w' g none
abbrev YH.Spec (k : Nat) : Prop := ∀ (g : Nat) (s0_0 : ByteArray) (s0_1 : Int) (s0_2 : Int) (s0_3 : Int) (a1 : Int) (r1 : Int) (r2 : ByteArray) (r3 : List ByteArray) (r4 : List (S37)) (r5 : ByteArray) (r6 : Int) (r7 : Int) (r8 : Int) (w0 w : World) (hI : Yw w0 w g s0_0 s0_1 s0_2 s0_3) (hB : Below w0.heap.size w0 w) (hT : Tabs w0) (h : YH.f k s0_0 s0_1 s0_2 s0_3 a1 = some (r1, r2, r3, r4, r5, r6, r7, r8)),
  Calls Tryd.prog 123 #[.pointer (some ⟨g, 0, none⟩), .int .i64 a1] w fun e w' => ∃ v2_ v3_ : Value, e = .returned (.agg #[.int .i64 r1, .string r2, v2_, v3_]) ∧ Kd.R Kd.string 9 w' w.heap.size (fun k_ => (w.heap.size ≤ k_)) v2_ r3 ∧ Kd.N k37 37 w' w.heap.size (fun k_ => (w.heap.size ≤ k_) ∧ some k_ ≠ (v2_ : Value).ownBlock) v3_ r4 ∧ Yw w0 w' g r5 r6 r7 r8 ∧ Below w0.heap.size w0 w' ∧ Y1 w w' g none
abbrev YN.Spec (k : Nat) : Prop := ∀ (g : Nat) (s0_0 : ByteArray) (s0_1 : Int) (s0_2 : Int) (s0_3 : Int) (a1 : Int) (r1 : Int) (r2 : ByteArray) (r3 : List ByteArray) (r4 : List (S37)) (r5 : ByteArray) (r6 : Int) (r7 : Int) (r8 : Int) (w0 w : World) (hI : Yw w0 w g s0_0 s0_1 s0_2 s0_3) (hB : Below w0.heap.size w0 w) (hT : Tabs w0) (h : YN.f k s0_0 s0_1 s0_2 s0_3 a1 = some (r1, r2, r3, r4, r5, r6, r7, r8)),
  Calls Tryd.prog 134 #[.pointer (some ⟨g, 0, none⟩), .int .i64 a1] w fun e w' => ∃ v2_ v3_ : Value, e = .returned (.agg #[.int .i64 r1, .string r2, v2_, v3_]) ∧ Kd.R Kd.string 9 w' w.heap.size (fun k_ => (w.heap.size ≤ k_)) v2_ r3 ∧ Kd.N k37 37 w' w.heap.size (fun k_ => (w.heap.size ≤ k_) ∧ some k_ ≠ (v2_ : Value).ownBlock) v3_ r4 ∧ Yw w0 w' g r5 r6 r7 r8 ∧ Below w0.heap.size w0 w' ∧ Y1 w w' g none
set_option maxHeartbeats 8000000 in
set_option maxRecDepth 100000 in
theorem Yq.step (k : Nat) (ih : ∀ j_ < k, Yq.Spec j_ ∧ Yz.Spec j_ ∧ Yi.Spec j_ ∧ YH.Spec j_ ∧ YN.Spec j_) : ∀ (g : Nat) (s0_0 : ByteArray) (s0_1 : Int) (s0_2 : Int) (s0_3 : Int) (a1 : Int) (r1 : Int) (r2 : ByteArray) (r3 : List ByteArray) (r4 : List (S37)) (r5 : ByteArray) (r6 : Int) (r7 : Int) (r8 : Int) (w0 w : World) (hI : Yw w0 w g s0_0 s0_1 s0_2 s0_3) (hB : Below w0.heap.size w0 w) (hT : Tabs w0) (h : Yq.f k s0_0 s0_1 s0_2 s0_3 a1 = some (r1, r2, r3, r4, r5, r6, r7, r8)),
  Calls Tryd.prog 52 #[.pointer (some ⟨g, 0, none⟩), .int .i64 a1] w fun e w' => ∃ v2_ v3_ : Value, e = .returned (.agg #[.int .i64 r1, .string r2, v2_, v3_]) ∧ Kd.R Kd.string 9 w' w.heap.size (fun k_ => (w.heap.size ≤ k_)) v2_ r3 ∧ Kd.N k37 37 w' w.heap.size (fun k_ => (w.heap.size ≤ k_) ∧ some k_ ≠ (v2_ : Value).ownBlock) v3_ r4 ∧ Yw w0 w' g r5 r6 r7 r8 ∧ Below w0.heap.size w0 w' ∧ Y1 w w' g none := by
 intro g s0_0 s0_1 s0_2 s0_3 a1 r1 r2 r3 r4 r5 r6 r7 r8 w0 w hI hB hT h
 cases k with
 | zero => exact absurd h (by simp [Yq.f])
 | succ k =>
 simp only [Yq.f] at h
 have HT := Y0.mk hT
 clear hT
 have hu37 := Tryd.underlying37
 have HI0 := Y0.mk hI
 have HK := Y0.mk (Y1.refl w g none)
 have HL := Y0.mk hB.size
 clear hI
 have HW0 := Y0.mk hB.size
 have HB := Y0.mk hB
 clear hB
 have H : ((Yz.f k s0_0 s0_1 s0_2 s0_3 a1).bind fun bt102 => (Yq.l0 k a1 bt102.2.2.2.2.1 bt102.2.2.2.2.2.1 bt102.2.2.2.2.2.2.1 bt102.2.2.2.2.2.2.2 bt102.1 bt102.2.1 bt102.2.2.1 bt102.2.2.2.1)) = some (r1, r2, r3, r4, r5, r6, r7, r8) := h
 clear h
 replace H := Option.bind_eq_some_iff.mp H
 obtain ⟨⟨t102, t103, t104, t107, t110, t111, t112, t113⟩, A30, H⟩ := H
 replace H : (Yq.l0 k a1 t110 t111 t112 t113 t102 t103 t104 t107) = some (r1, r2, r3, r4, r5, r6, r7, r8) := H
 have A3 := Y0.mk A30
 clear A30
 have H' := Y0.mk H
 clear H
 go_enter Tryd.func52, Tryd.ntmps52
 go_wp2_with (first | ((with_reducible refine YF (N := 4) rfl ?_); refine YD ?hg (N := 4) ?hd (cs := #[.int .i64 0, .string (⟨#[]⟩ : ByteArray), .slice none 0 0, .slice none 0 0]) (t := 37) ?hr ?_; (case hd => rfl); (case hg => rfl); (case hr => exact Zb); intro gb101 hg w4 hbox hb; have n_ := Y4q (Yw.below QI75_0 hb) (Y1.trans QK (Y1.of_below hb g none) (.inl rfl)) (Y8 QB hb) (hbox) ((by rw [hg]; exact (Y7 (w := w) (g := g) (row := none) QK) : w.heap.size ≤ gb101)) ((Nat.le_trans HW0.out (by rw [hg]; exact (Y7 (w := w) (g := g) (row := none) QK) : w.heap.size ≤ gb101) : w0.heap.size ≤ gb101)) ((by rw [hg]; exact Nat.ne_of_lt (Yw.lt (show Yw w0 _ g s0_0 s0_1 s0_2 s0_3 from QI75_0)) : g ≠ gb101)) ((by rw [hg]; exact Nat.ne_of_gt (Yw.lt (show Yw w0 _ g s0_0 s0_1 s0_2 s0_3 from QI75_0)) : gb101 ≠ g)); clear HI0 HK HB; obtain ⟨HI0, HK, HB, BK101, GW101, GE101, NB0_101, NB101_0⟩ := n_; clear hb hbox hg) | ((with_reducible refine Yl (f := 94) rfl ?_); refine YO (some 8) rfl rfl Tryd.func94 Z4 rfl #[.pointer (some ⟨g, 0, none⟩), .int .i64 a1] rfl Z0 ?_; (with_reducible refine ((ih k (by omega)).2.1 g s0_0 s0_1 s0_2 s0_3 a1 t102 t103 t104 t107 t110 t111 t112 t113 w0 _ ?side1 ?side2 ?side3 A3.out).mono ?_); (case side1 => exact Z1k); (case side2 => exact QB); (case side3 => exact Z22); rintro e w5 ⟨v105, v108, rfl, ho0, ho1, hi, hb, hk⟩; refine ⟨_, rfl, ?_⟩; have n0_ := Y0.mk (Y1.blk hk (g' := gb101) (o := .cells #[.int .i64 0, .string (⟨#[]⟩ : ByteArray), .slice none 0 0, .slice none 0 0] 37 (0, 0)) QQ NB101_0.out (by simp)); have n1_ := Y0.mk (Kd.R_lower (Kd.R_newM (M := fun k_ => (w.heap.size ≤ k_)) (Kd.R_mono (ok' := fun k_ => True) ho0 (fun _ hk_ => trivial)) (Y7 (w := w) (g := g) (row := none) QK) (fun k_ h_ => h_)) (Y7 (w := w) (g := g) (row := none) QK)); have n2_ := Y0.mk (Kd.N_lower (Kd.N_mono (ok' := fun k_ => (w.heap.size ≤ k_) ∧ some k_ ≠ (v105 : Value).ownBlock ∧ k_ ≠ gb101 ∧ k_ ≠ g) ho1 (fun k_ hk_ => ⟨(Nat.le_trans (Y7 (w := w) (g := g) (row := none) QK) hk_.1), hk_.2, (Kd.freshB (g := gb101) (o := .cells #[.int .i64 0, .string (⟨#[]⟩ : ByteArray), .slice none 0 0, .slice none 0 0] 37 (0, 0)) QQ k_ hk_.1), (Yw.fresh QI75_0 k_ hk_.1)⟩)) (Y7 (w := w) (g := g) (row := none) QK)); have n3_ := Y0.mk (Y1.trans QK hk (.inl rfl)); have n4_ := Y0.mk (hb); have n5_ := Y0.mk (hi); clear BK101 HK HB HI0; have BK101 := n0_; have HO106 := n1_; have HO109 := n2_; have HK := n3_; have HB := n4_; have HI0 := n5_; clear n0_ n1_ n2_ n3_ n4_ n5_; (try clear hb); (try clear hb2); (try clear hk); (try clear hi); (try clear ho0); (try clear ho1)) | ((with_reducible refine YF (N := 5) rfl ?_); refine YD ?hg (N := 5) ?hd (cs := #[.int .i64 0, .string (⟨#[]⟩ : ByteArray), .slice none 0 0, .slice none 0 0]) (t := 37) ?hr ?_; (case hd => rfl); (case hg => rfl); (case hr => exact Zb); intro gb114 hg w6 hbox hb; have n0_ := Y0.mk (Kd.R_below Z1Y hb); have n1_ := Y0.mk (Kd.N_below (Kd.N_elderB Z1V gb114 (Nat.le_of_eq hg.symm)) hb); have n2_ := Y0.mk (Yw.below QI75_0 hb); have n3_ := Y0.mk (Yt (g := gb101) (o := .cells #[.int .i64 0, .string (⟨#[]⟩ : ByteArray), .slice none 0 0, .slice none 0 0] 37 (0, 0)) QQ hb); have n4_ := Y0.mk (Y1.trans QK (Y1.of_below hb g none) (.inl rfl)); have n5_ := Y0.mk (Y8 QB hb); have n6_ := Y0.mk (hbox); have n7_ := Y0.mk ((by rw [hg]; exact (Y7 (w := w) (g := g) (row := none) QK) : w.heap.size ≤ gb114)); have n8_ := Y0.mk ((Nat.le_trans HW0.out (by rw [hg]; exact (Y7 (w := w) (g := g) (row := none) QK) : w.heap.size ≤ gb114) : w0.heap.size ≤ gb114)); have n9_ := Y0.mk ((by rw [hg]; exact Nat.ne_of_lt (Y14 (g := gb101) (o := .cells #[.int .i64 0, .string (⟨#[]⟩ : ByteArray), .slice none 0 0, .slice none 0 0] 37 (0, 0)) QQ) : gb101 ≠ gb114)); have n10_ := Y0.mk ((by rw [hg]; exact Nat.ne_of_gt (Y14 (g := gb101) (o := .cells #[.int .i64 0, .string (⟨#[]⟩ : ByteArray), .slice none 0 0, .slice none 0 0] 37 (0, 0)) QQ) : gb114 ≠ gb101)); have n11_ := Y0.mk ((by rw [hg]; exact Nat.ne_of_lt (Yw.lt (show Yw w0 _ g t110 t111 t112 t113 from QI75_0)) : g ≠ gb114)); have n12_ := Y0.mk ((by rw [hg]; exact Nat.ne_of_gt (Yw.lt (show Yw w0 _ g t110 t111 t112 t113 from QI75_0)) : gb114 ≠ g)); clear HO106 HO109 HI0 BK101 HK HB; have HO106 := n0_; have HO109 := n1_; have HI0 := n2_; have BK101 := n3_; have HK := n4_; have HB := n5_; have BK114 := n6_; have GW114 := n7_; have GE114 := n8_; have NB101_114 := n9_; have NB114_101 := n10_; have NB0_114 := n11_; have NB114_0 := n12_; clear n0_ n1_ n2_ n3_ n4_ n5_ n6_ n7_ n8_ n9_ n10_ n11_ n12_ hb hbox hg; have hnb7 := NB114_101.out; have hnc7 := NB101_114.out; have hnb8 := NB114_0.out; have hnc8 := NB0_114.out; obtain ⟨hcz9_0, hcz9_1, hcz9_2, hcz9_3, hfz9_0, hfz9_1, hfz9_2, hfz9_3⟩ := YA BK114.out; obtain ⟨Ao10, co10, eo10⟩ := Kd.R_slice HO106.out; subst eo10; obtain ⟨Ao11, co11, eo11⟩ := Kd.N_slice HO109.out; subst eo11))
 go_loopg [] k (fun kq w' => ∃ (x1000_1 : ByteArray) (x1001_1 : Int) (x1002_1 : Int) (x1003_1 : Int) (x115000_1 : Int) (x115001_1 : ByteArray) (x115002_1 : List ByteArray) (x115003_1 : List (S37)) (u115002 : Value) (u115003 : Value), Y0 (Yq.l0 kq a1 x1000_1 x1001_1 x1002_1 x1003_1 x115000_1 x115001_1 x115002_1 x115003_1 = some (r1, r2, r3, r4, r5, r6, r7, r8)) ∧ Y0 (kq ≤ k) ∧ Y0 (Kd.R Kd.string 9 w' w.heap.size (fun k_ => (w.heap.size ≤ k_)) u115002 x115002_1) ∧ Y0 (Kd.N k37 37 w' w.heap.size (fun k_ => (w.heap.size ≤ k_) ∧ some k_ ≠ (u115002 : Value).ownBlock ∧ k_ ≠ gb101 ∧ k_ ≠ gb114 ∧ k_ ≠ g) u115003 x115003_1) ∧ Y0 (w'.heap[gb101]? = some (.cells #[.int .i64 0, .string (⟨#[]⟩ : ByteArray), (.slice none 0 0), (.slice none 0 0)] 37 (0, 0))) ∧ Y0 (w'.heap[gb114]? = some (.cells #[.int .i64 x115000_1, .string x115001_1, u115002, u115003] 37 (0, 0))) ∧ Y0 (Yw w0 w' g x1000_1 x1001_1 x1002_1 x1003_1) ∧ Y0 (Y1 w w' g none) ∧ Y0 (Below w0.heap.size w0 w'))
 case atStart => exact ⟨(t110), (t111), (t112), (t113), (t102), (t103), (t104), (t107), (.slice Ao10 t104.length co10), (.slice Ao11 t107.length co11), H', ⟨Nat.le_refl _⟩, ⟨Z17⟩, ⟨ZK⟩, ⟨Zh⟩, ⟨Z2l⟩, ⟨QI75_0⟩, ⟨QK⟩, ⟨QB⟩⟩
 case round =>
  clear H'
  try clear p2
  try clear c5
  try clear c7
  try clear c8
  try clear c9
  try clear hcz9_0 hcz9_1 hcz9_2 hcz9_3 hfz9_0 hfz9_1 hfz9_2 hfz9_3
  obtain ⟨x1000_1, x1001_1, x1002_1, x1003_1, x115000_1, x115001_1, x115002_1, x115003_1, u115002, u115003, HA, HK1, HO_115002, HO_115003, BK101, BK114, HI0, HK, HB⟩ := hrel
  cases gk with
  | zero => exact absurd HA.out (by simp [Yq.l0])
  | succ k1 =>
   have H := HA.out
   clear HA
   simp only [Yq.l0] at H
   replace H := Option.bind_eq_some_iff.mp H
   obtain ⟨⟨t115, t116, t117, t118, t119⟩, A120, H⟩ := H
   replace H : (if t115 = true then ((Yz.f k1 t116 t117 t118 t119 a1).bind fun bt120 => (Yq.l0 k1 a1 bt120.2.2.2.2.1 bt120.2.2.2.2.2.1 bt120.2.2.2.2.2.2.1 bt120.2.2.2.2.2.2.2 4 (⟨#[]⟩ : ByteArray) ([] : List ByteArray) (([(⟨x115000_1, x115001_1, x115002_1, x115003_1⟩ : S37), (⟨bt120.1, bt120.2.1, bt120.2.2.1, bt120.2.2.2.1⟩ : S37)] : List (S37))))) else (some (x115000_1, x115001_1, x115002_1, x115003_1, t116, t117, t118, t119))) = some (r1, r2, r3, r4, r5, r6, r7, r8) := H
   have A12 := Y0.mk A120
   clear A120
   by_cases c13 : t115 = true
   ·subst c13
    have H1 : ((Yz.f k1 t116 t117 t118 t119 a1).bind fun bt120 => (Yq.l0 k1 a1 bt120.2.2.2.2.1 bt120.2.2.2.2.2.1 bt120.2.2.2.2.2.2.1 bt120.2.2.2.2.2.2.2 4 (⟨#[]⟩ : ByteArray) ([] : List ByteArray) (([(⟨x115000_1, x115001_1, x115002_1, x115003_1⟩ : S37), (⟨bt120.1, bt120.2.1, bt120.2.2.1, bt120.2.2.2.1⟩ : S37)] : List (S37))))) = some (r1, r2, r3, r4, r5, r6, r7, r8) := by rw [if_pos rfl] at H; exact H
    clear H
    have H := H1
    clear H1
    replace H := Option.bind_eq_some_iff.mp H
    obtain ⟨⟨t120, t121, t122, t125, t128, t129, t130, t131⟩, A140, H⟩ := H
    replace H : (Yq.l0 k1 a1 t128 t129 t130 t131 4 (⟨#[]⟩ : ByteArray) ([] : List ByteArray) (([(⟨x115000_1, x115001_1, x115002_1, x115003_1⟩ : S37), (⟨t120, t121, t122, t125⟩ : S37)] : List (S37)))) = some (r1, r2, r3, r4, r5, r6, r7, r8) := H
    have A14 := Y0.mk A140
    clear A140
    obtain ⟨y132, hy132⟩ : ∃ y_ : List (S37), y_ = (([(⟨x115000_1, x115001_1, x115002_1, x115003_1⟩ : S37), (⟨t120, t121, t122, t125⟩ : S37)] : List (S37))) := ⟨_, rfl⟩
    replace H : (Yq.l0 k1 a1 t128 t129 t130 t131 4 (⟨#[]⟩ : ByteArray) ([] : List ByteArray) y132) = some (r1, r2, r3, r4, r5, r6, r7, r8) := by first | (rw [hy132]; with_reducible exact H) | (have H2_ := (Option.bind_some _ _).symm.trans H; rw [hy132]; with_reducible exact H2_) | (have H2_ := (Option.bind_some _ _).symm.trans H; with_reducible exact H2_) | with_reducible exact H | (rw [hy132]; exact H) | exact H
    have Ny132 := Y0.mk hy132
    clear hy132
    have H' := Y0.mk H
    clear H
    try go_wp2_with (first | ((with_reducible refine Yl (f := 95) rfl ?_); refine YO (some 10) rfl rfl Tryd.func95 Z4 rfl #[.pointer (some ⟨g, 0, none⟩), .int .u8 124] rfl Z0 ?_; (with_reducible refine (YS.calls k1 g x1000_1 x1001_1 x1002_1 x1003_1 124 true t116 t117 t118 t119 w0 _ ?side1 ?side2 A12.out).mono ?_); (case side1 => exact Z1k); (case side2 => exact QB); rintro e w15 ⟨rfl, hi, hb, hk⟩; refine ⟨_, rfl, ?_⟩; have n0_ := Y0.mk (Kd.R_mono (Kd.R_keep (Yw.apart (show Yw w0 _ g x1000_1 x1001_1 x1002_1 x1003_1 from QI75_0) Zs (by decide)) hk (fun _ h => h.2)) (fun _ h => h.1)); have n1_ := Y0.mk (Kd.N_mono (Kd.N_keep (Kd.N_mono (ok := fun k_ => (((w.heap.size ≤ k_)) ∧ (some k_ ≠ (u115002 : Value).ownBlock ∧ (k_ ≠ gb101 ∧ (k_ ≠ gb114 ∧ k_ ≠ g))))) ZE (fun k_ hk_ => (⟨hk_, hk_.2.2.2.2⟩ : _ ∧ k_ ≠ g))) hk (fun _ h => h.2)) (fun _ h => h.1)); have n2_ := Y0.mk (Y1.blk hk (g' := gb101) (o := .cells #[.int .i64 0, .string (⟨#[]⟩ : ByteArray), .slice none 0 0, .slice none 0 0] 37 (0, 0)) QQ NB101_0.out (by simp)); have n3_ := Y0.mk (Y1.blk hk (g' := gb114) (o := .cells #[.int .i64 x115000_1, .string x115001_1, u115002, u115003] 37 (0, 0)) QQ NB114_0.out (by simp)); have n4_ := Y0.mk (Y1.trans QK hk (.inl rfl)); have n5_ := Y0.mk (hb); have n6_ := Y0.mk (hi); clear HO_115002 HO_115003 BK101 BK114 HK HB HI0; have HO_115002 := n0_; have HO_115003 := n1_; have BK101 := n2_; have BK114 := n3_; have HK := n4_; have HB := n5_; have HI0 := n6_; clear n0_ n1_ n2_ n3_ n4_ n5_ n6_; (try clear hb); (try clear hb2); (try clear hk); (try clear hi)))
    have n_ := put7 (Kd.R_drew HO_115002.out) (Kd.N_drew HO_115003.out) (Yb BK101.out) (Yb BK114.out) (Yw.drew HI0.out) (Y1G HK.out) (YP HB.out)
    clear HO_115002
    clear HO_115003
    clear BK101
    clear BK114
    clear HI0
    clear HK
    clear HB
    obtain ⟨HO_115002, HO_115003, BK101, BK114, HI0, HK, HB⟩ := n_
    refine Y1m (n := 7) (S := fun w' => w'.cell? ⟨gb114, 0, none⟩ = some (.int .i64 x115000_1) ∧ w'.cell? ⟨gb114, 1, none⟩ = some (.string x115001_1) ∧ w'.cell? ⟨gb114, 2, none⟩ = some (u115002) ∧ w'.cell? ⟨gb114, 3, none⟩ = some (u115003)) (ds := [6]) bz7_0 Z4 rfl rfl ⟨(Y2 BK114.out 0).trans rfl, (Y2 BK114.out 1).trans rfl, (Y2 BK114.out 2).trans rfl, (Y2 BK114.out 3).trans rfl⟩ (fun hHeld => ?_)
    generalize w15.drew = w16 at HO_115002 HO_115003 BK101 BK114 HI0 HK HB hHeld ⊢
    refine Y3Z (i := 1) (N := some 12) (v := ?_) (a' := ?_) bz7_2 rfl rfl Z4 (fun _ _ _ h => h) (Or.inl ⟨by rfl, ?_⟩) ?_ ?_
    rotate_left
    ·intro w'
     go_simp
     with_reducible rfl
    rotate_left
    ·simp only [Act.put, List.setIfInBounds_toArray, List.set_cons_zero, List.set_cons_succ, Y16, Y17]
     rfl
    refine Y3Z (i := 2) (N := some 13) (v := ?_) (a' := ?_) bz7_6 rfl rfl Z4 (fun _ _ _ h => h) (Or.inl ⟨by rfl, ?_⟩) ?_ ?_
    rotate_left
    ·intro w'
     go_simp
     with_reducible rfl
    rotate_left
    ·simp only [Act.put, List.setIfInBounds_toArray, List.set_cons_zero, List.set_cons_succ, Y16, Y17]
     rfl
    refine Y6c (i := 0) (N := some 11) (v := ?_) (a' := ?_) bz7_7 rfl rfl Z4 (fun _ _ _ h => h) (Or.inl ⟨by rfl, ?_⟩) hHeld ?_ ?_
    rotate_left
    ·rintro w' ⟨s0, s1, s2, s3⟩
     go_simp
     with_reducible rfl
    rotate_left
    ·simp only [Act.put, List.setIfInBounds_toArray, List.set_cons_zero, List.set_cons_succ, Y16, Y17]
     rfl
    refine Y2Q (i := 3) (N := some 14) bz7_f rfl rfl Z4 (by decide) (fun K hK => ?_)
    refine Y1Q Tryd.func94 Z4 rfl #[.pointer (some ⟨g, 0, none⟩), .int .i64 a1] (by rfl) rfl rfl Z0 ?_
    with_reducible refine ((ih k1 ZV).2.1 g t116 t117 t118 t119 a1 t120 t121 t122 t125 t128 t129 t130 t131 w0 _ ?side1 ?side2 ?side3 A14.out).mono ?_
    (case side1 => exact Z1k)
    (case side2 => exact QB)
    (case side3 => exact Z22)
    rintro e w17 ⟨v123, v126, rfl, ho0, ho1, hi, hb, hk⟩
    refine ⟨_, rfl, ?_⟩
    have n0_ := Y0.mk (Kd.R_mono (Kd.R_told (Kd.R_oldK (Yw.apart (show Yw w0 _ g t116 t117 t118 t119 from QI75_0) Zs (by decide)) hk) (Kd.R_base ho0)) (fun _ h_ => h_.1))
    have n1_ := Y0.mk (Kd.N_mono (Kd.N_told (Kd.N_told (Kd.N_oldK (Kd.N_mono (ok := fun k_ => (((w.heap.size ≤ k_)) ∧ (some k_ ≠ (u115002 : Value).ownBlock ∧ (k_ ≠ gb101 ∧ (k_ ≠ gb114 ∧ k_ ≠ g))))) ZE (fun k_ hk_ => (⟨hk_, hk_.2.2.2.2⟩ : _ ∧ k_ ≠ g))) hk) (Kd.R_base ho0)) (Kd.N_base ho1)) (fun _ h_ => h_.1))
    have n2_ := Y0.mk (Y1.blk hk (g' := gb101) (o := .cells #[.int .i64 0, .string (⟨#[]⟩ : ByteArray), .slice none 0 0, .slice none 0 0] 37 (0, 0)) QQ NB101_0.out (by simp))
    have n3_ := Y0.mk (Y1.blk hk (g' := gb114) (o := .cells #[.int .i64 x115000_1, .string x115001_1, u115002, u115003] 37 (0, 0)) QQ NB114_0.out (by simp))
    have n4_ := Y0.mk (Kd.R_lower (Kd.R_new' (Kd.R_newM (M := fun k_ => (w.heap.size ≤ k_)) (Kd.R_mono (ok' := fun k_ => True) ho0 (fun _ hk_ => trivial)) (Y7 (w := w) (g := g) (row := none) QK) (fun k_ h_ => h_)) (Kd.R_lt Zs)) (Y7 (w := w) (g := g) (row := none) QK))
    have n5_ := Y0.mk (Kd.N_lower (Kd.N_mono (ok' := fun k_ => (w.heap.size ≤ k_) ∧ some k_ ≠ (v123 : Value).ownBlock ∧ some k_ ≠ (u115002 : Value).ownBlock ∧ some k_ ≠ (u115003 : Value).ownBlock ∧ k_ ≠ gb101 ∧ k_ ≠ gb114 ∧ k_ ≠ g) ho1 (fun k_ hk_ => ⟨(Nat.le_trans (Y7 (w := w) (g := g) (row := none) QK) hk_.1), hk_.2, (Kd.fresh' (Kd.R_lt Zs) k_ hk_.1), (Kd.fresh' (Kd.N_lt ZE) k_ hk_.1), (Kd.freshB (g := gb101) (o := .cells #[.int .i64 0, .string (⟨#[]⟩ : ByteArray), .slice none 0 0, .slice none 0 0] 37 (0, 0)) QQ k_ hk_.1), (Kd.freshB (g := gb114) (o := .cells #[.int .i64 x115000_1, .string x115001_1, u115002, u115003] 37 (0, 0)) QQ k_ hk_.1), (Yw.fresh QI75_0 k_ hk_.1)⟩)) (Y7 (w := w) (g := g) (row := none) QK))
    have n6_ := Y0.mk (Y1.trans QK hk (.inl rfl))
    have n7_ := Y0.mk (hb)
    have n8_ := Y0.mk (hi)
    clear HO_115002
    clear HO_115003
    clear BK101
    clear BK114
    clear HK
    clear HB
    clear HI0
    have HO_115002 := n0_
    have HO_115003 := n1_
    have BK101 := n2_
    have BK114 := n3_
    have HO124 := n4_
    have HO127 := n5_
    have HK := n6_
    have HB := n7_
    have HI0 := n8_
    clear n0_ n1_ n2_ n3_ n4_ n5_ n6_ n7_ n8_
    (try clear hb)
    (try clear hb2)
    (try clear hk)
    (try clear hi)
    (try clear ho0)
    (try clear ho1)
    obtain ⟨Ao18, co18, eo18⟩ := Kd.R_slice HO_115002.out
    (first | subst eo18 | (injection eo18 with f1_ f2_ f3_; have f4_ := f1_.symm; have f5_ := f3_.symm; clear f1_ f2_ f3_; subst f4_; subst f5_))
    obtain ⟨Ao19, co19, eo19⟩ := Kd.N_slice HO_115003.out
    (first | subst eo19 | (injection eo19 with f1_ f2_ f3_; have f4_ := f1_.symm; have f5_ := f3_.symm; clear f1_ f2_ f3_; subst f4_; subst f5_))
    obtain ⟨Ao20, co20, eo20⟩ := Kd.R_slice HO124.out
    (first | subst eo20 | (injection eo20 with f1_ f2_ f3_; have f4_ := f1_.symm; have f5_ := f3_.symm; clear f1_ f2_ f3_; subst f4_; subst f5_))
    obtain ⟨Ao21, co21, eo21⟩ := Kd.N_slice HO127.out
    (first | subst eo21 | (injection eo21 with f1_ f2_ f3_; have f4_ := f1_.symm; have f5_ := f3_.symm; clear f1_ f2_ f3_; subst f4_; subst f5_))
    refine hK.out _ _ ⟨(Y2 BK114.out 0).trans rfl, (Y2 BK114.out 1).trans rfl, (Y2 BK114.out 2).trans rfl, (Y2 BK114.out 3).trans rfl⟩ (fun hHeld => ?_)
    clear hK K
    refine Y1A (a' := ?_) ?_ ?_
    rotate_left
    ·show Act.put _ (some 14) _ = _
     simp only [Act.put, List.setIfInBounds_toArray, List.set_cons_zero, List.set_cons_succ, Y16, Y17]
     rfl
    refine Y2Q (i := 4) (N := some 15) Y6n rfl rfl Z4 (by decide) (fun K hK => ?_)
    refine Kd.N_lit_step k37 _ 37 ?hg (N' := 15) ?hd (xs := ([(⟨x115000_1, x115001_1, x115002_1, x115003_1⟩ : S37), (⟨t120, t121, t122, t125⟩ : S37)] : List (S37))) (inner := [.int .i64 x115000_1, .string x115001_1, .slice Ao18 x115002_1.length co18, .slice Ao19 x115003_1.length co19, .int .i64 t120, .string t121, .slice Ao20 t122.length co20, .slice Ao21 t125.length co21]) (ok := (fun k_ => (w.heap.size ≤ k_) ∧ k_ ≠ gb101 ∧ k_ ≠ gb114 ∧ k_ ≠ g)) (okp := (fun k_ => (w.heap.size ≤ k_) ∧ k_ ≠ gb101 ∧ k_ ≠ gb114 ∧ k_ ≠ g)) ?hr ?hp (fun _ hk => hk) ((show ∀ k_, w17.heap.size ≤ k_ → (fun k_ => (w.heap.size ≤ k_) ∧ k_ ≠ gb101 ∧ k_ ≠ gb114 ∧ k_ ≠ g) k_ from fun k_ hk => ⟨(Nat.le_trans (Y7 (w := w) (g := g) (row := none) QK) hk), Kd.freshB (g := gb101) (o := .cells #[.int .i64 0, .string (⟨#[]⟩ : ByteArray), .slice none 0 0, .slice none 0 0] 37 (0, 0)) QQ k_ hk, Kd.freshB (g := gb114) (o := .cells #[.int .i64 x115000_1, .string x115001_1, .slice Ao18 x115002_1.length co18, .slice Ao19 x115003_1.length co19] 37 (0, 0)) QQ k_ hk, Yw.fresh QI75_0 k_ hk⟩) _ (Nat.le_refl _)) (Below.refl _ _) (Nat.le_refl _) (by simp) ?_; (case hd => rfl); (case hg => rfl); (case hr => exact Zb); (case hp => exact (Y1F.c4 (show Kd.FK k37 _ _ (⟨x115000_1, x115001_1, x115002_1, x115003_1⟩ : S37) [.int .i64 x115000_1, .string x115001_1, .slice Ao18 x115002_1.length co18, .slice Ao19 x115003_1.length co19] from (Y2g _ _ (⟨x115000_1, x115001_1, x115002_1, x115003_1⟩ : S37) (Kd.R_reads' (Kd.R_mono (ok' := (fun k_ => (w.heap.size ≤ k_) ∧ k_ ≠ gb101 ∧ k_ ≠ gb114 ∧ k_ ≠ g)) (Yw.apart HI0.out (Kd.R_types (Kd.R_types (HO_115002.out) BK101.out (by decide)) BK114.out (by decide)) (by decide)) (fun k_ hk => ⟨hk.1.1.1.1, ⟨hk.1.1.2, ⟨hk.1.2, hk.2⟩⟩⟩))).2.1 (Kd.R_F (Kd.R_mono (ok' := (fun k_ => (w.heap.size ≤ k_) ∧ k_ ≠ gb101 ∧ k_ ≠ gb114 ∧ k_ ≠ g)) (Yw.apart HI0.out (Kd.R_types (Kd.R_types (HO_115002.out) BK101.out (by decide)) BK114.out (by decide)) (by decide)) (fun k_ hk => ⟨hk.1.1.1.1, ⟨hk.1.1.2, ⟨hk.1.2, hk.2⟩⟩⟩))) (Kd.N_reads' (Kd.N_mono (ok' := (fun k_ => (w.heap.size ≤ k_) ∧ k_ ≠ gb101 ∧ k_ ≠ gb114 ∧ k_ ≠ g)) (HO_115003.out) (fun k_ hk => ⟨hk.1.1.1, ⟨hk.1.1.2.2.1, ⟨hk.1.1.2.2.2.1, hk.1.1.2.2.2.2⟩⟩⟩))).2.1 (Kd.N_F (Kd.N_mono (ok' := (fun k_ => (w.heap.size ≤ k_) ∧ k_ ≠ gb101 ∧ k_ ≠ gb114 ∧ k_ ≠ g)) (HO_115003.out) (fun k_ hk => ⟨hk.1.1.1, ⟨hk.1.1.2.2.1, ⟨hk.1.1.2.2.2.1, hk.1.1.2.2.2.2⟩⟩⟩))))) (Y1F.c4 (show Kd.FK k37 _ _ (⟨t120, t121, t122, t125⟩ : S37) [.int .i64 t120, .string t121, .slice Ao20 t122.length co20, .slice Ao21 t125.length co21] from (Y2g _ _ (⟨t120, t121, t122, t125⟩ : S37) (Kd.R_reads' (Kd.R_mono (ok' := (fun k_ => (w.heap.size ≤ k_) ∧ k_ ≠ gb101 ∧ k_ ≠ gb114 ∧ k_ ≠ g)) (Yw.apart HI0.out (Kd.R_types (Kd.R_types (HO124.out) BK101.out (by decide)) BK114.out (by decide)) (by decide)) (fun k_ hk => ⟨hk.1.1.1.1.1, ⟨hk.1.1.2, ⟨hk.1.2, hk.2⟩⟩⟩))).2.1 (Kd.R_F (Kd.R_mono (ok' := (fun k_ => (w.heap.size ≤ k_) ∧ k_ ≠ gb101 ∧ k_ ≠ gb114 ∧ k_ ≠ g)) (Yw.apart HI0.out (Kd.R_types (Kd.R_types (HO124.out) BK101.out (by decide)) BK114.out (by decide)) (by decide)) (fun k_ hk => ⟨hk.1.1.1.1.1, ⟨hk.1.1.2, ⟨hk.1.2, hk.2⟩⟩⟩))) (Kd.N_reads' (Kd.N_mono (ok' := (fun k_ => (w.heap.size ≤ k_) ∧ k_ ≠ gb101 ∧ k_ ≠ gb114 ∧ k_ ≠ g)) (HO127.out) (fun k_ hk => ⟨hk.1, ⟨hk.2.2.2.2.1, ⟨hk.2.2.2.2.2.1, hk.2.2.2.2.2.2⟩⟩⟩))).2.1 (Kd.N_F (Kd.N_mono (ok' := (fun k_ => (w.heap.size ≤ k_) ∧ k_ ≠ gb101 ∧ k_ ≠ gb114 ∧ k_ ≠ g)) (HO127.out) (fun k_ hk => ⟨hk.1, ⟨hk.2.2.2.2.1, ⟨hk.2.2.2.2.2.1, hk.2.2.2.2.2.2⟩⟩⟩))))) (Y1F.none _ _))))
    intro v133 w22 ho23 hb hg_ hnew_
    clear hg_ hnew_
    (first | rw [← Ny132.out] at ho23 | (simp only [Int.reduceToNat] at ho23; rw [← Ny132.out] at ho23))
    have n_ := Y3t (Kd.N_lower ho23 (Y7 (w := w) (g := g) (row := none) QK)) (Yt (g := gb101) (o := .cells #[.int .i64 0, .string (⟨#[]⟩ : ByteArray), .slice none 0 0, .slice none 0 0] 37 (0, 0)) QQ hb) (Yt (g := gb114) (o := .cells #[.int .i64 x115000_1, .string x115001_1, .slice Ao18 x115002_1.length co18, .slice Ao19 x115003_1.length co19] 37 (0, 0)) QQ hb) (Yw.below QI75_0 hb) (Y1.trans QK (Y1.of_below hb g none) (.inl rfl)) (Y8 QB hb)
    clear BK101
    clear BK114
    clear HI0
    clear HK
    clear HB
    clear HO124
    clear HO127
    clear HO_115002
    clear HO_115003
    obtain ⟨HO134, BK101, BK114, HI0, HK, HB⟩ := n_
    clear hb ho23
    obtain ⟨Ao24, co24, eo24⟩ := Kd.N_slice HO134.out
    (first | subst eo24 | (injection eo24 with f1_ f2_ f3_; have f4_ := f1_.symm; have f5_ := f3_.symm; clear f1_ f2_ f3_; subst f4_; subst f5_))
    refine hK.out _ _ ⟨(Y2 BK114.out 0).trans rfl, (Y2 BK114.out 1).trans rfl, (Y2 BK114.out 2).trans rfl, (Y2 BK114.out 3).trans rfl⟩ (fun hHeld => ?_)
    clear hK K
    refine Y1A (a' := ?_) ?_ ?_
    rotate_left
    ·show Act.put _ (some 15) _ = _
     simp only [Act.put, List.setIfInBounds_toArray, List.set_cons_zero, List.set_cons_succ, Y16, Y17]
     rfl
    refine Y3Z (i := 5) (N := some 16) (v := ?_) (a' := ?_) Y6o rfl rfl Z4 (fun _ _ _ h => h) (Or.inl ⟨by rfl, ?_⟩) ?_ ?_
    rotate_left
    ·intro w'
     go_simp
     with_reducible rfl
    rotate_left
    ·simp only [Act.put, List.setIfInBounds_toArray, List.set_cons_zero, List.set_cons_succ, Y16, Y17]
     rfl
    refine Y6H (i := 6) (N := none) Y6p rfl rfl Z4 (by decide) (fun K hK => ?_)
    have hs25 : w22.cell? ⟨gb114, 0, none⟩ = some (.int .i64 x115000_1) := (Y2 BK114.out 0).trans rfl
    have hfs25 := Y6 BK114.out 0
    have hns25_0 := NB101_114.out
    have hms25_0 := NB114_101.out
    have hs26 : w22.cell? ⟨gb114, 1, none⟩ = some (.string x115001_1) := (Y2 BK114.out 1).trans rfl
    have hfs26 := Y6 BK114.out 1
    have hns26_0 := NB101_114.out
    have hms26_0 := NB114_101.out
    have hs27 : w22.cell? ⟨gb114, 2, none⟩ = some (.slice Ao18 x115002_1.length co18) := (Y2 BK114.out 2).trans rfl
    have hfs27 := Y6 BK114.out 2
    have hns27_0 := NB101_114.out
    have hms27_0 := NB114_101.out
    have hs28 : w22.cell? ⟨gb114, 3, none⟩ = some (.slice Ao19 x115003_1.length co19) := (Y2 BK114.out 3).trans rfl
    have hfs28 := Y6 BK114.out 3
    have hns28_0 := NB101_114.out
    have hms28_0 := NB114_101.out
    refine Y4W (w1 := ?_) (by rfl) rfl ?_ ?_
    rotate_left
    ·go_simp
     rfl
    refine hK.out _ _ ?_
    clear hK K
    refine Y1S Z4 ?_
    try go_wp2
    go_roundg k1
    case measure => have := HK1.out; omega
    case rel => exact ⟨(t128), (t129), (t130), (t131), (4), ((⟨#[]⟩ : ByteArray)), (([] : List ByteArray)), (y132), (.slice none 0 0), (.slice Ao24 y132.length co24), H', ⟨ZV⟩, ⟨Z5⟩, ⟨ZI⟩, ⟨Zh⟩, ⟨Zv⟩, ⟨QI75_0⟩, ⟨QK⟩, ⟨QB⟩⟩
   ·replace c13 := Bool.eq_false_iff.mpr c13
    subst c13
    have H1 : (some (x115000_1, x115001_1, x115002_1, x115003_1, t116, t117, t118, t119)) = some (r1, r2, r3, r4, r5, r6, r7, r8) := by rw [if_neg (show ¬ (false = true) by decide)] at H; exact H
    clear H
    have H := H1
    clear H1
    simp only [Option.some.injEq, Prod.mk.injEq] at H
    obtain ⟨rfl, rfl, rfl, rfl, rfl, rfl, rfl, rfl⟩ := H
    go_wp2_with (first | ((with_reducible refine Yl (f := 95) rfl ?_); refine YO (some 10) rfl rfl Tryd.func95 Z4 rfl #[.pointer (some ⟨g, 0, none⟩), .int .u8 124] rfl Z0 ?_; (with_reducible refine (YS.calls k1 g x1000_1 x1001_1 x1002_1 x1003_1 124 false t116 t117 t118 t119 w0 _ ?side1 ?side2 A12.out).mono ?_); (case side1 => exact Z1k); (case side2 => exact QB); rintro e w29 ⟨rfl, hi, hb, hk⟩; refine ⟨_, rfl, ?_⟩; have n0_ := Y0.mk (Kd.R_mono (Kd.R_keep (Yw.apart (show Yw w0 _ g x1000_1 x1001_1 x1002_1 x1003_1 from QI75_0) Zs (by decide)) hk (fun _ h => h.2)) (fun _ h => h.1)); have n1_ := Y0.mk (Kd.N_mono (Kd.N_keep (Kd.N_mono (ok := fun k_ => (((w.heap.size ≤ k_)) ∧ (some k_ ≠ (u115002 : Value).ownBlock ∧ (k_ ≠ gb101 ∧ (k_ ≠ gb114 ∧ k_ ≠ g))))) ZE (fun k_ hk_ => (⟨hk_, hk_.2.2.2.2⟩ : _ ∧ k_ ≠ g))) hk (fun _ h => h.2)) (fun _ h => h.1)); have n2_ := Y0.mk (Y1.blk hk (g' := gb101) (o := .cells #[.int .i64 0, .string (⟨#[]⟩ : ByteArray), .slice none 0 0, .slice none 0 0] 37 (0, 0)) QQ NB101_0.out (by simp)); have n3_ := Y0.mk (Y1.blk hk (g' := gb114) (o := .cells #[.int .i64 x115000_1, .string x115001_1, u115002, u115003] 37 (0, 0)) QQ NB114_0.out (by simp)); have n4_ := Y0.mk (Y1.trans QK hk (.inl rfl)); have n5_ := Y0.mk (hb); have n6_ := Y0.mk (hi); clear HO_115002 HO_115003 BK101 BK114 HK HB HI0; have HO_115002 := n0_; have HO_115003 := n1_; have BK101 := n2_; have BK114 := n3_; have HK := n4_; have HB := n5_; have HI0 := n6_; clear n0_ n1_ n2_ n3_ n4_ n5_ n6_; (try clear hb); (try clear hb2); (try clear hk); (try clear hi); have hnb30 := NB114_101.out; have hnc30 := NB101_114.out; have hnb31 := NB114_0.out; have hnc31 := NB0_114.out; obtain ⟨hcz32_0, hcz32_1, hcz32_2, hcz32_3, hfz32_0, hfz32_1, hfz32_2, hfz32_3⟩ := YA BK114.out; have hnb33 := NB101_0.out; have hnc33 := NB0_101.out; obtain ⟨hcz34_0, hcz34_1, hcz34_2, hcz34_3, hfz34_0, hfz34_1, hfz34_2, hfz34_3⟩ := YA BK101.out; obtain ⟨Ao35, co35, eo35⟩ := Kd.R_slice HO_115002.out; subst eo35; obtain ⟨Ao36, co36, eo36⟩ := Kd.N_slice HO_115003.out; subst eo36))
    refine bodyPost_ret (results_cell_row rfl _ _ gb101 37 #[.int .i64 x115000_1, .string x115001_1, .slice Ao35 x115002_1.length co35, .slice Ao36 x115003_1.length co36] (0, 0) _ rfl Z2h Tryd.underlying37 rfl Z4) rfl ?_
    exact ⟨_, _, Z2, Z11, ZO, QI75_0, QB, QK⟩
set_option maxHeartbeats 8000000 in
set_option maxRecDepth 100000 in
theorem Yz.step (k : Nat) (ih : ∀ j_ < k, Yq.Spec j_ ∧ Yz.Spec j_ ∧ Yi.Spec j_ ∧ YH.Spec j_ ∧ YN.Spec j_) : ∀ (g : Nat) (s0_0 : ByteArray) (s0_1 : Int) (s0_2 : Int) (s0_3 : Int) (a1 : Int) (r1 : Int) (r2 : ByteArray) (r3 : List ByteArray) (r4 : List (S37)) (r5 : ByteArray) (r6 : Int) (r7 : Int) (r8 : Int) (w0 w : World) (hI : Yw w0 w g s0_0 s0_1 s0_2 s0_3) (hB : Below w0.heap.size w0 w) (hT : Tabs w0) (h : Yz.f k s0_0 s0_1 s0_2 s0_3 a1 = some (r1, r2, r3, r4, r5, r6, r7, r8)),
  Calls Tryd.prog 94 #[.pointer (some ⟨g, 0, none⟩), .int .i64 a1] w fun e w' => ∃ v2_ v3_ : Value, e = .returned (.agg #[.int .i64 r1, .string r2, v2_, v3_]) ∧ Kd.R Kd.string 9 w' w.heap.size (fun k_ => (w.heap.size ≤ k_)) v2_ r3 ∧ Kd.N k37 37 w' w.heap.size (fun k_ => (w.heap.size ≤ k_) ∧ some k_ ≠ (v2_ : Value).ownBlock) v3_ r4 ∧ Yw w0 w' g r5 r6 r7 r8 ∧ Below w0.heap.size w0 w' ∧ Y1 w w' g none := by
 intro g s0_0 s0_1 s0_2 s0_3 a1 r1 r2 r3 r4 r5 r6 r7 r8 w0 w hI hB hT h
 cases k with
 | zero => exact absurd h (by simp [Yz.f])
 | succ k =>
 simp only [Yz.f] at h
 have HT := Y0.mk hT
 clear hT
 have hu37 := Tryd.underlying37
 have HI0 := Y0.mk hI
 have HK := Y0.mk (Y1.refl w g none)
 have HL := Y0.mk hB.size
 clear hI
 have HW0 := Y0.mk hB.size
 have HB := Y0.mk hB
 clear hB
 have H : ((Yi.f k s0_0 s0_1 s0_2 s0_3 a1).bind fun bt136 => (Yz.l0 k a1 bt136.2.2.2.2.1 bt136.2.2.2.2.2.1 bt136.2.2.2.2.2.2.1 bt136.2.2.2.2.2.2.2 bt136.1 bt136.2.1 bt136.2.2.1 bt136.2.2.2.1)) = some (r1, r2, r3, r4, r5, r6, r7, r8) := h
 clear h
 replace H := Option.bind_eq_some_iff.mp H
 obtain ⟨⟨t136, t137, t138, t141, t144, t145, t146, t147⟩, A30, H⟩ := H
 replace H : (Yz.l0 k a1 t144 t145 t146 t147 t136 t137 t138 t141) = some (r1, r2, r3, r4, r5, r6, r7, r8) := H
 have A3 := Y0.mk A30
 clear A30
 have H' := Y0.mk H
 clear H
 go_enter Tryd.func94, Tryd.ntmps94
 go_wp2_with (first | ((with_reducible refine YF (N := 4) rfl ?_); refine YD ?hg (N := 4) ?hd (cs := #[.int .i64 0, .string (⟨#[]⟩ : ByteArray), .slice none 0 0, .slice none 0 0]) (t := 37) ?hr ?_; (case hd => rfl); (case hg => rfl); (case hr => exact Zb); intro gb135 hg w4 hbox hb; have n_ := Y4q (Yw.below QI75_0 hb) (Y1.trans QK (Y1.of_below hb g none) (.inl rfl)) (Y8 QB hb) (hbox) ((by rw [hg]; exact (Y7 (w := w) (g := g) (row := none) QK) : w.heap.size ≤ gb135)) ((Nat.le_trans HW0.out (by rw [hg]; exact (Y7 (w := w) (g := g) (row := none) QK) : w.heap.size ≤ gb135) : w0.heap.size ≤ gb135)) ((by rw [hg]; exact Nat.ne_of_lt (Yw.lt (show Yw w0 _ g s0_0 s0_1 s0_2 s0_3 from QI75_0)) : g ≠ gb135)) ((by rw [hg]; exact Nat.ne_of_gt (Yw.lt (show Yw w0 _ g s0_0 s0_1 s0_2 s0_3 from QI75_0)) : gb135 ≠ g)); clear HI0 HK HB; obtain ⟨HI0, HK, HB, BK135, GW135, GE135, NB0_135, NB135_0⟩ := n_; clear hb hbox hg) | ((with_reducible refine Yl (f := 112) rfl ?_); refine YO (some 8) rfl rfl Tryd.func112 Z4 rfl #[.pointer (some ⟨g, 0, none⟩), .int .i64 a1] rfl Z0 ?_; (with_reducible refine ((ih k (by omega)).2.2.1 g s0_0 s0_1 s0_2 s0_3 a1 t136 t137 t138 t141 t144 t145 t146 t147 w0 _ ?side1 ?side2 ?side3 A3.out).mono ?_); (case side1 => exact Z1k); (case side2 => exact QB); (case side3 => exact Z22); rintro e w5 ⟨v139, v142, rfl, ho0, ho1, hi, hb, hk⟩; refine ⟨_, rfl, ?_⟩; have n0_ := Y0.mk (Y1.blk hk (g' := gb135) (o := .cells #[.int .i64 0, .string (⟨#[]⟩ : ByteArray), .slice none 0 0, .slice none 0 0] 37 (0, 0)) QQ NB135_0.out (by simp)); have n1_ := Y0.mk (Kd.R_lower (Kd.R_newM (M := fun k_ => (w.heap.size ≤ k_)) (Kd.R_mono (ok' := fun k_ => True) ho0 (fun _ hk_ => trivial)) (Y7 (w := w) (g := g) (row := none) QK) (fun k_ h_ => h_)) (Y7 (w := w) (g := g) (row := none) QK)); have n2_ := Y0.mk (Kd.N_lower (Kd.N_mono (ok' := fun k_ => (w.heap.size ≤ k_) ∧ some k_ ≠ (v139 : Value).ownBlock ∧ k_ ≠ gb135 ∧ k_ ≠ g) ho1 (fun k_ hk_ => ⟨(Nat.le_trans (Y7 (w := w) (g := g) (row := none) QK) hk_.1), hk_.2, (Kd.freshB (g := gb135) (o := .cells #[.int .i64 0, .string (⟨#[]⟩ : ByteArray), .slice none 0 0, .slice none 0 0] 37 (0, 0)) QQ k_ hk_.1), (Yw.fresh QI75_0 k_ hk_.1)⟩)) (Y7 (w := w) (g := g) (row := none) QK)); have n3_ := Y0.mk (Y1.trans QK hk (.inl rfl)); have n4_ := Y0.mk (hb); have n5_ := Y0.mk (hi); clear BK135 HK HB HI0; have BK135 := n0_; have HO140 := n1_; have HO143 := n2_; have HK := n3_; have HB := n4_; have HI0 := n5_; clear n0_ n1_ n2_ n3_ n4_ n5_; (try clear hb); (try clear hb2); (try clear hk); (try clear hi); (try clear ho0); (try clear ho1)) | ((with_reducible refine YF (N := 5) rfl ?_); refine YD ?hg (N := 5) ?hd (cs := #[.int .i64 0, .string (⟨#[]⟩ : ByteArray), .slice none 0 0, .slice none 0 0]) (t := 37) ?hr ?_; (case hd => rfl); (case hg => rfl); (case hr => exact Zb); intro gb148 hg w6 hbox hb; have n0_ := Y0.mk (Kd.R_below Z20 hb); have n1_ := Y0.mk (Kd.N_below (Kd.N_elderB Z1X gb148 (Nat.le_of_eq hg.symm)) hb); have n2_ := Y0.mk (Yw.below QI75_0 hb); have n3_ := Y0.mk (Yt (g := gb135) (o := .cells #[.int .i64 0, .string (⟨#[]⟩ : ByteArray), .slice none 0 0, .slice none 0 0] 37 (0, 0)) QQ hb); have n4_ := Y0.mk (Y1.trans QK (Y1.of_below hb g none) (.inl rfl)); have n5_ := Y0.mk (Y8 QB hb); have n6_ := Y0.mk (hbox); have n7_ := Y0.mk ((by rw [hg]; exact (Y7 (w := w) (g := g) (row := none) QK) : w.heap.size ≤ gb148)); have n8_ := Y0.mk ((Nat.le_trans HW0.out (by rw [hg]; exact (Y7 (w := w) (g := g) (row := none) QK) : w.heap.size ≤ gb148) : w0.heap.size ≤ gb148)); have n9_ := Y0.mk ((by rw [hg]; exact Nat.ne_of_lt (Y14 (g := gb135) (o := .cells #[.int .i64 0, .string (⟨#[]⟩ : ByteArray), .slice none 0 0, .slice none 0 0] 37 (0, 0)) QQ) : gb135 ≠ gb148)); have n10_ := Y0.mk ((by rw [hg]; exact Nat.ne_of_gt (Y14 (g := gb135) (o := .cells #[.int .i64 0, .string (⟨#[]⟩ : ByteArray), .slice none 0 0, .slice none 0 0] 37 (0, 0)) QQ) : gb148 ≠ gb135)); have n11_ := Y0.mk ((by rw [hg]; exact Nat.ne_of_lt (Yw.lt (show Yw w0 _ g t144 t145 t146 t147 from QI75_0)) : g ≠ gb148)); have n12_ := Y0.mk ((by rw [hg]; exact Nat.ne_of_gt (Yw.lt (show Yw w0 _ g t144 t145 t146 t147 from QI75_0)) : gb148 ≠ g)); clear HO140 HO143 HI0 BK135 HK HB; have HO140 := n0_; have HO143 := n1_; have HI0 := n2_; have BK135 := n3_; have HK := n4_; have HB := n5_; have BK148 := n6_; have GW148 := n7_; have GE148 := n8_; have NB135_148 := n9_; have NB148_135 := n10_; have NB0_148 := n11_; have NB148_0 := n12_; clear n0_ n1_ n2_ n3_ n4_ n5_ n6_ n7_ n8_ n9_ n10_ n11_ n12_ hb hbox hg; have hnb7 := NB148_135.out; have hnc7 := NB135_148.out; have hnb8 := NB148_0.out; have hnc8 := NB0_148.out; obtain ⟨hcz9_0, hcz9_1, hcz9_2, hcz9_3, hfz9_0, hfz9_1, hfz9_2, hfz9_3⟩ := YA BK148.out; obtain ⟨Ao10, co10, eo10⟩ := Kd.R_slice HO140.out; subst eo10; obtain ⟨Ao11, co11, eo11⟩ := Kd.N_slice HO143.out; subst eo11))
 go_loopg [] k (fun kq w' => ∃ (x1000_1 : ByteArray) (x1001_1 : Int) (x1002_1 : Int) (x1003_1 : Int) (x149000_1 : Int) (x149001_1 : ByteArray) (x149002_1 : List ByteArray) (x149003_1 : List (S37)) (u149002 : Value) (u149003 : Value), Y0 (Yz.l0 kq a1 x1000_1 x1001_1 x1002_1 x1003_1 x149000_1 x149001_1 x149002_1 x149003_1 = some (r1, r2, r3, r4, r5, r6, r7, r8)) ∧ Y0 (kq ≤ k) ∧ Y0 (Kd.R Kd.string 9 w' w.heap.size (fun k_ => (w.heap.size ≤ k_)) u149002 x149002_1) ∧ Y0 (Kd.N k37 37 w' w.heap.size (fun k_ => (w.heap.size ≤ k_) ∧ some k_ ≠ (u149002 : Value).ownBlock ∧ k_ ≠ gb135 ∧ k_ ≠ gb148 ∧ k_ ≠ g) u149003 x149003_1) ∧ Y0 (w'.heap[gb135]? = some (.cells #[.int .i64 0, .string (⟨#[]⟩ : ByteArray), (.slice none 0 0), (.slice none 0 0)] 37 (0, 0))) ∧ Y0 (w'.heap[gb148]? = some (.cells #[.int .i64 x149000_1, .string x149001_1, u149002, u149003] 37 (0, 0))) ∧ Y0 (Yw w0 w' g x1000_1 x1001_1 x1002_1 x1003_1) ∧ Y0 (Y1 w w' g none) ∧ Y0 (Below w0.heap.size w0 w'))
 case atStart => exact ⟨(t144), (t145), (t146), (t147), (t136), (t137), (t138), (t141), (.slice Ao10 t138.length co10), (.slice Ao11 t141.length co11), H', ⟨Nat.le_refl _⟩, ⟨Z18⟩, ⟨ZL⟩, ⟨Zi⟩, ⟨Z2m⟩, ⟨QI75_0⟩, ⟨QK⟩, ⟨QB⟩⟩
 case round =>
  clear H'
  try clear c1
  try clear p2
  try clear c7
  try clear c8
  try clear c9
  try clear c11
  try clear hcz9_0 hcz9_1 hcz9_2 hcz9_3 hfz9_0 hfz9_1 hfz9_2 hfz9_3
  obtain ⟨x1000_1, x1001_1, x1002_1, x1003_1, x149000_1, x149001_1, x149002_1, x149003_1, u149002, u149003, HA, HK1, HO_149002, HO_149003, BK135, BK148, HI0, HK, HB⟩ := hrel
  cases gk with
  | zero => exact absurd HA.out (by simp [Yz.l0])
  | succ k1 =>
   have H := HA.out
   clear HA
   simp only [Yz.l0] at H
   replace H := Option.bind_eq_some_iff.mp H
   obtain ⟨⟨t149, t150, t151, t152, t153⟩, A120, H⟩ := H
   replace H : (if t149 = true then ((Yi.f k1 t150 t151 t152 t153 a1).bind fun bt154 => (Yz.l0 k1 a1 bt154.2.2.2.2.1 bt154.2.2.2.2.2.1 bt154.2.2.2.2.2.2.1 bt154.2.2.2.2.2.2.2 3 (⟨#[]⟩ : ByteArray) ([] : List ByteArray) (([(⟨x149000_1, x149001_1, x149002_1, x149003_1⟩ : S37), (⟨bt154.1, bt154.2.1, bt154.2.2.1, bt154.2.2.2.1⟩ : S37)] : List (S37))))) else (some (x149000_1, x149001_1, x149002_1, x149003_1, t150, t151, t152, t153))) = some (r1, r2, r3, r4, r5, r6, r7, r8) := H
   have A12 := Y0.mk A120
   clear A120
   by_cases c13 : t149 = true
   ·subst c13
    have H1 : ((Yi.f k1 t150 t151 t152 t153 a1).bind fun bt154 => (Yz.l0 k1 a1 bt154.2.2.2.2.1 bt154.2.2.2.2.2.1 bt154.2.2.2.2.2.2.1 bt154.2.2.2.2.2.2.2 3 (⟨#[]⟩ : ByteArray) ([] : List ByteArray) (([(⟨x149000_1, x149001_1, x149002_1, x149003_1⟩ : S37), (⟨bt154.1, bt154.2.1, bt154.2.2.1, bt154.2.2.2.1⟩ : S37)] : List (S37))))) = some (r1, r2, r3, r4, r5, r6, r7, r8) := by rw [if_pos rfl] at H; exact H
    clear H
    have H := H1
    clear H1
    replace H := Option.bind_eq_some_iff.mp H
    obtain ⟨⟨t154, t155, t156, t159, t162, t163, t164, t165⟩, A140, H⟩ := H
    replace H : (Yz.l0 k1 a1 t162 t163 t164 t165 3 (⟨#[]⟩ : ByteArray) ([] : List ByteArray) (([(⟨x149000_1, x149001_1, x149002_1, x149003_1⟩ : S37), (⟨t154, t155, t156, t159⟩ : S37)] : List (S37)))) = some (r1, r2, r3, r4, r5, r6, r7, r8) := H
    have A14 := Y0.mk A140
    clear A140
    obtain ⟨y166, hy166⟩ : ∃ y_ : List (S37), y_ = (([(⟨x149000_1, x149001_1, x149002_1, x149003_1⟩ : S37), (⟨t154, t155, t156, t159⟩ : S37)] : List (S37))) := ⟨_, rfl⟩
    replace H : (Yz.l0 k1 a1 t162 t163 t164 t165 3 (⟨#[]⟩ : ByteArray) ([] : List ByteArray) y166) = some (r1, r2, r3, r4, r5, r6, r7, r8) := by first | (rw [hy166]; with_reducible exact H) | (have H2_ := (Option.bind_some _ _).symm.trans H; rw [hy166]; with_reducible exact H2_) | (have H2_ := (Option.bind_some _ _).symm.trans H; with_reducible exact H2_) | with_reducible exact H | (rw [hy166]; exact H) | exact H
    have Ny166 := Y0.mk hy166
    clear hy166
    have H' := Y0.mk H
    clear H
    try go_wp2_with (first | ((with_reducible refine Yl (f := 95) rfl ?_); refine YO (some 10) rfl rfl Tryd.func95 Z4 rfl #[.pointer (some ⟨g, 0, none⟩), .int .u8 47] rfl Z0 ?_; (with_reducible refine (YS.calls k1 g x1000_1 x1001_1 x1002_1 x1003_1 47 true t150 t151 t152 t153 w0 _ ?side1 ?side2 A12.out).mono ?_); (case side1 => exact Z1k); (case side2 => exact QB); rintro e w15 ⟨rfl, hi, hb, hk⟩; refine ⟨_, rfl, ?_⟩; have n0_ := Y0.mk (Kd.R_mono (Kd.R_keep (Yw.apart (show Yw w0 _ g x1000_1 x1001_1 x1002_1 x1003_1 from QI75_0) Zt (by decide)) hk (fun _ h => h.2)) (fun _ h => h.1)); have n1_ := Y0.mk (Kd.N_mono (Kd.N_keep (Kd.N_mono (ok := fun k_ => (((w.heap.size ≤ k_)) ∧ (some k_ ≠ (u149002 : Value).ownBlock ∧ (k_ ≠ gb135 ∧ (k_ ≠ gb148 ∧ k_ ≠ g))))) ZG (fun k_ hk_ => (⟨hk_, hk_.2.2.2.2⟩ : _ ∧ k_ ≠ g))) hk (fun _ h => h.2)) (fun _ h => h.1)); have n2_ := Y0.mk (Y1.blk hk (g' := gb135) (o := .cells #[.int .i64 0, .string (⟨#[]⟩ : ByteArray), .slice none 0 0, .slice none 0 0] 37 (0, 0)) QQ NB135_0.out (by simp)); have n3_ := Y0.mk (Y1.blk hk (g' := gb148) (o := .cells #[.int .i64 x149000_1, .string x149001_1, u149002, u149003] 37 (0, 0)) QQ NB148_0.out (by simp)); have n4_ := Y0.mk (Y1.trans QK hk (.inl rfl)); have n5_ := Y0.mk (hb); have n6_ := Y0.mk (hi); clear HO_149002 HO_149003 BK135 BK148 HK HB HI0; have HO_149002 := n0_; have HO_149003 := n1_; have BK135 := n2_; have BK148 := n3_; have HK := n4_; have HB := n5_; have HI0 := n6_; clear n0_ n1_ n2_ n3_ n4_ n5_ n6_; (try clear hb); (try clear hb2); (try clear hk); (try clear hi)))
    have n_ := put7 (Kd.R_drew HO_149002.out) (Kd.N_drew HO_149003.out) (Yb BK135.out) (Yb BK148.out) (Yw.drew HI0.out) (Y1G HK.out) (YP HB.out)
    clear HO_149002
    clear HO_149003
    clear BK135
    clear BK148
    clear HI0
    clear HK
    clear HB
    obtain ⟨HO_149002, HO_149003, BK135, BK148, HI0, HK, HB⟩ := n_
    refine Y1m (n := 7) (S := fun w' => w'.cell? ⟨gb148, 0, none⟩ = some (.int .i64 x149000_1) ∧ w'.cell? ⟨gb148, 1, none⟩ = some (.string x149001_1) ∧ w'.cell? ⟨gb148, 2, none⟩ = some (u149002) ∧ w'.cell? ⟨gb148, 3, none⟩ = some (u149003)) (ds := [6]) bz7_0 Z4 rfl rfl ⟨(Y2 BK148.out 0).trans rfl, (Y2 BK148.out 1).trans rfl, (Y2 BK148.out 2).trans rfl, (Y2 BK148.out 3).trans rfl⟩ (fun hHeld => ?_)
    generalize w15.drew = w16 at HO_149002 HO_149003 BK135 BK148 HI0 HK HB hHeld ⊢
    refine Y3Z (i := 1) (N := some 12) (v := ?_) (a' := ?_) bz7_2 rfl rfl Z4 (fun _ _ _ h => h) (Or.inl ⟨by rfl, ?_⟩) ?_ ?_
    rotate_left
    ·intro w'
     go_simp
     with_reducible rfl
    rotate_left
    ·simp only [Act.put, List.setIfInBounds_toArray, List.set_cons_zero, List.set_cons_succ, Y16, Y17]
     rfl
    refine Y3Z (i := 2) (N := some 13) (v := ?_) (a' := ?_) bz7_6 rfl rfl Z4 (fun _ _ _ h => h) (Or.inl ⟨by rfl, ?_⟩) ?_ ?_
    rotate_left
    ·intro w'
     go_simp
     with_reducible rfl
    rotate_left
    ·simp only [Act.put, List.setIfInBounds_toArray, List.set_cons_zero, List.set_cons_succ, Y16, Y17]
     rfl
    refine Y6c (i := 0) (N := some 11) (v := ?_) (a' := ?_) bz7_7 rfl rfl Z4 (fun _ _ _ h => h) (Or.inl ⟨by rfl, ?_⟩) hHeld ?_ ?_
    rotate_left
    ·rintro w' ⟨s0, s1, s2, s3⟩
     go_simp
     with_reducible rfl
    rotate_left
    ·simp only [Act.put, List.setIfInBounds_toArray, List.set_cons_zero, List.set_cons_succ, Y16, Y17]
     rfl
    refine Y2Q (i := 3) (N := some 14) bz7_f rfl rfl Z4 (by decide) (fun K hK => ?_)
    refine Y1Q Tryd.func112 Z4 rfl #[.pointer (some ⟨g, 0, none⟩), .int .i64 a1] (by rfl) rfl rfl Z0 ?_
    with_reducible refine ((ih k1 ZV).2.2.1 g t150 t151 t152 t153 a1 t154 t155 t156 t159 t162 t163 t164 t165 w0 _ ?side1 ?side2 ?side3 A14.out).mono ?_
    (case side1 => exact Z1k)
    (case side2 => exact QB)
    (case side3 => exact Z22)
    rintro e w17 ⟨v157, v160, rfl, ho0, ho1, hi, hb, hk⟩
    refine ⟨_, rfl, ?_⟩
    have n0_ := Y0.mk (Kd.R_mono (Kd.R_told (Kd.R_oldK (Yw.apart (show Yw w0 _ g t150 t151 t152 t153 from QI75_0) Zt (by decide)) hk) (Kd.R_base ho0)) (fun _ h_ => h_.1))
    have n1_ := Y0.mk (Kd.N_mono (Kd.N_told (Kd.N_told (Kd.N_oldK (Kd.N_mono (ok := fun k_ => (((w.heap.size ≤ k_)) ∧ (some k_ ≠ (u149002 : Value).ownBlock ∧ (k_ ≠ gb135 ∧ (k_ ≠ gb148 ∧ k_ ≠ g))))) ZG (fun k_ hk_ => (⟨hk_, hk_.2.2.2.2⟩ : _ ∧ k_ ≠ g))) hk) (Kd.R_base ho0)) (Kd.N_base ho1)) (fun _ h_ => h_.1))
    have n2_ := Y0.mk (Y1.blk hk (g' := gb135) (o := .cells #[.int .i64 0, .string (⟨#[]⟩ : ByteArray), .slice none 0 0, .slice none 0 0] 37 (0, 0)) QQ NB135_0.out (by simp))
    have n3_ := Y0.mk (Y1.blk hk (g' := gb148) (o := .cells #[.int .i64 x149000_1, .string x149001_1, u149002, u149003] 37 (0, 0)) QQ NB148_0.out (by simp))
    have n4_ := Y0.mk (Kd.R_lower (Kd.R_new' (Kd.R_newM (M := fun k_ => (w.heap.size ≤ k_)) (Kd.R_mono (ok' := fun k_ => True) ho0 (fun _ hk_ => trivial)) (Y7 (w := w) (g := g) (row := none) QK) (fun k_ h_ => h_)) (Kd.R_lt Zt)) (Y7 (w := w) (g := g) (row := none) QK))
    have n5_ := Y0.mk (Kd.N_lower (Kd.N_mono (ok' := fun k_ => (w.heap.size ≤ k_) ∧ some k_ ≠ (v157 : Value).ownBlock ∧ some k_ ≠ (u149002 : Value).ownBlock ∧ some k_ ≠ (u149003 : Value).ownBlock ∧ k_ ≠ gb135 ∧ k_ ≠ gb148 ∧ k_ ≠ g) ho1 (fun k_ hk_ => ⟨(Nat.le_trans (Y7 (w := w) (g := g) (row := none) QK) hk_.1), hk_.2, (Kd.fresh' (Kd.R_lt Zt) k_ hk_.1), (Kd.fresh' (Kd.N_lt ZG) k_ hk_.1), (Kd.freshB (g := gb135) (o := .cells #[.int .i64 0, .string (⟨#[]⟩ : ByteArray), .slice none 0 0, .slice none 0 0] 37 (0, 0)) QQ k_ hk_.1), (Kd.freshB (g := gb148) (o := .cells #[.int .i64 x149000_1, .string x149001_1, u149002, u149003] 37 (0, 0)) QQ k_ hk_.1), (Yw.fresh QI75_0 k_ hk_.1)⟩)) (Y7 (w := w) (g := g) (row := none) QK))
    have n6_ := Y0.mk (Y1.trans QK hk (.inl rfl))
    have n7_ := Y0.mk (hb)
    have n8_ := Y0.mk (hi)
    clear HO_149002
    clear HO_149003
    clear BK135
    clear BK148
    clear HK
    clear HB
    clear HI0
    have HO_149002 := n0_
    have HO_149003 := n1_
    have BK135 := n2_
    have BK148 := n3_
    have HO158 := n4_
    have HO161 := n5_
    have HK := n6_
    have HB := n7_
    have HI0 := n8_
    clear n0_ n1_ n2_ n3_ n4_ n5_ n6_ n7_ n8_
    (try clear hb)
    (try clear hb2)
    (try clear hk)
    (try clear hi)
    (try clear ho0)
    (try clear ho1)
    obtain ⟨Ao18, co18, eo18⟩ := Kd.R_slice HO_149002.out
    (first | subst eo18 | (injection eo18 with f1_ f2_ f3_; have f4_ := f1_.symm; have f5_ := f3_.symm; clear f1_ f2_ f3_; subst f4_; subst f5_))
    obtain ⟨Ao19, co19, eo19⟩ := Kd.N_slice HO_149003.out
    (first | subst eo19 | (injection eo19 with f1_ f2_ f3_; have f4_ := f1_.symm; have f5_ := f3_.symm; clear f1_ f2_ f3_; subst f4_; subst f5_))
    obtain ⟨Ao20, co20, eo20⟩ := Kd.R_slice HO158.out
    (first | subst eo20 | (injection eo20 with f1_ f2_ f3_; have f4_ := f1_.symm; have f5_ := f3_.symm; clear f1_ f2_ f3_; subst f4_; subst f5_))
    obtain ⟨Ao21, co21, eo21⟩ := Kd.N_slice HO161.out
    (first | subst eo21 | (injection eo21 with f1_ f2_ f3_; have f4_ := f1_.symm; have f5_ := f3_.symm; clear f1_ f2_ f3_; subst f4_; subst f5_))
    refine hK.out _ _ ⟨(Y2 BK148.out 0).trans rfl, (Y2 BK148.out 1).trans rfl, (Y2 BK148.out 2).trans rfl, (Y2 BK148.out 3).trans rfl⟩ (fun hHeld => ?_)
    clear hK K
    refine Y1A (a' := ?_) ?_ ?_
    rotate_left
    ·show Act.put _ (some 14) _ = _
     simp only [Act.put, List.setIfInBounds_toArray, List.set_cons_zero, List.set_cons_succ, Y16, Y17]
     rfl
    refine Y2Q (i := 4) (N := some 15) Y6n rfl rfl Z4 (by decide) (fun K hK => ?_)
    refine Kd.N_lit_step k37 _ 37 ?hg (N' := 15) ?hd (xs := ([(⟨x149000_1, x149001_1, x149002_1, x149003_1⟩ : S37), (⟨t154, t155, t156, t159⟩ : S37)] : List (S37))) (inner := [.int .i64 x149000_1, .string x149001_1, .slice Ao18 x149002_1.length co18, .slice Ao19 x149003_1.length co19, .int .i64 t154, .string t155, .slice Ao20 t156.length co20, .slice Ao21 t159.length co21]) (ok := (fun k_ => (w.heap.size ≤ k_) ∧ k_ ≠ gb135 ∧ k_ ≠ gb148 ∧ k_ ≠ g)) (okp := (fun k_ => (w.heap.size ≤ k_) ∧ k_ ≠ gb135 ∧ k_ ≠ gb148 ∧ k_ ≠ g)) ?hr ?hp (fun _ hk => hk) ((show ∀ k_, w17.heap.size ≤ k_ → (fun k_ => (w.heap.size ≤ k_) ∧ k_ ≠ gb135 ∧ k_ ≠ gb148 ∧ k_ ≠ g) k_ from fun k_ hk => ⟨(Nat.le_trans (Y7 (w := w) (g := g) (row := none) QK) hk), Kd.freshB (g := gb135) (o := .cells #[.int .i64 0, .string (⟨#[]⟩ : ByteArray), .slice none 0 0, .slice none 0 0] 37 (0, 0)) QQ k_ hk, Kd.freshB (g := gb148) (o := .cells #[.int .i64 x149000_1, .string x149001_1, .slice Ao18 x149002_1.length co18, .slice Ao19 x149003_1.length co19] 37 (0, 0)) QQ k_ hk, Yw.fresh QI75_0 k_ hk⟩) _ (Nat.le_refl _)) (Below.refl _ _) (Nat.le_refl _) (by simp) ?_; (case hd => rfl); (case hg => rfl); (case hr => exact Zb); (case hp => exact (Y1F.c4 (show Kd.FK k37 _ _ (⟨x149000_1, x149001_1, x149002_1, x149003_1⟩ : S37) [.int .i64 x149000_1, .string x149001_1, .slice Ao18 x149002_1.length co18, .slice Ao19 x149003_1.length co19] from (Y2g _ _ (⟨x149000_1, x149001_1, x149002_1, x149003_1⟩ : S37) (Kd.R_reads' (Kd.R_mono (ok' := (fun k_ => (w.heap.size ≤ k_) ∧ k_ ≠ gb135 ∧ k_ ≠ gb148 ∧ k_ ≠ g)) (Yw.apart HI0.out (Kd.R_types (Kd.R_types (HO_149002.out) BK135.out (by decide)) BK148.out (by decide)) (by decide)) (fun k_ hk => ⟨hk.1.1.1.1, ⟨hk.1.1.2, ⟨hk.1.2, hk.2⟩⟩⟩))).2.1 (Kd.R_F (Kd.R_mono (ok' := (fun k_ => (w.heap.size ≤ k_) ∧ k_ ≠ gb135 ∧ k_ ≠ gb148 ∧ k_ ≠ g)) (Yw.apart HI0.out (Kd.R_types (Kd.R_types (HO_149002.out) BK135.out (by decide)) BK148.out (by decide)) (by decide)) (fun k_ hk => ⟨hk.1.1.1.1, ⟨hk.1.1.2, ⟨hk.1.2, hk.2⟩⟩⟩))) (Kd.N_reads' (Kd.N_mono (ok' := (fun k_ => (w.heap.size ≤ k_) ∧ k_ ≠ gb135 ∧ k_ ≠ gb148 ∧ k_ ≠ g)) (HO_149003.out) (fun k_ hk => ⟨hk.1.1.1, ⟨hk.1.1.2.2.1, ⟨hk.1.1.2.2.2.1, hk.1.1.2.2.2.2⟩⟩⟩))).2.1 (Kd.N_F (Kd.N_mono (ok' := (fun k_ => (w.heap.size ≤ k_) ∧ k_ ≠ gb135 ∧ k_ ≠ gb148 ∧ k_ ≠ g)) (HO_149003.out) (fun k_ hk => ⟨hk.1.1.1, ⟨hk.1.1.2.2.1, ⟨hk.1.1.2.2.2.1, hk.1.1.2.2.2.2⟩⟩⟩))))) (Y1F.c4 (show Kd.FK k37 _ _ (⟨t154, t155, t156, t159⟩ : S37) [.int .i64 t154, .string t155, .slice Ao20 t156.length co20, .slice Ao21 t159.length co21] from (Y2g _ _ (⟨t154, t155, t156, t159⟩ : S37) (Kd.R_reads' (Kd.R_mono (ok' := (fun k_ => (w.heap.size ≤ k_) ∧ k_ ≠ gb135 ∧ k_ ≠ gb148 ∧ k_ ≠ g)) (Yw.apart HI0.out (Kd.R_types (Kd.R_types (HO158.out) BK135.out (by decide)) BK148.out (by decide)) (by decide)) (fun k_ hk => ⟨hk.1.1.1.1.1, ⟨hk.1.1.2, ⟨hk.1.2, hk.2⟩⟩⟩))).2.1 (Kd.R_F (Kd.R_mono (ok' := (fun k_ => (w.heap.size ≤ k_) ∧ k_ ≠ gb135 ∧ k_ ≠ gb148 ∧ k_ ≠ g)) (Yw.apart HI0.out (Kd.R_types (Kd.R_types (HO158.out) BK135.out (by decide)) BK148.out (by decide)) (by decide)) (fun k_ hk => ⟨hk.1.1.1.1.1, ⟨hk.1.1.2, ⟨hk.1.2, hk.2⟩⟩⟩))) (Kd.N_reads' (Kd.N_mono (ok' := (fun k_ => (w.heap.size ≤ k_) ∧ k_ ≠ gb135 ∧ k_ ≠ gb148 ∧ k_ ≠ g)) (HO161.out) (fun k_ hk => ⟨hk.1, ⟨hk.2.2.2.2.1, ⟨hk.2.2.2.2.2.1, hk.2.2.2.2.2.2⟩⟩⟩))).2.1 (Kd.N_F (Kd.N_mono (ok' := (fun k_ => (w.heap.size ≤ k_) ∧ k_ ≠ gb135 ∧ k_ ≠ gb148 ∧ k_ ≠ g)) (HO161.out) (fun k_ hk => ⟨hk.1, ⟨hk.2.2.2.2.1, ⟨hk.2.2.2.2.2.1, hk.2.2.2.2.2.2⟩⟩⟩))))) (Y1F.none _ _))))
    intro v167 w22 ho23 hb hg_ hnew_
    clear hg_ hnew_
    (first | rw [← Ny166.out] at ho23 | (simp only [Int.reduceToNat] at ho23; rw [← Ny166.out] at ho23))
    have n_ := Y3t (Kd.N_lower ho23 (Y7 (w := w) (g := g) (row := none) QK)) (Yt (g := gb135) (o := .cells #[.int .i64 0, .string (⟨#[]⟩ : ByteArray), .slice none 0 0, .slice none 0 0] 37 (0, 0)) QQ hb) (Yt (g := gb148) (o := .cells #[.int .i64 x149000_1, .string x149001_1, .slice Ao18 x149002_1.length co18, .slice Ao19 x149003_1.length co19] 37 (0, 0)) QQ hb) (Yw.below QI75_0 hb) (Y1.trans QK (Y1.of_below hb g none) (.inl rfl)) (Y8 QB hb)
    clear BK135
    clear BK148
    clear HI0
    clear HK
    clear HB
    clear HO158
    clear HO161
    clear HO_149002
    clear HO_149003
    obtain ⟨HO168, BK135, BK148, HI0, HK, HB⟩ := n_
    clear hb ho23
    obtain ⟨Ao24, co24, eo24⟩ := Kd.N_slice HO168.out
    (first | subst eo24 | (injection eo24 with f1_ f2_ f3_; have f4_ := f1_.symm; have f5_ := f3_.symm; clear f1_ f2_ f3_; subst f4_; subst f5_))
    refine hK.out _ _ ⟨(Y2 BK148.out 0).trans rfl, (Y2 BK148.out 1).trans rfl, (Y2 BK148.out 2).trans rfl, (Y2 BK148.out 3).trans rfl⟩ (fun hHeld => ?_)
    clear hK K
    refine Y1A (a' := ?_) ?_ ?_
    rotate_left
    ·show Act.put _ (some 15) _ = _
     simp only [Act.put, List.setIfInBounds_toArray, List.set_cons_zero, List.set_cons_succ, Y16, Y17]
     rfl
    refine Y3Z (i := 5) (N := some 16) (v := ?_) (a' := ?_) Y6o rfl rfl Z4 (fun _ _ _ h => h) (Or.inl ⟨by rfl, ?_⟩) ?_ ?_
    rotate_left
    ·intro w'
     go_simp
     with_reducible rfl
    rotate_left
    ·simp only [Act.put, List.setIfInBounds_toArray, List.set_cons_zero, List.set_cons_succ, Y16, Y17]
     rfl
    refine Y6H (i := 6) (N := none) Y6p rfl rfl Z4 (by decide) (fun K hK => ?_)
    have hs25 : w22.cell? ⟨gb148, 0, none⟩ = some (.int .i64 x149000_1) := (Y2 BK148.out 0).trans rfl
    have hfs25 := Y6 BK148.out 0
    have hns25_0 := NB135_148.out
    have hms25_0 := NB148_135.out
    have hs26 : w22.cell? ⟨gb148, 1, none⟩ = some (.string x149001_1) := (Y2 BK148.out 1).trans rfl
    have hfs26 := Y6 BK148.out 1
    have hns26_0 := NB135_148.out
    have hms26_0 := NB148_135.out
    have hs27 : w22.cell? ⟨gb148, 2, none⟩ = some (.slice Ao18 x149002_1.length co18) := (Y2 BK148.out 2).trans rfl
    have hfs27 := Y6 BK148.out 2
    have hns27_0 := NB135_148.out
    have hms27_0 := NB148_135.out
    have hs28 : w22.cell? ⟨gb148, 3, none⟩ = some (.slice Ao19 x149003_1.length co19) := (Y2 BK148.out 3).trans rfl
    have hfs28 := Y6 BK148.out 3
    have hns28_0 := NB135_148.out
    have hms28_0 := NB148_135.out
    refine Y4W (w1 := ?_) (by rfl) rfl ?_ ?_
    rotate_left
    ·go_simp
     rfl
    refine hK.out _ _ ?_
    clear hK K
    refine Y1S Z4 ?_
    try go_wp2
    go_roundg k1
    case measure => have := HK1.out; omega
    case rel => exact ⟨(t162), (t163), (t164), (t165), (3), ((⟨#[]⟩ : ByteArray)), (([] : List ByteArray)), (y166), (.slice none 0 0), (.slice Ao24 y166.length co24), H', ⟨ZV⟩, ⟨Z5⟩, ⟨ZJ⟩, ⟨Zi⟩, ⟨Zu⟩, ⟨QI75_0⟩, ⟨QK⟩, ⟨QB⟩⟩
   ·replace c13 := Bool.eq_false_iff.mpr c13
    subst c13
    have H1 : (some (x149000_1, x149001_1, x149002_1, x149003_1, t150, t151, t152, t153)) = some (r1, r2, r3, r4, r5, r6, r7, r8) := by rw [if_neg (show ¬ (false = true) by decide)] at H; exact H
    clear H
    have H := H1
    clear H1
    simp only [Option.some.injEq, Prod.mk.injEq] at H
    obtain ⟨rfl, rfl, rfl, rfl, rfl, rfl, rfl, rfl⟩ := H
    go_wp2_with (first | ((with_reducible refine Yl (f := 95) rfl ?_); refine YO (some 10) rfl rfl Tryd.func95 Z4 rfl #[.pointer (some ⟨g, 0, none⟩), .int .u8 47] rfl Z0 ?_; (with_reducible refine (YS.calls k1 g x1000_1 x1001_1 x1002_1 x1003_1 47 false t150 t151 t152 t153 w0 _ ?side1 ?side2 A12.out).mono ?_); (case side1 => exact Z1k); (case side2 => exact QB); rintro e w29 ⟨rfl, hi, hb, hk⟩; refine ⟨_, rfl, ?_⟩; have n0_ := Y0.mk (Kd.R_mono (Kd.R_keep (Yw.apart (show Yw w0 _ g x1000_1 x1001_1 x1002_1 x1003_1 from QI75_0) Zt (by decide)) hk (fun _ h => h.2)) (fun _ h => h.1)); have n1_ := Y0.mk (Kd.N_mono (Kd.N_keep (Kd.N_mono (ok := fun k_ => (((w.heap.size ≤ k_)) ∧ (some k_ ≠ (u149002 : Value).ownBlock ∧ (k_ ≠ gb135 ∧ (k_ ≠ gb148 ∧ k_ ≠ g))))) ZG (fun k_ hk_ => (⟨hk_, hk_.2.2.2.2⟩ : _ ∧ k_ ≠ g))) hk (fun _ h => h.2)) (fun _ h => h.1)); have n2_ := Y0.mk (Y1.blk hk (g' := gb135) (o := .cells #[.int .i64 0, .string (⟨#[]⟩ : ByteArray), .slice none 0 0, .slice none 0 0] 37 (0, 0)) QQ NB135_0.out (by simp)); have n3_ := Y0.mk (Y1.blk hk (g' := gb148) (o := .cells #[.int .i64 x149000_1, .string x149001_1, u149002, u149003] 37 (0, 0)) QQ NB148_0.out (by simp)); have n4_ := Y0.mk (Y1.trans QK hk (.inl rfl)); have n5_ := Y0.mk (hb); have n6_ := Y0.mk (hi); clear HO_149002 HO_149003 BK135 BK148 HK HB HI0; have HO_149002 := n0_; have HO_149003 := n1_; have BK135 := n2_; have BK148 := n3_; have HK := n4_; have HB := n5_; have HI0 := n6_; clear n0_ n1_ n2_ n3_ n4_ n5_ n6_; (try clear hb); (try clear hb2); (try clear hk); (try clear hi); have hnb30 := NB148_135.out; have hnc30 := NB135_148.out; have hnb31 := NB148_0.out; have hnc31 := NB0_148.out; obtain ⟨hcz32_0, hcz32_1, hcz32_2, hcz32_3, hfz32_0, hfz32_1, hfz32_2, hfz32_3⟩ := YA BK148.out; have hnb33 := NB135_0.out; have hnc33 := NB0_135.out; obtain ⟨hcz34_0, hcz34_1, hcz34_2, hcz34_3, hfz34_0, hfz34_1, hfz34_2, hfz34_3⟩ := YA BK135.out; obtain ⟨Ao35, co35, eo35⟩ := Kd.R_slice HO_149002.out; subst eo35; obtain ⟨Ao36, co36, eo36⟩ := Kd.N_slice HO_149003.out; subst eo36))
    refine bodyPost_ret (results_cell_row rfl _ _ gb135 37 #[.int .i64 x149000_1, .string x149001_1, .slice Ao35 x149002_1.length co35, .slice Ao36 x149003_1.length co36] (0, 0) _ rfl Z2i Tryd.underlying37 rfl Z4) rfl ?_
    exact ⟨_, _, Z2, Z12, ZP, QI75_0, QB, QK⟩
end Go.Proofs.YtbpbfboaofkpaaaDoor.Print
end
