/- QueryBack: a path that may be, as a text, is read as it was, if it is not too long or too deep. Conditions: none but the row's own (the two tables of unicode/utf8 as the program lays them). -/
import Derived.Test.YtbpbfboaofkpaaaDoorQkQ6
import Derived.Test.YtbpbfboaofkpaaaDoorCards
import Derived.Test.YtbpbfboaofkpaaaDoorTie
import Derived.SevenTiedAt
import Derived.ChangeMaps5
section
set_option linter.unusedVariables false
set_option linter.unusedSimpArgs false
namespace Go.Proofs.YtbpbfboaofkpaaaDoor.Print
open Go.RowKit Go.Shelf Go.Lib Go.Proofs.YtbpbfboaofkpaaaDoorW.PrintWords
def isR (p : S37) (k : Nat) : Option Bool := Y1b.f k p.f0 p.f1 p.f2 p.f3
theorem is_path {p : S37} (hp : Y4m 13 p) : ∃ b, Ev (isI p) b ∧ Ev (isR p) b ∧ (b = true → May 0 p) := by
 obtain ⟨v, e1, e2, e3⟩ := count_may hp 0 (by omega)
 refine ⟨decide (1 ≤ v ∧ v ≤ 30), ?_, ?_, fun h => ?_⟩
 ·refine Ev.bind e1 (Ev.congr (fun k => ?_) (Ev.now _))
  by_cases h : v > 0
  ·rw [if_pos h]; congr 1; exact decide_eq_decide.2 (by omega)
  ·rw [if_neg h]; congr 1; exact (decide_eq_false (by omega)).symm
 ·refine Ev.bind e2 (Ev.congr (fun k => ?_) (Ev.now _))
  by_cases h : v ≥ 1
  ·rw [if_pos h]; congr 1; exact decide_eq_decide.2 (by omega)
  ·rw [if_neg h]; congr 1; exact (decide_eq_false (by omega)).symm
 ·have := of_decide_eq_true h
  rcases e3 with rfl | e3
  ·omega
  ·exact e3.2.2
theorem dec_cont (s : ByteArray) (i k : Nat) (h1 : 1 ≤ k) (h2 : k < (Utf8.decode s i).2) : (s.get! (i + k)).toNat / 64 = 2 := by
 unfold Utf8.decode at h2
 simp only at h2
 split at h2
 ·simp at h2; omega
 split at h2
 ·rename_i _ hc
  simp only [Bool.and_eq_true, beq_iff_eq, decide_eq_true_eq] at hc
  have e : k = 1 := by split at h2 <;> simp at h2 <;> omega
  rw [e]; exact hc.2.2
 split at h2
 ·rename_i _ _ hc
  simp only [Bool.and_eq_true, beq_iff_eq, decide_eq_true_eq] at hc
  have e : k = 1 ∨ k = 2 := by split at h2 <;> simp at h2 <;> omega
  rcases e with rfl | rfl
  ·exact hc.1.2.2
  ·exact hc.2.2
 split at h2
 ·rename_i _ _ _ hc
  simp only [Bool.and_eq_true, beq_iff_eq, decide_eq_true_eq] at hc
  have e : k = 1 ∨ k = 2 ∨ k = 3 := by split at h2 <;> simp at h2 <;> omega
  rcases e with rfl | rfl | rfl
  ·exact hc.1.1.2.2
  ·exact hc.1.2.2
  ·exact hc.2.2
 ·simp at h2; omega
theorem dec_pos (s : ByteArray) (i : Nat) : 1 ≤ (Utf8.decode s i).2 := by
 unfold Utf8.decode
 simp only
 repeat' split
 all_goals simp
theorem Y6v (p : Nat → Bool) (s : ByteArray) : ∀ (b i j : Nat), i ≤ j → j < s.size → s.size - i ≤ b → (s.get! j).toNat < 128 → (Y2s s b i).all p = true → p (s.get! j).toNat = true
 | 0, i, j, h1, h2, h3, h4, h5 => by omega
 | b + 1, i, j, h1, h2, h3, h4, h5 => by
  unfold Y2s at h5
  rw [if_pos (by omega), List.all_cons, Bool.and_eq_true] at h5
  by_cases e : j = i
  ·subst e
   have : Utf8.decode s j = ((s.get! j).toNat, 1) := by
    unfold Utf8.decode
    simp only [Nat.add_zero]
    rw [if_pos h4]
   rw [this] at h5
   exact h5.1
  ·by_cases h6 : i + (Utf8.decode s i).2 ≤ j
   ·exact Y6v p s b _ j h6 h2 (by have := dec_pos s i; omega) h4 h5.2
   ·have := dec_cont s i (j - i) (by omega) (by omega)
    rw [show i + (j - i) = j by omega] at this
    omega
theorem iri_no {t : ByteArray} (h : Y38 t = true) (c : UInt8) (hc : c.toNat < 128) (hp : Y1d c.toNat = false) : ¬ c ∈ t.data.toList := by
 intro hm
 obtain ⟨j, hj, he⟩ := List.getElem_of_mem hm
 rw [Y3s] at hj
 unfold Y38 at h
 simp only [Bool.and_eq_true, decide_eq_true_eq] at h
 have h2 := h.2
 rw [Y4v] at h2
 have hj2 : j < t.data.size := hj
 have hg : t.get! j = c := by
  rw [← he]
  show t.data[j]! = _
  rw [getElem!_pos t.data j hj2]
  simp
 have := Y6v Y1d t t.size 0 j (by omega) hj (by omega) (by rw [hg]; exact hc) h2
 rw [hg, hp] at this
 cases this
def bl (n : Nat) : List UInt8 := List.replicate n 32
def Y6N (n : Nat) : List ByteArray → List UInt8
 | [] => 41 :: bl n
 | t :: ts => 124 :: (bl n ++ (60 :: (t.data.toList ++ 62 :: (bl n ++ Y6N n ts))))
def notI (n : Nat) (t : ByteArray) (ts : List ByteArray) : List UInt8 := 60 :: (t.data.toList ++ 62 :: (bl n ++ Y6N n ts))
inductive Rd : Bool → S37 → (Nat → List UInt8) → Prop
 | iri {t} : Y38 t = true → Rd false (pIri t) (fun n => 60 :: (t.data.toList ++ 62 :: bl n))
 | up {p f} : Rd true p f → Rd false (pK 2 [p]) (fun n => 94 :: (bl n ++ f n))
 | two {k c p q f g} : (k = 3 ∧ c = 47 ∨ k = 4 ∧ c = 124) → Rd true p f → Rd true q g → Rd false (pK k [p, q]) (fun n => f n ++ c :: (bl n ++ g n))
 | many {k c p f} : (k = 5 ∧ c = 42 ∨ k = 6 ∧ c = 43 ∨ k = 7 ∧ c = 63) → Rd true p f → Rd false (pK k [p]) (fun n => f n ++ c :: bl n)
 | not {t ts} : (∀ x ∈ t :: ts, Y38 x = true) → Rd false (pNot (t :: ts)) (fun n => 33 :: 40 :: (bl n ++ notI n t ts))
 | w_iri {t f} : Rd false (pIri t) f → Rd true (pIri t) f
 | w_br {p f} : p.f0 ≠ 1 → Rd false p f → Rd true p (fun n => 40 :: (bl n ++ (f n ++ 41 :: bl n)))
theorem Y29 : ∀ (m : Nat) (l : List UInt8), skip (bl m ++ l) = skip l
 | 0, l => rfl
 | m + 1, l => by
  show skip (32 :: (bl m ++ l)) = skip l
  conv => lhs; unfold skip
  rw [if_pos rfl]; exact Y29 m l
theorem Y2v {c : UInt8} (h : c ≠ 32) (l : List UInt8) : skip (c :: l) = c :: l := by
 conv => lhs; unfold skip
 rw [if_neg h]
theorem Y5l {t : ByteArray} (h : Y38 t = true) (m : Nat) (rest : List UInt8) : Y3Y (bl m ++ (60 :: (t.data.toList ++ 62 :: rest))) = some (t, rest) := by
 unfold Y3Y
 rw [Y29, Y2v (by decide)]
 simp only [if_true]
 rw [upGt_mk _ _ (iri_no h 62 (by decide) (by decide))]
 have et : (⟨t.data.toList.toArray⟩ : ByteArray) = t := Y51 (by simp)
 simp only [et, h, if_true]
def Endy (l : List UInt8) : Prop := hd (skip l) ≠ 42 ∧ hd (skip l) ≠ 43 ∧ hd (skip l) ≠ 63 ∧ hd (skip l) ≠ 47 ∧ hd (skip l) ≠ 124
theorem Endy.bl {l : List UInt8} (h : Endy l) (n : Nat) : Endy (bl n ++ l) := by unfold Endy at h ⊢; rw [Y29]; exact h
theorem Y32 {d : Nat} {l : List UInt8} {p : S37} {r : List UInt8} (h : P .step d l (.ok p (skip r))) (he : Endy r) : P .path d l (.ok p (skip r)) := by
 have e := Y1c r
 obtain ⟨h1, h2, h3, h4, h5⟩ := he
 have s1 : P (.seqL p) d (skip r) (.ok p (skip r)) := by have := P.seqL_end (d := d) (p := p) (l := skip r) (by rw [e]; exact h4); rw [e] at this; exact this
 have s2 : P (.pathL p) d (skip r) (.ok p (skip r)) := by have := P.pathL_end (d := d) (p := p) (l := skip r) (by rw [e]; exact h5); rw [e] at this; exact this
 exact .path_ok (.seq_ok h s1) s2
theorem Y2P {d : Nat} {l : List UInt8} {p : S37} {r : List UInt8} (h : P .back d l (.ok p r)) (h1 : hd (skip r) ≠ 42) (h2 : hd (skip r) ≠ 43) (h3 : hd (skip r) ≠ 63) : P .step d l (.ok p (skip r)) := .step_ok h (.stepL_end h1 h2 h3)
theorem Y2j {d : Nat} {l : List UInt8} {c : Int} {lb : List UInt8} (h : P .back d l (.bad c lb)) : P .path d l (.bad c lb) := .path_bad (.seq_bad (.step_bad h))
theorem Y58 (d n : Nat) (rest : List UInt8) : ∀ (ts us : List ByteArray), (∀ x ∈ ts, Y38 x = true) → P (.notL us) d (bl n ++ (Y6N n ts ++ rest)) (.ok (pNot (us ++ ts)) (bl n ++ rest))
 | [], us, _ => by
  rw [List.append_nil]
  refine .notL_end ?_
  rw [Y29]
  exact Y2v (by decide) _
 | t :: ts, us, h => by
  have ih := Y58 d n rest ts (us ++ [t]) (fun x m => h x (List.mem_cons_of_mem _ m))
  rw [List.append_assoc, List.singleton_append] at ih
  refine .notL_more (r := bl n ++ (60 :: (t.data.toList ++ 62 :: (bl n ++ (Y6N n ts ++ rest))))) (t := t) (l1 := bl n ++ (Y6N n ts ++ rest)) ?_ (Y5l (h t (List.mem_cons_self ..)) n _) ih
  rw [Y29]
  simp only [Y6N, List.cons_append, List.append_assoc]
  exact Y2v (by decide) _
def Back (p : S37) (f : Nat → List UInt8) : Prop :=
 ∃ g : Nat → List UInt8, (∀ n, f n = g n ++ bl n) ∧ ∀ d, (∀ n m rest, P .back d (bl m ++ (g n ++ rest)) (.ok p rest)) ∨ (∀ n m rest, ∃ lb, P .back d (bl m ++ (g n ++ rest)) (.bad 3 lb))
def Path (p : S37) (f : Nat → List UInt8) : Prop :=
 ∀ d, (∀ n m rest, Endy rest → P .path d (bl m ++ (f n ++ rest)) (.ok p (skip rest))) ∨ (∀ n m rest, Endy rest → ∃ lb, P .path d (bl m ++ (f n ++ rest)) (.bad 3 lb))
theorem Rd.reads {w p f} (h : Rd w p f) : (w = true → Back p f) ∧ (w = false → Path p f) := by
 induction h with
 | @iri t hi =>
  refine ⟨(fun e => by cases e), fun _ d => Or.inl fun n m rest he => ?_⟩
  have h1 := Y5l hi m (bl n ++ rest)
  have h2 : P .back d (bl m ++ (60 :: (t.data.toList ++ 62 :: (bl n ++ rest)))) (.ok (pIri t) (bl n ++ rest)) := .iri_ok (by rw [Y29]; exact Y2v (by decide) _) h1
  simp only [List.cons_append, List.append_assoc]
  have he2 := he.bl n
  have := Y32 (Y2P h2 he2.1 he2.2.1 he2.2.2.1) he2
  rw [Y29] at this
  exact this
 | @up p f _ ih =>
  refine ⟨(fun e => by cases e), fun _ d => ?_⟩
  obtain ⟨g, hg, hb⟩ := ih.1 rfl
  have sk : ∀ n m rest, skip (bl m ++ (94 :: (bl n ++ f n) ++ rest)) = 94 :: (bl n ++ (g n ++ (bl n ++ rest))) := by
   intro n m rest
   rw [Y29, List.cons_append, Y2v (by decide), hg n]
   simp [List.append_assoc]
  by_cases h5 : d < 5
  ·rcases hb (d + 1) with hb | hb
   ·refine Or.inl fun n m rest he => ?_
    have h2 : P .back d (bl m ++ (94 :: (bl n ++ f n) ++ rest)) (.ok (pK 2 [p]) (bl n ++ rest)) := .up_ok (sk n m rest) h5 (hb n n _)
    have he2 := he.bl n
    have := Y32 (Y2P h2 he2.1 he2.2.1 he2.2.2.1) he2
    rw [Y29] at this
    exact this
   ·refine Or.inr fun n m rest he => ?_
    obtain ⟨lb, h2⟩ := hb n n (bl n ++ rest)
    exact ⟨lb, Y2j (.up_bad (sk n m rest) h5 h2)⟩
  ·exact Or.inr fun n m rest he => ⟨_, Y2j (.full (sk n m rest) (Or.inl rfl) (by omega))⟩
 | @two k c p q f g hk _ _ ih1 ih2 =>
  refine ⟨(fun e => by cases e), fun _ d => ?_⟩
  obtain ⟨f1, hf1, hb1⟩ := ih1.1 rfl
  obtain ⟨g1, hg1, hb2⟩ := ih2.1 rfl
  have hc : c ≠ 32 ∧ c ≠ 42 ∧ c ≠ 43 ∧ c ≠ 63 := by rcases hk with ⟨_, rfl⟩ | ⟨_, rfl⟩ <;> decide
  have hcn : ∀ (r : List UInt8), hd (c :: r) ≠ 42 ∧ hd (c :: r) ≠ 43 ∧ hd (c :: r) ≠ 63 := by
   intro r
   rcases hk with ⟨_, rfl⟩ | ⟨_, rfl⟩
   ·exact ⟨by show (47 : Int) ≠ 42; decide, by show (47 : Int) ≠ 43; decide, by show (47 : Int) ≠ 63; decide⟩
   ·exact ⟨by show (124 : Int) ≠ 42; decide, by show (124 : Int) ≠ 43; decide, by show (124 : Int) ≠ 63; decide⟩
  have tx : ∀ n m rest, bl m ++ (f n ++ c :: (bl n ++ g n) ++ rest) = bl m ++ (f1 n ++ (bl n ++ (c :: (bl n ++ (g1 n ++ (bl n ++ rest)))))) := by
   intro n m rest
   rw [hf1 n, hg1 n]
   simp [List.append_assoc]
  have sk : ∀ n (r : List UInt8), skip (bl n ++ (c :: r)) = c :: r := fun n r => by rw [Y29]; exact Y2v hc.1 _
  have sk2 : ∀ (r : List UInt8), skip (c :: r) = c :: r := fun r => Y2v hc.1 _
  rcases hb1 d with hb1 | hb1
  ·have st : ∀ n m rest, P .step d (bl m ++ (f1 n ++ (bl n ++ (c :: (bl n ++ (g1 n ++ (bl n ++ rest))))))) (.ok p (c :: (bl n ++ (g1 n ++ (bl n ++ rest))))) := by
    intro n m rest
    have := Y2P (hb1 n m (bl n ++ (c :: (bl n ++ (g1 n ++ (bl n ++ rest)))))) (by rw [sk]; exact (hcn _).1) (by rw [sk]; exact (hcn _).2.1) (by rw [sk]; exact (hcn _).2.2)
    rw [sk] at this
    exact this
   rcases hb2 d with hb2 | hb2
   ·refine Or.inl fun n m rest he => ?_
    rw [tx]
    have he2 := he.bl n
    have s2 := Y2P (hb2 n n (bl n ++ rest)) he2.1 he2.2.1 he2.2.2.1
    rw [Y29] at s2
    have e := Y1c rest
    obtain ⟨h1, h2, h3, h4, h5⟩ := he
    have z1 : ∀ x, P (.seqL x) d (skip rest) (.ok x (skip rest)) := fun x => by have := P.seqL_end (d := d) (p := x) (l := skip rest) (by rw [e]; exact h4); rw [e] at this; exact this
    have z2 : ∀ x, P (.pathL x) d (skip rest) (.ok x (skip rest)) := fun x => by have := P.pathL_end (d := d) (p := x) (l := skip rest) (by rw [e]; exact h5); rw [e] at this; exact this
    rcases hk with ⟨rfl, rfl⟩ | ⟨rfl, rfl⟩
    ·exact .path_ok (.seq_ok (st n m rest) (.seqL_more (sk2 _) s2 (z1 _))) (z2 _)
    ·have z3 : P (.seqL p) d (124 :: (bl n ++ (g1 n ++ (bl n ++ rest)))) (.ok p (124 :: (bl n ++ (g1 n ++ (bl n ++ rest))))) := by
      have := P.seqL_end (d := d) (p := p) (l := 124 :: (bl n ++ (g1 n ++ (bl n ++ rest)))) (by rw [sk2]; show (124 : Int) ≠ 47; decide)
      rw [sk2] at this
      exact this
     exact .path_ok (.seq_ok (st n m rest) z3) (.pathL_more (sk2 _) (.seq_ok s2 (z1 _)) (z2 _))
   ·refine Or.inr fun n m rest he => ?_
    rw [tx]
    obtain ⟨lb, h2⟩ := hb2 n n (bl n ++ rest)
    rcases hk with ⟨rfl, rfl⟩ | ⟨rfl, rfl⟩
    ·exact ⟨lb, .path_bad (.seq_ok (st n m rest) (.seqL_bad (sk2 _) (.step_bad h2)))⟩
    ·have z3 : P (.seqL p) d (124 :: (bl n ++ (g1 n ++ (bl n ++ rest)))) (.ok p (124 :: (bl n ++ (g1 n ++ (bl n ++ rest))))) := by
      have := P.seqL_end (d := d) (p := p) (l := 124 :: (bl n ++ (g1 n ++ (bl n ++ rest)))) (by rw [sk2]; show (124 : Int) ≠ 47; decide)
      rw [sk2] at this
      exact this
     exact ⟨lb, .path_ok (.seq_ok (st n m rest) z3) (.pathL_bad (sk2 _) (.seq_bad (.step_bad h2)))⟩
  ·refine Or.inr fun n m rest he => ?_
   rw [tx]
   obtain ⟨lb, h2⟩ := hb1 n m (bl n ++ (c :: (bl n ++ (g1 n ++ (bl n ++ rest)))))
   exact ⟨lb, Y2j h2⟩
 | @many k c p f hk _ ih =>
  refine ⟨(fun e => by cases e), fun _ d => ?_⟩
  obtain ⟨f1, hf1, hb1⟩ := ih.1 rfl
  have hc : c ≠ 32 := by rcases hk with ⟨_, rfl⟩ | ⟨_, rfl⟩ | ⟨_, rfl⟩ <;> decide
  have hc2 : (c = 42 ∨ c = 43 ∨ c = 63) ∧ signK c.toNat = k := by rcases hk with ⟨rfl, rfl⟩ | ⟨rfl, rfl⟩ | ⟨rfl, rfl⟩ <;> decide
  have tx : ∀ n m rest, bl m ++ (f n ++ c :: bl n ++ rest) = bl m ++ (f1 n ++ (bl n ++ (c :: (bl n ++ rest)))) := by
   intro n m rest
   rw [hf1 n]
   simp [List.append_assoc]
  rcases hb1 d with hb1 | hb1
  ·refine Or.inl fun n m rest he => ?_
   rw [tx]
   have he2 := he.bl n
   have z : P (.stepL (pK k [p])) d (bl n ++ rest) (.ok (pK k [p]) (skip (bl n ++ rest))) := .stepL_end he2.1 he2.2.1 he2.2.2.1
   rw [← hc2.2] at z
   have s2 : P .step d (bl m ++ (f1 n ++ (bl n ++ (c :: (bl n ++ rest))))) (.ok (pK (signK c.toNat) [p]) (skip (bl n ++ rest))) :=
    .step_ok (hb1 n m _) (.stepL_more (by rw [Y29]; exact Y2v hc _) hc2.1 z)
   have := Y32 s2 he2
   rw [Y29, hc2.2] at this
   exact this
  ·refine Or.inr fun n m rest he => ?_
   rw [tx]
   obtain ⟨lb, h2⟩ := hb1 n m (bl n ++ (c :: (bl n ++ rest)))
   exact ⟨lb, Y2j h2⟩
 | @not t ts hall =>
  refine ⟨(fun e => by cases e), fun _ d => Or.inl fun n m rest he => ?_⟩
  have h1 := Y58 d n rest ts [t] (fun x mx => hall x (List.mem_cons_of_mem _ mx))
  have h2 : P .back d (bl m ++ (33 :: 40 :: (bl n ++ notI n t ts) ++ rest)) (.ok (pNot (t :: ts)) (bl n ++ rest)) := by
   refine .not_ (r := 40 :: (bl n ++ (60 :: (t.data.toList ++ 62 :: (bl n ++ (Y6N n ts ++ rest)))))) ?_ (.nt_br (Y5l (hall t (List.mem_cons_self ..)) n _) h1)
   rw [Y29]
   simp only [notI, List.cons_append, List.append_assoc]
   exact Y2v (by decide) _
  have he2 := he.bl n
  have := Y32 (Y2P h2 he2.1 he2.2.1 he2.2.2.1) he2
  rw [Y29] at this
  exact this
 | @w_iri t f h ih =>
  refine ⟨fun _ => ?_, fun e => by cases e⟩
  cases h with
  | iri hi =>
   refine ⟨fun n => 60 :: (t.data.toList ++ [62]), fun n => by simp, fun d => Or.inl fun n m rest => ?_⟩
   have h1 := Y5l hi m rest
   simp only [List.cons_append, List.append_assoc, List.singleton_append]
   exact .iri_ok (by rw [Y29]; exact Y2v (by decide) _) h1
 | @w_br p f h0 _ ih =>
  refine ⟨fun _ => ⟨fun n => 40 :: (bl n ++ (f n ++ [41])), fun n => by simp, fun d => ?_⟩, fun e => by cases e⟩
  have sk : ∀ n m rest, skip (bl m ++ (40 :: (bl n ++ (f n ++ [41])) ++ rest)) = 40 :: (bl n ++ (f n ++ 41 :: rest)) := by
   intro n m rest
   rw [Y29, List.cons_append, Y2v (by decide)]
   simp [List.append_assoc]
  have he : ∀ rest : List UInt8, Endy (41 :: rest) := by
   intro rest
   unfold Endy
   rw [Y2v (by decide)]
   exact ⟨by show (41 : Int) ≠ 42; decide, by show (41 : Int) ≠ 43; decide, by show (41 : Int) ≠ 63; decide, by show (41 : Int) ≠ 47; decide, by show (41 : Int) ≠ 124; decide⟩
  by_cases h5 : d < 5
  ·rcases ih.2 rfl (d + 1) with hb | hb
   ·refine Or.inl fun n m rest => ?_
    have h1 := hb n n (41 :: rest) (he rest)
    rw [Y2v (by decide)] at h1
    exact .br_ok (sk n m rest) h5 h1 (Y2v (by decide) _)
   ·refine Or.inr fun n m rest => ?_
    obtain ⟨lb, h1⟩ := hb n n (41 :: rest) (he rest)
    exact ⟨lb, .br_bad (sk n m rest) h5 h1⟩
  ·exact Or.inr fun n m rest => ⟨_, .full (sk n m rest) (Or.inr rfl) (by omega)⟩
theorem Y2M (a b : ByteArray) : (a ++ b).data.toList = a.data.toList ++ b.data.toList := by simp
theorem Y24 (a b : ByteArray) : (a ++ b).size = a.size + b.size := by simp
def Y4O (p : S37) (k : Nat) : Option ByteArray := YH.f k p.f0 p.f1 p.f2 p.f3
def Y4P (p : S37) (k : Nat) : Option ByteArray := YL.f k p.f0 p.f1 p.f2 p.f3
def brI (p : S37) (k : Nat) : Option ByteArray := YK.f k p.f0 p.f1 p.f2 p.f3
def wiR (p : S37) (k : Nat) : Option ByteArray := YY.f k p.f0 p.f1 p.f2 p.f3
theorem Rd.in1 {p f} (h : Rd false p f) (h0 : p.f0 = 1) : Rd true p f := by
 cases h with
 | iri hi => exact .w_iri (.iri hi)
 | up _ => cases h0
 | two hk _ _ => rcases hk with ⟨rfl, _⟩ | ⟨rfl, _⟩ <;> cases h0
 | many hk _ => rcases hk with ⟨rfl, _⟩ | ⟨rfl, _⟩ | ⟨rfl, _⟩ <;> cases h0
 | not _ => cases h0
def Shows (p : S37) (B : Nat) : Prop := ∃ f t, Rd false p f ∧ Ev (Y4O p) t ∧ Ev (Y4P p) t ∧ t.data.toList = f 0 ∧ t.size ≤ B
def Within (p : S37) (B : Nat) : Prop := ∃ f t, Rd true p f ∧ Ev (brI p) t ∧ Ev (wiR p) t ∧ t.data.toList = f 0 ∧ t.size ≤ B
theorem Shows.within {p : S37} {B : Nat} (hB : B ≤ 100000000) (h : Shows p B) : Within p (B + 2) := by
 obtain ⟨f, t, h1, h2, h3, h4, h5⟩ := h
 by_cases h0 : p.f0 = 1
 ·refine ⟨f, t, h1.in1 h0, Ev.up ?_, Ev.up ?_, h4, by omega⟩
  ·simp only [brI, YK.f, if_pos h0]; exact Ev.bind h2 (Ev.now _)
  ·simp only [wiR, YY.f, if_pos h0]; exact Ev.bind h3 (Ev.now _)
 ·refine ⟨_, (⟨#[40]⟩ : ByteArray) ++ t ++ ⟨#[41]⟩, .w_br h0 h1, Ev.up ?_, Ev.up ?_, ?_, ?_⟩
  ·simp only [brI, YK.f, if_neg h0]
   refine Ev.bind h2 ?_
   simp only [if_pos (show 1 + t.size ≤ 9223372036854775807 by omega), if_pos (show 1 + t.size + 1 ≤ 9223372036854775807 by omega)]
   exact Z1b
  ·simp only [wiR, YY.f, if_neg h0]
   refine Ev.bind h3 ?_
   simp only [if_pos (show 1 + t.size ≤ 9223372036854775807 by omega), if_pos (show 1 + t.size + 1 ≤ 9223372036854775807 by omega)]
   exact Z1b
  ·rw [Y2M, Y2M, h4]; simp [bl]
  ·rw [Y24, Y24]
   have e1 : (⟨#[40]⟩ : ByteArray).size = 1 := rfl
   have e2 : (⟨#[41]⟩ : ByteArray).size = 1 := rfl
   omega
theorem Y5o : ∀ (ts : List ByteArray) (t : ByteArray), 60 :: (Y3v [62, 124, 60] (t :: ts) ++ [62, 41]) = notI 0 t ts
 | [], t => by simp [Y3v, notI, Y6N, bl]
 | u :: ts, t => by
  have ih := Y5o ts u
  simp only [Y3v, notI, Y6N, bl, List.replicate_zero, List.nil_append] at ih ⊢
  rw [← ih]
  simp
theorem Y5c (p : S37) (hall : ∀ x ∈ p.f2, x.size ≤ 60) : ∀ d i : Nat, i + d = p.f2.length → 1 ≤ i → p.f2.length ≤ 4 → ∀ x : ByteArray, x.size + 63 * d ≤ 100000 →
  ∃ t, Ev (fun k => YL.l0 k x (i : Int) p.f0 p.f1 p.f2 p.f3) t ∧ t.data.toList = x.data.toList ++ Y6N 0 (p.f2.drop i)
 | 0, i, h, hi, hn, x, hx => by
  refine ⟨x ++ ⟨#[41]⟩, Ev.up ?_, ?_⟩
  ·simp only [YL.l0, if_neg (show ¬ (i : Int) < (p.f2.length : Int) by omega), if_pos (show x.size + 1 ≤ 9223372036854775807 by omega)]
   exact Z1b
  ·rw [List.drop_of_length_le (by omega), Y2M]; simp [Y6N, bl]
 | d + 1, i, h, hi, hn, x, hx => by
  have h1 : i < p.f2.length := by omega
  have hz := hall p.f2[i] (List.getElem_mem h1)
  have es : ((((x ++ (⟨#[124]⟩ : ByteArray)) ++ (⟨#[60]⟩ : ByteArray)) ++ p.f2[i]) ++ (⟨#[62]⟩ : ByteArray)).size = x.size + 1 + 1 + p.f2[i].size + 1 := by
   rw [Y24, Y24, Y24, Y24]; rfl
  obtain ⟨t, e, ht⟩ := Y5c p hall d (i + 1) (by omega) (by omega) hn ((((x ++ (⟨#[124]⟩ : ByteArray)) ++ (⟨#[60]⟩ : ByteArray)) ++ p.f2[i]) ++ (⟨#[62]⟩ : ByteArray)) (by rw [es]; omega)
  refine ⟨t, Ev.up ?_, ?_⟩
  ·simp only [YL.l0, if_pos (show (i : Int) < (p.f2.length : Int) by omega), if_pos (show (i : Int) > 0 by omega), if_pos (show (0 : Int) ≤ (i : Int) by omega), Y3x h1, if_pos (show x.size + 1 ≤ 9223372036854775807 by omega), if_pos (show x.size + 1 + 1 ≤ 9223372036854775807 by omega), if_pos (show x.size + 1 + 1 + p.f2[i].size ≤ 9223372036854775807 by omega), if_pos (show x.size + 1 + 1 + p.f2[i].size + 1 ≤ 9223372036854775807 by omega), Y3D h1 (show p.f2.length ≤ 1000000 by omega)]
   exact e
  ·rw [ht, List.drop_eq_getElem_cons h1]
   simp [Y6N, bl, Y2M]
theorem shows {deep : Nat} {p : S37} (h : May deep p) : ∀ m, deep + m = 6 → Shows p (1000 * 4 ^ m) := by
 induction h with
 | @mk deep p ht _ ih =>
  intro m hm
  obtain ⟨h5, hk, hi, hb0, h8, h80, hall⟩ := ht
  obtain ⟨m, rfl⟩ : ∃ m', m = m' + 1 := ⟨m - 1, by omega⟩
  have hp4 : 1 ≤ 4 ^ m := Nat.pos_of_ne_zero (by simp)
  have hp5 : 4 ^ m ≤ 4 ^ 6 := Nat.pow_le_pow_right (by omega) (by omega)
  have hp6 : (4 : Nat) ^ 6 = 4096 := by decide
  have hp7 : 4 ^ (m + 1) = 4 * 4 ^ m := by rw [Nat.pow_succ, Nat.mul_comm]
  have hin : ∀ q ∈ p.f3, Within q (1000 * 4 ^ m + 2) := fun q hq => (ih q hq m (by omega)).within (by omega)
  rw [hp7]
  generalize hB : 4 ^ m = B at *
  clear hp7 hB ih
  obtain ⟨a, b, c, d⟩ := p
  simp only at hk hi hb0 h8 h80 hall hin
  by_cases a1 : a = 1
  ·subst a1
   have hz := Y5n (hi rfl)
   have hd0 : d = [] := by rw [show Y2R 1 = 0 from rfl] at hk; exact List.eq_nil_of_length_eq_zero (by omega)
   rw [h80 (by decide), hd0]
   refine ⟨_, (⟨#[60]⟩ : ByteArray) ++ b ++ ⟨#[62]⟩, .iri (hi rfl), Ev.up ?_, Ev.up ?_, ?_, ?_⟩
   ·simp only [Y4O, YH.f, if_true, if_pos (show 1 + b.size ≤ 9223372036854775807 by omega), if_pos (show 1 + b.size + 1 ≤ 9223372036854775807 by omega)]
    exact Z1b
   ·simp only [Y4P, YL.f, if_true, if_pos (show 1 + b.size ≤ 9223372036854775807 by omega), if_pos (show 1 + b.size + 1 ≤ 9223372036854775807 by omega)]
    exact Z1b
   ·rw [Y2M, Y2M]; simp [bl]
   ·rw [Y24, Y24]
    have e1 : (⟨#[60]⟩ : ByteArray).size = 1 := rfl
    have e2 : (⟨#[62]⟩ : ByteArray).size = 1 := rfl
    omega
  have hbe : b = ⟨#[]⟩ := hb0 a1
  subst hbe
  by_cases a8 : a = 8
  ·subst a8
   have hd0 : d = [] := by rw [show Y2R 8 = 0 from rfl] at hk; exact List.eq_nil_of_length_eq_zero (by omega)
   subst hd0
   have hl := h8 rfl
   cases c with
   | nil => simp at hl
   | cons t ts =>
    have hsz : ∀ x ∈ t :: ts, x.size ≤ 60 := fun x hx => (Y5n (hall x hx)).2
    have htz := hsz t (List.mem_cons_self ..)
    have h60 : (((⟨#[33, 40]⟩ : ByteArray) ++ (⟨#[60]⟩ : ByteArray)) ++ t ++ (⟨#[62]⟩ : ByteArray)).size = 2 + 1 + t.size + 1 := by
     rw [Y24, Y24, Y24]; rfl
    simp only [List.length_cons] at hl
    obtain ⟨r, er, hr⟩ := Y5c ⟨8, ⟨#[]⟩, t :: ts, []⟩ hsz ts.length 1 Z1x (by omega) Z1x (((⟨#[33, 40]⟩ : ByteArray) ++ (⟨#[60]⟩ : ByteArray)) ++ t ++ (⟨#[62]⟩ : ByteArray)) (by rw [h60]; omega)
    have hlist : r.data.toList = 33 :: 40 :: notI 0 t ts := by
     rw [hr, Y2M, Y2M, Y2M]
     simp [notI, bl]
    have hjl : ∀ (ts : List ByteArray) (t : ByteArray), (∀ x ∈ t :: ts, x.size ≤ 60) → (Y3v [62, 124, 60] (t :: ts)).length ≤ 63 * (ts.length + 1) := by
     intro ts
     induction ts with
     | nil => intro t h; have := h t (List.mem_cons_self ..); simp only [Y3v, List.length_nil]; rw [Y3s]; omega
     | cons u ts ih =>
      intro t h
      have h1 := h t (List.mem_cons_self ..)
      have h2 := ih u (fun x hx => h x (List.mem_cons_of_mem _ hx))
      simp only [Y3v, List.length_append, List.length_cons, List.length_nil]
      rw [Y3s]
      omega
    have hj := hjl ts t hsz
    have hsep : (⟨#[62, 124, 60]⟩ : ByteArray).data.toList = [62, 124, 60] := rfl
    refine ⟨_, r, .not hall, Ev.up ?_, Ev.up ?_, by rw [hlist]; simp [bl], ?_⟩
    ·simp only [Y4O, YH.f, if_neg (show ¬ (8 : Int) = 1 by decide), if_neg (show ¬ (8 : Int) = 2 by decide), if_neg (show ¬ (8 : Int) = 3 by decide), if_neg (show ¬ (8 : Int) = 4 by decide), if_neg (show ¬ (8 : Int) = 5 by decide), if_neg (show ¬ (8 : Int) = 6 by decide), if_neg (show ¬ (8 : Int) = 7 by decide)]
     unfold strings_Join.f
     have hok : Y5G (t :: ts) ⟨#[62, 124, 60]⟩ = true := by
      unfold Y5G
      simp only [Bool.and_eq_true, decide_eq_true_eq, List.all_eq_true]
      refine ⟨⟨Z1x, fun x hx => by have := hsz x hx; omega⟩, by decide⟩
     have hjs : (⟨(Y3v [62, 124, 60] (t :: ts)).toArray⟩ : ByteArray).size = (Y3v [62, 124, 60] (t :: ts)).length := by rw [← Y3s]
     rw [if_pos hok, hsep]
     simp only [Option.bind_some]
     rw [if_pos (by rw [hjs]; omega), if_pos (by rw [hjs]; omega)]
     have : (((⟨#[33, 40, 60]⟩ : ByteArray) ++ (⟨(Y3v [62, 124, 60] (t :: ts)).toArray⟩ : ByteArray)) ++ (⟨#[62, 41]⟩ : ByteArray)) = r := by
      apply Y51
      rw [hlist, Y2M, Y2M, ← Y5o]
      simp
     rw [this]
     exact Z1b
    ·simp only [Y4P, YL.f, if_neg (show ¬ (8 : Int) = 1 by decide), if_neg (show ¬ (8 : Int) = 2 by decide), if_neg (show ¬ (8 : Int) = 3 by decide), if_neg (show ¬ (8 : Int) = 4 by decide), if_true]
     refine Ev.up ?_
     have r0 : Y37 ByteArray.empty (t :: ts) (0 : Int) = t := rfl
     have e2 : (⟨#[33, 40]⟩ : ByteArray).size = 2 := rfl
     have e0 : wrap64 ((0 : Int) + 1) = ((1 : Nat) : Int) := by unfold wrap64; omega
     simp only [YL.l0, if_pos (show (0 : Int) < ((t :: ts).length : Int) by simp only [List.length_cons]; omega), if_neg (show ¬ (0 : Int) > 0 by decide), if_pos (show (0 : Int) ≤ 0 by decide), r0, if_pos (show (⟨#[33, 40]⟩ : ByteArray).size + 1 ≤ 9223372036854775807 by omega), if_pos (show (⟨#[33, 40]⟩ : ByteArray).size + 1 + t.size ≤ 9223372036854775807 by omega), if_pos (show (⟨#[33, 40]⟩ : ByteArray).size + 1 + t.size + 1 ≤ 9223372036854775807 by omega), e0]
     exact er
    ·have hrs : r.size = r.data.toList.length := (Y3s r).symm
     rw [hlist] at hrs
     rw [← Y5o] at hrs
     simp only [List.length_cons, List.length_append, List.length_nil] at hrs
     omega
  have hc0 : c = [] := h80 a8
  subst hc0
  by_cases a34 : a = 3 ∨ a = 4
  ·have hd2 : d.length = 2 := by rcases a34 with rfl | rfl <;> (first | rw [show Y2R 3 = 2 from rfl] at hk | rw [show Y2R 4 = 2 from rfl] at hk) <;> omega
   match d, hd2 with
   | [q1, q2], _ =>
    obtain ⟨f1, t1, g1, i1, j1, l1, s1⟩ := hin q1 (by simp)
    obtain ⟨f2, t2, g2, i2, j2, l2, s2⟩ := hin q2 (by simp)
    have r0 : Yk [q1, q2] 0 = q1 := rfl
    have r1 : Yk [q1, q2] 1 = q2 := rfl
    have p0 : (0 : Int) < (([q1, q2] : List S37).length : Int) := by simp
    have p1 : (1 : Int) < (([q1, q2] : List S37).length : Int) := by simp
    rcases a34 with rfl | rfl
    ·refine ⟨_, (t1 ++ (⟨#[47]⟩ : ByteArray)) ++ t2, .two (Or.inl ⟨rfl, rfl⟩) g1 g2, Ev.up ?_, Ev.up ?_, ?_, ?_⟩
     ·simp only [Y4O, YH.f, if_neg (show ¬ (3 : Int) = 1 by decide), if_neg (show ¬ (3 : Int) = 2 by decide), if_true, if_pos p0, if_pos p1, r0, r1]
      refine Ev.bind i1 ?_
      simp only [if_pos (show t1.size + 1 ≤ 9223372036854775807 by omega)]
      refine Ev.bind i2 ?_
      simp only [if_pos (show t1.size + 1 + t2.size ≤ 9223372036854775807 by omega)]
      exact Z1b
     ·simp only [Y4P, YL.f, if_neg (show ¬ (3 : Int) = 1 by decide), if_neg (show ¬ (3 : Int) = 2 by decide), if_true, if_pos p0, if_pos p1, r0, r1]
      refine Ev.bind j1 ?_
      simp only [if_pos (show t1.size + 1 ≤ 9223372036854775807 by omega)]
      refine Ev.bind j2 ?_
      simp only [if_pos (show t1.size + 1 + t2.size ≤ 9223372036854775807 by omega)]
      exact Z1b
     ·rw [Y2M, Y2M, l1, l2]; simp [bl]
     ·rw [Y24, Y24]
      have e1 : (⟨#[47]⟩ : ByteArray).size = 1 := rfl
      omega
    ·refine ⟨_, (t1 ++ (⟨#[124]⟩ : ByteArray)) ++ t2, .two (Or.inr ⟨rfl, rfl⟩) g1 g2, Ev.up ?_, Ev.up ?_, ?_, ?_⟩
     ·simp only [Y4O, YH.f, if_neg (show ¬ (4 : Int) = 1 by decide), if_neg (show ¬ (4 : Int) = 2 by decide), if_neg (show ¬ (4 : Int) = 3 by decide), if_true, if_pos p0, if_pos p1, r0, r1]
      refine Ev.bind i1 ?_
      simp only [if_pos (show t1.size + 1 ≤ 9223372036854775807 by omega)]
      refine Ev.bind i2 ?_
      simp only [if_pos (show t1.size + 1 + t2.size ≤ 9223372036854775807 by omega)]
      exact Z1b
     ·simp only [Y4P, YL.f, if_neg (show ¬ (4 : Int) = 1 by decide), if_neg (show ¬ (4 : Int) = 2 by decide), if_neg (show ¬ (4 : Int) = 3 by decide), if_true, if_pos p0, if_pos p1, r0, r1]
      refine Ev.bind j1 ?_
      simp only [if_pos (show t1.size + 1 ≤ 9223372036854775807 by omega)]
      refine Ev.bind j2 ?_
      simp only [if_pos (show t1.size + 1 + t2.size ≤ 9223372036854775807 by omega)]
      exact Z1b
     ·rw [Y2M, Y2M, l1, l2]; simp [bl]
     ·rw [Y24, Y24]
      have e1 : (⟨#[124]⟩ : ByteArray).size = 1 := rfl
      omega
  by_cases a27 : a = 2 ∨ a = 5 ∨ a = 6 ∨ a = 7
  ·have hd1 : d.length = 1 := by
    have : Y2R a = 1 := by rcases a27 with rfl | rfl | rfl | rfl <;> rfl
    omega
   match d, hd1 with
   | [q1], _ =>
    obtain ⟨f1, t1, g1, i1, j1, l1, s1⟩ := hin q1 (by simp)
    have r0 : Yk [q1] 0 = q1 := rfl
    have p0 : (0 : Int) < (([q1] : List S37).length : Int) := by simp
    rcases a27 with rfl | a57
    ·refine ⟨_, (⟨#[94]⟩ : ByteArray) ++ t1, .up g1, Ev.up ?_, Ev.up ?_, ?_, ?_⟩
     ·simp only [Y4O, YH.f, if_neg (show ¬ (2 : Int) = 1 by decide), if_true, if_pos p0, r0]
      refine Ev.bind i1 ?_
      simp only [if_pos (show 1 + t1.size ≤ 9223372036854775807 by omega)]
      exact Z1b
     ·simp only [Y4P, YL.f, if_neg (show ¬ (2 : Int) = 1 by decide), if_true, if_pos p0, r0]
      refine Ev.bind j1 ?_
      simp only [if_pos (show 1 + t1.size ≤ 9223372036854775807 by omega)]
      exact Z1b
     ·rw [Y2M, l1]; simp [bl]
     ·rw [Y24]
      have e1 : (⟨#[94]⟩ : ByteArray).size = 1 := rfl
      omega
    ·have mk : ∀ (c : UInt8), (a = 5 ∧ c = 42 ∨ a = 6 ∧ c = 43 ∨ a = 7 ∧ c = 63) → Ev (Y4O ⟨a, ⟨#[]⟩, [], [q1]⟩) (t1 ++ ⟨#[c]⟩) → Ev (Y4P ⟨a, ⟨#[]⟩, [], [q1]⟩) (t1 ++ ⟨#[c]⟩) → Shows ⟨a, ⟨#[]⟩, [], [q1]⟩ (1000 * (4 * B)) := by
      intro c hc e1 e2
      refine ⟨_, _, .many hc g1, e1, e2, by rw [Y2M, l1]; simp [bl], ?_⟩
      rw [Y24]
      have e1 : (⟨#[c]⟩ : ByteArray).size = 1 := rfl
      omega
     rcases a57 with rfl | rfl | rfl
     ·refine mk 42 (Or.inl ⟨rfl, rfl⟩) (Ev.up ?_) (Ev.up ?_)
      ·simp only [Y4O, YH.f, if_neg (show ¬ (5 : Int) = 1 by decide), if_neg (show ¬ (5 : Int) = 2 by decide), if_neg (show ¬ (5 : Int) = 3 by decide), if_neg (show ¬ (5 : Int) = 4 by decide), if_true, if_pos p0, r0]
       refine Ev.bind i1 ?_
       simp only [if_pos (show t1.size + 1 ≤ 9223372036854775807 by omega)]
       exact Z1b
      ·simp only [Y4P, YL.f, if_neg (show ¬ (5 : Int) = 1 by decide), if_neg (show ¬ (5 : Int) = 2 by decide), if_neg (show ¬ (5 : Int) = 3 by decide), if_neg (show ¬ (5 : Int) = 4 by decide), if_neg (show ¬ (5 : Int) = 8 by decide), if_pos p0, r0]
       refine Ev.bind j1 ?_
       have e1 : (⟨#[42]⟩ : ByteArray).size = 1 := rfl
       simp only [Y2c.f, if_true, Option.bind_some, if_pos (show t1.size + (⟨#[42]⟩ : ByteArray).size ≤ 9223372036854775807 by omega)]
       exact Z1b
     ·refine mk 43 (Or.inr (Or.inl ⟨rfl, rfl⟩)) (Ev.up ?_) (Ev.up ?_)
      ·simp only [Y4O, YH.f, if_neg (show ¬ (6 : Int) = 1 by decide), if_neg (show ¬ (6 : Int) = 2 by decide), if_neg (show ¬ (6 : Int) = 3 by decide), if_neg (show ¬ (6 : Int) = 4 by decide), if_neg (show ¬ (6 : Int) = 5 by decide), if_true, if_pos p0, r0]
       refine Ev.bind i1 ?_
       simp only [if_pos (show t1.size + 1 ≤ 9223372036854775807 by omega)]
       exact Z1b
      ·simp only [Y4P, YL.f, if_neg (show ¬ (6 : Int) = 1 by decide), if_neg (show ¬ (6 : Int) = 2 by decide), if_neg (show ¬ (6 : Int) = 3 by decide), if_neg (show ¬ (6 : Int) = 4 by decide), if_neg (show ¬ (6 : Int) = 8 by decide), if_pos p0, r0]
       refine Ev.bind j1 ?_
       have e1 : (⟨#[43]⟩ : ByteArray).size = 1 := rfl
       simp only [Y2c.f, if_neg (show ¬ (6 : Int) = 5 by decide), if_true, Option.bind_some, if_pos (show t1.size + (⟨#[43]⟩ : ByteArray).size ≤ 9223372036854775807 by omega)]
       exact Z1b
     ·refine mk 63 (Or.inr (Or.inr ⟨rfl, rfl⟩)) (Ev.up ?_) (Ev.up ?_)
      ·simp only [Y4O, YH.f, if_neg (show ¬ (7 : Int) = 1 by decide), if_neg (show ¬ (7 : Int) = 2 by decide), if_neg (show ¬ (7 : Int) = 3 by decide), if_neg (show ¬ (7 : Int) = 4 by decide), if_neg (show ¬ (7 : Int) = 5 by decide), if_neg (show ¬ (7 : Int) = 6 by decide), if_true, if_pos p0, r0]
       refine Ev.bind i1 ?_
       simp only [if_pos (show t1.size + 1 ≤ 9223372036854775807 by omega)]
       exact Z1b
      ·simp only [Y4P, YL.f, if_neg (show ¬ (7 : Int) = 1 by decide), if_neg (show ¬ (7 : Int) = 2 by decide), if_neg (show ¬ (7 : Int) = 3 by decide), if_neg (show ¬ (7 : Int) = 4 by decide), if_neg (show ¬ (7 : Int) = 8 by decide), if_pos p0, r0]
       refine Ev.bind j1 ?_
       have e1 : (⟨#[63]⟩ : ByteArray).size = 1 := rfl
       simp only [Y2c.f, if_neg (show ¬ (7 : Int) = 5 by decide), if_neg (show ¬ (7 : Int) = 6 by decide), Option.bind_some, if_pos (show t1.size + (⟨#[63]⟩ : ByteArray).size ≤ 9223372036854775807 by omega)]
       exact Z1b
  ·exfalso
   have : Y2R a = -1 := by simp only [not_or] at a34 a27; simp [Y2R, a1, a8, a34, a27]
   omega
theorem shows0 {p : S37} (h : May 0 p) : ∃ f t, Rd false p f ∧ Ev (Y4O p) t ∧ Ev (Y4P p) t ∧ t.data.toList = f 0 ∧ t.size ≤ 4096000 := by
 obtain ⟨f, t, h1, h2, h3, h4, h5⟩ := shows h 6 rfl
 exact ⟨f, t, h1, h2, h3, h4, Nat.le_trans h5 (by decide)⟩
theorem Y6n : Endy [] := by unfold Endy; simp [skip, hd]
theorem rd_whole {p : S37} {f : Nat → List UInt8} (h : Rd false p f) : (∀ (s : ByteArray) (n m : Nat), s.data.toList = bl m ++ f n → s.size ≤ 600 → Whole s (.ok p)) ∨ (∀ (s : ByteArray) (n m : Nat), s.data.toList = bl m ++ f n → s.size ≤ 600 → ∃ a, Whole s (.bad 3 a)) := by
 rcases h.reads.2 rfl 0 with h | h
 ·refine Or.inl fun s n m e hs => ?_
  have := h n m [] Y6n
  rw [List.append_nil, ← e] at this
  exact .ok hs this rfl
 ·refine Or.inr fun s n m e hs => ?_
  obtain ⟨lb, this⟩ := h n m [] Y6n
  rw [List.append_nil, ← e] at this
  exact ⟨_, .bad hs this⟩
theorem law_back (p : S37) : ∃ k, triviumlaw12_QueryBack.f k p.f0 p.f1 p.f2 p.f3 = some true := by
 refine Ev.rounds (g := fun k => triviumlaw12_QueryBack.f k p.f0 p.f1 p.f2 p.f3) ?_
 unfold triviumlaw12_QueryBack.f
 obtain ⟨r1, b1, s1⟩ := big_all p 0 (by omega)
 have yes : Ev (fun k => triviumlaw12_QueryBack.j0 k true p.f0 p.f1 p.f2 p.f3) true := Ev.up (by simp only [triviumlaw12_QueryBack.j0, if_true]; exact Ev.now _)
 refine Ev.bind b1 ?_
 cases r1 with
 | true => simp only [if_true]; exact yes
 | false =>
  simp only [Bool.false_eq_true, if_false]
  have hp := (s1 rfl).2
  obtain ⟨b, i1, i2, i3⟩ := is_path hp
  refine Ev.bind i2 ?_
  cases b with
  | false => exact yes
  | true =>
   obtain ⟨f, t, hr, e1, e2, ht, hz⟩ := shows0 (i3 rfl)
   refine Ev.up ?_
   simp only [triviumlaw12_QueryBack.j0, Bool.not_true, Bool.false_eq_true, if_false]
   refine Ev.bind e1 ?_
   have err : ∀ (c at_ : Int), Whole t (.bad c at_) → Ev (fun k => triviumlaw12_QueryBack.j1 k t at_ c true p.f0 p.f1 p.f2 p.f3 0 ⟨#[]⟩ [] []) true := by
    intro c at_ hw
    obtain ⟨r, h1, hr⟩ := path_r t hw
    simp only [Ans.is] at hr
    subst hr
    refine Ev.up ?_
    simp only [triviumlaw12_QueryBack.j1, if_true]
    refine Ev.bind h1 ?_
    simp only [if_true]
    exact Ev.bind known12 (Ev.now _)
   by_cases h6 : t.size > 600
   ·obtain ⟨r, h1, hr2⟩ := path_i t (.long h6)
    simp only [Ans.is] at hr2
    subst hr2
    refine Ev.bind h1 ?_
    simp only [if_true]
    exact err 4 0 (.long h6)
   ·rcases rd_whole hr with hw | hw
    ·have hw := hw t 0 0 ht (by omega)
     obtain ⟨r, h1, hr2⟩ := path_i t hw
     simp only [Ans.is] at hr2
     subst hr2
     refine Ev.bind h1 ?_
     simp only [if_neg (show ¬ (0 : Int) = 4 by decide), show ((0 : Int) == 3) = false from rfl]
     refine Ev.up ?_
     simp only [triviumlaw12_QueryBack.j1, Bool.false_eq_true, if_false, if_true]
     refine Ev.bind ((same_r hp.fine p).1 rfl) ?_
     simp only [if_true]
     exact Ev.bind known12 (Ev.now _)
    ·obtain ⟨a, hw⟩ := hw t 0 0 ht (by omega)
     obtain ⟨r, h1, hr2⟩ := path_i t hw
     simp only [Ans.is] at hr2
     subst hr2
     refine Ev.bind h1 ?_
     simp only [if_neg (show ¬ (3 : Int) = 4 by decide), show ((3 : Int) == 3) = true from rfl]
     exact err 3 a hw
end Go.Proofs.YtbpbfboaofkpaaaDoor.Print
end
section
set_option linter.unusedVariables false
namespace Go.Proofs.YtbpbfboaofkpaaaDoor
open Go.ChangeShapes Go.WideShapes Go.ChangeAt Go.RowKit
open Go.ChangeMaps (open_string shut_string)
set_option maxRecDepth 100000 in
theorem Y4o (os : Os) (started : os.Started) (H : Type) (enc : TypeId × Value → H) :
  ReturnsInHanded {} Tryd.checked os 5 .any (fun w args => (Rows.queryBackSpec.pre enc Tryd.prog Tryd.f5 [] false w args ∧ laidMetH Tryd.prog laid2 w) ∧ sizedMet enc Tryd.prog Tryd.f5 (OpenSpec.ofChange Rows.queryBackSpec) false w args)
   (Rows.queryBackSpec.post enc Tryd.prog Tryd.f5 false true false false) := by
 refine Y5O (C := Tryd.checked) (X := fun w _ => laidMetH Tryd.prog laid2 w) (fun _ _ _ hh h => h.of_heap hh) own started Z6 Tryd.func5
  (ChangeSpec.witness_at (enc := enc) (C := Tryd.checked) (os := os) (X := fun w _ => laidMetH Tryd.prog laid2 w) false (Y5H os) #[.agg #[.int .i64 0, .string ByteArray.empty, .slice none 0 0, .slice none 0 0]] 8 rfl Z6 Z6 Z6 Z6 Z6 (Y5p os _)) ?_
 intro W base args ds gs before hval0 hW hL hsh
 have hval : ∀ (j : Nat) t v, Tryd.f5.params[j]? = some t → args[j]? = some v → Value.okWide Tryd.prog W .any base t v := hval0
 have hW' := hW
 obtain ⟨p, q, hA0, hV, rfl, hfz, hnd⟩ := hW
 have hA : DataW.TrodAll enc Tryd.prog W 0 (fun _ => true) true Tryd.f5.params.toList args.toList ds p := hA0
 rw [Tryd.params5] at hA hval
 obtain ⟨v0, vs0, d0, ds0, p0, q0, hargs, rfl, rfl, h0, r0⟩ := trodAll_cons hA
 obtain ⟨rfl, rfl, rfl⟩ := trodAll_nil r0
 obtain rfl : args = #[v0] := by cases args; simp_all
 obtain ⟨rfl, rfl⟩ := trodVars_none hV
 have k0 := h0
 have lt0 : ∀ x ∈ p0, x.block < W.heap.size := by obtain ⟨m, hm⟩ := k0; exact DataW.trod_lt m _ _ _ hm
 obtain ⟨x0, A0, c0, B0, e0, rfl, g0, t0, u0, w0⟩ := open_path (hval 0 37 v0 rfl rfl) h0
 clear hA0 hval0
 obtain ⟨k, hk⟩ := Print.law_back x0
 refine (Print.triviumlaw12_QueryBack.calls k x0.f0 x0.f1 A0 c0 x0.f2 B0 e0 x0.f3 true W (Y5S hL hsh) t0 g0 w0 u0 hk).mono fun e W' ⟨he, bel⟩ => ?_
 subst he
 exact ⟨_, rfl, _, _, _, [], _, [], hW', trodAll_mk1 (shut_bool Tryd.underlying4 _), (trodAll_cons_mk (Below.trod laidOut Z6 (of_decide_eq_true Z6) k0 bel lt0) trodAll_mk0), rfl, bel.frame _, fun h => by cases h⟩
theorem queryBack_holds : Rows.QueryBackSaid :=
 OpenClaim.holds_of_wide 5 Tryd.f5 rfl rfl rfl rfl rfl rfl rfl ⟨rfl, rfl, rfl, rfl, rfl⟩ rfl rfl rfl rfl rfl Z6 Tryd.func5 Z6
  (of_decide_eq_true Z6) (by unfold Func.isWrapper; rw [if_neg (by decide +kernel)]; exact ⟨rfl, rfl⟩)
  (fun os started H enc _ => Y4o os started H enc)
theorem queryBack_card : Rows.QueryBackCardSaid :=
 Claim7.holds_tied_plain_at .later [] [.data, .pinned] true (true, "8dc71fce747bb8b3b218677ae7dbf523581ddbbfb392b53abaf975cea163e82b") false
  queryBack_holds (fun _ h => by cases h) Z6 (fun _ h => by cases h) queryBack_row_tie rfl ⟨rfl, rfl⟩ Z6 rfl
  (fun f fn hf hfn => by
   obtain rfl : f = 5 := Option.some.inj ((show Tryd.prog.funcNamed "trivium/triviumlaw12.QueryBack" = some 5 by kernel_rfl).symm.trans hf) |>.symm
   obtain rfl : fn = Tryd.f5 := (Option.some.inj (Tryd.func5.symm.trans hfn)).symm
   exact ⟨by kernel_rfl, fun j t ht => by
    rw [Tryd.params5] at ht
    rcases j with _ | j
    ·obtain rfl : t = 37 := by simpa using ht.symm
     exact (show Tryd.prog.wantsStandIn 37 = false by kernel_rfl)
    ·simp at ht⟩)
  Z6
#print axioms queryBack_card
end Go.Proofs.YtbpbfboaofkpaaaDoor
end
