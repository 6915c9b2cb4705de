/- TermOne: of two terms that may be the texts are one just if they are; a text is read as its term: of any two terms. Conditions: none but the row's own (the two tables of unicode/utf8 as the program lays them). -/
import Derived.Test.YtbpbfboaofkpaaaDoorQoQ3
import Derived.Test.YtbpbfboaofkpaaaDoorCards
import Derived.Test.YtbpbfboaofkpaaaDoorTie
import Derived.SevenTiedAt
import Derived.ChangeMaps5
set_option linter.unusedSimpArgs false
section
set_option linter.unusedVariables false
set_option linter.unusedSimpArgs false
namespace Go.Proofs.YtbpbfboaofkpaaaDoor.Print
open Go.RowKit Go.Shelf Go.Lib Go.Proofs.YtbpbfboaofkpaaaDoorW.PrintWords
theorem has_no (p l : List UInt8) (e : Bool) (h : ¬ p <+: l) : Y3.f (B l) e (B p) = some (false, B l, e) := by
 unfold Y3.f
 by_cases h1 : ((B l).size : Int) ≥ ((B p).size : Int)
 ·have hx : (((B l).extract 0 (((B p).size : Int)).toNat).toList == (B p).toList) = false := by
   rw [beq_eq_false_iff_ne]
   intro q
   rw [Lib.toList_data, Lib.toList_data, B_l, ByteArray.data_extract, Array.toList_extract, List.extract_eq_take_drop, B_l] at q
   simp only [Y1W, Int.toNat_natCast, Nat.sub_zero, List.drop_zero] at q
   exact h ⟨l.drop p.length, by rw (config := {occs := .pos [1]}) [← q]; exact List.take_append_drop _ _⟩
  rw [if_pos h1, if_pos (by omega), if_pos h1, hx]
 ·rw [if_neg h1]
def shL (k : Int) (t e : List UInt8) : List UInt8 :=
 if k = 1 then 60 :: (t ++ [62]) else if k = 2 then 95 :: 58 :: t else if k = 4 then 34 :: (Y15 t ++ 34 :: 64 :: e) else if k = 5 then 34 :: (Y15 t ++ 34 :: 94 :: 94 :: 60 :: (e ++ [62])) else 34 :: (Y15 t ++ [34])
theorem show_i (k : Int) (t e : ByteArray) (ht : t.size ≤ 1000) (he : e.size ≤ 1000) : Yj.f k t e = some (B (shL k t.data.toList e.data.toList)) := by
 have hl := Y2c t.data.toList
 rw [Y1c] at hl
 have hq : (Y2R t).size = (Y15 t.data.toList).length + 2 := by rw [← Y1c]; unfold Y2R; simp
 have hf : YL.f t = some (Y2R t) := by unfold YL.f; rw [if_pos (by unfold quotOk; exact decide_eq_true (by omega))]
 unfold Yj.f shL
 by_cases k1 : k = 1
 ·simp only [if_pos k1, if_pos (show 1 + t.size ≤ 9223372036854775807 by omega), if_pos (show 1 + t.size + 1 ≤ 9223372036854775807 by omega)]
  congr 1
 by_cases k2 : k = 2
 ·simp only [if_neg k1, if_pos k2, if_pos (show 2 + t.size ≤ 9223372036854775807 by omega)]
  congr 1
 by_cases k4 : k = 4
 ·simp only [if_neg k1, if_neg k2, if_pos k4, hf, Option.bind_some, if_pos (show (Y2R t).size + 1 ≤ 9223372036854775807 by omega), if_pos (show (Y2R t).size + 1 + e.size ≤ 9223372036854775807 by omega)]
  congr 1; apply YX; simp [B, Y2R]
 by_cases k5 : k = 5
 ·simp only [if_neg k1, if_neg k2, if_neg k4, if_pos k5, hf, Option.bind_some, if_pos (show (Y2R t).size + 3 ≤ 9223372036854775807 by omega), if_pos (show (Y2R t).size + 3 + e.size ≤ 9223372036854775807 by omega), if_pos (show (Y2R t).size + 3 + e.size + 1 ≤ 9223372036854775807 by omega)]
  congr 1; apply YX; simp [B, Y2R]
 simp only [if_neg k1, if_neg k2, if_neg k4, if_neg k5, hf, Option.bind_some]
 congr 1
theorem show_r (k : Int) (t e : ByteArray) (ht : t.size ≤ 1000) (he : e.size ≤ 1000) : Ev (fun n => YD.f n k t e) (B (shL k t.data.toList e.data.toList)) := by
 have hl := Y2c t.data.toList
 rw [Y1c] at hl
 have hz : (⟨(Y15 t.data.toList).toArray⟩ : ByteArray).size = (Y15 t.data.toList).length := Y1W _
 unfold YD.f shL
 by_cases k1 : k = 1
 ·simp only [if_pos k1, if_pos (show 1 + t.size ≤ 9223372036854775807 by omega), if_pos (show 1 + t.size + 1 ≤ 9223372036854775807 by omega)]
  rw [show ((⟨#[60]⟩ : ByteArray) ++ t ++ ⟨#[62]⟩) = B (60 :: (t.data.toList ++ [62])) by apply YX; simp [B]]
  exact ZC
 by_cases k2 : k = 2
 ·simp only [if_neg k1, if_pos k2, if_pos (show 2 + t.size ≤ 9223372036854775807 by omega)]
  rw [show ((⟨#[95, 58]⟩ : ByteArray) ++ t) = B (95 :: 58 :: t.data.toList) by apply YX; simp [B]]
  exact ZC
 simp only [if_neg k1, if_neg k2]
 refine Ev.bind (escaped_r t (by omega)) ?_
 have s1 : 1 + (⟨(Y15 t.data.toList).toArray⟩ : ByteArray).size ≤ 9223372036854775807 := by omega
 have s2 : 1 + (⟨(Y15 t.data.toList).toArray⟩ : ByteArray).size + 1 ≤ 9223372036854775807 := by omega
 have s3 : 1 + (⟨(Y15 t.data.toList).toArray⟩ : ByteArray).size + 1 + 1 ≤ 9223372036854775807 := by omega
 have s4 : 1 + (⟨(Y15 t.data.toList).toArray⟩ : ByteArray).size + 1 + 1 + e.size ≤ 9223372036854775807 := by omega
 have s5 : 1 + (⟨(Y15 t.data.toList).toArray⟩ : ByteArray).size + 1 + 3 ≤ 9223372036854775807 := by omega
 have s6 : 1 + (⟨(Y15 t.data.toList).toArray⟩ : ByteArray).size + 1 + 3 + e.size ≤ 9223372036854775807 := by omega
 have s7 : 1 + (⟨(Y15 t.data.toList).toArray⟩ : ByteArray).size + 1 + 3 + e.size + 1 ≤ 9223372036854775807 := by omega
 simp only [if_pos s1, if_pos s2]
 by_cases k4 : k = 4
 ·simp only [if_pos k4, if_pos s3, if_pos s4]
  rw [show ((⟨#[34]⟩ : ByteArray) ++ ⟨(Y15 t.data.toList).toArray⟩ ++ ⟨#[34]⟩ ++ ⟨#[64]⟩ ++ e) = B (34 :: (Y15 t.data.toList ++ 34 :: 64 :: e.data.toList)) by apply YX; simp [B]]
  exact ZC
 by_cases k5 : k = 5
 ·simp only [if_neg k4, if_pos k5, if_pos s5, if_pos s6, if_pos s7]
  rw [show ((⟨#[34]⟩ : ByteArray) ++ ⟨(Y15 t.data.toList).toArray⟩ ++ ⟨#[34]⟩ ++ ⟨#[94, 94, 60]⟩ ++ e ++ ⟨#[62]⟩) = B (34 :: (Y15 t.data.toList ++ 34 :: 94 :: 94 :: 60 :: (e.data.toList ++ [62]))) by apply YX; simp [B]]
  exact ZC
 simp only [if_neg k4, if_neg k5]
 rw [show ((⟨#[34]⟩ : ByteArray) ++ ⟨(Y15 t.data.toList).toArray⟩ ++ ⟨#[34]⟩) = B (34 :: (Y15 t.data.toList ++ [34])) by apply YX; simp [B]]
 exact ZC
theorem blanks_0 (e : Bool) : Ev (fun k => Yf.f k ⟨#[]⟩ e) (⟨#[]⟩, e) := by
 refine Ev.up ?_
 have : (⟨#[]⟩ : ByteArray).toList = ([] : List UInt8) := by rw [Lib.toList_data]
 show Ev (fun k => Yf.l0 (k + 1) ⟨#[]⟩ e) _
 simp only [Yf.l0, if_pos this]
 exact ZC
theorem Y2p {k : Int} {t e : ByteArray} (h : Ev (fun n => Ye.f n k t e) true) : Ev (fun n => Y2.j0 n ⟨#[]⟩ false k t e) (k, t, e, ⟨#[]⟩, false) := by
 refine Ev.up ?_
 simp only [Y2.j0, Bool.false_eq_true, if_false]
 refine Ev.bind h (Ev.up ?_)
 simp only [Y2.j1, Bool.not_true, Bool.false_eq_true, if_false]
 exact Ev.bind (blanks_0 false) (Ev.now _)
theorem iri_c {t : ByteArray} (h : Y3f t = true) : ∀ c ∈ t.data.toList, c ≠ 62 ∧ c ≠ 92 ∧ c ≠ 10 ∧ c ≠ 13 := by
 intro c m
 have no : ∀ n : UInt8, n.toNat < 128 → YG n.toNat = false → c ≠ n := fun n h1 h2 q => iri_no h n h1 h2 (q ▸ m)
 exact ⟨no 62 (by decide) (by decide), no 92 (by decide) (by decide), no 10 (by decide) (by decide), no 13 (by decide) (by decide)⟩
theorem upTo_p (t : ByteArray) (ht : t.size ≤ 1000) (n : UInt8) (hc : ∀ c ∈ t.data.toList, c ≠ n ∧ c ≠ 92 ∧ c ≠ 10 ∧ c ≠ 13) :
  Ev (fun k => Y7.f k (B (t.data.toList ++ [n])) false (n.toNat : Int) false) (t, ⟨#[]⟩, false) := by
 have hl := Y1c t
 have h := Y3l (B (t.data.toList ++ [n])) (by rw [Y1W, List.length_append, hl]; simp only [List.length_cons, List.length_nil]; omega) n [] t.data.toList ⟨#[]⟩ (Suf.whole _) (by rw [hl]; have : (⟨#[]⟩ : ByteArray).size = 0 := rfl; omega) hc
 have e0 : ps (B (t.data.toList ++ [n])) (t.data.toList ++ [n]) = 0 := Y2d (B (t.data.toList ++ [n]))
 have e1 : (⟨#[]⟩ : ByteArray) ++ ⟨t.data.toList.toArray⟩ = t := by apply YX; simp
 rw [e0, e1] at h
 exact h
theorem upTo_q (t : ByteArray) (ht : t.size ≤ 1000) (rest : List UInt8) (hr : rest.length ≤ 1000) :
  Ev (fun k => Y7.f k (B (Y15 t.data.toList ++ 34 :: rest)) false 34 true) (t, B rest, false) := by
 have hl := Y1c t
 have hq := Y2c t.data.toList
 have h := Y3C (B (Y15 t.data.toList ++ 34 :: rest)) (by rw [Y1W, List.length_append, List.length_cons]; omega) rest t.data.toList ⟨#[]⟩ (Suf.whole _) (by rw [hl]; have : (⟨#[]⟩ : ByteArray).size = 0 := rfl; omega)
 have e0 : ps (B (Y15 t.data.toList ++ 34 :: rest)) (Y15 t.data.toList ++ 34 :: rest) = 0 := Y2d (B (Y15 t.data.toList ++ 34 :: rest))
 have e1 : (⟨#[]⟩ : ByteArray) ++ ⟨t.data.toList.toArray⟩ = t := by apply YX; simp
 rw [e0, e1] at h
 exact h
theorem small_id {e : ByteArray} (hs : e.size ≤ 1000) (h : ∀ c ∈ e.data.toList, Y1S c) : YA.f e = some e := by
 unfold YA.f
 rw [if_pos (by unfold Y4e; exact decide_eq_true (by omega))]
 congr 1
 apply YX
 unfold smallL
 show e.data.toList.map Y31 = e.data.toList
 rw [List.map_congr_left (g := id) ?_, List.map_id]
 intro c m
 unfold Y31
 rw [if_neg]
 ·rfl
 ·intro q
  rcases h c m with hc | hc | hc
  ·unfold Y2D at hc; simp only [Bool.and_eq_true, decide_eq_true_eq] at hc; omega
  ·unfold Y2z at hc; simp only [Bool.and_eq_true, decide_eq_true_eq] at hc; omega
  ·rw [hc] at q; exact absurd q.1 (by decide)
theorem Y3g {c : UInt8} (h : Y1S c) : Y1l c.toNat = true ∨ ((true : Bool) = true ∧ c = 45) := by
 rcases h with h | h | h
 ·left; unfold Y1l; simp [h]
 ·left; unfold Y1l; simp [h]
 ·exact .inr ⟨rfl, h⟩
theorem yes1 (a : UInt8) (l : List UInt8) (e : Bool) : Y3.f (B (a :: l)) e ⟨#[a]⟩ = some (true, B (a :: l), e) := Y49 [a] l e
theorem yes2 (a b : UInt8) (l : List UInt8) (e : Bool) : Y3.f (B (a :: b :: l)) e ⟨#[a, b]⟩ = some (true, B (a :: b :: l), e) := Y49 [a, b] l e
theorem yes3 (a b c : UInt8) (l : List UInt8) (e : Bool) : Y3.f (B (a :: b :: c :: l)) e ⟨#[a, b, c]⟩ = some (true, B (a :: b :: c :: l), e) := Y49 [a, b, c] l e
theorem no1 (a x : UInt8) (l : List UInt8) (e : Bool) (h : a ≠ x) : Y3.f (B (x :: l)) e ⟨#[a]⟩ = some (false, B (x :: l), e) := has_no [a] (x :: l) e (by simp only [List.cons_prefix_cons]; exact fun q => h q.1)
theorem no2 (a b x : UInt8) (l : List UInt8) (e : Bool) (h : a ≠ x) : Y3.f (B (x :: l)) e ⟨#[a, b]⟩ = some (false, B (x :: l), e) := has_no [a, b] (x :: l) e (by simp only [List.cons_prefix_cons]; exact fun q => h q.1)
theorem no0 (a : UInt8) (p : List UInt8) (e : Bool) : Y3.f (B []) e (B (a :: p)) = some (false, B [], e) := has_no (a :: p) [] e (by simp)
theorem d1 (a : UInt8) (l : List UInt8) : (B (a :: l)).extract 1 (B (a :: l)).size = B l := drop_B [a] l 1 _ rfl rfl
theorem d2 (a b : UInt8) (l : List UInt8) : (B (a :: b :: l)).extract 2 (B (a :: b :: l)).size = B l := drop_B [a, b] l 2 _ rfl rfl
theorem d3 (a b c : UInt8) (l : List UInt8) : (B (a :: b :: c :: l)).extract 3 (B (a :: b :: c :: l)).size = B l := drop_B [a, b, c] l 3 _ rfl rfl
theorem g1 (a : UInt8) (l : List UInt8) : (1 : Int) ≤ ((B (a :: l)).size : Int) := by rw [Y1W, List.length_cons]; omega
theorem g2 (a b : UInt8) (l : List UInt8) : (2 : Int) ≤ ((B (a :: b :: l)).size : Int) := by rw [Y1W, List.length_cons, List.length_cons]; omega
theorem g3 (a b c : UInt8) (l : List UInt8) : (3 : Int) ≤ ((B (a :: b :: c :: l)).size : Int) := by rw [Y1W, List.length_cons, List.length_cons, List.length_cons]; omega
theorem lit_3 (t : ByteArray) (ht : t.size ≤ 1000) : Ev (fun k => Yh.f k (B (Y15 t.data.toList ++ [34])) false) (3, t, ⟨#[]⟩, ⟨#[]⟩, false) := by
 have h := upTo_q t ht [] (by simp)
 have n1 : Y3.f (B []) false ⟨#[64]⟩ = some (false, B [], false) := no0 64 [] false
 have n2 : Y3.f (B []) false ⟨#[94, 94, 60]⟩ = some (false, B [], false) := no0 94 [94, 60] false
 unfold Yh.f
 refine Ev.bind h ?_
 simp only [n1, n2, Option.bind_some, Bool.false_eq_true, if_false]
 exact ZC
theorem lit_4 (t e : ByteArray) (ht : t.size ≤ 1000) (he : e.size ≤ 900) (hc : ∀ c ∈ e.data.toList, Y1S c) :
  Ev (fun k => Yh.f k (B (Y15 t.data.toList ++ 34 :: 64 :: e.data.toList)) false) (4, t, e, ⟨#[]⟩, false) := by
 have hl := Y1c e
 have h := upTo_q t ht (64 :: e.data.toList) (by rw [List.length_cons]; omega)
 unfold Yh.f
 refine Ev.bind h ?_
 simp only [yes1, Option.bind_some, if_true, if_pos (g1 64 e.data.toList), d1, B_of]
 refine Ev.bind (run_f e (by omega) true false fun c m => Y3g (hc c m)) ?_
 simp only [small_id (by omega) hc, Option.bind_some]
 exact ZC
theorem lit_5 (t e : ByteArray) (ht : t.size ≤ 1000) (he : e.size ≤ 900) (hc : Y3f e = true) :
  Ev (fun k => Yh.f k (B (Y15 t.data.toList ++ 34 :: 94 :: 94 :: 60 :: (e.data.toList ++ [62]))) false) (5, t, e, ⟨#[]⟩, false) := by
 have hl := Y1c e
 have h := upTo_q t ht (94 :: 94 :: 60 :: (e.data.toList ++ [62])) (by simp only [List.length_cons, List.length_append, List.length_nil]; omega)
 unfold Yh.f
 refine Ev.bind h ?_
 simp only [no1 64 94 _ false (by decide), yes3, Option.bind_some, if_true, Bool.false_eq_true, if_false, if_pos (g3 94 94 60 (e.data.toList ++ [62])), d3]
 refine Ev.bind (upTo_p e (by omega) 62 (iri_c hc)) ?_
 exact ZC
theorem Y2w {k : Int} {t e : ByteArray} (h : Okay k t e) : t.size ≤ 60 ∧ e.size ≤ 60 := by
 have i60 : ∀ x : ByteArray, Y3f x = true → x.size ≤ 60 := by
  intro x hx
  unfold Y3f at hx
  simp only [Bool.and_eq_true, decide_eq_true_eq] at hx
  exact hx.1.1.2
 have e0 : (⟨#[]⟩ : ByteArray).size = 0 := rfl
 rcases h with ⟨_, h, rfl⟩ | ⟨_, _, h, rfl⟩ | ⟨_, _, h, rfl⟩ | ⟨_, _, h, _, h2⟩ | ⟨_, _, h, h2⟩
 ·exact ⟨i60 _ h, by omega⟩
 ·exact ⟨by omega, by omega⟩
 ·exact ⟨by omega, by omega⟩
 ·exact ⟨by omega, by omega⟩
 ·exact ⟨by omega, i60 _ h2⟩
theorem Y4E {k : Int} {t e : ByteArray} (h : Okay k t e) (hi : Ev (fun n => Ye.f n k t e) true) :
  Ev (fun n => Y2.f n (B (shL k t.data.toList e.data.toList)) false) (k, t, e, ⟨#[]⟩, false) := by
 obtain ⟨z1, z2⟩ := Y2w h
 unfold Y2.f shL
 rcases h with ⟨rfl, h, rfl⟩ | ⟨rfl, ha, h, rfl⟩ | ⟨rfl, hv, h, rfl⟩ | ⟨rfl, hv, h, hc, h2⟩ | ⟨rfl, hv, h, h2⟩
 ·simp only [if_true, yes1, Option.bind_some, if_pos (g1 60 (t.data.toList ++ [62])), d1]
  refine Ev.bind (upTo_p t (by omega) 62 (iri_c h)) ?_
  exact Y2p hi
 ·simp only [if_neg (show ¬ (2 : Int) = 1 by decide), if_true, no1 60 95 _ false (by decide), yes2, Option.bind_some, Bool.false_eq_true, if_false, if_pos (g2 95 58 t.data.toList), d2, B_of]
  refine Ev.bind (run_f t (by omega) false false fun c m => .inl (ha c m)) ?_
  exact Y2p hi
 ·simp only [if_neg (show ¬ (3 : Int) = 1 by decide), if_neg (show ¬ (3 : Int) = 2 by decide), if_neg (show ¬ (3 : Int) = 4 by decide), if_neg (show ¬ (3 : Int) = 5 by decide), no1 60 34 _ false (by decide), no2 95 58 34 _ false (by decide), yes1, Option.bind_some, Bool.false_eq_true, if_false, if_true, if_pos (g1 34 (Y15 t.data.toList ++ [34])), d1]
  refine Ev.bind (lit_3 t (by omega)) ?_
  exact Y2p hi
 ·simp only [if_neg (show ¬ (4 : Int) = 1 by decide), if_neg (show ¬ (4 : Int) = 2 by decide), no1 60 34 _ false (by decide), no2 95 58 34 _ false (by decide), yes1, Option.bind_some, Bool.false_eq_true, if_false, if_true, if_pos (g1 34 (Y15 t.data.toList ++ 34 :: 64 :: e.data.toList)), d1]
  refine Ev.bind (lit_4 t e (by omega) (by omega) hc) ?_
  exact Y2p hi
 ·simp only [if_neg (show ¬ (5 : Int) = 1 by decide), if_neg (show ¬ (5 : Int) = 2 by decide), if_neg (show ¬ (5 : Int) = 4 by decide), no1 60 34 _ false (by decide), no2 95 58 34 _ false (by decide), yes1, Option.bind_some, Bool.false_eq_true, if_false, if_true, if_pos (g1 34 (Y15 t.data.toList ++ 34 :: 94 :: 94 :: 60 :: (e.data.toList ++ [62]))), d1]
  refine Ev.bind (lit_5 t e (by omega) (by omega) h2) ?_
  exact Y2p hi
theorem iri_v {t : ByteArray} (h : Y3f t = true) : validD t.data.toList = true := by
 unfold Y3f at h
 simp only [Bool.and_eq_true] at h
 exact h.1.2
theorem v62 : validD [62] = true := by rw [validD_cons 62 [] (by decide)]; rfl
theorem Y3H {c : UInt8} (h : Y1l c.toNat = true) : c.toNat < 128 := by
 unfold Y1l Y2D Y2z at h
 simp only [Bool.or_eq_true, Bool.and_eq_true, decide_eq_true_eq] at h
 omega
theorem lang_low {c : UInt8} (h : Y1S c) : c.toNat < 128 := by
 rcases Y3g h with q | ⟨_, q⟩
 ·exact Y3H q
 ·rw [q]; decide
theorem all_low : ∀ l : List UInt8, (∀ b ∈ l, b.toNat < 128) → validD l = true := by
 intro l h
 have := Y2U l [] h
 rw [List.append_nil] at this
 rw [this]; rfl
theorem shL_valid {k : Int} {t e : ByteArray} (h : Okay k t e) : validD (shL k t.data.toList e.data.toList) = true := by
 have low : ∀ (c : UInt8) (l : List UInt8), c.toNat < 128 → validD l = true → validD (c :: l) = true := fun c l hc hl => by rw [validD_cons c l hc]; exact hl
 have lit : ∀ l r : List UInt8, validD l = true → validD r = true → validD (Y15 l ++ r) = true := fun l r hl hr => (Y1R r hr l.length l (Nat.le_refl _) hl).1
 have iri : ∀ x : ByteArray, Y3f x = true → validD (x.data.toList ++ [62]) = true := fun x hx => (Y1R [62] v62 x.data.toList.length x.data.toList (Nat.le_refl _) (iri_v hx)).2
 unfold shL
 rcases h with ⟨rfl, h, rfl⟩ | ⟨rfl, ha, h, rfl⟩ | ⟨rfl, hv, h, rfl⟩ | ⟨rfl, hv, h, hc, h2⟩ | ⟨rfl, hv, h, h2⟩
 ·simp only [if_true]
  exact low _ _ (by decide) (iri t h)
 ·simp only [if_neg (show ¬ (2 : Int) = 1 by decide), if_true]
  exact low _ _ (by decide) (low _ _ (by decide) (all_low _ fun b m => Y3H (ha b m)))
 ·simp only [if_neg (show ¬ (3 : Int) = 1 by decide), if_neg (show ¬ (3 : Int) = 2 by decide), if_neg (show ¬ (3 : Int) = 4 by decide), if_neg (show ¬ (3 : Int) = 5 by decide)]
  exact low _ _ (by decide) (lit _ _ hv (low _ _ (by decide) rfl))
 ·simp only [if_neg (show ¬ (4 : Int) = 1 by decide), if_neg (show ¬ (4 : Int) = 2 by decide), if_true]
  exact low _ _ (by decide) (lit _ _ hv (low _ _ (by decide) (low _ _ (by decide) (all_low _ fun b m => lang_low (hc b m)))))
 ·simp only [if_neg (show ¬ (5 : Int) = 1 by decide), if_neg (show ¬ (5 : Int) = 2 by decide), if_neg (show ¬ (5 : Int) = 4 by decide), if_true]
  exact low _ _ (by decide) (lit _ _ hv (low _ _ (by decide) (low _ _ (by decide) (low _ _ (by decide) (low _ _ (by decide) (iri e h2))))))
theorem shL_len {k : Int} {t e : ByteArray} (h : Okay k t e) : (shL k t.data.toList e.data.toList).length ≤ 250 := by
 obtain ⟨z1, z2⟩ := Y2w h
 have l1 := Y2c t.data.toList
 rw [Y1c] at l1
 unfold shL
 rcases h with ⟨rfl, h, rfl⟩ | ⟨rfl, ha, h, rfl⟩ | ⟨rfl, hv, h, rfl⟩ | ⟨rfl, hv, h, hc, h2⟩ | ⟨rfl, hv, h, h2⟩
 ·simp only [if_true, List.length_cons, List.length_append, Y1c, List.length_nil]; omega
 ·simp only [if_neg (show ¬ (2 : Int) = 1 by decide), if_true, List.length_cons, List.length_append, Y1c, List.length_nil]; omega
 ·simp only [if_neg (show ¬ (3 : Int) = 1 by decide), if_neg (show ¬ (3 : Int) = 2 by decide), if_neg (show ¬ (3 : Int) = 4 by decide), if_neg (show ¬ (3 : Int) = 5 by decide), List.length_cons, List.length_append, Y1c, List.length_nil]; omega
 ·simp only [if_neg (show ¬ (4 : Int) = 1 by decide), if_neg (show ¬ (4 : Int) = 2 by decide), if_true, List.length_cons, List.length_append, Y1c, List.length_nil]; omega
 ·simp only [if_neg (show ¬ (5 : Int) = 1 by decide), if_neg (show ¬ (5 : Int) = 2 by decide), if_neg (show ¬ (5 : Int) = 4 by decide), if_true, List.length_cons, List.length_append, Y1c, List.length_nil]; omega
theorem reads {k : Int} {t e : ByteArray} (h : Okay k t e) (hi : Ev (fun n => Ye.f n k t e) true) :
  Ev (fun n => Yx.f n (B (shL k t.data.toList e.data.toList))) (k, t, e, true) := by
 obtain ⟨z1, z2⟩ := Y2w h
 have hz := shL_len h
 have v : utf8_ValidString.f (B (shL k t.data.toList e.data.toList)) = some true := by
  unfold utf8_ValidString.f
  rw [if_pos (by unfold Y28; rw [Y1W]; exact decide_eq_true (by omega)), B_l, shL_valid h]
 have e0 : (⟨#[]⟩ : ByteArray).toList = ([] : List UInt8) := by rw [Lib.toList_data]
 unfold Yx.f
 simp only [v, Option.bind_some, if_true]
 refine Ev.bind (Y4E h hi) ?_
 simp only [Bool.false_eq_true, if_false, if_pos e0]
 refine Ev.bind (show_r k t e (by omega) (by omega)) ?_
 simp only [if_true]
 exact ZC
theorem Y3Q : ∀ l : List UInt8, Op.bytesLess l l = false
 | [] => rfl
 | c :: l => by
  unfold Op.bytesLess
  simp [Y3Q l]
theorem cmp_f (x y : ByteArray) : ∃ n, YF.f x y = some n ∧ ((n == 0) = true ↔ x = y) := by
 have nan : ∀ z : ByteArray, Yq.f z = some false := fun z => by unfold Yq.f; simp
 unfold YF.f
 simp only [nan, Option.bind_some, Bool.false_eq_true, if_false]
 by_cases hl : Op.bytesLess x.toList y.toList = true
 ·refine ⟨-1, by rw [if_pos hl], ?_⟩
  constructor
  ·intro q; exact absurd q (by decide)
  ·intro q; rw [q, Y3Q] at hl; cases hl
 ·by_cases he : x.toList = y.toList
  ·exact ⟨0, by rw [if_neg hl, if_pos he], by simp [tl_inj.mp he]⟩
  ·refine ⟨1, by rw [if_neg hl, if_neg he], ?_⟩
   constructor
   ·intro q; exact absurd q (by decide)
   ·intro q; rw [q] at he; exact absurd rfl he
set_option maxRecDepth 100000 in
theorem known4 : Ev (fun k => Ys.f k) true := Ev.of (fun k => Ys.mono k) (k := 100) (by decide +kernel)
theorem long_t (a b : S24) : ∃ r, Ev (fun k => Yi.f k [a, b]) r ∧ (r = false → (a.f1.size ≤ 300 ∧ a.f2.size ≤ 300) ∧ b.f1.size ≤ 300 ∧ b.f2.size ≤ 300) := by
 have r0 : Y1z [a, b] 0 = a := rfl
 have r1 : Y1z [a, b] 1 = b := rfl
 have w0 : wrap64 ((0 : Int) + 1) = 1 := w64 0 (by decide) (by decide)
 have w1 : wrap64 ((1 : Int) + 1) = 2 := w64 1 (by decide) (by decide)
 have len : (([a, b] : List S24).length : Int) = 2 := rfl
 by_cases a1 : (a.f1.size : Int) > 300
 ·exact ⟨true, Ev.up (g := fun k => Yi.l0 k [a, b] 0) (by simp only [Yi.l0, len, if_pos (show (0 : Int) < 2 by decide), if_pos (show (0 : Int) ≤ 0 by decide), r0, if_pos a1]; exact Ev.now _), fun q => by cases q⟩
 by_cases a2 : (a.f2.size : Int) > 300
 ·exact ⟨true, Ev.up (g := fun k => Yi.l0 k [a, b] 0) (by simp only [Yi.l0, len, if_pos (show (0 : Int) < 2 by decide), if_pos (show (0 : Int) ≤ 0 by decide), r0, if_neg a1, if_pos a2]; exact Ev.now _), fun q => by cases q⟩
 have s1 : ∀ r, Ev (fun k => Yi.l0 k [a, b] 1) r → Ev (fun k => Yi.l0 k [a, b] 0) r := fun r h => Ev.up (by simp only [Yi.l0, len, if_pos (show (0 : Int) < 2 by decide), if_pos (show (0 : Int) ≤ 0 by decide), r0, if_neg a1, if_neg a2, w0]; exact h)
 by_cases b1 : (b.f1.size : Int) > 300
 ·exact ⟨true, s1 _ (Ev.up (by simp only [Yi.l0, len, if_pos (show (1 : Int) < 2 by decide), if_pos (show (0 : Int) ≤ 1 by decide), r1, if_pos b1]; exact Ev.now _)), fun q => by cases q⟩
 by_cases b2 : (b.f2.size : Int) > 300
 ·exact ⟨true, s1 _ (Ev.up (by simp only [Yi.l0, len, if_pos (show (1 : Int) < 2 by decide), if_pos (show (0 : Int) ≤ 1 by decide), r1, if_neg b1, if_pos b2]; exact Ev.now _)), fun q => by cases q⟩
 ·refine ⟨false, s1 _ (Ev.up ?_), fun q => ⟨⟨by omega, by omega⟩, by omega, by omega⟩⟩
  simp only [Yi.l0, len, if_pos (show (1 : Int) < 2 by decide), if_pos (show (0 : Int) ≤ 1 by decide), r1, if_neg b1, if_neg b2, w1]
  refine Ev.up ?_
  simp only [Yi.l0, len, if_neg (show ¬ (2 : Int) < 2 by decide)]
  exact ZC
theorem law_one (a0 : Int) (a1 a2 : ByteArray) (b0 : Int) (b1 b2 : ByteArray) : ∃ k, triviumlaw4_TermOne.f k a0 a1 a2 b0 b1 b2 = some true := by
 refine Ev.rounds (g := fun k => triviumlaw4_TermOne.f k a0 a1 a2 b0 b1 b2) ?_
 have skip : Ev (fun k => triviumlaw4_TermOne.j0 k true a0 a1 a2 b0 b1 b2) true := Ev.up (by simp only [triviumlaw4_TermOne.j0, if_true]; exact Ev.now _)
 unfold triviumlaw4_TermOne.f
 obtain ⟨r, hr, hq⟩ := long_t ⟨a0, a1, a2⟩ ⟨b0, b1, b2⟩
 refine Ev.bind hr ?_
 cases r with
 | true => simp only [if_true]; exact skip
 | false =>
  obtain ⟨⟨z1, z2⟩, z3, z4⟩ := hq rfl
  simp only at z1 z2 z3 z4
  simp only [Bool.false_eq_true, if_false]
  obtain ⟨x, hx, ox⟩ := is_t a0 a1 a2 z1 z2
  refine Ev.bind hx ?_
  cases x with
  | false => simp only [Bool.false_eq_true, if_false]; exact skip
  | true =>
   simp only [if_true]
   obtain ⟨y, hy, oy⟩ := is_t b0 b1 b2 z3 z4
   refine Ev.bind hy ?_
   cases y with
   | false => exact skip
   | true =>
    replace ox := ox rfl
    replace oy := oy rfl
    have ra := reads ox hx
    have rb := reads oy hy
    have sa := show_i a0 a1 a2 (by omega) (by omega)
    have sb := show_i b0 b1 b2 (by omega) (by omega)
    obtain ⟨n, hn, hn0⟩ := cmp_f (B (shL a0 a1.data.toList a2.data.toList)) (B (shL b0 b1.data.toList b2.data.toList))
    have one : B (shL a0 a1.data.toList a2.data.toList) = B (shL b0 b1.data.toList b2.data.toList) ↔ (a0 == b0 && (a1.toList == b1.toList && (a2.toList == b2.toList))) = true := by
     constructor
     ·intro q
      rw [← q] at rb
      have := Ev.uniq ra rb
      simp only [Prod.mk.injEq] at this
      obtain ⟨h1, h2, h3, _⟩ := this
      subst h1; subst h2; subst h3
      simp
     ·intro q
      simp only [Bool.and_eq_true, beq_iff_eq] at q
      obtain ⟨h1, h2, h3⟩ := q
      rw [tl_inj] at h2 h3
      subst h1; subst h2; subst h3
      rfl
    have t1 : (((B (shL a0 a1.data.toList a2.data.toList)).toList == (B (shL b0 b1.data.toList b2.data.toList)).toList) == (a0 == b0 && (a1.toList == b1.toList && (a2.toList == b2.toList)))) = true := by
     rw [beq_iff_eq, Bool.eq_iff_iff, beq_iff_eq, tl_inj]
     exact one
    have t2 : ((n == 0) == (a0 == b0 && (a1.toList == b1.toList && (a2.toList == b2.toList)))) = true := by
     rw [beq_iff_eq, Bool.eq_iff_iff]
     exact hn0.trans one
    have hz := shL_len ox
    refine Ev.up ?_
    simp only [triviumlaw4_TermOne.j0, Y1b.f, Bool.not_true, Bool.false_eq_true, if_false, sa, sb, Option.bind_some]
    refine Ev.bind ra ?_
    simp only [t1, hn, t2, if_true, Option.bind_some, beq_self_eq_true, Bool.and_true, if_pos (show ((B (shL a0 a1.data.toList a2.data.toList)).size : Int) ≤ 250 by rw [Y1W]; omega)]
    exact Ev.bind known4 (Ev.now _)
end Go.Proofs.YtbpbfboaofkpaaaDoor.Print
end
section
set_option linter.unusedVariables false
namespace Go.Proofs.YtbpbfboaofkpaaaDoor
open Go.ChangeShapes Go.WideShapes Go.ChangeAt Go.RowKit
open Go.ChangeMaps (open_string shut_string)
set_option maxRecDepth 100000 in
theorem Y33 (os : Os) (started : os.Started) (H : Type) (enc : TypeId × Value → H) :
  ReturnsInHanded {} Tryd.checked os 4 .any (fun w args => (Rows.termOneSpec.pre enc Tryd.prog Tryd.f4 [] false w args ∧ laidMetH Tryd.prog laid2 w) ∧ sizedMet enc Tryd.prog Tryd.f4 (OpenSpec.ofChange Rows.termOneSpec) false w args)
   (Rows.termOneSpec.post enc Tryd.prog Tryd.f4 false true false false) := by
 refine Y3Z (C := Tryd.checked) (X := fun w _ => laidMetH Tryd.prog laid2 w) (fun _ _ _ hh h => h.of_heap hh) own started Z7 Tryd.func4
  (ChangeSpec.witness_at (enc := enc) (C := Tryd.checked) (os := os) (X := fun w _ => laidMetH Tryd.prog laid2 w) false (Y3P os) #[.agg #[.int .i64 0, .string ByteArray.empty, .string ByteArray.empty], .agg #[.int .i64 0, .string ByteArray.empty, .string ByteArray.empty]] 8 rfl Z7 Z7 Z7 Z7 Z7 (Y3y os _)) ?_
 intro W base args ds gs before hval0 hW hL hsh
 have hval : ∀ (j : Nat) t v, Tryd.f4.params[j]? = some t → args[j]? = some v → Value.okWide Tryd.prog W .any base t v := hval0
 have hW' := hW
 obtain ⟨p, q, hA0, hV, rfl, hfz, hnd⟩ := hW
 have hA : DataW.TrodAll enc Tryd.prog W 0 (fun _ => true) true Tryd.f4.params.toList args.toList ds p := hA0
 rw [Tryd.params4] at hA hval
 obtain ⟨v0, vs0, d0, ds0, p0, q0, hargs, rfl, rfl, h0, r0⟩ := trodAll_cons hA
 obtain ⟨v1, vs1, d1, ds1, p1, q1, rfl, rfl, rfl, h1, r1⟩ := trodAll_cons r0
 obtain ⟨rfl, rfl, rfl⟩ := trodAll_nil r1
 obtain rfl : args = #[v0, v1] := by cases args; simp_all
 obtain ⟨rfl, rfl⟩ := trodVars_none hV
 have k0 := h0
 have lt0 : ∀ x ∈ p0, x.block < W.heap.size := by obtain ⟨m, hm⟩ := k0; exact DataW.trod_lt m _ _ _ hm
 obtain ⟨x0, rfl⟩ := Y3T (hval 0 24 v0 rfl rfl) h0
 have k1 := h1
 have lt1 : ∀ x ∈ p1, x.block < W.heap.size := by obtain ⟨m, hm⟩ := k1; exact DataW.trod_lt m _ _ _ hm
 obtain ⟨x1, rfl⟩ := Y3T (hval 1 24 v1 rfl rfl) h1
 clear hA0 hval0
 obtain ⟨k, hk⟩ := Print.law_one x0.f0 x0.f1 x0.f2 x1.f0 x1.f1 x1.f2
 refine (Print.triviumlaw4_TermOne.calls k x0.f0 x0.f1 x0.f2 x1.f0 x1.f1 x1.f2 true W (Y41 hL hsh)  hk).mono fun e W' ⟨he, bel⟩ => ?_
 subst he
 exact ⟨_, rfl, _, _, _, [], _, [], hW', trodAll_mk1 (shut_bool Tryd.underlying4 _), (trodAll_cons_mk (Below.trod Y4m Z7 (of_decide_eq_true Z7) k0 bel lt0) (trodAll_cons_mk (Below.trod Y4m Z7 (of_decide_eq_true Z7) k1 bel lt1) trodAll_mk0)), rfl, bel.frame _, fun h => by cases h⟩
theorem termOne_holds : Rows.TermOneSaid :=
 OpenClaim.holds_of_wide 4 Tryd.f4 rfl rfl rfl rfl rfl rfl rfl ⟨rfl, rfl, rfl, rfl, rfl⟩ rfl rfl rfl rfl rfl Z7 Tryd.func4 Z7
  (of_decide_eq_true Z7) (by unfold Func.isWrapper; rw [if_neg (by decide +kernel)]; exact ⟨rfl, rfl⟩)
  (fun os started H enc _ => Y33 os started H enc)
theorem termOne_card : Rows.TermOneCardSaid :=
 Claim7.holds_tied_plain_at .later [] [.data, .pinned] true (true, "8dc71fce747bb8b3b218677ae7dbf523581ddbbfb392b53abaf975cea163e82b") false
  termOne_holds (fun _ h => by cases h) Z7 (fun _ h => by cases h) termOne_row_tie rfl ⟨rfl, rfl⟩ Z7 rfl
  (fun f fn hf hfn => by
   obtain rfl : f = 4 := Option.some.inj ((show Tryd.prog.funcNamed "trivium/triviumlaw4.TermOne" = some 4 by kernel_rfl).symm.trans hf) |>.symm
   obtain rfl : fn = Tryd.f4 := (Option.some.inj (Tryd.func4.symm.trans hfn)).symm
   exact ⟨by kernel_rfl, fun j t ht => by
    rw [Tryd.params4] at ht
    rcases j with _ | _ | j
    ·obtain rfl : t = 24 := by simpa using ht.symm
     exact (show Tryd.prog.wantsStandIn 24 = false by kernel_rfl)
    ·obtain rfl : t = 24 := by simpa using ht.symm
     exact (show Tryd.prog.wantsStandIn 24 = false by kernel_rfl)
    ·simp at ht⟩)
  Z7
#print axioms termOne_card
end Go.Proofs.YtbpbfboaofkpaaaDoor
end
