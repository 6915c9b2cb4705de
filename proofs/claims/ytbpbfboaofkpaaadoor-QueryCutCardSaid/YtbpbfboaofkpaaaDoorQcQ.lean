/- QueryCut: a path's text cut short, or with more behind it, is told by place and error, as the document's. Conditions: none but the row's own (the two tables of unicode/utf8 as the program lays them). -/
import Derived.Test.YtbpbfboaofkpaaaDoorQcQ6
import Derived.Test.YtbpbfboaofkpaaaDoorCards
import Derived.Test.YtbpbfboaofkpaaaDoorTie
import Derived.SevenTiedAt
import Derived.ChangeMaps5
section
set_option linter.unusedVariables false
set_option linter.unusedSimpArgs false
namespace Go.Proofs.YtbpbfboaofkpaaaDoor.Print
open Go.RowKit Go.Shelf Go.Lib Go.Proofs.YtbpbfboaofkpaaaDoorW.PrintWords
set_option maxHeartbeats 4000000 in
theorem impl (s : ByteArray) (hs : s.size ≤ 100000000) (o : Int) {m d l res} (h : P m d l res) : Suf s l → d ≤ 5 → fits s m l → ∃ r, Ev (fI s o m d l) r ∧ RI s o res r := by
 induction h with
 | path_ok _ _ ih1 ih2 =>
  intro hl hd _
  obtain ⟨r, h1, hl1, rfl⟩ := ih1 hl hd trivial
  obtain ⟨r2, h2, hr⟩ := ih2 hl1 hd trivial
  refine ⟨r2, Ev.up ?_, hr⟩
  simp only [fI, Yq.f]
  exact Z1U
 | path_bad _ ih1 =>
  intro hl hd _
  obtain ⟨r, h1, hc, hl1, l', q0, q1, q2, q3, hl', rfl⟩ := ih1 hl hd trivial
  refine ⟨_, Ev.up ?_, Y1H hc hl1 hl' q0 q1 q2 q3⟩
  simp only [fI, Yq.f]
  exact Ev.bind h1 (pathL_e s _ _ _ _ hc _ _ _ _)
 | @pathL_more d p l r0 q l1 res hk _ _ ih1 ih2 =>
  intro hl hd _
  cases p; cases q
  have hq := hl.skip; rw [hk] at hq
  obtain ⟨r, h1, hl1, rfl⟩ := ih1 hq.tail hd trivial
  obtain ⟨r2, h2, hr⟩ := ih2 hl1 hd trivial
  refine ⟨r2, Ev.up ?_, hr⟩
  simp only [fI, Yq.l0]
  refine Ev.bind (Y4I hs o hl hk 124 rfl) ?_
  simp only [if_true]
  exact Z1U
 | @pathL_bad d p l r0 c lb hk _ ih1 =>
  intro hl hd _
  cases p with | mk p0 p1 p2 p3 =>
  have hq := hl.skip; rw [hk] at hq
  obtain ⟨r, h1, hc, hl1, l', q0, q1, q2, q3, hl', rfl⟩ := ih1 hq.tail hd trivial
  refine ⟨_, Ev.up ?_, Y1H hc hl1 hl' 4 ⟨#[]⟩ [] [⟨p0, p1, p2, p3⟩, ⟨q0, q1, q2, q3⟩]⟩
  simp only [fI, Yq.l0]
  refine Ev.bind (Y4I hs o hl hk 124 rfl) ?_
  simp only [if_true]
  exact Ev.bind h1 (pathL_e s _ _ _ _ hc _ _ _ _)
 | pathL_end hk =>
  intro hl hd _
  refine ⟨_, Ev.up ?_, hl.skip, rfl⟩
  simp only [fI, Yq.l0]
  exact Ev.bind (is_no hs o hl 124 hk) (Ev.congr (fun k => by simp) (Ev.now _))
 | seq_ok _ _ ih1 ih2 =>
  intro hl hd _
  obtain ⟨r, h1, hl1, rfl⟩ := ih1 hl hd trivial
  obtain ⟨r2, h2, hr⟩ := ih2 hl1 hd trivial
  refine ⟨r2, Ev.up ?_, hr⟩
  simp only [fI, Yz.f]
  exact Z1U
 | seq_bad _ ih1 =>
  intro hl hd _
  obtain ⟨r, h1, hc, hl1, l', q0, q1, q2, q3, hl', rfl⟩ := ih1 hl hd trivial
  refine ⟨_, Ev.up ?_, Y1H hc hl1 hl' q0 q1 q2 q3⟩
  simp only [fI, Yz.f]
  exact Ev.bind h1 (seqL_e s _ _ _ _ hc _ _ _ _)
 | @seqL_more d p l r0 q l1 res hk _ _ ih1 ih2 =>
  intro hl hd _
  cases p; cases q
  have hq := hl.skip; rw [hk] at hq
  obtain ⟨r, h1, hl1, rfl⟩ := ih1 hq.tail hd trivial
  obtain ⟨r2, h2, hr⟩ := ih2 hl1 hd trivial
  refine ⟨r2, Ev.up ?_, hr⟩
  simp only [fI, Yz.l0]
  refine Ev.bind (Y4I hs o hl hk 47 rfl) ?_
  simp only [if_true]
  exact Z1U
 | @seqL_bad d p l r0 c lb hk _ ih1 =>
  intro hl hd _
  cases p with | mk p0 p1 p2 p3 =>
  have hq := hl.skip; rw [hk] at hq
  obtain ⟨r, h1, hc, hl1, l', q0, q1, q2, q3, hl', rfl⟩ := ih1 hq.tail hd trivial
  refine ⟨_, Ev.up ?_, Y1H hc hl1 hl' 3 ⟨#[]⟩ [] [⟨p0, p1, p2, p3⟩, ⟨q0, q1, q2, q3⟩]⟩
  simp only [fI, Yz.l0]
  refine Ev.bind (Y4I hs o hl hk 47 rfl) ?_
  simp only [if_true]
  exact Ev.bind h1 (seqL_e s _ _ _ _ hc _ _ _ _)
 | seqL_end hk =>
  intro hl hd _
  refine ⟨_, Ev.up ?_, hl.skip, rfl⟩
  simp only [fI, Yz.l0]
  exact Ev.bind (is_no hs o hl 47 hk) (Ev.congr (fun k => by simp) (Ev.now _))
 | step_ok _ _ ih1 ih2 =>
  intro hl hd _
  obtain ⟨r, h1, hl1, rfl⟩ := ih1 hl hd trivial
  obtain ⟨r2, h2, hr⟩ := ih2 hl1 hd trivial
  refine ⟨r2, Ev.up ?_, hr⟩
  simp only [fI, Yi.f]
  exact Z1U
 | step_bad _ ih1 =>
  intro hl hd _
  obtain ⟨r, h1, hc, hl1, l', q0, q1, q2, q3, hl', rfl⟩ := ih1 hl hd trivial
  refine ⟨_, Ev.up ?_, Y1H hc hl1 hl' q0 q1 q2 q3⟩
  simp only [fI, Yi.f]
  exact Ev.bind h1 (stepL_e s _ _ _ hc _ _ _ _)
 | @stepL_more d p l c r0 res hk hc _ ih1 =>
  intro hl hd _
  have hq := hl.skip; rw [hk] at hq
  obtain ⟨r, h1, hr⟩ := ih1 hq.tail hd trivial
  refine ⟨r, Ev.up ?_, hr⟩
  simp only [fI, Yi.l0]
  have hn := Y1R s hs o l hl
  rw [hk] at hn
  refine Ev.bind hn ?_
  have e0 : wrap64 (ps s (c :: r0) + 1) = ps s r0 := Y1l hs hq
  cases p
  rcases hc with rfl | rfl | rfl
  ·have e1 : Print.hd (42 :: r0) = 42 := rfl
   simp only [e1, if_true]
   refine Ev.up ?_
   simp only [Yi.j1, e0]
   exact h1
  ·have e1 : Print.hd (43 :: r0) = 43 := rfl
   have e2 : ¬ ((43 : Int) = 42) := by decide
   simp only [e1, e2, if_true, if_false]
   refine Ev.up ?_
   simp only [Yi.j2, e0]
   exact h1
  ·have e1 : Print.hd (63 :: r0) = 63 := rfl
   have e2 : ¬ ((63 : Int) = 42) := by decide
   have e3 : ¬ ((63 : Int) = 43) := by decide
   simp only [e1, e2, e3, if_true, if_false]
   refine Ev.up ?_
   simp only [Yi.j3, e0]
   exact h1
 | stepL_end hk1 hk2 hk3 =>
  intro hl hd _
  refine ⟨_, Ev.up ?_, hl.skip, rfl⟩
  simp only [fI, Yi.l0]
  refine Ev.bind (Y1R s hs o _ hl) ?_
  simp only [hk1, hk2, hk3, if_false]
  exact Z1i
 | @up_ok d l r0 p l1 hk hd5 _ ih1 =>
  intro hl hd _
  cases p
  have hq := hl.skip; rw [hk] at hq
  obtain ⟨r, h1, hl1, rfl⟩ := ih1 hq.tail (by omega) trivial
  refine ⟨_, Ev.up ?_, hl1, rfl⟩
  simp only [fI, YH.f]
  have hn := Y1R s hs o _ hl
  rw [hk] at hn
  refine Ev.bind hn ?_
  simp only [show Print.hd (94 :: r0) = 94 from rfl, if_true, Y1l hs hq, Y3H hd5, if_neg (show ¬ ((d : Nat) : Int) ≥ 5 by omega)]
  exact Z1v
 | @up_bad d l r0 c lb hk hd5 _ ih1 =>
  intro hl hd _
  have hq := hl.skip; rw [hk] at hq
  obtain ⟨r, h1, hc, hl1, l', q0, q1, q2, q3, hl', rfl⟩ := ih1 hq.tail (by omega) trivial
  refine ⟨_, Ev.up ?_, Y1H hc hl1 hl' 2 ⟨#[]⟩ [] [⟨q0, q1, q2, q3⟩]⟩
  simp only [fI, YH.f]
  have hn := Y1R s hs o _ hl
  rw [hk] at hn
  refine Ev.bind hn ?_
  simp only [show Print.hd (94 :: r0) = 94 from rfl, if_true, Y1l hs hq, Y3H hd5, if_neg (show ¬ ((d : Nat) : Int) ≥ 5 by omega)]
  exact Z1v
 | @full d l c r0 hk hc h5 =>
  intro hl hd _
  refine ⟨_, ?_, Y1H (l' := skip l) (by decide) hl.skip hl.skip 0 ⟨#[]⟩ [] []⟩
  have hn := Y1R s hs o _ hl
  have hge : ((d : Nat) : Int) ≥ 5 := by omega
  refine Ev.up ?_
  simp only [fI, YH.f]
  refine Ev.bind hn ?_
  rw [hk]
  rcases hc with rfl | rfl
  ·simp only [show Print.hd (94 :: r0) = 94 from rfl, if_true, if_pos hge, Y3k]
   exact Z1i
  ·simp only [show Print.hd (40 :: r0) = 40 from rfl, if_neg (show ¬ ((40 : Int) = 94) by decide)]
   refine Ev.bind (a := (0, ⟨#[]⟩, [], [], s, ps s (40 :: r0), 3, ps s (40 :: r0))) (Ev.up ?_) (Ev.now _)
   simp only [YN.f]
   have hq := hl.skip; rw [hk] at hq
   have hn2 := Y1R s hs o _ hq
   refine Ev.bind hn2 ?_
   have e4 : skip (40 :: r0) = 40 :: r0 := rfl
   rw [e4]
   simp only [show Print.hd (40 :: r0) = 40 from rfl, if_neg (show ¬ ((40 : Int) = 60) by decide), if_neg (show ¬ ((40 : Int) = 33) by decide), if_true, if_pos hge, Y3k]
   exact Z1i
 | @iri_ok d l r0 t l1 hk hi =>
  intro hl hd _
  have hq := hl.skip; rw [hk] at hq
  obtain ⟨h1, hl1, _⟩ := Y2U hs o hl hi
  refine ⟨_, Ev.up ?_, hl1, rfl⟩
  simp only [fI, YH.f]
  have hn := Y1R s hs o _ hl
  rw [hk] at hn
  refine Ev.bind hn ?_
  simp only [show Print.hd (60 :: r0) = 60 from rfl, if_neg (show ¬ ((60 : Int) = 94) by decide)]
  refine Ev.bind (a := (1, t, [], [], s, ps s l1, 0, o)) (Ev.up ?_) (Ev.now _)
  simp only [YN.f]
  have hn2 := Y1R s hs o _ hq
  refine Ev.bind hn2 ?_
  have e4 : skip (60 :: r0) = 60 :: r0 := rfl
  rw [e4]
  simp only [show Print.hd (60 :: r0) = 60 from rfl, if_true]
  have hi2 : Y3B (60 :: r0) = some (t, l1) := by unfold Y3B at hi ⊢; rw [hk] at hi; rw [e4]; exact hi
  exact Ev.bind (Y2U hs o hq hi2).1 (Ev.now _)
 | @iri_bad d l r0 hk hi =>
  intro hl hd _
  have hq := hl.skip; rw [hk] at hq
  refine ⟨_, Ev.up ?_, Y1H (l' := skip l) (by decide) hl.skip hl.skip 1 ⟨#[]⟩ [] []⟩
  simp only [fI, YH.f]
  have hn := Y1R s hs o _ hl
  refine Ev.bind hn ?_
  rw [hk]
  simp only [show Print.hd (60 :: r0) = 60 from rfl, if_neg (show ¬ ((60 : Int) = 94) by decide)]
  refine Ev.bind (a := (1, ⟨#[]⟩, [], [], s, ps s (60 :: r0), 2, ps s (60 :: r0))) (Ev.up ?_) (Ev.now _)
  simp only [YN.f]
  have hn2 := Y1R s hs o _ hq
  refine Ev.bind hn2 ?_
  have e4 : skip (60 :: r0) = 60 :: r0 := rfl
  rw [e4]
  simp only [show Print.hd (60 :: r0) = 60 from rfl, if_true]
  have hi2 : Y3B (60 :: r0) = none := by unfold Y3B at hi ⊢; rw [hk] at hi; rw [e4]; exact hi
  have := Y4p hs o hq hi2
  rw [e4] at this
  exact Ev.bind this (Ev.now _)
 | @not_ d l r0 res hk _ ih1 =>
  intro hl hd _
  have hq := hl.skip; rw [hk] at hq
  obtain ⟨r, h1, hr⟩ := ih1 hq.tail hd trivial
  refine ⟨r, Ev.up ?_, hr⟩
  simp only [fI, YH.f]
  have hn := Y1R s hs o _ hl
  rw [hk] at hn
  refine Ev.bind hn ?_
  simp only [show Print.hd (33 :: r0) = 33 from rfl, if_neg (show ¬ ((33 : Int) = 94) by decide)]
  refine Ev.bind (a := r) (Ev.up ?_) (Ev.now _)
  simp only [YN.f]
  have hn2 := Y1R s hs o _ hq
  refine Ev.bind hn2 ?_
  have e4 : skip (33 :: r0) = 33 :: r0 := rfl
  rw [e4]
  simp only [show Print.hd (33 :: r0) = 33 from rfl, if_neg (show ¬ ((33 : Int) = 60) by decide), if_true, Y1l hs hq]
  exact Z1v
 | @br_ok d l r0 p l1 r1 hk hd5 _ hk2 ih1 =>
  intro hl hd _
  have hq := hl.skip; rw [hk] at hq
  obtain ⟨r, h1, hl1, rfl⟩ := ih1 hq.tail (by omega) trivial
  have hq1 := hl1.skip; rw [hk2] at hq1
  refine ⟨_, Ev.up ?_, hq1.tail, rfl⟩
  simp only [fI, YH.f]
  have hn := Y1R s hs o _ hl
  rw [hk] at hn
  refine Ev.bind hn ?_
  simp only [show Print.hd (40 :: r0) = 40 from rfl, if_neg (show ¬ ((40 : Int) = 94) by decide)]
  refine Ev.bind (a := (p.f0, p.f1, p.f2, p.f3, s, ps s r1, 0, o)) (Ev.up ?_) (Ev.now _)
  simp only [YN.f]
  have hn2 := Y1R s hs o _ hq
  refine Ev.bind hn2 ?_
  have e4 : skip (40 :: r0) = 40 :: r0 := rfl
  rw [e4]
  simp only [show Print.hd (40 :: r0) = 40 from rfl, if_neg (show ¬ ((40 : Int) = 60) by decide), if_neg (show ¬ ((40 : Int) = 33) by decide), if_true, Y1l hs hq, Y3H hd5, if_neg (show ¬ ((d : Nat) : Int) ≥ 5 by omega)]
  refine Ev.bind h1 ?_
  exact Ev.bind (Y6y hs o hl1 hk2 41 rfl) (Ev.now _)
 | @br_bad d l r0 c lb hk hd5 _ ih1 =>
  intro hl hd _
  have hq := hl.skip; rw [hk] at hq
  obtain ⟨r, h1, hc, hl1, l', q0, q1, q2, q3, hl', rfl⟩ := ih1 hq.tail (by omega) trivial
  refine ⟨_, Ev.up ?_, Y1H hc hl1 hl' q0 q1 q2 q3⟩
  simp only [fI, YH.f]
  have hn := Y1R s hs o _ hl
  rw [hk] at hn
  refine Ev.bind hn ?_
  simp only [show Print.hd (40 :: r0) = 40 from rfl, if_neg (show ¬ ((40 : Int) = 94) by decide)]
  refine Ev.bind (a := (q0, q1, q2, q3, s, ps s l', c, ps s lb)) (Ev.up ?_) (Ev.now _)
  simp only [YN.f]
  have hn2 := Y1R s hs o _ hq
  refine Ev.bind hn2 ?_
  have e4 : skip (40 :: r0) = 40 :: r0 := rfl
  rw [e4]
  simp only [show Print.hd (40 :: r0) = 40 from rfl, if_neg (show ¬ ((40 : Int) = 60) by decide), if_neg (show ¬ ((40 : Int) = 33) by decide), if_true, Y1l hs hq, Y3H hd5, if_neg (show ¬ ((d : Nat) : Int) ≥ 5 by omega)]
  refine Ev.bind h1 ?_
  exact Ev.bind (must_e s _ _ _ 41 hc (by decide)) (Ev.now _)
 | @br_open d l r0 p l1 hk hd5 _ hk2 ih1 =>
  intro hl hd _
  have hq := hl.skip; rw [hk] at hq
  obtain ⟨r, h1, hl1, rfl⟩ := ih1 hq.tail (by omega) trivial
  refine ⟨_, Ev.up ?_, Y1H (l' := skip l1) (by decide) hl1.skip hl1.skip p.f0 p.f1 p.f2 p.f3⟩
  simp only [fI, YH.f]
  have hn := Y1R s hs o _ hl
  rw [hk] at hn
  refine Ev.bind hn ?_
  simp only [show Print.hd (40 :: r0) = 40 from rfl, if_neg (show ¬ ((40 : Int) = 94) by decide)]
  refine Ev.bind (a := (p.f0, p.f1, p.f2, p.f3, s, ps s (skip l1), 2, ps s (skip l1))) (Ev.up ?_) (Ev.now _)
  simp only [YN.f]
  have hn2 := Y1R s hs o _ hq
  refine Ev.bind hn2 ?_
  have e4 : skip (40 :: r0) = 40 :: r0 := rfl
  rw [e4]
  simp only [show Print.hd (40 :: r0) = 40 from rfl, if_neg (show ¬ ((40 : Int) = 60) by decide), if_neg (show ¬ ((40 : Int) = 33) by decide), if_true, Y1l hs hq, Y3H hd5, if_neg (show ¬ ((d : Nat) : Int) ≥ 5 by omega)]
  refine Ev.bind h1 ?_
  exact Ev.bind (must_no hs o hl1 41 hk2) (Ev.now _)
 | @other d l k1 k2 k3 k4 =>
  intro hl hd _
  refine ⟨_, Ev.up ?_, Y1H (l' := skip l) (by decide) hl.skip hl.skip 0 ⟨#[]⟩ [] []⟩
  simp only [fI, YH.f]
  refine Ev.bind (Y1R s hs o _ hl) ?_
  simp only [if_neg k1]
  refine Ev.bind (a := (0, ⟨#[]⟩, [], [], s, ps s (skip l), 2, ps s (skip l))) (Ev.up ?_) (Ev.now _)
  simp only [YN.f]
  refine Ev.bind (Y1R s hs o _ hl.skip) ?_
  rw [Y1d]
  simp only [if_neg k2, if_neg k3, if_neg k4, Y3k]
  exact Z1i
 | @nt_one d l t l1 hk hi =>
  intro hl hd _
  obtain ⟨h1, hl1, _⟩ := Y2U hs o hl hi
  refine ⟨_, ?_, hl1, rfl⟩
  simp only [fI, Yk.f]
  have hj : Ev (fun k => Yk.j0 k true s (ps s l) 0 o 8) (8, ⟨#[]⟩, [t], [], s, ps s l1, 0, o) := by
   refine Ev.up ?_
   simp only [Yk.j0, if_true]
   exact Z1v
  cases l with
  | nil => simp only [if_pos (show ps s [] ≥ (s.size : Int) by rw [Y32]; omega)]; exact hj
  | cons c r =>
   have hb : (bt s (ps s (c :: r)) != 40) = true := by rw [Y4h hl]; exact bne_iff_ne.mpr hk
   simp only [if_neg (show ¬ ps s (c :: r) ≥ (s.size : Int) by have := Y2V s c r; omega), if_pos hl.ps0, if_pos (Y2V s c r), hb]
   exact hj
 | @nt_one_bad d l hk hi =>
  intro hl hd _
  have h1 := Y4p hs o hl hi
  refine ⟨_, ?_, Y1H (l' := skip l) (by decide) hl.skip hl.skip 8 ⟨#[]⟩ [⟨#[]⟩] []⟩
  simp only [fI, Yk.f]
  have hj : Ev (fun k => Yk.j0 k true s (ps s l) 0 o 8) (8, ⟨#[]⟩, [⟨#[]⟩], [], s, ps s (skip l), 2, ps s (skip l)) := by
   refine Ev.up ?_
   simp only [Yk.j0, if_true]
   exact Z1v
  cases l with
  | nil => simp only [if_pos (show ps s [] ≥ (s.size : Int) by rw [Y32]; omega)]; exact hj
  | cons c r =>
   have hb : (bt s (ps s (c :: r)) != 40) = true := by rw [Y4h hl]; exact bne_iff_ne.mpr hk
   simp only [if_neg (show ¬ ps s (c :: r) ≥ (s.size : Int) by have := Y2V s c r; omega), if_pos hl.ps0, if_pos (Y2V s c r), hb]
   exact hj
 | @nt_br d r0 t l1 res hi _ ih1 =>
  intro hl hd _
  obtain ⟨h1, hl1, hle⟩ := Y2U hs o hl.tail hi
  have hlen := hl.len
  simp only [List.length_cons] at hlen
  obtain ⟨r, h2, hr⟩ := ih1 hl1 hd (by simp only [fits, List.length_cons, List.length_nil]; omega)
  refine ⟨r, ?_, hr⟩
  have hb : (bt s (ps s (40 :: r0)) != 40) = false := by rw [Y4h hl]; rfl
  simp only [fI, Yk.f, if_neg (show ¬ ps s (40 :: r0) ≥ (s.size : Int) by have := Y2V s 40 r0; omega), if_pos hl.ps0, if_pos (Y2V s 40 r0), hb]
  refine Ev.up ?_
  simp only [Yk.j0, Bool.false_eq_true, if_false, Y1l hs hl]
  exact Z1U
 | @nt_br_bad d r0 hi =>
  intro hl hd _
  have h1 := Y4p hs o hl.tail hi
  refine ⟨_, ?_, Y1H (l' := skip r0) (by decide) hl.tail.skip hl.tail.skip 8 ⟨#[]⟩ [⟨#[]⟩] []⟩
  have hb : (bt s (ps s (40 :: r0)) != 40) = false := by rw [Y4h hl]; rfl
  simp only [fI, Yk.f, if_neg (show ¬ ps s (40 :: r0) ≥ (s.size : Int) by have := Y2V s 40 r0; omega), if_pos hl.ps0, if_pos (Y2V s 40 r0), hb]
  refine Ev.up ?_
  simp only [Yk.j0, Bool.false_eq_true, if_false, Y1l hs hl]
  exact Ev.bind h1 (notL_e s _ 2 _ (by decide) _ _)
 | @notL_more d ts l r0 t l1 res hk hi _ ih1 =>
  intro hl hd hf
  have hq := hl.skip; rw [hk] at hq
  have hle0 := Y3y l
  rw [hk] at hle0
  obtain ⟨h1, hl1, hle⟩ := Y2U hs o hq.tail hi
  simp only [fits, List.length_cons] at hf hle0
  obtain ⟨r, h2, hr⟩ := ih1 hl1 hd Z25
  refine ⟨r, Ev.up ?_, hr⟩
  simp only [fI, Yk.l0]
  refine Ev.bind (Y4I hs o hl hk 124 rfl) ?_
  simp only [if_true]
  refine Ev.bind h1 ?_
  simp only [if_pos (show ts.length < 8796093022208 by omega)]
  exact h2
 | @notL_bad d ts l r0 hk hi =>
  intro hl hd hf
  have hq := hl.skip; rw [hk] at hq
  simp only [fits] at hf
  refine ⟨_, Ev.up ?_, Y1H (l' := skip r0) (by decide) hq.tail.skip hq.tail.skip 8 ⟨#[]⟩ (ts ++ [⟨#[]⟩]) []⟩
  simp only [fI, Yk.l0]
  refine Ev.bind (Y4I hs o hl hk 124 rfl) ?_
  simp only [if_true]
  refine Ev.bind (Y4p hs o hq.tail hi) ?_
  simp only [if_pos (show ts.length < 8796093022208 by omega)]
  exact notL_e s _ 2 _ (by decide) _ _
 | @notL_end d ts l r0 hk =>
  intro hl hd hf
  have hq := hl.skip; rw [hk] at hq
  refine ⟨_, Ev.up ?_, hq.tail, rfl⟩
  simp only [fI, Yk.l0]
  refine Ev.bind (is_no hs o hl 124 (by rw [hk]; show (41 : Int) ≠ 124; decide)) ?_
  simp only [Bool.false_eq_true, if_false]
  exact Ev.bind (Y6y hs o hl.skip (by rw [Y1d]; exact hk) 41 rfl) (Ev.now _)
 | @notL_open d ts l k1 k2 =>
  intro hl hd hf
  refine ⟨_, Ev.up ?_, Y1H (l' := skip l) (by decide) hl.skip hl.skip 8 ⟨#[]⟩ ts []⟩
  simp only [fI, Yk.l0]
  refine Ev.bind (is_no hs o hl 124 k1) ?_
  simp only [Bool.false_eq_true, if_false]
  refine Ev.bind (must_no hs o hl.skip 41 (by rw [Y1d]; exact k2)) ?_
  rw [Y1d]
  exact Z1i
def fR (s : ByteArray) (o : Int) : NT → Nat → List UInt8 → Nat → Option R8
 | .path, d, l => fun k => Yj.f k s (ps s l) 0 o (d : Int)
 | .pathL p, d, l => fun k => Yj.l0 k (d : Int) s (ps s l) 0 o p.f0 p.f1 p.f2 p.f3
 | .seq, d, l => fun k => Yp.f k s (ps s l) 0 o (d : Int)
 | .seqL p, d, l => fun k => Yp.l0 k (d : Int) s (ps s l) 0 o p.f0 p.f1 p.f2 p.f3
 | .step, d, l => fun k => Y9.f k s (ps s l) 0 o (d : Int)
 | .stepL p, d, l => fun k => Y9.l0 k s (ps s l) 0 o p.f0 p.f1 p.f2 p.f3
 | .back, d, l => fun k => Ya.f k s (ps s l) 0 o (d : Int)
 | .nt, d, l => fun k => Y4.f k s (ps s l) 0 o
 | .notL ts, d, l => fun k => Y4.l0 k s (ps s l) 0 o 8 ts
theorem Y6A {s : ByteArray} (hs : s.size ≤ 100000000) (d e o : Int) (he : e ≠ 0) {l : List UInt8} (h : Suf s l) (q0 : Int) (q1 : ByteArray) (q2 : List ByteArray) (q3 : List S37) :
  Ev (fun k => Yj.l0 k d s (ps s l) e o q0 q1 q2 q3) (q0, q1, q2, q3, s, ps s (skip l), e, o) := by
 refine Ev.up ?_
 simp only [Yj.l0]
 exact Z27
theorem rseqL_e {s : ByteArray} (hs : s.size ≤ 100000000) (d e o : Int) (he : e ≠ 0) {l : List UInt8} (h : Suf s l) (q0 : Int) (q1 : ByteArray) (q2 : List ByteArray) (q3 : List S37) :
  Ev (fun k => Yp.l0 k d s (ps s l) e o q0 q1 q2 q3) (q0, q1, q2, q3, s, ps s (skip l), e, o) := by
 refine Ev.up ?_
 simp only [Yp.l0]
 exact Z27
theorem rstepL_e {s : ByteArray} (hs : s.size ≤ 100000000) (e o : Int) (he : e ≠ 0) {l : List UInt8} (h : Suf s l) (q0 : Int) (q1 : ByteArray) (q2 : List ByteArray) (q3 : List S37) :
  Ev (fun k => Y9.l0 k s (ps s l) e o q0 q1 q2 q3) (q0, q1, q2, q3, s, ps s (skip l), e, o) := by
 refine Ev.up ?_
 simp only [Y9.l0]
 refine Ev.bind (Y4R s hs e o _ he (by decide) h) ?_
 simp only [Bool.false_eq_true, if_false]
 refine Ev.bind (Y4R s hs e o _ he (by decide) h.skip) ?_
 simp only [Bool.false_eq_true, if_false, Y1d]
 refine Ev.bind (Y4R s hs e o _ he (by decide) h.skip) ?_
 simp only [Bool.false_eq_true, if_false, Y1d]
 exact Z1i
theorem rnotL_e {s : ByteArray} (hs : s.size ≤ 100000000) (e o : Int) (he : e ≠ 0) {l : List UInt8} (h : Suf s l) (q0 : Int) (ts : List ByteArray) :
  Ev (fun k => Y4.l0 k s (ps s l) e o q0 ts) (0, ⟨#[]⟩, [], [], s, ps s (skip l), e, o) := by
 refine Ev.up ?_
 simp only [Y4.l0]
 refine Ev.bind (Y4R s hs e o _ he (by decide) h) ?_
 simp only [Bool.false_eq_true, if_false]
 refine Ev.bind (Y4R s hs e o _ he (by decide) h.skip) ?_
 simp only [Bool.false_eq_true, if_false, Y1d, fail_e _ _ _ _ _ _ he]
 exact Z1i
set_option maxHeartbeats 4000000 in
theorem refn (s : ByteArray) (hs : s.size ≤ 100000000) (o : Int) {m d l res} (h : P m d l res) : Suf s l → d ≤ 5 → fits s m l → ∃ r, Ev (fR s o m d l) r ∧ RI s o res r := by
 induction h with
 | path_ok _ _ ih1 ih2 =>
  intro hl hd _
  obtain ⟨r, h1, hl1, rfl⟩ := ih1 hl hd trivial
  obtain ⟨r2, h2, hr⟩ := ih2 hl1 hd trivial
  refine ⟨r2, Ev.up ?_, hr⟩
  simp only [fR, Yj.f]
  exact Z1U
 | path_bad _ ih1 =>
  intro hl hd _
  obtain ⟨r, h1, hc, hl1, l', q0, q1, q2, q3, hl', rfl⟩ := ih1 hl hd trivial
  refine ⟨_, Ev.up ?_, Y1H hc hl1 hl'.skip q0 q1 q2 q3⟩
  simp only [fR, Yj.f]
  exact Ev.bind h1 (Y6A hs _ _ _ hc hl' _ _ _ _)
 | @pathL_more d p l r0 q l1 res hk _ _ ih1 ih2 =>
  intro hl hd _
  cases p; cases q
  have hq := hl.skip; rw [hk] at hq
  obtain ⟨r, h1, hl1, rfl⟩ := ih1 hq.tail hd trivial
  obtain ⟨r2, h2, hr⟩ := ih2 hl1 hd trivial
  refine ⟨r2, Ev.up ?_, hr⟩
  simp only [fR, Yj.l0]
  refine Ev.bind (Y2x hs o hl hk 124 rfl) ?_
  simp only [if_true]
  exact Z1U
 | @pathL_bad d p l r0 c lb hk _ ih1 =>
  intro hl hd _
  cases p with | mk p0 p1 p2 p3 =>
  have hq := hl.skip; rw [hk] at hq
  obtain ⟨r, h1, hc, hl1, l', q0, q1, q2, q3, hl', rfl⟩ := ih1 hq.tail hd trivial
  refine ⟨_, Ev.up ?_, Y1H hc hl1 hl'.skip 4 ⟨#[]⟩ [] [⟨p0, p1, p2, p3⟩, ⟨q0, q1, q2, q3⟩]⟩
  simp only [fR, Yj.l0]
  refine Ev.bind (Y2x hs o hl hk 124 rfl) ?_
  simp only [if_true]
  exact Ev.bind h1 (Y6A hs _ _ _ hc hl' _ _ _ _)
 | pathL_end hk =>
  intro hl hd _
  refine ⟨_, Ev.up ?_, hl.skip, rfl⟩
  simp only [fR, Yj.l0]
  exact Ev.bind (Y2S hs o hl 124 hk) (Ev.congr (fun k => by simp) (Ev.now _))
 | seq_ok _ _ ih1 ih2 =>
  intro hl hd _
  obtain ⟨r, h1, hl1, rfl⟩ := ih1 hl hd trivial
  obtain ⟨r2, h2, hr⟩ := ih2 hl1 hd trivial
  refine ⟨r2, Ev.up ?_, hr⟩
  simp only [fR, Yp.f]
  exact Z1U
 | seq_bad _ ih1 =>
  intro hl hd _
  obtain ⟨r, h1, hc, hl1, l', q0, q1, q2, q3, hl', rfl⟩ := ih1 hl hd trivial
  refine ⟨_, Ev.up ?_, Y1H hc hl1 hl'.skip q0 q1 q2 q3⟩
  simp only [fR, Yp.f]
  exact Ev.bind h1 (rseqL_e hs _ _ _ hc hl' _ _ _ _)
 | @seqL_more d p l r0 q l1 res hk _ _ ih1 ih2 =>
  intro hl hd _
  cases p; cases q
  have hq := hl.skip; rw [hk] at hq
  obtain ⟨r, h1, hl1, rfl⟩ := ih1 hq.tail hd trivial
  obtain ⟨r2, h2, hr⟩ := ih2 hl1 hd trivial
  refine ⟨r2, Ev.up ?_, hr⟩
  simp only [fR, Yp.l0]
  refine Ev.bind (Y2x hs o hl hk 47 rfl) ?_
  simp only [if_true]
  exact Z1U
 | @seqL_bad d p l r0 c lb hk _ ih1 =>
  intro hl hd _
  cases p with | mk p0 p1 p2 p3 =>
  have hq := hl.skip; rw [hk] at hq
  obtain ⟨r, h1, hc, hl1, l', q0, q1, q2, q3, hl', rfl⟩ := ih1 hq.tail hd trivial
  refine ⟨_, Ev.up ?_, Y1H hc hl1 hl'.skip 3 ⟨#[]⟩ [] [⟨p0, p1, p2, p3⟩, ⟨q0, q1, q2, q3⟩]⟩
  simp only [fR, Yp.l0]
  refine Ev.bind (Y2x hs o hl hk 47 rfl) ?_
  simp only [if_true]
  exact Ev.bind h1 (rseqL_e hs _ _ _ hc hl' _ _ _ _)
 | seqL_end hk =>
  intro hl hd _
  refine ⟨_, Ev.up ?_, hl.skip, rfl⟩
  simp only [fR, Yp.l0]
  exact Ev.bind (Y2S hs o hl 47 hk) (Ev.congr (fun k => by simp) (Ev.now _))
 | step_ok _ _ ih1 ih2 =>
  intro hl hd _
  obtain ⟨r, h1, hl1, rfl⟩ := ih1 hl hd trivial
  obtain ⟨r2, h2, hr⟩ := ih2 hl1 hd trivial
  refine ⟨r2, Ev.up ?_, hr⟩
  simp only [fR, Y9.f]
  exact Z1U
 | step_bad _ ih1 =>
  intro hl hd _
  obtain ⟨r, h1, hc, hl1, l', q0, q1, q2, q3, hl', rfl⟩ := ih1 hl hd trivial
  refine ⟨_, Ev.up ?_, Y1H hc hl1 hl'.skip q0 q1 q2 q3⟩
  simp only [fR, Y9.f]
  exact Ev.bind h1 (rstepL_e hs _ _ hc hl' _ _ _ _)
 | @stepL_more d p l c r0 res hk hc _ ih1 =>
  intro hl hd _
  have hq := hl.skip; rw [hk] at hq
  obtain ⟨r, h1, hr⟩ := ih1 hq.tail hd trivial
  refine ⟨r, Ev.up ?_, hr⟩
  simp only [fR, Y9.l0]
  cases p
  have hk2 : skip (skip l) = c :: r0 := by rw [Y1d]; exact hk
  have hk3 : skip (c :: r0) = c :: r0 := by rw [← hk, Y1d]
  rcases hc with rfl | rfl | rfl
  ·refine Ev.bind (Y2x hs o hl hk 42 rfl) ?_
   simp only [if_true]
   exact h1
  ·refine Ev.bind (Y2S hs o hl 42 (by rw [hk]; show (43 : Int) ≠ 42; decide)) ?_
   simp only [Bool.false_eq_true, if_false]
   refine Ev.bind (Y2x hs o hl.skip hk2 43 rfl) ?_
   simp only [if_true]
   exact h1
  ·refine Ev.bind (Y2S hs o hl 42 (by rw [hk]; show (63 : Int) ≠ 42; decide)) ?_
   simp only [Bool.false_eq_true, if_false]
   refine Ev.bind (Y2S hs o hl.skip 43 (by rw [hk2]; show (63 : Int) ≠ 43; decide)) ?_
   simp only [Bool.false_eq_true, if_false, Y1d]
   refine Ev.bind (Y2x hs o hl.skip hk2 63 rfl) ?_
   simp only [if_true]
   exact h1
 | stepL_end hk1 hk2 hk3 =>
  intro hl hd _
  refine ⟨_, Ev.up ?_, hl.skip, rfl⟩
  simp only [fR, Y9.l0]
  refine Ev.bind (Y2S hs o hl 42 hk1) ?_
  simp only [Bool.false_eq_true, if_false]
  refine Ev.bind (Y2S hs o hl.skip 43 (by rw [Y1d]; exact hk2)) ?_
  simp only [Bool.false_eq_true, if_false, Y1d]
  refine Ev.bind (Y2S hs o hl.skip 63 (by rw [Y1d]; exact hk3)) ?_
  simp only [Bool.false_eq_true, if_false, Y1d]
  exact Z1i
 | @up_ok d l r0 p l1 hk hd5 _ ih1 =>
  intro hl hd _
  cases p
  have hq := hl.skip; rw [hk] at hq
  obtain ⟨r, h1, hl1, rfl⟩ := ih1 hq.tail (by omega) trivial
  refine ⟨_, Ev.up ?_, hl1, rfl⟩
  simp only [fR, Ya.f]
  have hn := Y3o s hs o _ hl
  rw [hk] at hn
  refine Ev.bind hn ?_
  simp only [show Print.hd (94 :: r0) = 94 from rfl, if_true]
  refine Ev.up ?_
  simp only [Ya.j0, show ((94 : Int) == 94) = true from rfl, if_true, Y1l hs hq, Y3H hd5, if_neg (show ¬ ((d : Nat) : Int) ≥ 5 by omega)]
  exact Z1v
 | @up_bad d l r0 c lb hk hd5 _ ih1 =>
  intro hl hd _
  have hq := hl.skip; rw [hk] at hq
  obtain ⟨r, h1, hc, hl1, l', q0, q1, q2, q3, hl', rfl⟩ := ih1 hq.tail (by omega) trivial
  refine ⟨_, Ev.up ?_, Y1H hc hl1 hl' 2 ⟨#[]⟩ [] [⟨q0, q1, q2, q3⟩]⟩
  simp only [fR, Ya.f]
  have hn := Y3o s hs o _ hl
  rw [hk] at hn
  refine Ev.bind hn ?_
  simp only [show Print.hd (94 :: r0) = 94 from rfl, if_true]
  refine Ev.up ?_
  simp only [Ya.j0, show ((94 : Int) == 94) = true from rfl, if_true, Y1l hs hq, Y3H hd5, if_neg (show ¬ ((d : Nat) : Int) ≥ 5 by omega)]
  exact Z1v
 | @full d l c r0 hk hc h5 =>
  intro hl hd _
  refine ⟨_, ?_, Y1H (l' := skip l) (by decide) hl.skip hl.skip 0 ⟨#[]⟩ [] []⟩
  have hn := Y3o s hs o _ hl
  have hge : ((d : Nat) : Int) ≥ 5 := by omega
  refine Ev.up ?_
  simp only [fR, Ya.f]
  refine Ev.bind hn ?_
  rw [hk]
  rcases hc with rfl | rfl
  ·simp only [show Print.hd (94 :: r0) = 94 from rfl, if_true]
   refine Ev.up ?_
   simp only [Ya.j0, show ((94 : Int) == 94) = true from rfl, if_true, if_pos hge, Y4f]
   exact Z1i
  ·simp only [show Print.hd (40 :: r0) = 40 from rfl, if_neg (show ¬ ((40 : Int) = 94) by decide)]
   refine Ev.up ?_
   simp only [Ya.j0, show ((40 : Int) == 40) = true from rfl, if_true, if_pos hge, Y4f]
   exact Z1i
 | @iri_ok d l r0 t l1 hk hi =>
  intro hl hd _
  have hq := hl.skip; rw [hk] at hq
  have h1 := Y3w hs o hl hi
  obtain ⟨_, hl1, _⟩ := Y2U hs o hl hi
  refine ⟨_, Ev.up ?_, hl1, rfl⟩
  simp only [fR, Ya.f]
  have hn := Y3o s hs o _ hl
  rw [hk] at hn
  refine Ev.bind hn ?_
  simp only [show Print.hd (60 :: r0) = 60 from rfl, if_neg (show ¬ ((60 : Int) = 94) by decide)]
  refine Ev.up ?_
  simp only [Ya.j0, show ((60 : Int) == 40) = false from rfl, Bool.false_eq_true, if_false, if_neg (show ¬ ((60 : Int) = 33) by decide)]
  have e4 : skip (60 :: r0) = 60 :: r0 := rfl
  have hi2 : Y3B (60 :: r0) = some (t, l1) := by unfold Y3B at hi ⊢; rw [hk] at hi; rw [e4]; exact hi
  exact Ev.bind (Y3w hs o hq hi2) (Ev.now _)
 | @iri_bad d l r0 hk hi =>
  intro hl hd _
  have hq := hl.skip; rw [hk] at hq
  refine ⟨_, Ev.up ?_, Y1H (l' := skip l) (by decide) hl.skip hl.skip 1 ⟨#[]⟩ [] []⟩
  simp only [fR, Ya.f]
  have hn := Y3o s hs o _ hl
  refine Ev.bind hn ?_
  rw [hk]
  simp only [show Print.hd (60 :: r0) = 60 from rfl, if_neg (show ¬ ((60 : Int) = 94) by decide)]
  refine Ev.up ?_
  simp only [Ya.j0, show ((60 : Int) == 40) = false from rfl, Bool.false_eq_true, if_false, if_neg (show ¬ ((60 : Int) = 33) by decide)]
  have e4 : skip (60 :: r0) = 60 :: r0 := rfl
  have hi2 : Y3B (60 :: r0) = none := by unfold Y3B at hi ⊢; rw [hk] at hi; rw [e4]; exact hi
  have := Y3v hs o hq hi2
  rw [e4] at this
  exact Ev.bind this (Ev.now _)
 | @not_ d l r0 res hk _ ih1 =>
  intro hl hd _
  have hq := hl.skip; rw [hk] at hq
  obtain ⟨r, h1, hr⟩ := ih1 hq.tail hd trivial
  refine ⟨r, Ev.up ?_, hr⟩
  simp only [fR, Ya.f]
  have hn := Y3o s hs o _ hl
  rw [hk] at hn
  refine Ev.bind hn ?_
  simp only [show Print.hd (33 :: r0) = 33 from rfl, if_neg (show ¬ ((33 : Int) = 94) by decide)]
  refine Ev.up ?_
  simp only [Ya.j0, show ((33 : Int) == 40) = false from rfl, Bool.false_eq_true, if_false, if_true, Y1l hs hq]
  exact Z1v
 | @br_ok d l r0 p l1 r1 hk hd5 _ hk2 ih1 =>
  intro hl hd _
  have hq := hl.skip; rw [hk] at hq
  obtain ⟨r, h1, hl1, rfl⟩ := ih1 hq.tail (by omega) trivial
  have hq1 := hl1.skip; rw [hk2] at hq1
  refine ⟨_, Ev.up ?_, hq1.tail, rfl⟩
  simp only [fR, Ya.f]
  have hn := Y3o s hs o _ hl
  rw [hk] at hn
  refine Ev.bind hn ?_
  simp only [show Print.hd (40 :: r0) = 40 from rfl, if_neg (show ¬ ((40 : Int) = 94) by decide)]
  refine Ev.up ?_
  simp only [Ya.j0, show ((40 : Int) == 40) = true from rfl, if_true, Y1l hs hq, Y3H hd5, if_neg (show ¬ ((d : Nat) : Int) ≥ 5 by omega), if_neg (show ¬ ((40 : Int) = 94) by decide)]
  refine Ev.bind h1 ?_
  refine Ev.bind (Y2x hs o hl1 hk2 41 rfl) ?_
  simp only [if_true]
  exact Z1i
 | @br_bad d l r0 c lb hk hd5 _ ih1 =>
  intro hl hd _
  have hq := hl.skip; rw [hk] at hq
  obtain ⟨r, h1, hc, hl1, l', q0, q1, q2, q3, hl', rfl⟩ := ih1 hq.tail (by omega) trivial
  refine ⟨_, Ev.up ?_, Y1H hc hl1 hl'.skip 0 ⟨#[]⟩ [] []⟩
  simp only [fR, Ya.f]
  have hn := Y3o s hs o _ hl
  rw [hk] at hn
  refine Ev.bind hn ?_
  simp only [show Print.hd (40 :: r0) = 40 from rfl, if_neg (show ¬ ((40 : Int) = 94) by decide)]
  refine Ev.up ?_
  simp only [Ya.j0, show ((40 : Int) == 40) = true from rfl, if_true, Y1l hs hq, Y3H hd5, if_neg (show ¬ ((d : Nat) : Int) ≥ 5 by omega), if_neg (show ¬ ((40 : Int) = 94) by decide)]
  refine Ev.bind h1 ?_
  refine Ev.bind (Y4R s hs _ _ 41 hc (by decide) hl') ?_
  simp only [Bool.false_eq_true, if_false, fail_e _ _ _ _ _ _ hc]
  exact Z1i
 | @br_open d l r0 p l1 hk hd5 _ hk2 ih1 =>
  intro hl hd _
  have hq := hl.skip; rw [hk] at hq
  obtain ⟨r, h1, hl1, rfl⟩ := ih1 hq.tail (by omega) trivial
  refine ⟨_, Ev.up ?_, Y1H (l' := skip l1) (by decide) hl1.skip hl1.skip 0 ⟨#[]⟩ [] []⟩
  simp only [fR, Ya.f]
  have hn := Y3o s hs o _ hl
  rw [hk] at hn
  refine Ev.bind hn ?_
  simp only [show Print.hd (40 :: r0) = 40 from rfl, if_neg (show ¬ ((40 : Int) = 94) by decide)]
  refine Ev.up ?_
  simp only [Ya.j0, show ((40 : Int) == 40) = true from rfl, if_true, Y1l hs hq, Y3H hd5, if_neg (show ¬ ((d : Nat) : Int) ≥ 5 by omega), if_neg (show ¬ ((40 : Int) = 94) by decide)]
  refine Ev.bind h1 ?_
  refine Ev.bind (Y2S hs o hl1 41 hk2) ?_
  simp only [Bool.false_eq_true, if_false, Y4f]
  exact Z1i
 | @other d l k1 k2 k3 k4 =>
  intro hl hd _
  refine ⟨_, Ev.up ?_, Y1H (l' := skip l) (by decide) hl.skip hl.skip 1 ⟨#[]⟩ [] []⟩
  simp only [fR, Ya.f]
  refine Ev.bind (Y3o s hs o _ hl) ?_
  simp only [if_neg k1]
  refine Ev.up ?_
  have hn : Y3B (skip l) = none := by
   unfold Y3B
   rw [Y1d]
   cases e : skip l with
   | nil => rfl
   | cons c r =>
    have : ¬ c = 60 := by rintro rfl; rw [e] at k2; exact k2 rfl
    simp only [if_neg this]
  have b : (Print.hd (skip l) == 40) = false := beq_eq_false_iff_ne.mpr k4
  simp only [Ya.j0, b, Bool.false_eq_true, if_false, if_neg k3]
  refine Ev.bind (Y3v hs o hl.skip hn) ?_
  simp only [Y1d]
  exact Z1i
 | @nt_one d l t l1 hk hi =>
  intro hl hd _
  have h1 := Y3w hs o hl hi
  obtain ⟨_, hl1, _⟩ := Y2U hs o hl hi
  refine ⟨_, ?_, hl1, rfl⟩
  simp only [fR, Y4.f]
  have hj : Ev (fun k => Y4.j0 k false s (ps s l) 0 o 8) (8, ⟨#[]⟩, [t], [], s, ps s l1, 0, o) := by
   refine Ev.up ?_
   simp only [Y4.j0, Bool.false_eq_true, if_false]
   exact Z1v
  cases l with
  | nil => simp only [if_neg (show ¬ ps s [] < (s.size : Int) by rw [Y32]; omega)]; exact hj
  | cons c r =>
   have hb : (bt s (ps s (c :: r)) == 40) = false := by rw [Y4h hl]; exact beq_eq_false_iff_ne.mpr hk
   simp only [if_pos (Y2V s c r), if_pos hl.ps0, hb]
   exact hj
 | @nt_one_bad d l hk hi =>
  intro hl hd _
  have h1 := Y3v hs o hl hi
  refine ⟨_, ?_, Y1H (l' := skip l) (by decide) hl.skip hl.skip 8 ⟨#[]⟩ [⟨#[]⟩] []⟩
  simp only [fR, Y4.f]
  have hj : Ev (fun k => Y4.j0 k false s (ps s l) 0 o 8) (8, ⟨#[]⟩, [⟨#[]⟩], [], s, ps s (skip l), 2, ps s (skip l)) := by
   refine Ev.up ?_
   simp only [Y4.j0, Bool.false_eq_true, if_false]
   exact Z1v
  cases l with
  | nil => simp only [if_neg (show ¬ ps s [] < (s.size : Int) by rw [Y32]; omega)]; exact hj
  | cons c r =>
   have hb : (bt s (ps s (c :: r)) == 40) = false := by rw [Y4h hl]; exact beq_eq_false_iff_ne.mpr hk
   simp only [if_pos (Y2V s c r), if_pos hl.ps0, hb]
   exact hj
 | @nt_br d r0 t l1 res hi _ ih1 =>
  intro hl hd _
  have h1 := Y3w hs o hl.tail hi
  obtain ⟨_, hl1, hle⟩ := Y2U hs o hl.tail hi
  have hlen := hl.len
  simp only [List.length_cons] at hlen
  obtain ⟨r, h2, hr⟩ := ih1 hl1 hd (by simp only [fits, List.length_cons, List.length_nil]; omega)
  refine ⟨r, ?_, hr⟩
  have hb : (bt s (ps s (40 :: r0)) == 40) = true := by rw [Y4h hl]; rfl
  simp only [fR, Y4.f, if_pos (Y2V s 40 r0), if_pos hl.ps0, hb]
  refine Ev.up ?_
  simp only [Y4.j0, if_true, Y1l hs hl]
  exact Z1U
 | @nt_br_bad d r0 hi =>
  intro hl hd _
  have h1 := Y3v hs o hl.tail hi
  refine ⟨_, ?_, Y1H (l' := skip (skip r0)) (by decide) hl.tail.skip hl.tail.skip.skip 0 ⟨#[]⟩ [] []⟩
  have hb : (bt s (ps s (40 :: r0)) == 40) = true := by rw [Y4h hl]; rfl
  simp only [fR, Y4.f, if_pos (Y2V s 40 r0), if_pos hl.ps0, hb]
  refine Ev.up ?_
  simp only [Y4.j0, if_true, Y1l hs hl]
  exact Ev.bind h1 (rnotL_e hs 2 _ (by decide) hl.tail.skip _ _)
 | @notL_more d ts l r0 t l1 res hk hi _ ih1 =>
  intro hl hd hf
  have hq := hl.skip; rw [hk] at hq
  have hle0 := Y3y l
  rw [hk] at hle0
  have h1 := Y3w hs o hq.tail hi
  obtain ⟨_, hl1, hle⟩ := Y2U hs o hq.tail hi
  simp only [fits, List.length_cons] at hf hle0
  obtain ⟨r, h2, hr⟩ := ih1 hl1 hd Z25
  refine ⟨r, Ev.up ?_, hr⟩
  simp only [fR, Y4.l0]
  refine Ev.bind (Y2x hs o hl hk 124 rfl) ?_
  simp only [if_true]
  refine Ev.bind h1 ?_
  simp only [if_pos (show ts.length < 8796093022208 by omega)]
  exact h2
 | @notL_bad d ts l r0 hk hi =>
  intro hl hd hf
  have hq := hl.skip; rw [hk] at hq
  simp only [fits] at hf
  refine ⟨_, Ev.up ?_, Y1H (l' := skip (skip r0)) (by decide) hq.tail.skip hq.tail.skip.skip 0 ⟨#[]⟩ [] []⟩
  simp only [fR, Y4.l0]
  refine Ev.bind (Y2x hs o hl hk 124 rfl) ?_
  simp only [if_true]
  refine Ev.bind (Y3v hs o hq.tail hi) ?_
  simp only [if_pos (show ts.length < 8796093022208 by omega)]
  exact rnotL_e hs 2 _ (by decide) hq.tail.skip _ _
 | @notL_end d ts l r0 hk =>
  intro hl hd hf
  have hq := hl.skip; rw [hk] at hq
  refine ⟨_, Ev.up ?_, hq.tail, rfl⟩
  simp only [fR, Y4.l0]
  refine Ev.bind (Y2S hs o hl 124 (by rw [hk]; show (41 : Int) ≠ 124; decide)) ?_
  simp only [Bool.false_eq_true, if_false]
  refine Ev.bind (Y2x hs o hl.skip (by rw [Y1d]; exact hk) 41 rfl) ?_
  simp only [if_true]
  exact Z1i
 | @notL_open d ts l k1 k2 =>
  intro hl hd hf
  refine ⟨_, Ev.up ?_, Y1H (l' := skip l) (by decide) hl.skip hl.skip 0 ⟨#[]⟩ [] []⟩
  simp only [fR, Y4.l0]
  refine Ev.bind (Y2S hs o hl 124 k1) ?_
  simp only [Bool.false_eq_true, if_false]
  refine Ev.bind (Y2S hs o hl.skip 41 (by rw [Y1d]; exact k2)) ?_
  simp only [Bool.false_eq_true, if_false, Y1d, Y4f]
  exact Z1i
theorem Y4b {l : List UInt8} {t : ByteArray} {l1 : List UInt8} (hi : Y3B l = some (t, l1)) : l1.length + 2 ≤ l.length := by
 obtain ⟨r, hk, hu, _⟩ := Y4H hi
 have hle := Y3y l
 obtain ⟨hr, _⟩ := Y30 hu
 have := congrArg List.length hr
 rw [hk] at hle
 rw [List.length_append] at this
 simp only [List.length_cons] at this hle
 omega
theorem Y1T {l : List UInt8} {c : UInt8} {r : List UInt8} (h : skip l = c :: r) : r.length + 1 ≤ l.length := by
 have := Y3y l
 rw [h] at this
 simpa using this
def Le (l : List UInt8) : Res → Prop
 | .ok _ l1 => l1.length ≤ l.length
 | .bad _ _ => True
theorem Le.up {l l' : List UInt8} {res : Res} (h : Le l' res) (hl : l'.length ≤ l.length) : Le l res := by
 cases res
 ·exact Nat.le_trans h hl
 ·trivial
theorem P.le {m d l res} (h : P m d l res) : Le l res := by
 induction h with
 | path_ok _ _ ih1 ih2 => exact ih2.up ih1
 | seq_ok _ _ ih1 ih2 => exact ih2.up ih1
 | step_ok _ _ ih1 ih2 => exact ih2.up ih1
 | pathL_more hk _ _ ih1 ih2 => exact ih2.up (Nat.le_trans ih1 Z1t)
 | seqL_more hk _ _ ih1 ih2 => exact ih2.up (Nat.le_trans ih1 Z1t)
 | stepL_more hk _ _ ih1 => exact ih1.up Z1t
 | not_ hk _ ih1 => exact ih1.up Z1t
 | nt_br hi _ ih1 => exact ih1.up (by have := Y4b hi; simp only [List.length_cons]; omega)
 | notL_more hk hi _ ih1 => exact ih1.up (by have := Y4b hi; have := Y1T hk; omega)
 | up_ok hk _ _ ih1 => exact Nat.le_trans ih1 Z1t
 | br_ok hk _ _ hk2 ih1 => exact Nat.le_trans (by have := Y1T hk2; omega) (Nat.le_trans ih1 Z1t)
 | pathL_end _ => exact Y3y _
 | seqL_end _ => exact Y3y _
 | stepL_end _ _ _ => exact Y3y _
 | iri_ok _ hi => have := Y4b hi; show _ ≤ _; omega
 | nt_one _ hi => have := Y4b hi; show _ ≤ _; omega
 | notL_end hk => have := Y1T hk; show _ ≤ _; omega
 | _ => trivial
theorem Y2H {l : List UInt8} {n : Nat} (hn : 0 < n) (h : n < 256) (e : hd l = (n : Int)) : ∃ r, l = UInt8.ofNat n :: r := by
 cases l with
 | nil => simp only [hd] at e; omega
 | cons c r => exact ⟨r, by rw [(Y6d h).mp e]⟩
theorem total : ∀ n : Nat, ∀ l : List UInt8, l.length < n →
  (∀ d, ∃ res, P .path d l res) ∧ (∀ d p, ∃ res, P (.pathL p) d l res) ∧ (∀ d, ∃ res, P .seq d l res) ∧ (∀ d p, ∃ res, P (.seqL p) d l res) ∧
  (∀ d, ∃ res, P .step d l res) ∧ (∀ d p, ∃ res, P (.stepL p) d l res) ∧ (∀ d, ∃ res, P .back d l res) ∧ (∀ d, ∃ res, P .nt d l res) ∧ (∀ d ts, ∃ res, P (.notL ts) d l res)
 | 0, l, h => absurd h (Nat.not_lt_zero _)
 | n + 1, l, h => by
  have ih := total n
  have hnotL : ∀ l : List UInt8, l.length < n + 1 → ∀ d ts, ∃ res, P (.notL ts) d l res := by
   intro l h d ts
   by_cases h1 : hd (skip l) = 124
   ·obtain ⟨r, hr⟩ := Y2H (n := 124) (by omega) (by omega) h1
    cases hi : Y3B r with
    | none => exact ⟨_, .notL_bad hr hi⟩
    | some x =>
     obtain ⟨t, l1⟩ := x
     obtain ⟨res, hp⟩ := (ih l1 (by have := Y4b hi; have := Y1T hr; omega)).2.2.2.2.2.2.2.2 d (ts ++ [t])
     exact ⟨_, .notL_more hr hi hp⟩
   ·by_cases h2 : hd (skip l) = 41
    ·obtain ⟨r, hr⟩ := Y2H (n := 41) (by omega) (by omega) h2
     exact ⟨_, .notL_end hr⟩
    ·exact ⟨_, .notL_open h1 h2⟩
  have hnt : ∀ l : List UInt8, l.length < n + 1 → ∀ d, ∃ res, P .nt d l res := by
   intro l h d
   by_cases h1 : hd l = 40
   ·obtain ⟨r, rfl⟩ := Y2H (n := 40) (by omega) (by omega) h1
    cases hi : Y3B r with
    | none => exact ⟨_, .nt_br_bad hi⟩
    | some x =>
     obtain ⟨t, l1⟩ := x
     simp only [List.length_cons] at h
     obtain ⟨res, hp⟩ := (ih l1 (by have := Y4b hi; omega)).2.2.2.2.2.2.2.2 d [t]
     exact ⟨_, .nt_br hi hp⟩
   ·cases hi : Y3B l with
    | none => exact ⟨_, .nt_one_bad h1 hi⟩
    | some x => exact ⟨_, .nt_one h1 hi⟩
  have hback : ∀ l : List UInt8, l.length < n + 1 → ∀ d, ∃ res, P .back d l res := by
   intro l h d
   by_cases h1 : hd (skip l) = 94
   ·obtain ⟨r, hr⟩ := Y2H (n := 94) (by omega) (by omega) h1
    by_cases h5 : d < 5
    ·obtain ⟨res, hp⟩ := (ih r Z23).2.2.2.2.2.2.1 (d + 1)
     cases res with
     | ok p l1 => exact ⟨_, .up_ok hr h5 hp⟩
     | bad c lb => exact ⟨_, .up_bad hr h5 hp⟩
    ·exact ⟨_, .full hr (Or.inl rfl) (by omega)⟩
   ·by_cases h2 : hd (skip l) = 60
    ·obtain ⟨r, hr⟩ := Y2H (n := 60) (by omega) (by omega) h2
     cases hi : Y3B l with
     | none => exact ⟨_, .iri_bad hr hi⟩
     | some x => exact ⟨_, .iri_ok hr hi⟩
    ·by_cases h3 : hd (skip l) = 33
     ·obtain ⟨r, hr⟩ := Y2H (n := 33) (by omega) (by omega) h3
      obtain ⟨res, hp⟩ := (ih r Z23).2.2.2.2.2.2.2.1 d
      exact ⟨_, .not_ hr hp⟩
     ·by_cases h4 : hd (skip l) = 40
      ·obtain ⟨r, hr⟩ := Y2H (n := 40) (by omega) (by omega) h4
       by_cases h5 : d < 5
       ·obtain ⟨res, hp⟩ := (ih r Z23).1 (d + 1)
        cases res with
        | bad c lb => exact ⟨_, .br_bad hr h5 hp⟩
        | ok p l1 =>
         by_cases h6 : hd (skip l1) = 41
         ·obtain ⟨r1, hr1⟩ := Y2H (n := 41) (by omega) (by omega) h6
          exact ⟨_, .br_ok hr h5 hp hr1⟩
         ·exact ⟨_, .br_open hr h5 hp h6⟩
       ·exact ⟨_, .full hr (Or.inr rfl) (by omega)⟩
      ·exact ⟨_, .other h1 h2 h3 h4⟩
  have hstepL : ∀ l : List UInt8, l.length < n + 1 → ∀ d p, ∃ res, P (.stepL p) d l res := by
   intro l h d p
   by_cases h0 : hd (skip l) = 42 ∨ hd (skip l) = 43 ∨ hd (skip l) = 63
   ·have hx : ∃ c r, skip l = c :: r ∧ (c = 42 ∨ c = 43 ∨ c = 63) := by
     rcases h0 with h0 | h0 | h0
     ·obtain ⟨r, hr⟩ := Y2H (n := 42) (by omega) (by omega) h0; exact ⟨_, r, hr, Or.inl rfl⟩
     ·obtain ⟨r, hr⟩ := Y2H (n := 43) (by omega) (by omega) h0; exact ⟨_, r, hr, Or.inr (Or.inl rfl)⟩
     ·obtain ⟨r, hr⟩ := Y2H (n := 63) (by omega) (by omega) h0; exact ⟨_, r, hr, Or.inr (Or.inr rfl)⟩
    obtain ⟨c, r, hr, hc⟩ := hx
    obtain ⟨res, hp⟩ := (ih r Z23).2.2.2.2.2.1 d (pK (signK c.toNat) [p])
    exact ⟨_, .stepL_more hr hc hp⟩
   ·simp only [not_or] at h0
    exact ⟨_, .stepL_end h0.1 h0.2.1 h0.2.2⟩
  have hstep : ∀ l : List UInt8, l.length < n + 1 → ∀ d, ∃ res, P .step d l res := by
   intro l h d
   obtain ⟨res, hp⟩ := hback l h d
   cases res with
   | bad c lb => exact ⟨_, .step_bad hp⟩
   | ok p l1 =>
    have hle : l1.length ≤ l.length := hp.le
    obtain ⟨res, hp2⟩ := hstepL l1 (by omega) d p
    exact ⟨_, .step_ok hp hp2⟩
  have hseqL : ∀ l : List UInt8, l.length < n + 1 → ∀ d p, ∃ res, P (.seqL p) d l res := by
   intro l h d p
   by_cases h1 : hd (skip l) = 47
   ·obtain ⟨r, hr⟩ := Y2H (n := 47) (by omega) (by omega) h1
    have hl1 := Y1T hr
    obtain ⟨res, hp⟩ := hstep r (by omega) d
    cases res with
    | bad c lb => exact ⟨_, .seqL_bad hr hp⟩
    | ok q l1 =>
     have hle : l1.length ≤ r.length := hp.le
     obtain ⟨res, hp2⟩ := (ih l1 (by omega)).2.2.2.1 d (pK 3 [p, q])
     exact ⟨_, .seqL_more hr hp hp2⟩
   ·exact ⟨_, .seqL_end h1⟩
  have hseq : ∀ l : List UInt8, l.length < n + 1 → ∀ d, ∃ res, P .seq d l res := by
   intro l h d
   obtain ⟨res, hp⟩ := hstep l h d
   cases res with
   | bad c lb => exact ⟨_, .seq_bad hp⟩
   | ok p l1 =>
    have hle : l1.length ≤ l.length := hp.le
    obtain ⟨res, hp2⟩ := hseqL l1 (by omega) d p
    exact ⟨_, .seq_ok hp hp2⟩
  have hpathL : ∀ l : List UInt8, l.length < n + 1 → ∀ d p, ∃ res, P (.pathL p) d l res := by
   intro l h d p
   by_cases h1 : hd (skip l) = 124
   ·obtain ⟨r, hr⟩ := Y2H (n := 124) (by omega) (by omega) h1
    have hl1 := Y1T hr
    obtain ⟨res, hp⟩ := hseq r (by omega) d
    cases res with
    | bad c lb => exact ⟨_, .pathL_bad hr hp⟩
    | ok q l1 =>
     have hle : l1.length ≤ r.length := hp.le
     obtain ⟨res, hp2⟩ := (ih l1 (by omega)).2.1 d (pK 4 [p, q])
     exact ⟨_, .pathL_more hr hp hp2⟩
   ·exact ⟨_, .pathL_end h1⟩
  have hpath : ∀ l : List UInt8, l.length < n + 1 → ∀ d, ∃ res, P .path d l res := by
   intro l h d
   obtain ⟨res, hp⟩ := hseq l h d
   cases res with
   | bad c lb => exact ⟨_, .path_bad hp⟩
   | ok p l1 =>
    have hle : l1.length ≤ l.length := hp.le
    obtain ⟨res, hp2⟩ := hpathL l1 (by omega) d p
    exact ⟨_, .path_ok hp hp2⟩
  exact ⟨hpath l h, hpathL l h, hseq l h, hseqL l h, hstep l h, hstepL l h, hback l h, hnt l h, hnotL l h⟩
inductive Ans where
 | ok (p : S37)
 | bad (c at_ : Int)
def Ans.is (s : ByteArray) : Ans → Int × ByteArray × List ByteArray × List S37 × Int × Int → Prop
 | .ok p, r => r = (p.f0, p.f1, p.f2, p.f3, (s.size : Int), 0)
 | .bad c a, r => r = (0, ⟨#[]⟩, [], [], a, c)
inductive Whole (s : ByteArray) : Ans → Prop
 | long : s.size > 600 → Whole s (.bad 4 0)
 | ok {p l} : s.size ≤ 600 → P .path 0 s.data.toList (.ok p l) → skip l = [] → Whole s (.ok p)
 | bad {c lb} : s.size ≤ 600 → P .path 0 s.data.toList (.bad c lb) → Whole s (.bad c (ps s lb))
 | rest {p l} : s.size ≤ 600 → P .path 0 s.data.toList (.ok p l) → skip l ≠ [] → Whole s (.bad 2 (ps s (skip l)))
theorem Y6e (s : ByteArray) : ∃ a, Whole s a := by
 by_cases h : s.size > 600
 ·exact ⟨_, .long h⟩
 ·obtain ⟨res, hp⟩ := (total (s.data.toList.length + 1) s.data.toList (by omega)).1 0
  cases res with
  | bad c lb => exact ⟨_, .bad (by omega) hp⟩
  | ok p l =>
   by_cases h2 : skip l = []
   ·exact ⟨_, .ok (by omega) hp h2⟩
   ·exact ⟨_, .rest (by omega) hp h2⟩
theorem path_i (s : ByteArray) {a : Ans} (h : Whole s a) : ∃ r, Ev (fun k => YI.f k s) r ∧ a.is s r := by
 cases h with
 | long h =>
  refine ⟨_, ?_, rfl⟩
  unfold YI.f
  simp only [if_pos (show (s.size : Int) > 600 by omega)]
  exact Z1i
 | @ok p l hs hp h2 =>
  obtain ⟨r, h1, hl, rfl⟩ := impl s (by omega) 0 hp (Suf.whole s) (by omega) trivial
  refine ⟨_, ?_, rfl⟩
  simp only [fI, Y3A] at h1
  unfold YI.f
  simp only [if_neg (show ¬ (s.size : Int) > 600 by omega)]
  refine Ev.bind h1 ?_
  have hn := Y1R s (by omega) 0 l hl
  rw [h2] at hn
  refine Ev.bind hn ?_
  simp only [hd, if_true]
  refine Ev.up ?_
  simp only [YI.j0, Y32, decide_eq_false (show ¬ (s.size : Int) < s.size by omega), Bool.false_eq_true, if_false, if_true]
  exact Z1i
 | @bad c lb hs hp =>
  obtain ⟨r, h1, hc, hl, l', q0, q1, q2, q3, hl', rfl⟩ := impl s (by omega) 0 hp (Suf.whole s) (by omega) trivial
  refine ⟨_, ?_, rfl⟩
  simp only [fI, Y3A] at h1
  unfold YI.f
  simp only [if_neg (show ¬ (s.size : Int) > 600 by omega)]
  refine Ev.bind h1 ?_
  refine Ev.bind (next_e s _ _ _ hc) ?_
  simp only [if_true, if_neg hc]
  refine Ev.up ?_
  simp only [YI.j0, Bool.false_eq_true, if_false, if_neg hc]
  exact Z1i
 | @rest p l hs hp h2 =>
  obtain ⟨r, h1, hl, rfl⟩ := impl s (by omega) 0 hp (Suf.whole s) (by omega) trivial
  refine ⟨_, ?_, rfl⟩
  simp only [fI, Y3A] at h1
  unfold YI.f
  simp only [if_neg (show ¬ (s.size : Int) > 600 by omega)]
  refine Ev.bind h1 ?_
  refine Ev.bind (Y1R s (by omega) 0 l hl) ?_
  have h20 : (2 : Int) ≠ 0 := by decide
  cases e : skip l with
  | nil => exact absurd e h2
  | cons c r =>
   by_cases hc : hd (c :: r) = 0
   ·simp only [hc, if_true]
    refine Ev.up ?_
    simp only [YI.j0, decide_eq_true (Y2V s c r), if_true, Y3k, Option.bind_some, if_neg h20]
    exact Z1i
   ·simp only [if_neg hc]
    refine Ev.up ?_
    simp only [YI.j0, if_true, Y3k, Option.bind_some, if_neg h20]
    exact Z1i
theorem path_r (s : ByteArray) {a : Ans} (h : Whole s a) : ∃ r, Ev (fun k => YB.f k s) r ∧ a.is s r := by
 cases h with
 | long h =>
  refine ⟨_, ?_, rfl⟩
  unfold YB.f
  simp only [if_pos (show (s.size : Int) > 600 by omega)]
  exact Z1i
 | @ok p l hs hp h2 =>
  obtain ⟨r, h1, hl, rfl⟩ := refn s (by omega) 0 hp (Suf.whole s) (by omega) trivial
  refine ⟨_, ?_, rfl⟩
  simp only [fR, Y3A] at h1
  unfold YB.f
  simp only [if_neg (show ¬ (s.size : Int) > 600 by omega)]
  refine Ev.bind h1 ?_
  have hn := Y3o s (by omega) 0 l hl
  rw [h2] at hn
  refine Ev.bind hn ?_
  simp only [hd, if_true]
  refine Ev.up ?_
  simp only [YB.j0, Y32, decide_eq_false (show ¬ (s.size : Int) < s.size by omega), Bool.false_eq_true, if_false, if_true]
  exact Z1i
 | @bad c lb hs hp =>
  obtain ⟨r, h1, hc, hl, l', q0, q1, q2, q3, hl', rfl⟩ := refn s (by omega) 0 hp (Suf.whole s) (by omega) trivial
  refine ⟨_, ?_, rfl⟩
  simp only [fR, Y3A] at h1
  unfold YB.f
  simp only [if_neg (show ¬ (s.size : Int) > 600 by omega)]
  refine Ev.bind h1 ?_
  refine Ev.bind (Y6b s (by omega) _ _ hc l' hl') ?_
  simp only [if_true, if_neg hc]
  refine Ev.up ?_
  simp only [YB.j0, Bool.false_eq_true, if_false, if_neg hc]
  exact Z1i
 | @rest p l hs hp h2 =>
  obtain ⟨r, h1, hl, rfl⟩ := refn s (by omega) 0 hp (Suf.whole s) (by omega) trivial
  refine ⟨_, ?_, rfl⟩
  simp only [fR, Y3A] at h1
  unfold YB.f
  simp only [if_neg (show ¬ (s.size : Int) > 600 by omega)]
  refine Ev.bind h1 ?_
  refine Ev.bind (Y3o s (by omega) 0 l hl) ?_
  have h20 : (2 : Int) ≠ 0 := by decide
  cases e : skip l with
  | nil => exact absurd e h2
  | cons c r =>
   simp only [if_true]
   refine Ev.up ?_
   simp only [YB.j0, decide_eq_true (Y2V s c r), if_true, Y4f, Option.bind_some, if_neg h20]
   exact Z1i
theorem tl_inj {a b : ByteArray} : a.toList = b.toList ↔ a = b := by
 rw [Lib.toList_data, Lib.toList_data]
 exact ⟨Y52, fun h => by rw [h]⟩
theorem Y44 {i n : Nat} (h : i < n) (hn : n ≤ 1000000) : wrap64 ((i : Int) + 1) = ((i + 1 : Nat) : Int) := by unfold wrap64; omega
theorem Y4N {xs : List ByteArray} {i : Nat} (h : i < xs.length) : Y39 ByteArray.empty xs (i : Int) = xs[i] := by
 unfold Y39; simp [List.getD_eq_getElem?_getD, List.getElem?_eq_getElem h]
theorem Y5b {xs : List S37} {i : Nat} (h : i < xs.length) : Yc xs (i : Int) = xs[i] := by
 unfold Yc; simp [List.getD_eq_getElem?_getD, List.getElem?_eq_getElem h]
set_option maxRecDepth 100000 in
theorem known12 : Ev (fun k => YV.f k) true := Ev.of (fun k => YV.mono k) (k := 100) (by decide +kernel)
theorem S37.ind {M : S37 → Prop} (h : ∀ a b c d, (∀ q ∈ d, M q) → M ⟨a, b, c, d⟩) : ∀ p, M p
 | ⟨a, b, c, d⟩ => h a b c d (fun q hq => S37.ind h q)
termination_by p => SizeOf.sizeOf p
decreasing_by
 have := List.sizeOf_lt_of_mem hq
 simp
 omega
inductive Y4U : Nat → S37 → Prop
 | mk {m a b c d} : b.size ≤ 300 → c.length ≤ 20 → (∀ x ∈ c, x.size ≤ 300) → d.length ≤ 4 → (∀ q ∈ d, Y4U m q) → Y4U (m + 1) ⟨a, b, c, d⟩
def bigF (p : S37) (deep : Int) (k : Nat) : Option Bool := Yv.f k p.f0 p.f1 p.f2 p.f3 deep
theorem Y5F (p : S37) (deep : Int) (hn : p.f2.length ≤ 20) {g : Nat → Option Bool} (hg : g = fun k => Yv.l1 k deep 0 p.f0 p.f1 p.f2 p.f3) (b : Bool) (he : Ev g b) : ∀ d i : Nat, i + d = p.f2.length →
  ∃ r, Ev (fun k => Yv.l0 k deep (i : Int) p.f0 p.f1 p.f2 p.f3) r ∧ (r = false → b = false ∧ ∀ x ∈ p.f2.drop i, x.size ≤ 300)
 | 0, i, h => by
  refine ⟨b, Ev.up ?_, fun hb => ⟨hb, Z1M⟩⟩
  simp only [Yv.l0, if_neg (show ¬ (i : Int) < (p.f2.length : Int) by omega)]
  rw [hg] at he
  exact he
 | d + 1, i, h => by
  have h1 : i < p.f2.length := by omega
  by_cases hx : p.f2[i].size > 300
  ·refine ⟨true, Ev.up ?_, fun q => by cases q⟩
   simp only [Yv.l0, if_pos (show (i : Int) < (p.f2.length : Int) by omega), if_pos (show (0 : Int) ≤ (i : Int) by omega), Y4N h1, if_pos (show ((p.f2[i].size : Nat) : Int) > 300 by omega)]
   exact Z1i
  ·obtain ⟨r, h2, h3⟩ := Y5F p deep hn hg b he d (i + 1) (by omega)
   refine ⟨r, Ev.up ?_, fun q => ⟨(h3 q).1, fun x hm => ?_⟩⟩
   ·simp only [Yv.l0, if_pos (show (i : Int) < (p.f2.length : Int) by omega), if_pos (show (0 : Int) ≤ (i : Int) by omega), Y4N h1, if_neg (show ¬ ((p.f2[i].size : Nat) : Int) > 300 by omega), Y44 h1 (by omega)]
    exact h2
   ·rw [List.drop_eq_getElem_cons h1, List.mem_cons] at hm
    rcases hm with rfl | hm
    ·omega
    ·exact (h3 q).2 x hm
theorem Y6i (p : S37) (deep : Nat) (hd : deep ≤ 12) (hn : p.f3.length ≤ 4) (ih : ∀ q ∈ p.f3, ∀ e : Nat, e ≤ 13 → ∃ r, Ev (bigF q (e : Int)) r ∧ (r = false → e ≤ 12 ∧ Y4U (13 - e) q)) : ∀ d i : Nat, i + d = p.f3.length →
  ∃ r, Ev (fun k => Yv.l1 k (deep : Int) (i : Int) p.f0 p.f1 p.f2 p.f3) r ∧ (r = false → ∀ q ∈ p.f3.drop i, deep + 1 ≤ 12 ∧ Y4U (13 - (deep + 1)) q)
 | 0, i, h => by
  refine ⟨false, Ev.up ?_, fun hb => by rw [List.drop_of_length_le (by omega)]; simp⟩
  simp only [Yv.l1, if_neg (show ¬ (i : Int) < (p.f3.length : Int) by omega)]
  exact Z1i
 | d + 1, i, h => by
  have h1 : i < p.f3.length := by omega
  obtain ⟨r1, e1, h2⟩ := ih p.f3[i] (List.getElem_mem h1) (deep + 1) (by omega)
  have hw : wrap64 ((deep : Int) + 1) = ((deep + 1 : Nat) : Int) := Y44 (n := 1000) (by omega) (by omega)
  cases r1 with
  | true =>
   refine ⟨true, Ev.up ?_, fun q => by cases q⟩
   simp only [Yv.l1, if_pos (show (i : Int) < (p.f3.length : Int) by omega), if_pos (show (0 : Int) ≤ (i : Int) by omega), Y5b h1, hw]
   refine Ev.bind e1 ?_
   simp only [if_true]
   exact Z1i
  | false =>
   obtain ⟨r, h3, h4⟩ := Y6i p deep hd hn ih d (i + 1) (by omega)
   refine ⟨r, Ev.up ?_, fun q x hm => ?_⟩
   ·simp only [Yv.l1, if_pos (show (i : Int) < (p.f3.length : Int) by omega), if_pos (show (0 : Int) ≤ (i : Int) by omega), Y5b h1, hw, Y44 h1 (show p.f3.length ≤ 1000000 by omega)]
    refine Ev.bind e1 ?_
    simp only [Bool.false_eq_true, if_false]
    exact h3
   ·rw [List.drop_eq_getElem_cons h1, List.mem_cons] at hm
    rcases hm with rfl | hm
    ·exact h2 rfl
    ·exact h4 q x hm
theorem big_all : ∀ p, ∀ deep : Nat, deep ≤ 13 → ∃ r, Ev (bigF p (deep : Int)) r ∧ (r = false → deep ≤ 12 ∧ Y4U (13 - deep) p) := by
 refine S37.ind fun a b c d ih deep hd => ?_
 have yes : ∀ x : Unit, Ev (fun k => Yv.j0 k (deep : Int) true a b c d) true := fun _ => Ev.up (by simp only [Yv.j0, if_true]; exact Ev.now _)
 by_cases h1 : deep > 12
 ·refine ⟨true, Ev.up ?_, fun q => by cases q⟩
  simp only [bigF, Yv.f, if_pos (show (deep : Int) > 12 by omega)]
  exact yes ()
 ·by_cases h2 : d.length > 4
  ·refine ⟨true, Ev.up ?_, fun q => by cases q⟩
   simp only [bigF, Yv.f, if_neg (show ¬ (deep : Int) > 12 by omega), if_pos (show (d.length : Int) > 4 by omega)]
   exact yes ()
  ·by_cases h3 : c.length > 20
   ·refine ⟨true, Ev.up ?_, fun q => by cases q⟩
    simp only [bigF, Yv.f, if_neg (show ¬ (deep : Int) > 12 by omega), if_neg (show ¬ (d.length : Int) > 4 by omega), if_pos (show (c.length : Int) > 20 by omega)]
    exact yes ()
   ·by_cases h4 : b.size > 300
    ·refine ⟨true, Ev.up ?_, fun q => by cases q⟩
     simp only [bigF, Yv.f, if_neg (show ¬ (deep : Int) > 12 by omega), if_neg (show ¬ (d.length : Int) > 4 by omega), if_neg (show ¬ (c.length : Int) > 20 by omega), decide_eq_true (show (b.size : Int) > 300 by omega)]
     exact yes ()
    ·obtain ⟨r1, e1, k1⟩ := Y6i ⟨a, b, c, d⟩ deep (by omega) (show d.length ≤ 4 by omega) (fun q hq e he => ih q hq e he) d.length 0 (by simp)
     obtain ⟨r, e2, k2⟩ := Y5F ⟨a, b, c, d⟩ (deep : Int) (show c.length ≤ 20 by omega) rfl r1 e1 c.length 0 (by simp)
     refine ⟨r, Ev.up ?_, fun q => ⟨by omega, ?_⟩⟩
     ·simp only [bigF, Yv.f, if_neg (show ¬ (deep : Int) > 12 by omega), if_neg (show ¬ (d.length : Int) > 4 by omega), if_neg (show ¬ (c.length : Int) > 20 by omega), decide_eq_false (show ¬ (b.size : Int) > 300 by omega)]
      refine Ev.up ?_
      simp only [Yv.j0, Bool.false_eq_true, if_false]
      exact e2
     ·obtain ⟨q1, q2⟩ := k2 q
      have q3 := k1 q1
      obtain ⟨m, hm⟩ : ∃ m, 13 - deep = m + 1 := ⟨12 - deep, by omega⟩
      rw [hm]
      have hm2 : 13 - (deep + 1) = m := by omega
      rw [hm2] at q3
      exact .mk (by omega) (by omega) (by simpa using q2) (by omega) (fun x hx => (q3 x (by simpa using hx)).2)
def Y2T (k : Int) : Int := if k = 1 ∨ k = 8 then 0 else if k = 3 ∨ k = 4 then 2 else if k = 2 ∨ k = 5 ∨ k = 6 ∨ k = 7 then 1 else -1
theorem kidsI (a : Int) : Ev (fun k => YJ.f k a) (Y2T a) := by
 by_cases h1 : a = 1
 ·subst h1; exact Ev.of (fun k => YJ.mono _ k) (k := 5) (by decide)
 by_cases h2 : a = 2
 ·subst h2; exact Ev.of (fun k => YJ.mono _ k) (k := 5) (by decide)
 by_cases h3 : a = 3
 ·subst h3; exact Ev.of (fun k => YJ.mono _ k) (k := 5) (by decide)
 by_cases h4 : a = 4
 ·subst h4; exact Ev.of (fun k => YJ.mono _ k) (k := 5) (by decide)
 by_cases h5 : a = 5
 ·subst h5; exact Ev.of (fun k => YJ.mono _ k) (k := 5) (by decide)
 by_cases h6 : a = 6
 ·subst h6; exact Ev.of (fun k => YJ.mono _ k) (k := 5) (by decide)
 by_cases h7 : a = 7
 ·subst h7; exact Ev.of (fun k => YJ.mono _ k) (k := 5) (by decide)
 by_cases h8 : a = 8
 ·subst h8; exact Ev.of (fun k => YJ.mono _ k) (k := 5) (by decide)
 have e : Y2T a = -1 := by simp [Y2T, h1, h2, h3, h4, h5, h6, h7, h8]
 rw [e]
 refine Ev.of (fun k => YJ.mono _ k) (k := 5) ?_
 have b : ∀ n : Int, ¬ a = n → (a == n) = false := fun n h => beq_eq_false_iff_ne.mpr h
 simp [YJ.f, YJ.j0, YJ.j1, h1, h2, h3, h4, h5, h6, h7, b 8 h8, b 7 h7]
theorem kidsR (a : Int) : Ev (fun k => Yr.f k a) (Y2T a) := by
 by_cases h1 : a = 1
 ·subst h1; exact Ev.of (fun k => Yr.mono _ k) (k := 5) (by decide)
 by_cases h2 : a = 2
 ·subst h2; exact Ev.of (fun k => Yr.mono _ k) (k := 5) (by decide)
 by_cases h3 : a = 3
 ·subst h3; exact Ev.of (fun k => Yr.mono _ k) (k := 5) (by decide)
 by_cases h4 : a = 4
 ·subst h4; exact Ev.of (fun k => Yr.mono _ k) (k := 5) (by decide)
 by_cases h5 : a = 5
 ·subst h5; exact Ev.of (fun k => Yr.mono _ k) (k := 5) (by decide)
 by_cases h6 : a = 6
 ·subst h6; exact Ev.of (fun k => Yr.mono _ k) (k := 5) (by decide)
 by_cases h7 : a = 7
 ·subst h7; exact Ev.of (fun k => Yr.mono _ k) (k := 5) (by decide)
 by_cases h8 : a = 8
 ·subst h8; exact Ev.of (fun k => Yr.mono _ k) (k := 5) (by decide)
 have e : Y2T a = -1 := by simp [Y2T, h1, h2, h3, h4, h5, h6, h7, h8]
 rw [e]
 refine Ev.of (fun k => Yr.mono _ k) (k := 5) ?_
 have b : ∀ n : Int, ¬ a = n → (a == n) = false := fun n h => beq_eq_false_iff_ne.mpr h
 simp [Yr.f, Yr.j0, Yr.j1, h1, h2, h3, h4, h5, h6, h7, b 8 h8, b 4 h4]
def Top (deep : Nat) (p : S37) : Prop :=
 deep ≤ 5 ∧ Y2T p.f0 = (p.f3.length : Int) ∧ (p.f0 = 1 → Y36 p.f1 = true) ∧ (p.f0 ≠ 1 → p.f1 = ⟨#[]⟩) ∧ (p.f0 = 8 → 1 ≤ p.f2.length ∧ p.f2.length ≤ 4) ∧ (p.f0 ≠ 8 → p.f2 = []) ∧ ∀ x ∈ p.f2, Y36 x = true
inductive May : Nat → S37 → Prop
 | mk {deep p} : Top deep p → (∀ q ∈ p.f3, May (deep + 1) q) → May deep p
def cntI (p : S37) (deep : Int) (k : Nat) : Option Int := Yx.f k p.f0 p.f1 p.f2 p.f3 deep
def cntR (p : S37) (deep : Int) (k : Nat) : Option Int := Y5.f k p.f0 p.f1 p.f2 p.f3 deep
theorem Y5v {t : ByteArray} (h : Y36 t = true) : 0 < t.size ∧ t.size ≤ 60 := by
 unfold Y36 at h
 simp only [Bool.and_eq_true, decide_eq_true_eq] at h
 exact ⟨h.1.1.1, h.1.1.2⟩
theorem iri_nil : Y36 ⟨#[]⟩ = false := by
 cases h : Y36 ⟨#[]⟩ with
 | false => rfl
 | true => have := (Y5v h).1; exact absurd this (by decide)
theorem Y4a {t : ByteArray} : t.toList = ([] : List UInt8) ↔ t = ⟨#[]⟩ := by
 rw [← tl_inj]
 have : (⟨#[]⟩ : ByteArray).toList = [] := by rw [Lib.toList_data]
 rw [this]
theorem tI {t : ByteArray} (h : t.size ≤ 1000000) : Y18.f t = some (Y36 t) := by
 unfold Y18.f; rw [if_pos Z1L]
theorem tR {t : ByteArray} (h : t.size ≤ 1000000) : YU.f t = some (Y36 t) := by
 unfold YU.f; rw [if_pos Z1L]
theorem nI {t : ByteArray} (h : t.size ≤ 1000000) : Y1k.f t = some (!Y36 t) := by
 unfold Y1k.f; rw [tI h]; rfl
theorem cf_l (xs : List ByteArray) (hn : xs.length ≤ 20) (hx : ∀ x ∈ xs, x.size ≤ 300) : ∀ d i : Nat, i + d = xs.length →
  ((∀ x ∈ xs.drop i, Y36 x = true) → Ev (fun k => Yo.l0 k xs (xs.length : Int) (i : Int)) (-1)) ∧
  ((¬ ∀ x ∈ xs.drop i, Y36 x = true) → ∃ j : Nat, Ev (fun k => Yo.l0 k xs (xs.length : Int) (i : Int)) (j : Int))
 | 0, i, h => by
  refine ⟨fun _ => Ev.up ?_, fun q => absurd Z1M q⟩
  simp only [Yo.l0, if_neg (show ¬ (i : Int) < (xs.length : Int) by omega)]
  exact Z1i
 | d + 1, i, h => by
  have h1 : i < xs.length := by omega
  have hs := nI (t := xs[i]) (by have := hx xs[i] (List.getElem_mem h1); omega)
  obtain ⟨t1, t2⟩ := cf_l xs hn hx d (i + 1) (by omega)
  rw [List.drop_eq_getElem_cons h1]
  by_cases e : Y36 xs[i] = true
  ·have st : ∀ r, Ev (fun k => Yo.l0 k xs (xs.length : Int) ((i + 1 : Nat) : Int)) r → Ev (fun k => Yo.l0 k xs (xs.length : Int) (i : Int)) r := by
    intro r hr
    refine Ev.up ?_
    simp only [Yo.l0, if_pos (show (i : Int) < (xs.length : Int) by omega), if_pos (show (0 : Int) ≤ (i : Int) by omega), Y4N h1, hs, e, Option.bind_some, Bool.not_true, Bool.false_eq_true, if_false, Y44 h1 (show xs.length ≤ 1000000 by omega)]
    exact hr
   exact ⟨fun q => st _ (t1 (fun x m => q x (List.mem_cons_of_mem _ m))), fun q => by
    obtain ⟨j, hj⟩ := t2 (fun w => q (fun x m => by
     rcases List.mem_cons.mp m with rfl | m
     ·exact e
     ·exact w x m))
    exact ⟨j, st _ hj⟩⟩
  ·refine ⟨fun q => absurd (q _ (List.mem_cons_self ..)) e, fun _ => ⟨i, Ev.up ?_⟩⟩
   have e2 : Y36 xs[i] = false := by simpa using e
   simp only [Yo.l0, if_pos (show (i : Int) < (xs.length : Int) by omega), if_pos (show (0 : Int) ≤ (i : Int) by omega), Y4N h1, hs, e2, Option.bind_some, Bool.not_false, if_true]
   exact Z1i
theorem cf (xs : List ByteArray) (hn : xs.length ≤ 20) (hx : ∀ x ∈ xs, x.size ≤ 300) : ∃ b, Ev (fun k => Yy.f k xs) b ∧ (b = false ↔ ∀ x ∈ xs, Y36 x = true) := by
 obtain ⟨t1, t2⟩ := cf_l xs hn hx xs.length 0 (by omega)
 by_cases e : ∀ x ∈ xs, Y36 x = true
 ·exact ⟨false, Ev.bind (t1 e) (Ev.congr (fun k => by simp) (Ev.now _)), by simpa using e⟩
 ·obtain ⟨j, hj⟩ := t2 e
  refine ⟨true, Ev.bind hj (Ev.congr (fun k => by rw [decide_eq_true (show (j : Int) ≥ 0 by omega)]) (Ev.now _)), by simpa using e⟩
theorem count_top {m : Nat} (p : S37) (hp : Y4U m p) (deep : Nat) :
  (¬ Top deep p → Ev (cntI p (deep : Int)) (-1)) ∧ (Top deep p → ∀ r, Ev (fun k => Yx.l0 k (deep : Int) 1 p.f3 (p.f3.length : Int) 0) r → Ev (cntI p (deep : Int)) r) := by
 obtain ⟨hb, hc, hx, hd, _⟩ := hp
 rename_i m a b c d hk
 have hnb := nI (t := b) (by omega)
 obtain ⟨cb, ec, hcb⟩ := cf c hc hx
 constructor
 ·intro hn
  refine Ev.up ?_
  simp only [cntI, Yx.f]
  by_cases h5 : (deep : Int) > 5
  ·simp only [if_pos h5]; exact Ev.now _
  simp only [if_neg h5]
  refine Ev.bind (kidsI a) ?_
  by_cases hk2 : (d.length : Int) = Y2T a
  ·simp only [if_pos hk2]
   by_cases ht : ((a == 1) == (b.toList != ([] : List UInt8))) = true
   ·simp only [if_pos ht]
    by_cases ht2 : ((a == 8) == (decide ((c.length : Int) > 0))) = true
    ·simp only [if_pos ht2]
     by_cases h4 : (c.length : Int) > 4
     ·simp only [if_pos h4]; exact Ev.now _
     simp only [if_neg h4]
     simp only [beq_iff_eq] at ht ht2
     have h8 : (a = 8 → 1 ≤ c.length ∧ c.length ≤ 4) ∧ (a ≠ 8 → c = []) := by
      by_cases e8 : a = 8
      ·rw [beq_iff_eq.mpr e8] at ht2
       have := of_decide_eq_true ht2.symm
       exact ⟨fun _ => by omega, fun q => absurd e8 q⟩
      ·rw [beq_eq_false_iff_ne.mpr e8] at ht2
       have := of_decide_eq_false ht2.symm
       exact ⟨fun q => absurd q e8, fun _ => List.eq_nil_of_length_eq_zero (by omega)⟩
     by_cases hbe : b.toList = ([] : List UInt8)
     ·simp only [if_pos hbe]
      refine Ev.bind ec ?_
      cases cb with
      | true => simp only [if_true]; exact Ev.now _
      | false =>
       exfalso
       have a1 : a ≠ 1 := by
        intro e
        rw [beq_iff_eq.mpr e, hbe] at ht
        cases ht
       exact hn ⟨by omega, hk2.symm, fun q => absurd q a1, fun _ => Y4a.mp hbe, h8.1, h8.2, hcb.mp rfl⟩
     ·simp only [if_neg hbe, hnb, Option.bind_some]
      cases hi : Y36 b with
      | false => simp only [Bool.not_false, if_true]; exact Ev.now _
      | true =>
       simp only [Bool.not_true, Bool.false_eq_true, if_false]
       refine Ev.bind ec ?_
       cases cb with
       | true => simp only [if_true]; exact Ev.now _
       | false =>
        exfalso
        have a1 : a = 1 := by
         rw [bne_iff_ne.mpr hbe] at ht
         simpa using ht
        exact hn ⟨by omega, hk2.symm, fun _ => hi, fun q => absurd a1 q, h8.1, h8.2, hcb.mp rfl⟩
    ·simp only [if_neg ht2]; exact Ev.now _
   ·simp only [if_neg ht]; exact Ev.now _
  ·simp only [if_neg hk2]; exact Ev.now _
 ·rintro ⟨h5, hk2, hi, hb0, h8, h80, hall⟩ r hr
  simp only at h5 hk2 hi hb0 h8 h80 hall hr
  have hcb2 := hcb.mpr hall
  subst hcb2
  refine Ev.up ?_
  simp only [cntI, Yx.f, if_neg (show ¬ (deep : Int) > 5 by omega)]
  refine Ev.bind (kidsI a) ?_
  simp only [if_pos hk2.symm]
  have h4 : ¬ (c.length : Int) > 4 := by
   by_cases e8 : a = 8
   ·have := h8 e8; omega
   ·rw [h80 e8]; simp
  have ht2 : ((a == 8) == (decide ((c.length : Int) > 0))) = true := by
   by_cases e8 : a = 8
   ·have := h8 e8
    rw [beq_iff_eq.mpr e8, decide_eq_true (show (c.length : Int) > 0 by omega)]; rfl
   ·rw [beq_eq_false_iff_ne.mpr e8, h80 e8]; rfl
  by_cases a1 : a = 1
  ·have hb1 := hi a1
   have hbe : ¬ b.toList = ([] : List UInt8) := by
    intro e
    rw [Y4a.mp e, iri_nil] at hb1
    cases hb1
   have ht : ((a == 1) == (b.toList != ([] : List UInt8))) = true := by
    rw [beq_iff_eq.mpr a1, bne_iff_ne.mpr hbe]; rfl
   simp only [if_pos ht, if_pos ht2, if_neg h4, if_neg hbe, hnb, hb1, Option.bind_some, Bool.not_true, Bool.false_eq_true, if_false]
   refine Ev.bind ec ?_
   simp only [Bool.false_eq_true, if_false]
   exact hr
  ·have hbe : b.toList = ([] : List UInt8) := Y4a.mpr (hb0 a1)
   have ht : ((a == 1) == (b.toList != ([] : List UInt8))) = true := by
    rw [beq_eq_false_iff_ne.mpr a1, hbe]; rfl
   simp only [if_pos ht, if_pos ht2, if_neg h4, if_pos hbe]
   refine Ev.bind ec ?_
   simp only [Bool.false_eq_true, if_false]
   exact hr
theorem Y5R (p : S37) (deep : Int) (hn : p.f2.length ≤ 20) (hx : ∀ x ∈ p.f2, x.size ≤ 300) {g : Nat → Option Int} (hg : g = fun k => Y5.l1 k deep 1 0 p.f0 p.f1 p.f2 p.f3) : ∀ d i : Nat, i + d = p.f2.length →
  ((∀ x ∈ p.f2.drop i, Y36 x = true) → ∀ r, Ev g r → Ev (fun k => Y5.l0 k deep (i : Int) p.f0 p.f1 p.f2 p.f3) r) ∧
  ((¬ ∀ x ∈ p.f2.drop i, Y36 x = true) → Ev (fun k => Y5.l0 k deep (i : Int) p.f0 p.f1 p.f2 p.f3) (-1))
 | 0, i, h => by
  refine ⟨fun _ r hr => Ev.up ?_, fun q => absurd Z1M q⟩
  simp only [Y5.l0, if_neg (show ¬ (i : Int) < (p.f2.length : Int) by omega)]
  rw [hg] at hr
  exact hr
 | d + 1, i, h => by
  have h1 : i < p.f2.length := by omega
  have hs := tR (t := p.f2[i]) (by have := hx p.f2[i] (List.getElem_mem h1); omega)
  obtain ⟨t1, t2⟩ := Y5R p deep hn hx hg d (i + 1) (by omega)
  rw [List.drop_eq_getElem_cons h1]
  by_cases e : Y36 p.f2[i] = true
  ·have st : ∀ r, Ev (fun k => Y5.l0 k deep ((i + 1 : Nat) : Int) p.f0 p.f1 p.f2 p.f3) r → Ev (fun k => Y5.l0 k deep (i : Int) p.f0 p.f1 p.f2 p.f3) r := by
    intro r hr
    refine Ev.up ?_
    simp only [Y5.l0, if_pos (show (i : Int) < (p.f2.length : Int) by omega), if_pos (show (0 : Int) ≤ (i : Int) by omega), Y4N h1, hs, e, Option.bind_some, if_true, Y44 h1 (show p.f2.length ≤ 1000000 by omega)]
    exact hr
   exact ⟨fun q r hr => st _ (t1 (fun x m => q x (List.mem_cons_of_mem _ m)) r hr), fun q => st _ (t2 (fun w => q (fun x m => by
     rcases List.mem_cons.mp m with rfl | m
     ·exact e
     ·exact w x m)))⟩
  ·refine ⟨fun q => absurd (q _ (List.mem_cons_self ..)) e, fun _ => Ev.up ?_⟩
   have e2 : Y36 p.f2[i] = false := by simpa using e
   simp only [Y5.l0, if_pos (show (i : Int) < (p.f2.length : Int) by omega), if_pos (show (0 : Int) ≤ (i : Int) by omega), Y4N h1, hs, e2, Option.bind_some, Bool.false_eq_true, if_false]
   exact Z1i
theorem may_top {m : Nat} (p : S37) (hp : Y4U m p) (deep : Nat) :
  (¬ Top deep p → Ev (cntR p (deep : Int)) (-1)) ∧ (Top deep p → ∀ r, Ev (fun k => Y5.l1 k (deep : Int) 1 0 p.f0 p.f1 p.f2 p.f3) r → Ev (cntR p (deep : Int)) r) := by
 obtain ⟨hb, hc, hx, hd, _⟩ := hp
 rename_i m a b c d hk
 have hnb := tR (t := b) (by omega)
 obtain ⟨x1, x2⟩ := Y5R ⟨a, b, c, d⟩ (deep : Int) hc hx rfl c.length 0 (by simp)
 simp only [List.drop_zero] at x1 x2
 have z0 : Ev (fun k => Y5.j0 k (deep : Int) true a b c d) (-1) := Ev.up (by simp only [Y5.j0, if_true]; exact Ev.now _)
 have z1 : Ev (fun k => Y5.j1 k (deep : Int) true a b c d) (-1) := Ev.up (by simp only [Y5.j1, if_true]; exact Ev.now _)
 have y1 : ∀ r, Ev (fun k => Y5.l0 k (deep : Int) 0 a b c d) r → Ev (fun k => Y5.j1 k (deep : Int) false a b c d) r := fun r h => Ev.up (by simp only [Y5.j1, Bool.false_eq_true, if_false]; exact h)
 have y0 : ∀ r, ((a = 1 → Y36 b = true) ∧ (a = 8 → 1 ≤ c.length ∧ c.length ≤ 4) → Ev (fun k => Y5.l0 k (deep : Int) 0 a b c d) r) → (¬ ((a = 1 → Y36 b = true) ∧ (a = 8 → 1 ≤ c.length ∧ c.length ≤ 4)) → r = -1) → Ev (fun k => Y5.j0 k (deep : Int) false a b c d) r := by
  intro r h1 h2
  refine Ev.up ?_
  simp only [Y5.j0, Bool.false_eq_true, if_false]
  by_cases a1 : a = 1
  ·have a8 : ¬ a = 8 := by omega
   simp only [if_pos a1, hnb, Option.bind_some]
   cases hi : Y36 b with
   | true =>
    simp only [if_true, if_neg a8]
    exact y1 _ (h1 ⟨fun _ => hi, fun q => absurd q a8⟩)
   | false =>
    simp only [Bool.false_eq_true, if_false]
    rw [h2 (fun q => by rw [hi] at q; exact absurd (q.1 a1) (by simp))]
    exact z1
  ·simp only [if_neg a1]
   by_cases a8 : a = 8
   ·simp only [if_pos a8]
    by_cases l1 : (c.length : Int) < 1
    ·simp only [if_pos l1]
     rw [h2 (fun q => by have := q.2 a8; omega)]
     exact z1
    ·by_cases l4 : (c.length : Int) > 4
     ·simp only [if_neg l1, decide_eq_true l4]
      rw [h2 (fun q => by have := q.2 a8; omega)]
      exact z1
     ·simp only [if_neg l1, decide_eq_false l4]
      exact y1 _ (h1 ⟨fun q => absurd q a1, fun _ => by omega⟩)
   ·simp only [if_neg a8]
    exact y1 _ (h1 ⟨fun q => absurd q a1, fun q => absurd q a8⟩)
 have key : ∀ r, (Top deep ⟨a, b, c, d⟩ → Ev (fun k => Y5.l1 k (deep : Int) 1 0 a b c d) r) → (¬ Top deep ⟨a, b, c, d⟩ → r = -1) → Ev (cntR ⟨a, b, c, d⟩ (deep : Int)) r := by
  intro r h1 h2
  refine Ev.up ?_
  simp only [cntR, Y5.f]
  refine Ev.bind (kidsR a) ?_
  by_cases hk2 : Y2T a = (d.length : Int)
  ·simp only [if_pos hk2]
   by_cases h5 : (deep : Int) > 5
   ·simp only [if_pos h5]
    rw [h2 (fun q => by have := q.1; omega)]
    exact z0
   ·simp only [if_neg h5]
    have main : (a ≠ 1 → b = ⟨#[]⟩) → (a ≠ 8 → c = []) → Ev (fun k => Y5.j0 k (deep : Int) false a b c d) r := by
     intro hb0 h80
     refine y0 r (fun q => ?_) (fun q => h2 (fun t => q ⟨t.2.2.1, t.2.2.2.2.1⟩))
     by_cases hall : ∀ x ∈ c, Y36 x = true
     ·exact x1 hall _ (h1 ⟨by omega, hk2, q.1, hb0, q.2, h80, hall⟩)
     ·rw [h2 (fun t => hall t.2.2.2.2.2.2)]
      exact x2 hall
    by_cases a1 : a = 1
    ·have a8 : ¬ a = 8 := by omega
     simp only [if_pos a1, if_neg a8]
     by_cases l0 : (c.length : Int) > 0
     ·simp only [decide_eq_true l0]
      rw [h2 (fun t => by have hc0 : c = [] := t.2.2.2.2.2.1 a8; rw [hc0] at l0; simp at l0)]
      exact z0
     ·simp only [decide_eq_false l0]
      exact main (fun q => absurd a1 q) (fun _ => List.eq_nil_of_length_eq_zero (by omega))
    ·simp only [if_neg a1]
     by_cases hbe : b.toList = ([] : List UInt8)
     ·simp only [if_pos hbe]
      by_cases a8 : a = 8
      ·simp only [if_pos a8]
       exact main (fun _ => Y4a.mp hbe) (fun q => absurd a8 q)
      ·simp only [if_neg a8]
       by_cases l0 : (c.length : Int) > 0
       ·simp only [decide_eq_true l0]
        rw [h2 (fun t => by have hc0 : c = [] := t.2.2.2.2.2.1 a8; rw [hc0] at l0; simp at l0)]
        exact z0
       ·simp only [decide_eq_false l0]
        exact main (fun _ => Y4a.mp hbe) (fun _ => List.eq_nil_of_length_eq_zero (by omega))
     ·simp only [if_neg hbe]
      rw [h2 (fun t => hbe (Y4a.mpr (t.2.2.2.1 a1)))]
      exact z0
  ·simp only [if_neg hk2]
   rw [h2 (fun q => hk2 q.2.1)]
   exact z0
 exact ⟨fun hn => key _ (fun t => absurd t hn) (fun _ => rfl), fun ht r hr => key r (fun _ => hr) (fun hn => absurd ht hn)⟩
theorem Y58 (p : S37) (deep : Nat) (hd : deep ≤ 12) (B : Nat) (hB : B ≤ 4398046511104) (hn : p.f3.length ≤ 4)
  (ih : ∀ q ∈ p.f3, ∃ v : Int, Ev (cntI q ((deep + 1 : Nat) : Int)) v ∧ Ev (cntR q ((deep + 1 : Nat) : Int)) v ∧ (v = -1 ∨ (1 ≤ v ∧ v ≤ B ∧ May (deep + 1) q))) : ∀ d i : Nat, i + d = p.f3.length → ∀ x : Nat, 1 ≤ x → x ≤ 1 + i * B →
  ∃ v : Int, Ev (fun k => Yx.l0 k (deep : Int) (x : Int) p.f3 (p.f3.length : Int) (i : Int)) v ∧ Ev (fun k => Y5.l1 k (deep : Int) (x : Int) (i : Int) p.f0 p.f1 p.f2 p.f3) v ∧ (v = -1 ∨ (1 ≤ v ∧ v ≤ 1 + p.f3.length * B ∧ ∀ q ∈ p.f3.drop i, May (deep + 1) q))
 | 0, i, h, x, hx1, hx => by
  have hx2 : ((x : Nat) : Int) ≤ 1 + (p.f3.length : Int) * (B : Int) := by
   have e : i = p.f3.length := by omega
   rw [← e]; exact_mod_cast hx
  refine ⟨x, Ev.up ?_, Ev.up ?_, Or.inr ⟨by omega, hx2, Z1M⟩⟩
  ·simp only [Yx.l0, if_neg (show ¬ (i : Int) < (p.f3.length : Int) by omega)]
   exact Z1i
  ·simp only [Y5.l1, if_neg (show ¬ (i : Int) < (p.f3.length : Int) by omega)]
   exact Z1i
 | d + 1, i, h, x, hx1, hx => by
  have h1 : i < p.f3.length := by omega
  obtain ⟨v, e1, e2, hv⟩ := ih p.f3[i] (List.getElem_mem h1)
  have hw : wrap64 ((deep : Int) + 1) = ((deep + 1 : Nat) : Int) := Y44 (n := 1000) (by omega) (by omega)
  have p1 := show (i : Int) < (p.f3.length : Int) by omega
  have p0 := show (0 : Int) ≤ (i : Int) by omega
  rcases hv with rfl | ⟨v1, v2, v3⟩
  ·refine ⟨-1, Ev.up ?_, Ev.up ?_, Or.inl rfl⟩
   ·simp only [Yx.l0, if_pos p1, if_pos p0, Y5b h1, hw]
    exact Ev.bind e1 (Ev.congr (fun k => by simp) (Ev.now _))
   ·simp only [Y5.l1, if_pos p1, if_pos p0, Y5b h1, hw]
    exact Ev.bind e2 (Ev.congr (fun k => by simp) (Ev.now _))
  ·obtain ⟨n, rfl⟩ := Int.eq_ofNat_of_zero_le (show 0 ≤ v by omega)
   have hi4 : i ≤ 4 := by omega
   have hnB : n ≤ B := by omega
   have hxB : x + n ≤ 1 + (i + 1) * B := by rw [Nat.add_mul]; omega
   have hiB : (i + 1) * B ≤ 5 * B := Nat.mul_le_mul_right B (by omega)
   have hw2 : wrap64 ((x : Int) + (n : Int)) = ((x + n : Nat) : Int) := by
    unfold wrap64
    omega
   obtain ⟨v, f1, f2, f3⟩ := Y58 p deep hd B hB hn ih d (i + 1) (by omega) (x + n) (Nat.le_trans hx1 (Nat.le_add_right _ _)) hxB
   refine ⟨v, Ev.up ?_, Ev.up ?_, ?_⟩
   ·simp only [Yx.l0, if_pos p1, if_pos p0, Y5b h1, hw]
    refine Ev.bind e1 ?_
    simp only [if_neg (show ¬ (n : Int) < 0 by omega), Y44 h1 (show p.f3.length ≤ 1000000 by omega)]
    rw [hw2]
    exact f1
   ·simp only [Y5.l1, if_pos p1, if_pos p0, Y5b h1, hw]
    refine Ev.bind e2 ?_
    simp only [if_neg (show ¬ (n : Int) < 0 by omega), Y44 h1 (show p.f3.length ≤ 1000000 by omega)]
    rw [hw2]
    exact f2
   ·rcases f3 with f3 | ⟨g1, g2, g3⟩
    ·exact Or.inl f3
    ·refine Or.inr ⟨g1, g2, fun q hq => ?_⟩
     rw [List.drop_eq_getElem_cons h1, List.mem_cons] at hq
     rcases hq with rfl | hq
     ·exact v3
     ·exact g3 q hq
theorem count_may {m : Nat} {p : S37} (hp : Y4U m p) : ∀ deep : Nat, deep + m ≤ 13 → ∃ v : Int, Ev (cntI p (deep : Int)) v ∧ Ev (cntR p (deep : Int)) v ∧ (v = -1 ∨ (1 ≤ v ∧ v ≤ ((8 ^ m : Nat) : Int) ∧ May deep p)) := by
 induction hp with
 | @mk m a b c d hb hc hx hd hk ih =>
  intro deep hm
  have hp : Y4U (m + 1) ⟨a, b, c, d⟩ := .mk hb hc hx hd hk
  obtain ⟨c1, c2⟩ := count_top _ hp deep
  obtain ⟨m1, m2⟩ := may_top _ hp deep
  by_cases ht : Top deep ⟨a, b, c, d⟩
  ·obtain ⟨v, e1, e2, e3⟩ := Y58 ⟨a, b, c, d⟩ deep (by omega) (8 ^ m) (Nat.le_trans (Nat.pow_le_pow_right (by omega) (show m ≤ 14 by omega)) (by decide)) hd (fun q hq => ih q hq (deep + 1) (by omega)) d.length 0 (by simp) 1 (by omega) (by omega)
   refine ⟨v, c2 ht _ e1, m2 ht _ e2, ?_⟩
   rcases e3 with e3 | ⟨g1, g2, g3⟩
   ·exact Or.inl e3
   ·refine Or.inr ⟨g1, ?_, .mk ht (by simpa using g3)⟩
    have : 1 ≤ 8 ^ m := Nat.pos_of_ne_zero (by simp)
    have h4 : d.length * 8 ^ m ≤ 4 * 8 ^ m := Nat.mul_le_mul_right _ hd
    have h5 : 1 + d.length * 8 ^ m ≤ 8 ^ (m + 1) := by rw [Nat.pow_succ]; omega
    refine Int.le_trans g2 ?_
    exact_mod_cast h5
  ·exact ⟨-1, c1 ht, m1 ht, Or.inl rfl⟩
def isI (p : S37) (k : Nat) : Option Bool := Y1f.f k p.f0 p.f1 p.f2 p.f3
def isR (p : S37) (k : Nat) : Option Bool := Y19.f k p.f0 p.f1 p.f2 p.f3
theorem is_path {p : S37} (hp : Y4U 13 p) : ∃ b, Ev (isI p) b ∧ Ev (isR p) b ∧ (b = true → May 0 p) := by
 obtain ⟨v, e1, e2, e3⟩ := count_may hp 0 (by omega)
 refine ⟨decide (1 ≤ v ∧ v ≤ 30), ?_, ?_, fun h => ?_⟩
 ·refine Ev.bind e1 (Ev.congr (fun k => ?_) (Ev.now _))
  by_cases h : v > 0
  ·rw [if_pos h]; congr 1; exact decide_eq_decide.2 (by omega)
  ·rw [if_neg h]; congr 1; exact (decide_eq_false (by omega)).symm
 ·refine Ev.bind e2 (Ev.congr (fun k => ?_) (Ev.now _))
  by_cases h : v ≥ 1
  ·rw [if_pos h]; congr 1; exact decide_eq_decide.2 (by omega)
  ·rw [if_neg h]; congr 1; exact (decide_eq_false (by omega)).symm
 ·have := of_decide_eq_true h
  rcases e3 with rfl | e3
  ·omega
  ·exact e3.2.2
theorem dec_cont (s : ByteArray) (i k : Nat) (h1 : 1 ≤ k) (h2 : k < (Utf8.decode s i).2) : (s.get! (i + k)).toNat / 64 = 2 := by
 unfold Utf8.decode at h2
 simp only at h2
 split at h2
 ·simp at h2; omega
 split at h2
 ·rename_i _ hc
  simp only [Bool.and_eq_true, beq_iff_eq, decide_eq_true_eq] at hc
  have e : k = 1 := by split at h2 <;> simp at h2 <;> omega
  rw [e]; exact hc.2.2
 split at h2
 ·rename_i _ _ hc
  simp only [Bool.and_eq_true, beq_iff_eq, decide_eq_true_eq] at hc
  have e : k = 1 ∨ k = 2 := by split at h2 <;> simp at h2 <;> omega
  rcases e with rfl | rfl
  ·exact hc.1.2.2
  ·exact hc.2.2
 split at h2
 ·rename_i _ _ _ hc
  simp only [Bool.and_eq_true, beq_iff_eq, decide_eq_true_eq] at hc
  have e : k = 1 ∨ k = 2 ∨ k = 3 := by split at h2 <;> simp at h2 <;> omega
  rcases e with rfl | rfl | rfl
  ·exact hc.1.1.2.2
  ·exact hc.1.2.2
  ·exact hc.2.2
 ·simp at h2; omega
theorem dec_pos (s : ByteArray) (i : Nat) : 1 ≤ (Utf8.decode s i).2 := by
 unfold Utf8.decode
 simp only
 repeat' split
 all_goals simp
theorem Y6x (p : Nat → Bool) (s : ByteArray) : ∀ (b i j : Nat), i ≤ j → j < s.size → s.size - i ≤ b → (s.get! j).toNat < 128 → (Y2u s b i).all p = true → p (s.get! j).toNat = true
 | 0, i, j, h1, h2, h3, h4, h5 => by omega
 | b + 1, i, j, h1, h2, h3, h4, h5 => by
  unfold Y2u at h5
  rw [if_pos (by omega), List.all_cons, Bool.and_eq_true] at h5
  by_cases e : j = i
  ·subst e
   have : Utf8.decode s j = ((s.get! j).toNat, 1) := by
    unfold Utf8.decode
    simp only [Nat.add_zero]
    rw [if_pos h4]
   rw [this] at h5
   exact h5.1
  ·by_cases h6 : i + (Utf8.decode s i).2 ≤ j
   ·exact Y6x p s b _ j h6 h2 (by have := dec_pos s i; omega) h4 h5.2
   ·have := dec_cont s i (j - i) (by omega) (by omega)
    rw [show i + (j - i) = j by omega] at this
    omega
theorem iri_no {t : ByteArray} (h : Y36 t = true) (c : UInt8) (hc : c.toNat < 128) (hp : Y1e c.toNat = false) : ¬ c ∈ t.data.toList := by
 intro hm
 obtain ⟨j, hj, he⟩ := List.getElem_of_mem hm
 rw [Y3p] at hj
 unfold Y36 at h
 simp only [Bool.and_eq_true, decide_eq_true_eq] at h
 have h2 := h.2
 rw [Y4v] at h2
 have hj2 : j < t.data.size := hj
 have hg : t.get! j = c := by
  rw [← he]
  show t.data[j]! = _
  rw [getElem!_pos t.data j hj2]
  simp
 have := Y6x Y1e t t.size 0 j (by omega) hj (by omega) (by rw [hg]; exact hc) h2
 rw [hg, hp] at this
 cases this
def bl (n : Nat) : List UInt8 := List.replicate n 32
def Y6N (n : Nat) : List ByteArray → List UInt8
 | [] => 41 :: bl n
 | t :: ts => 124 :: (bl n ++ (60 :: (t.data.toList ++ 62 :: (bl n ++ Y6N n ts))))
def notI (n : Nat) (t : ByteArray) (ts : List ByteArray) : List UInt8 := 60 :: (t.data.toList ++ 62 :: (bl n ++ Y6N n ts))
inductive Rd : Bool → S37 → (Nat → List UInt8) → Prop
 | iri {t} : Y36 t = true → Rd false (pIri t) (fun n => 60 :: (t.data.toList ++ 62 :: bl n))
 | up {p f} : Rd true p f → Rd false (pK 2 [p]) (fun n => 94 :: (bl n ++ f n))
 | two {k c p q f g} : (k = 3 ∧ c = 47 ∨ k = 4 ∧ c = 124) → Rd true p f → Rd true q g → Rd false (pK k [p, q]) (fun n => f n ++ c :: (bl n ++ g n))
 | many {k c p f} : (k = 5 ∧ c = 42 ∨ k = 6 ∧ c = 43 ∨ k = 7 ∧ c = 63) → Rd true p f → Rd false (pK k [p]) (fun n => f n ++ c :: bl n)
 | not {t ts} : (∀ x ∈ t :: ts, Y36 x = true) → Rd false (pNot (t :: ts)) (fun n => 33 :: 40 :: (bl n ++ notI n t ts))
 | w_iri {t f} : Rd false (pIri t) f → Rd true (pIri t) f
 | w_br {p f} : p.f0 ≠ 1 → Rd false p f → Rd true p (fun n => 40 :: (bl n ++ (f n ++ 41 :: bl n)))
theorem Y2c : ∀ (m : Nat) (l : List UInt8), skip (bl m ++ l) = skip l
 | 0, l => rfl
 | m + 1, l => by
  show skip (32 :: (bl m ++ l)) = skip l
  conv => lhs; unfold skip
  rw [if_pos rfl]; exact Y2c m l
theorem Y2y {c : UInt8} (h : c ≠ 32) (l : List UInt8) : skip (c :: l) = c :: l := by
 conv => lhs; unfold skip
 rw [if_neg h]
theorem Y5t {t : ByteArray} (h : Y36 t = true) (m : Nat) (rest : List UInt8) : Y3B (bl m ++ (60 :: (t.data.toList ++ 62 :: rest))) = some (t, rest) := by
 unfold Y3B
 rw [Y2c, Y2y (by decide)]
 simp only [if_true]
 rw [upGt_mk _ _ (iri_no h 62 (by decide) (by decide))]
 have et : (⟨t.data.toList.toArray⟩ : ByteArray) = t := Y52 (by simp)
 simp only [et, h, if_true]
def Endy (l : List UInt8) : Prop := hd (skip l) ≠ 42 ∧ hd (skip l) ≠ 43 ∧ hd (skip l) ≠ 63 ∧ hd (skip l) ≠ 47 ∧ hd (skip l) ≠ 124
theorem Endy.bl {l : List UInt8} (h : Endy l) (n : Nat) : Endy (bl n ++ l) := by unfold Endy at h ⊢; rw [Y2c]; exact h
theorem Y31 {d : Nat} {l : List UInt8} {p : S37} {r : List UInt8} (h : P .step d l (.ok p (skip r))) (he : Endy r) : P .path d l (.ok p (skip r)) := by
 have e := Y1d r
 obtain ⟨h1, h2, h3, h4, h5⟩ := he
 have s1 : P (.seqL p) d (skip r) (.ok p (skip r)) := by have := P.seqL_end (d := d) (p := p) (l := skip r) (by rw [e]; exact h4); rw [e] at this; exact this
 have s2 : P (.pathL p) d (skip r) (.ok p (skip r)) := by have := P.pathL_end (d := d) (p := p) (l := skip r) (by rw [e]; exact h5); rw [e] at this; exact this
 exact .path_ok (.seq_ok h s1) s2
theorem Y2R {d : Nat} {l : List UInt8} {p : S37} {r : List UInt8} (h : P .back d l (.ok p r)) (h1 : hd (skip r) ≠ 42) (h2 : hd (skip r) ≠ 43) (h3 : hd (skip r) ≠ 63) : P .step d l (.ok p (skip r)) := .step_ok h (.stepL_end h1 h2 h3)
theorem Y2m {d : Nat} {l : List UInt8} {c : Int} {lb : List UInt8} (h : P .back d l (.bad c lb)) : P .path d l (.bad c lb) := .path_bad (.seq_bad (.step_bad h))
theorem Y59 (d n : Nat) (rest : List UInt8) : ∀ (ts us : List ByteArray), (∀ x ∈ ts, Y36 x = true) → P (.notL us) d (bl n ++ (Y6N n ts ++ rest)) (.ok (pNot (us ++ ts)) (bl n ++ rest))
 | [], us, _ => by
  rw [List.append_nil]
  refine .notL_end ?_
  rw [Y2c]
  exact Y2y (by decide) _
 | t :: ts, us, h => by
  have ih := Y59 d n rest ts (us ++ [t]) (fun x m => h x (List.mem_cons_of_mem _ m))
  rw [List.append_assoc, List.singleton_append] at ih
  refine .notL_more (r := bl n ++ (60 :: (t.data.toList ++ 62 :: (bl n ++ (Y6N n ts ++ rest))))) (t := t) (l1 := bl n ++ (Y6N n ts ++ rest)) ?_ (Y5t (h t (List.mem_cons_self ..)) n _) ih
  rw [Y2c]
  simp only [Y6N, List.cons_append, List.append_assoc]
  exact Y2y (by decide) _
def Back (p : S37) (f : Nat → List UInt8) : Prop :=
 ∃ g : Nat → List UInt8, (∀ n, f n = g n ++ bl n) ∧ ∀ d, (∀ n m rest, P .back d (bl m ++ (g n ++ rest)) (.ok p rest)) ∨ (∀ n m rest, ∃ lb, P .back d (bl m ++ (g n ++ rest)) (.bad 3 lb))
def Path (p : S37) (f : Nat → List UInt8) : Prop :=
 ∀ d, (∀ n m rest, Endy rest → P .path d (bl m ++ (f n ++ rest)) (.ok p (skip rest))) ∨ (∀ n m rest, Endy rest → ∃ lb, P .path d (bl m ++ (f n ++ rest)) (.bad 3 lb))
theorem Rd.reads {w p f} (h : Rd w p f) : (w = true → Back p f) ∧ (w = false → Path p f) := by
 induction h with
 | @iri t hi =>
  refine ⟨(fun e => by cases e), fun _ d => Or.inl fun n m rest he => ?_⟩
  have h1 := Y5t hi m (bl n ++ rest)
  have h2 : P .back d (bl m ++ (60 :: (t.data.toList ++ 62 :: (bl n ++ rest)))) (.ok (pIri t) (bl n ++ rest)) := .iri_ok (by rw [Y2c]; exact Y2y (by decide) _) h1
  simp only [List.cons_append, List.append_assoc]
  have he2 := he.bl n
  have := Y31 (Y2R h2 he2.1 he2.2.1 he2.2.2.1) he2
  rw [Y2c] at this
  exact this
 | @up p f _ ih =>
  refine ⟨(fun e => by cases e), fun _ d => ?_⟩
  obtain ⟨g, hg, hb⟩ := ih.1 rfl
  have sk : ∀ n m rest, skip (bl m ++ (94 :: (bl n ++ f n) ++ rest)) = 94 :: (bl n ++ (g n ++ (bl n ++ rest))) := by
   intro n m rest
   rw [Y2c, List.cons_append, Y2y (by decide), hg n]
   simp [List.append_assoc]
  by_cases h5 : d < 5
  ·rcases hb (d + 1) with hb | hb
   ·refine Or.inl fun n m rest he => ?_
    have h2 : P .back d (bl m ++ (94 :: (bl n ++ f n) ++ rest)) (.ok (pK 2 [p]) (bl n ++ rest)) := .up_ok (sk n m rest) h5 (hb n n _)
    have he2 := he.bl n
    have := Y31 (Y2R h2 he2.1 he2.2.1 he2.2.2.1) he2
    rw [Y2c] at this
    exact this
   ·refine Or.inr fun n m rest he => ?_
    obtain ⟨lb, h2⟩ := hb n n (bl n ++ rest)
    exact ⟨lb, Y2m (.up_bad (sk n m rest) h5 h2)⟩
  ·exact Or.inr fun n m rest he => ⟨_, Y2m (.full (sk n m rest) (Or.inl rfl) (by omega))⟩
 | @two k c p q f g hk _ _ ih1 ih2 =>
  refine ⟨(fun e => by cases e), fun _ d => ?_⟩
  obtain ⟨f1, hf1, hb1⟩ := ih1.1 rfl
  obtain ⟨g1, hg1, hb2⟩ := ih2.1 rfl
  have hc : c ≠ 32 ∧ c ≠ 42 ∧ c ≠ 43 ∧ c ≠ 63 := by rcases hk with ⟨_, rfl⟩ | ⟨_, rfl⟩ <;> decide
  have hcn : ∀ (r : List UInt8), hd (c :: r) ≠ 42 ∧ hd (c :: r) ≠ 43 ∧ hd (c :: r) ≠ 63 := by
   intro r
   rcases hk with ⟨_, rfl⟩ | ⟨_, rfl⟩
   ·exact ⟨by show (47 : Int) ≠ 42; decide, by show (47 : Int) ≠ 43; decide, by show (47 : Int) ≠ 63; decide⟩
   ·exact ⟨by show (124 : Int) ≠ 42; decide, by show (124 : Int) ≠ 43; decide, by show (124 : Int) ≠ 63; decide⟩
  have tx : ∀ n m rest, bl m ++ (f n ++ c :: (bl n ++ g n) ++ rest) = bl m ++ (f1 n ++ (bl n ++ (c :: (bl n ++ (g1 n ++ (bl n ++ rest)))))) := by
   intro n m rest
   rw [hf1 n, hg1 n]
   simp [List.append_assoc]
  have sk : ∀ n (r : List UInt8), skip (bl n ++ (c :: r)) = c :: r := fun n r => by rw [Y2c]; exact Y2y hc.1 _
  have sk2 : ∀ (r : List UInt8), skip (c :: r) = c :: r := fun r => Y2y hc.1 _
  rcases hb1 d with hb1 | hb1
  ·have st : ∀ n m rest, P .step d (bl m ++ (f1 n ++ (bl n ++ (c :: (bl n ++ (g1 n ++ (bl n ++ rest))))))) (.ok p (c :: (bl n ++ (g1 n ++ (bl n ++ rest))))) := by
    intro n m rest
    have := Y2R (hb1 n m (bl n ++ (c :: (bl n ++ (g1 n ++ (bl n ++ rest)))))) (by rw [sk]; exact (hcn _).1) (by rw [sk]; exact (hcn _).2.1) (by rw [sk]; exact (hcn _).2.2)
    rw [sk] at this
    exact this
   rcases hb2 d with hb2 | hb2
   ·refine Or.inl fun n m rest he => ?_
    rw [tx]
    have he2 := he.bl n
    have s2 := Y2R (hb2 n n (bl n ++ rest)) he2.1 he2.2.1 he2.2.2.1
    rw [Y2c] at s2
    have e := Y1d rest
    obtain ⟨h1, h2, h3, h4, h5⟩ := he
    have z1 : ∀ x, P (.seqL x) d (skip rest) (.ok x (skip rest)) := fun x => by have := P.seqL_end (d := d) (p := x) (l := skip rest) (by rw [e]; exact h4); rw [e] at this; exact this
    have z2 : ∀ x, P (.pathL x) d (skip rest) (.ok x (skip rest)) := fun x => by have := P.pathL_end (d := d) (p := x) (l := skip rest) (by rw [e]; exact h5); rw [e] at this; exact this
    rcases hk with ⟨rfl, rfl⟩ | ⟨rfl, rfl⟩
    ·exact .path_ok (.seq_ok (st n m rest) (.seqL_more (sk2 _) s2 (z1 _))) (z2 _)
    ·have z3 : P (.seqL p) d (124 :: (bl n ++ (g1 n ++ (bl n ++ rest)))) (.ok p (124 :: (bl n ++ (g1 n ++ (bl n ++ rest))))) := by
      have := P.seqL_end (d := d) (p := p) (l := 124 :: (bl n ++ (g1 n ++ (bl n ++ rest)))) (by rw [sk2]; show (124 : Int) ≠ 47; decide)
      rw [sk2] at this
      exact this
     exact .path_ok (.seq_ok (st n m rest) z3) (.pathL_more (sk2 _) (.seq_ok s2 (z1 _)) (z2 _))
   ·refine Or.inr fun n m rest he => ?_
    rw [tx]
    obtain ⟨lb, h2⟩ := hb2 n n (bl n ++ rest)
    rcases hk with ⟨rfl, rfl⟩ | ⟨rfl, rfl⟩
    ·exact ⟨lb, .path_bad (.seq_ok (st n m rest) (.seqL_bad (sk2 _) (.step_bad h2)))⟩
    ·have z3 : P (.seqL p) d (124 :: (bl n ++ (g1 n ++ (bl n ++ rest)))) (.ok p (124 :: (bl n ++ (g1 n ++ (bl n ++ rest))))) := by
      have := P.seqL_end (d := d) (p := p) (l := 124 :: (bl n ++ (g1 n ++ (bl n ++ rest)))) (by rw [sk2]; show (124 : Int) ≠ 47; decide)
      rw [sk2] at this
      exact this
     exact ⟨lb, .path_ok (.seq_ok (st n m rest) z3) (.pathL_bad (sk2 _) (.seq_bad (.step_bad h2)))⟩
  ·refine Or.inr fun n m rest he => ?_
   rw [tx]
   obtain ⟨lb, h2⟩ := hb1 n m (bl n ++ (c :: (bl n ++ (g1 n ++ (bl n ++ rest)))))
   exact ⟨lb, Y2m h2⟩
 | @many k c p f hk _ ih =>
  refine ⟨(fun e => by cases e), fun _ d => ?_⟩
  obtain ⟨f1, hf1, hb1⟩ := ih.1 rfl
  have hc : c ≠ 32 := by rcases hk with ⟨_, rfl⟩ | ⟨_, rfl⟩ | ⟨_, rfl⟩ <;> decide
  have hc2 : (c = 42 ∨ c = 43 ∨ c = 63) ∧ signK c.toNat = k := by rcases hk with ⟨rfl, rfl⟩ | ⟨rfl, rfl⟩ | ⟨rfl, rfl⟩ <;> decide
  have tx : ∀ n m rest, bl m ++ (f n ++ c :: bl n ++ rest) = bl m ++ (f1 n ++ (bl n ++ (c :: (bl n ++ rest)))) := by
   intro n m rest
   rw [hf1 n]
   simp [List.append_assoc]
  rcases hb1 d with hb1 | hb1
  ·refine Or.inl fun n m rest he => ?_
   rw [tx]
   have he2 := he.bl n
   have z : P (.stepL (pK k [p])) d (bl n ++ rest) (.ok (pK k [p]) (skip (bl n ++ rest))) := .stepL_end he2.1 he2.2.1 he2.2.2.1
   rw [← hc2.2] at z
   have s2 : P .step d (bl m ++ (f1 n ++ (bl n ++ (c :: (bl n ++ rest))))) (.ok (pK (signK c.toNat) [p]) (skip (bl n ++ rest))) :=
    .step_ok (hb1 n m _) (.stepL_more (by rw [Y2c]; exact Y2y hc _) hc2.1 z)
   have := Y31 s2 he2
   rw [Y2c, hc2.2] at this
   exact this
  ·refine Or.inr fun n m rest he => ?_
   rw [tx]
   obtain ⟨lb, h2⟩ := hb1 n m (bl n ++ (c :: (bl n ++ rest)))
   exact ⟨lb, Y2m h2⟩
 | @not t ts hall =>
  refine ⟨(fun e => by cases e), fun _ d => Or.inl fun n m rest he => ?_⟩
  have h1 := Y59 d n rest ts [t] (fun x mx => hall x (List.mem_cons_of_mem _ mx))
  have h2 : P .back d (bl m ++ (33 :: 40 :: (bl n ++ notI n t ts) ++ rest)) (.ok (pNot (t :: ts)) (bl n ++ rest)) := by
   refine .not_ (r := 40 :: (bl n ++ (60 :: (t.data.toList ++ 62 :: (bl n ++ (Y6N n ts ++ rest)))))) ?_ (.nt_br (Y5t (hall t (List.mem_cons_self ..)) n _) h1)
   rw [Y2c]
   simp only [notI, List.cons_append, List.append_assoc]
   exact Y2y (by decide) _
  have he2 := he.bl n
  have := Y31 (Y2R h2 he2.1 he2.2.1 he2.2.2.1) he2
  rw [Y2c] at this
  exact this
 | @w_iri t f h ih =>
  refine ⟨fun _ => ?_, fun e => by cases e⟩
  cases h with
  | iri hi =>
   refine ⟨fun n => 60 :: (t.data.toList ++ [62]), fun n => by simp, fun d => Or.inl fun n m rest => ?_⟩
   have h1 := Y5t hi m rest
   simp only [List.cons_append, List.append_assoc, List.singleton_append]
   exact .iri_ok (by rw [Y2c]; exact Y2y (by decide) _) h1
 | @w_br p f h0 _ ih =>
  refine ⟨fun _ => ⟨fun n => 40 :: (bl n ++ (f n ++ [41])), fun n => by simp, fun d => ?_⟩, fun e => by cases e⟩
  have sk : ∀ n m rest, skip (bl m ++ (40 :: (bl n ++ (f n ++ [41])) ++ rest)) = 40 :: (bl n ++ (f n ++ 41 :: rest)) := by
   intro n m rest
   rw [Y2c, List.cons_append, Y2y (by decide)]
   simp [List.append_assoc]
  have he : ∀ rest : List UInt8, Endy (41 :: rest) := by
   intro rest
   unfold Endy
   rw [Y2y (by decide)]
   exact ⟨by show (41 : Int) ≠ 42; decide, by show (41 : Int) ≠ 43; decide, by show (41 : Int) ≠ 63; decide, by show (41 : Int) ≠ 47; decide, by show (41 : Int) ≠ 124; decide⟩
  by_cases h5 : d < 5
  ·rcases ih.2 rfl (d + 1) with hb | hb
   ·refine Or.inl fun n m rest => ?_
    have h1 := hb n n (41 :: rest) (he rest)
    rw [Y2y (by decide)] at h1
    exact .br_ok (sk n m rest) h5 h1 (Y2y (by decide) _)
   ·refine Or.inr fun n m rest => ?_
    obtain ⟨lb, h1⟩ := hb n n (41 :: rest) (he rest)
    exact ⟨lb, .br_bad (sk n m rest) h5 h1⟩
  ·exact Or.inr fun n m rest => ⟨_, .full (sk n m rest) (Or.inr rfl) (by omega)⟩
theorem Y2P (a b : ByteArray) : (a ++ b).data.toList = a.data.toList ++ b.data.toList := by simp
theorem Y25 (a b : ByteArray) : (a ++ b).size = a.size + b.size := by simp
def Y4P (p : S37) (k : Nat) : Option ByteArray := YK.f k p.f0 p.f1 p.f2 p.f3
def Y4Q (p : S37) (k : Nat) : Option ByteArray := Yg.f k p.f0 p.f1 p.f2 p.f3
def brI (p : S37) (k : Nat) : Option ByteArray := YL.f k p.f0 p.f1 p.f2 p.f3
def wiR (p : S37) (k : Nat) : Option ByteArray := YG.f k p.f0 p.f1 p.f2 p.f3
theorem Rd.in1 {p f} (h : Rd false p f) (h0 : p.f0 = 1) : Rd true p f := by
 cases h with
 | iri hi => exact .w_iri (.iri hi)
 | up _ => cases h0
 | two hk _ _ => rcases hk with ⟨rfl, _⟩ | ⟨rfl, _⟩ <;> cases h0
 | many hk _ => rcases hk with ⟨rfl, _⟩ | ⟨rfl, _⟩ | ⟨rfl, _⟩ <;> cases h0
 | not _ => cases h0
def Shows (p : S37) (B : Nat) : Prop := ∃ f t, Rd false p f ∧ Ev (Y4P p) t ∧ Ev (Y4Q p) t ∧ t.data.toList = f 0 ∧ t.size ≤ B
def Within (p : S37) (B : Nat) : Prop := ∃ f t, Rd true p f ∧ Ev (brI p) t ∧ Ev (wiR p) t ∧ t.data.toList = f 0 ∧ t.size ≤ B
theorem Shows.within {p : S37} {B : Nat} (hB : B ≤ 100000000) (h : Shows p B) : Within p (B + 2) := by
 obtain ⟨f, t, h1, h2, h3, h4, h5⟩ := h
 by_cases h0 : p.f0 = 1
 ·refine ⟨f, t, h1.in1 h0, Ev.up ?_, Ev.up ?_, h4, by omega⟩
  ·simp only [brI, YL.f, if_pos h0]; exact Ev.bind h2 (Ev.now _)
  ·simp only [wiR, YG.f, if_pos h0]; exact Ev.bind h3 (Ev.now _)
 ·refine ⟨_, (⟨#[40]⟩ : ByteArray) ++ t ++ ⟨#[41]⟩, .w_br h0 h1, Ev.up ?_, Ev.up ?_, ?_, ?_⟩
  ·simp only [brI, YL.f, if_neg h0]
   refine Ev.bind h2 ?_
   simp only [if_pos (show 1 + t.size ≤ 9223372036854775807 by omega), if_pos (show 1 + t.size + 1 ≤ 9223372036854775807 by omega)]
   exact Z1i
  ·simp only [wiR, YG.f, if_neg h0]
   refine Ev.bind h3 ?_
   simp only [if_pos (show 1 + t.size ≤ 9223372036854775807 by omega), if_pos (show 1 + t.size + 1 ≤ 9223372036854775807 by omega)]
   exact Z1i
  ·rw [Y2P, Y2P, h4]; simp [bl]
  ·rw [Y25, Y25]
   have e1 : (⟨#[40]⟩ : ByteArray).size = 1 := rfl
   have e2 : (⟨#[41]⟩ : ByteArray).size = 1 := rfl
   omega
theorem Y5w : ∀ (ts : List ByteArray) (t : ByteArray), 60 :: (Y3s [62, 124, 60] (t :: ts) ++ [62, 41]) = notI 0 t ts
 | [], t => by simp [Y3s, notI, Y6N, bl]
 | u :: ts, t => by
  have ih := Y5w ts u
  simp only [Y3s, notI, Y6N, bl, List.replicate_zero, List.nil_append] at ih ⊢
  rw [← ih]
  simp
theorem Y5e (p : S37) (hall : ∀ x ∈ p.f2, x.size ≤ 60) : ∀ d i : Nat, i + d = p.f2.length → 1 ≤ i → p.f2.length ≤ 4 → ∀ x : ByteArray, x.size + 63 * d ≤ 100000 →
  ∃ t, Ev (fun k => Yg.l0 k x (i : Int) p.f0 p.f1 p.f2 p.f3) t ∧ t.data.toList = x.data.toList ++ Y6N 0 (p.f2.drop i)
 | 0, i, h, hi, hn, x, hx => by
  refine ⟨x ++ ⟨#[41]⟩, Ev.up ?_, ?_⟩
  ·simp only [Yg.l0, if_neg (show ¬ (i : Int) < (p.f2.length : Int) by omega), if_pos (show x.size + 1 ≤ 9223372036854775807 by omega)]
   exact Z1i
  ·rw [List.drop_of_length_le (by omega), Y2P]; simp [Y6N, bl]
 | d + 1, i, h, hi, hn, x, hx => by
  have h1 : i < p.f2.length := by omega
  have hz := hall p.f2[i] (List.getElem_mem h1)
  have es : ((((x ++ (⟨#[124]⟩ : ByteArray)) ++ (⟨#[60]⟩ : ByteArray)) ++ p.f2[i]) ++ (⟨#[62]⟩ : ByteArray)).size = x.size + 1 + 1 + p.f2[i].size + 1 := by
   rw [Y25, Y25, Y25, Y25]; rfl
  obtain ⟨t, e, ht⟩ := Y5e p hall d (i + 1) (by omega) (by omega) hn ((((x ++ (⟨#[124]⟩ : ByteArray)) ++ (⟨#[60]⟩ : ByteArray)) ++ p.f2[i]) ++ (⟨#[62]⟩ : ByteArray)) (by rw [es]; omega)
  refine ⟨t, Ev.up ?_, ?_⟩
  ·simp only [Yg.l0, if_pos (show (i : Int) < (p.f2.length : Int) by omega), if_pos (show (i : Int) > 0 by omega), if_pos (show (0 : Int) ≤ (i : Int) by omega), Y4N h1, if_pos (show x.size + 1 ≤ 9223372036854775807 by omega), if_pos (show x.size + 1 + 1 ≤ 9223372036854775807 by omega), if_pos (show x.size + 1 + 1 + p.f2[i].size ≤ 9223372036854775807 by omega), if_pos (show x.size + 1 + 1 + p.f2[i].size + 1 ≤ 9223372036854775807 by omega), Y44 h1 (show p.f2.length ≤ 1000000 by omega)]
   exact e
  ·rw [ht, List.drop_eq_getElem_cons h1]
   simp [Y6N, bl, Y2P]
theorem shows {deep : Nat} {p : S37} (h : May deep p) : ∀ m, deep + m = 6 → Shows p (1000 * 4 ^ m) := by
 induction h with
 | @mk deep p ht _ ih =>
  intro m hm
  obtain ⟨h5, hk, hi, hb0, h8, h80, hall⟩ := ht
  obtain ⟨m, rfl⟩ : ∃ m', m = m' + 1 := ⟨m - 1, by omega⟩
  have hp4 : 1 ≤ 4 ^ m := Nat.pos_of_ne_zero (by simp)
  have hp5 : 4 ^ m ≤ 4 ^ 6 := Nat.pow_le_pow_right (by omega) (by omega)
  have hp6 : (4 : Nat) ^ 6 = 4096 := by decide
  have hp7 : 4 ^ (m + 1) = 4 * 4 ^ m := by rw [Nat.pow_succ, Nat.mul_comm]
  have hin : ∀ q ∈ p.f3, Within q (1000 * 4 ^ m + 2) := fun q hq => (ih q hq m (by omega)).within (by omega)
  rw [hp7]
  generalize hB : 4 ^ m = B at *
  clear hp7 hB ih
  obtain ⟨a, b, c, d⟩ := p
  simp only at hk hi hb0 h8 h80 hall hin
  by_cases a1 : a = 1
  ·subst a1
   have hz := Y5v (hi rfl)
   have hd0 : d = [] := by rw [show Y2T 1 = 0 from rfl] at hk; exact List.eq_nil_of_length_eq_zero (by omega)
   rw [h80 (by decide), hd0]
   refine ⟨_, (⟨#[60]⟩ : ByteArray) ++ b ++ ⟨#[62]⟩, .iri (hi rfl), Ev.up ?_, Ev.up ?_, ?_, ?_⟩
   ·simp only [Y4P, YK.f, if_true, if_pos (show 1 + b.size ≤ 9223372036854775807 by omega), if_pos (show 1 + b.size + 1 ≤ 9223372036854775807 by omega)]
    exact Z1i
   ·simp only [Y4Q, Yg.f, if_true, if_pos (show 1 + b.size ≤ 9223372036854775807 by omega), if_pos (show 1 + b.size + 1 ≤ 9223372036854775807 by omega)]
    exact Z1i
   ·rw [Y2P, Y2P]; simp [bl]
   ·rw [Y25, Y25]
    have e1 : (⟨#[60]⟩ : ByteArray).size = 1 := rfl
    have e2 : (⟨#[62]⟩ : ByteArray).size = 1 := rfl
    omega
  have hbe : b = ⟨#[]⟩ := hb0 a1
  subst hbe
  by_cases a8 : a = 8
  ·subst a8
   have hd0 : d = [] := by rw [show Y2T 8 = 0 from rfl] at hk; exact List.eq_nil_of_length_eq_zero (by omega)
   subst hd0
   have hl := h8 rfl
   cases c with
   | nil => simp at hl
   | cons t ts =>
    have hsz : ∀ x ∈ t :: ts, x.size ≤ 60 := fun x hx => (Y5v (hall x hx)).2
    have htz := hsz t (List.mem_cons_self ..)
    have h60 : (((⟨#[33, 40]⟩ : ByteArray) ++ (⟨#[60]⟩ : ByteArray)) ++ t ++ (⟨#[62]⟩ : ByteArray)).size = 2 + 1 + t.size + 1 := by
     rw [Y25, Y25, Y25]; rfl
    simp only [List.length_cons] at hl
    obtain ⟨r, er, hr⟩ := Y5e ⟨8, ⟨#[]⟩, t :: ts, []⟩ hsz ts.length 1 Z1K (by omega) Z1K (((⟨#[33, 40]⟩ : ByteArray) ++ (⟨#[60]⟩ : ByteArray)) ++ t ++ (⟨#[62]⟩ : ByteArray)) (by rw [h60]; omega)
    have hlist : r.data.toList = 33 :: 40 :: notI 0 t ts := by
     rw [hr, Y2P, Y2P, Y2P]
     simp [notI, bl]
    have hjl : ∀ (ts : List ByteArray) (t : ByteArray), (∀ x ∈ t :: ts, x.size ≤ 60) → (Y3s [62, 124, 60] (t :: ts)).length ≤ 63 * (ts.length + 1) := by
     intro ts
     induction ts with
     | nil => intro t h; have := h t (List.mem_cons_self ..); simp only [Y3s, List.length_nil]; rw [Y3p]; omega
     | cons u ts ih =>
      intro t h
      have h1 := h t (List.mem_cons_self ..)
      have h2 := ih u (fun x hx => h x (List.mem_cons_of_mem _ hx))
      simp only [Y3s, List.length_append, List.length_cons, List.length_nil]
      rw [Y3p]
      omega
    have hj := hjl ts t hsz
    have hsep : (⟨#[62, 124, 60]⟩ : ByteArray).data.toList = [62, 124, 60] := rfl
    refine ⟨_, r, .not hall, Ev.up ?_, Ev.up ?_, by rw [hlist]; simp [bl], ?_⟩
    ·simp only [Y4P, YK.f, if_neg (show ¬ (8 : Int) = 1 by decide), if_neg (show ¬ (8 : Int) = 2 by decide), if_neg (show ¬ (8 : Int) = 3 by decide), if_neg (show ¬ (8 : Int) = 4 by decide), if_neg (show ¬ (8 : Int) = 5 by decide), if_neg (show ¬ (8 : Int) = 6 by decide), if_neg (show ¬ (8 : Int) = 7 by decide)]
     unfold strings_Join.f
     have hok : Y5P (t :: ts) ⟨#[62, 124, 60]⟩ = true := by
      unfold Y5P
      simp only [Bool.and_eq_true, decide_eq_true_eq, List.all_eq_true]
      refine ⟨⟨Z1K, fun x hx => by have := hsz x hx; omega⟩, by decide⟩
     have hjs : (⟨(Y3s [62, 124, 60] (t :: ts)).toArray⟩ : ByteArray).size = (Y3s [62, 124, 60] (t :: ts)).length := by rw [← Y3p]
     rw [if_pos hok, hsep]
     simp only [Option.bind_some]
     rw [if_pos (by rw [hjs]; omega), if_pos (by rw [hjs]; omega)]
     have : (((⟨#[33, 40, 60]⟩ : ByteArray) ++ (⟨(Y3s [62, 124, 60] (t :: ts)).toArray⟩ : ByteArray)) ++ (⟨#[62, 41]⟩ : ByteArray)) = r := by
      apply Y52
      rw [hlist, Y2P, Y2P, ← Y5w]
      simp
     rw [this]
     exact Z1i
    ·simp only [Y4Q, Yg.f, if_neg (show ¬ (8 : Int) = 1 by decide), if_neg (show ¬ (8 : Int) = 2 by decide), if_neg (show ¬ (8 : Int) = 3 by decide), if_neg (show ¬ (8 : Int) = 4 by decide), if_true]
     refine Ev.up ?_
     have r0 : Y39 ByteArray.empty (t :: ts) (0 : Int) = t := rfl
     have e2 : (⟨#[33, 40]⟩ : ByteArray).size = 2 := rfl
     have e0 : wrap64 ((0 : Int) + 1) = ((1 : Nat) : Int) := by unfold wrap64; omega
     simp only [Yg.l0, if_pos (show (0 : Int) < ((t :: ts).length : Int) by simp only [List.length_cons]; omega), if_neg (show ¬ (0 : Int) > 0 by decide), if_pos (show (0 : Int) ≤ 0 by decide), r0, if_pos (show (⟨#[33, 40]⟩ : ByteArray).size + 1 ≤ 9223372036854775807 by omega), if_pos (show (⟨#[33, 40]⟩ : ByteArray).size + 1 + t.size ≤ 9223372036854775807 by omega), if_pos (show (⟨#[33, 40]⟩ : ByteArray).size + 1 + t.size + 1 ≤ 9223372036854775807 by omega), e0]
     exact er
    ·have hrs : r.size = r.data.toList.length := (Y3p r).symm
     rw [hlist] at hrs
     rw [← Y5w] at hrs
     simp only [List.length_cons, List.length_append, List.length_nil] at hrs
     omega
  have hc0 : c = [] := h80 a8
  subst hc0
  by_cases a34 : a = 3 ∨ a = 4
  ·have hd2 : d.length = 2 := by rcases a34 with rfl | rfl <;> (first | rw [show Y2T 3 = 2 from rfl] at hk | rw [show Y2T 4 = 2 from rfl] at hk) <;> omega
   match d, hd2 with
   | [q1, q2], _ =>
    obtain ⟨f1, t1, g1, i1, j1, l1, s1⟩ := hin q1 (by simp)
    obtain ⟨f2, t2, g2, i2, j2, l2, s2⟩ := hin q2 (by simp)
    have r0 : Yc [q1, q2] 0 = q1 := rfl
    have r1 : Yc [q1, q2] 1 = q2 := rfl
    have p0 : (0 : Int) < (([q1, q2] : List S37).length : Int) := by simp
    have p1 : (1 : Int) < (([q1, q2] : List S37).length : Int) := by simp
    rcases a34 with rfl | rfl
    ·refine ⟨_, (t1 ++ (⟨#[47]⟩ : ByteArray)) ++ t2, .two (Or.inl ⟨rfl, rfl⟩) g1 g2, Ev.up ?_, Ev.up ?_, ?_, ?_⟩
     ·simp only [Y4P, YK.f, if_neg (show ¬ (3 : Int) = 1 by decide), if_neg (show ¬ (3 : Int) = 2 by decide), if_true, if_pos p0, if_pos p1, r0, r1]
      refine Ev.bind i1 ?_
      simp only [if_pos (show t1.size + 1 ≤ 9223372036854775807 by omega)]
      refine Ev.bind i2 ?_
      simp only [if_pos (show t1.size + 1 + t2.size ≤ 9223372036854775807 by omega)]
      exact Z1i
     ·simp only [Y4Q, Yg.f, if_neg (show ¬ (3 : Int) = 1 by decide), if_neg (show ¬ (3 : Int) = 2 by decide), if_true, if_pos p0, if_pos p1, r0, r1]
      refine Ev.bind j1 ?_
      simp only [if_pos (show t1.size + 1 ≤ 9223372036854775807 by omega)]
      refine Ev.bind j2 ?_
      simp only [if_pos (show t1.size + 1 + t2.size ≤ 9223372036854775807 by omega)]
      exact Z1i
     ·rw [Y2P, Y2P, l1, l2]; simp [bl]
     ·rw [Y25, Y25]
      have e1 : (⟨#[47]⟩ : ByteArray).size = 1 := rfl
      omega
    ·refine ⟨_, (t1 ++ (⟨#[124]⟩ : ByteArray)) ++ t2, .two (Or.inr ⟨rfl, rfl⟩) g1 g2, Ev.up ?_, Ev.up ?_, ?_, ?_⟩
     ·simp only [Y4P, YK.f, if_neg (show ¬ (4 : Int) = 1 by decide), if_neg (show ¬ (4 : Int) = 2 by decide), if_neg (show ¬ (4 : Int) = 3 by decide), if_true, if_pos p0, if_pos p1, r0, r1]
      refine Ev.bind i1 ?_
      simp only [if_pos (show t1.size + 1 ≤ 9223372036854775807 by omega)]
      refine Ev.bind i2 ?_
      simp only [if_pos (show t1.size + 1 + t2.size ≤ 9223372036854775807 by omega)]
      exact Z1i
     ·simp only [Y4Q, Yg.f, if_neg (show ¬ (4 : Int) = 1 by decide), if_neg (show ¬ (4 : Int) = 2 by decide), if_neg (show ¬ (4 : Int) = 3 by decide), if_true, if_pos p0, if_pos p1, r0, r1]
      refine Ev.bind j1 ?_
      simp only [if_pos (show t1.size + 1 ≤ 9223372036854775807 by omega)]
      refine Ev.bind j2 ?_
      simp only [if_pos (show t1.size + 1 + t2.size ≤ 9223372036854775807 by omega)]
      exact Z1i
     ·rw [Y2P, Y2P, l1, l2]; simp [bl]
     ·rw [Y25, Y25]
      have e1 : (⟨#[124]⟩ : ByteArray).size = 1 := rfl
      omega
  by_cases a27 : a = 2 ∨ a = 5 ∨ a = 6 ∨ a = 7
  ·have hd1 : d.length = 1 := by
    have : Y2T a = 1 := by rcases a27 with rfl | rfl | rfl | rfl <;> rfl
    omega
   match d, hd1 with
   | [q1], _ =>
    obtain ⟨f1, t1, g1, i1, j1, l1, s1⟩ := hin q1 (by simp)
    have r0 : Yc [q1] 0 = q1 := rfl
    have p0 : (0 : Int) < (([q1] : List S37).length : Int) := by simp
    rcases a27 with rfl | a57
    ·refine ⟨_, (⟨#[94]⟩ : ByteArray) ++ t1, .up g1, Ev.up ?_, Ev.up ?_, ?_, ?_⟩
     ·simp only [Y4P, YK.f, if_neg (show ¬ (2 : Int) = 1 by decide), if_true, if_pos p0, r0]
      refine Ev.bind i1 ?_
      simp only [if_pos (show 1 + t1.size ≤ 9223372036854775807 by omega)]
      exact Z1i
     ·simp only [Y4Q, Yg.f, if_neg (show ¬ (2 : Int) = 1 by decide), if_true, if_pos p0, r0]
      refine Ev.bind j1 ?_
      simp only [if_pos (show 1 + t1.size ≤ 9223372036854775807 by omega)]
      exact Z1i
     ·rw [Y2P, l1]; simp [bl]
     ·rw [Y25]
      have e1 : (⟨#[94]⟩ : ByteArray).size = 1 := rfl
      omega
    ·have mk : ∀ (c : UInt8), (a = 5 ∧ c = 42 ∨ a = 6 ∧ c = 43 ∨ a = 7 ∧ c = 63) → Ev (Y4P ⟨a, ⟨#[]⟩, [], [q1]⟩) (t1 ++ ⟨#[c]⟩) → Ev (Y4Q ⟨a, ⟨#[]⟩, [], [q1]⟩) (t1 ++ ⟨#[c]⟩) → Shows ⟨a, ⟨#[]⟩, [], [q1]⟩ (1000 * (4 * B)) := by
      intro c hc e1 e2
      refine ⟨_, _, .many hc g1, e1, e2, by rw [Y2P, l1]; simp [bl], ?_⟩
      rw [Y25]
      have e1 : (⟨#[c]⟩ : ByteArray).size = 1 := rfl
      omega
     rcases a57 with rfl | rfl | rfl
     ·refine mk 42 (Or.inl ⟨rfl, rfl⟩) (Ev.up ?_) (Ev.up ?_)
      ·simp only [Y4P, YK.f, if_neg (show ¬ (5 : Int) = 1 by decide), if_neg (show ¬ (5 : Int) = 2 by decide), if_neg (show ¬ (5 : Int) = 3 by decide), if_neg (show ¬ (5 : Int) = 4 by decide), if_true, if_pos p0, r0]
       refine Ev.bind i1 ?_
       simp only [if_pos (show t1.size + 1 ≤ 9223372036854775807 by omega)]
       exact Z1i
      ·simp only [Y4Q, Yg.f, if_neg (show ¬ (5 : Int) = 1 by decide), if_neg (show ¬ (5 : Int) = 2 by decide), if_neg (show ¬ (5 : Int) = 3 by decide), if_neg (show ¬ (5 : Int) = 4 by decide), if_neg (show ¬ (5 : Int) = 8 by decide), if_pos p0, r0]
       refine Ev.bind j1 ?_
       have e1 : (⟨#[42]⟩ : ByteArray).size = 1 := rfl
       simp only [Y1c.f, if_true, Option.bind_some, if_pos (show t1.size + (⟨#[42]⟩ : ByteArray).size ≤ 9223372036854775807 by omega)]
       exact Z1i
     ·refine mk 43 (Or.inr (Or.inl ⟨rfl, rfl⟩)) (Ev.up ?_) (Ev.up ?_)
      ·simp only [Y4P, YK.f, if_neg (show ¬ (6 : Int) = 1 by decide), if_neg (show ¬ (6 : Int) = 2 by decide), if_neg (show ¬ (6 : Int) = 3 by decide), if_neg (show ¬ (6 : Int) = 4 by decide), if_neg (show ¬ (6 : Int) = 5 by decide), if_true, if_pos p0, r0]
       refine Ev.bind i1 ?_
       simp only [if_pos (show t1.size + 1 ≤ 9223372036854775807 by omega)]
       exact Z1i
      ·simp only [Y4Q, Yg.f, if_neg (show ¬ (6 : Int) = 1 by decide), if_neg (show ¬ (6 : Int) = 2 by decide), if_neg (show ¬ (6 : Int) = 3 by decide), if_neg (show ¬ (6 : Int) = 4 by decide), if_neg (show ¬ (6 : Int) = 8 by decide), if_pos p0, r0]
       refine Ev.bind j1 ?_
       have e1 : (⟨#[43]⟩ : ByteArray).size = 1 := rfl
       simp only [Y1c.f, if_neg (show ¬ (6 : Int) = 5 by decide), if_true, Option.bind_some, if_pos (show t1.size + (⟨#[43]⟩ : ByteArray).size ≤ 9223372036854775807 by omega)]
       exact Z1i
     ·refine mk 63 (Or.inr (Or.inr ⟨rfl, rfl⟩)) (Ev.up ?_) (Ev.up ?_)
      ·simp only [Y4P, YK.f, if_neg (show ¬ (7 : Int) = 1 by decide), if_neg (show ¬ (7 : Int) = 2 by decide), if_neg (show ¬ (7 : Int) = 3 by decide), if_neg (show ¬ (7 : Int) = 4 by decide), if_neg (show ¬ (7 : Int) = 5 by decide), if_neg (show ¬ (7 : Int) = 6 by decide), if_true, if_pos p0, r0]
       refine Ev.bind i1 ?_
       simp only [if_pos (show t1.size + 1 ≤ 9223372036854775807 by omega)]
       exact Z1i
      ·simp only [Y4Q, Yg.f, if_neg (show ¬ (7 : Int) = 1 by decide), if_neg (show ¬ (7 : Int) = 2 by decide), if_neg (show ¬ (7 : Int) = 3 by decide), if_neg (show ¬ (7 : Int) = 4 by decide), if_neg (show ¬ (7 : Int) = 8 by decide), if_pos p0, r0]
       refine Ev.bind j1 ?_
       have e1 : (⟨#[63]⟩ : ByteArray).size = 1 := rfl
       simp only [Y1c.f, if_neg (show ¬ (7 : Int) = 5 by decide), if_neg (show ¬ (7 : Int) = 6 by decide), Option.bind_some, if_pos (show t1.size + (⟨#[63]⟩ : ByteArray).size ≤ 9223372036854775807 by omega)]
       exact Z1i
  ·exfalso
   have : Y2T a = -1 := by simp only [not_or] at a34 a27; simp [Y2T, a1, a8, a34, a27]
   omega
theorem shows0 {p : S37} (h : May 0 p) : ∃ f t, Rd false p f ∧ Ev (Y4P p) t ∧ Ev (Y4Q p) t ∧ t.data.toList = f 0 ∧ t.size ≤ 4096000 := by
 obtain ⟨f, t, h1, h2, h3, h4, h5⟩ := shows h 6 rfl
 exact ⟨f, t, h1, h2, h3, h4, Nat.le_trans h5 (by decide)⟩
theorem and1023 (n : Int) : Go.bits .and .i64 n 1023 = n % 1024 := by
 have h127 : (BitVec.ofInt 64 1023).toNat = 2 ^ 10 - 1 := by decide
 have key : (BitVec.ofInt 64 n &&& BitVec.ofInt 64 1023).toNat = (n % ((2 ^ 64 : Nat) : Int)).toNat % 2 ^ 10 := by
  rw [BitVec.toNat_and, BitVec.toNat_ofInt, h127, Nat.and_two_pow_sub_one_eq_mod]
 show IntKind.i64.wrap ((BitVec.ofInt 64 n &&& BitVec.ofInt 64 1023).toNat : Nat) = n % 1024
 rw [key, IntKind.wrap_i64]
 omega
theorem law_cut (p : S37) (x1 : Int) (x2 : ByteArray) : ∃ k, triviumlaw12_QueryCut.f k p.f0 p.f1 p.f2 p.f3 x1 x2 = some true := by
 refine Ev.rounds (g := fun k => triviumlaw12_QueryCut.f k p.f0 p.f1 p.f2 p.f3 x1 x2) ?_
 unfold triviumlaw12_QueryCut.f
 obtain ⟨r1, b1, s1⟩ := big_all p 0 (by omega)
 have yes : Ev (fun k => triviumlaw12_QueryCut.j0 k x1 x2 true p.f0 p.f1 p.f2 p.f3) true := Ev.up (by simp only [triviumlaw12_QueryCut.j0, if_true]; exact Ev.now _)
 refine Ev.bind b1 ?_
 cases r1 with
 | true => simp only [if_true]; exact yes
 | false =>
  simp only [Bool.false_eq_true, if_false]
  have hp := (s1 rfl).2
  obtain ⟨b, i1, i2, i3⟩ := is_path hp
  refine Ev.bind i2 ?_
  cases b with
  | false => simp only [Bool.false_eq_true, if_false]; exact yes
  | true =>
   simp only [if_true]
   by_cases h20 : (x2.size : Int) > 20
   ·simp only [decide_eq_true h20]; exact yes
   simp only [decide_eq_false h20]
   obtain ⟨f, t, hr, e1, e2, ht, hz⟩ := shows0 (i3 rfl)
   refine Ev.up ?_
   simp only [triviumlaw12_QueryCut.j0, Bool.false_eq_true, if_false]
   refine Ev.bind e2 ?_
   have hw : wrap64 ((t.size : Int) + 1) = (t.size : Int) + 1 := by unfold wrap64; omega
   simp only [hw, and1023]
   have hc0 : 0 ≤ Int.tmod (x1 % 1024) ((t.size : Int) + 1) := Int.tmod_nonneg _ (by omega)
   have hc1 : Int.tmod (x1 % 1024) ((t.size : Int) + 1) < (t.size : Int) + 1 := Int.tmod_lt_of_pos _ (by omega)
   generalize Int.tmod (x1 % 1024) ((t.size : Int) + 1) = c at hc0 hc1
   simp only [if_neg (show ¬ (t.size : Int) + 1 = 0 by omega), if_pos hc0, if_pos (show c ≤ (t.size : Int) by omega), if_pos (show c.toNat + x2.size ≤ 9223372036854775807 by omega)]
   generalize t.extract 0 c.toNat ++ x2 = s
   obtain ⟨a, ha⟩ := Y6e s
   obtain ⟨r, h1, hr1⟩ := path_i s ha
   obtain ⟨r', h2, hr2⟩ := path_r s ha
   have hx : r = r' := by cases a <;> (simp only [Ans.is] at hr1 hr2; rw [hr1, hr2])
   subst hx
   refine Ev.bind h1 (Ev.bind h2 ?_)
   simp only [if_true]
   exact Ev.bind known12 (Ev.now _)
end Go.Proofs.YtbpbfboaofkpaaaDoor.Print
end
section
set_option linter.unusedVariables false
namespace Go.Proofs.YtbpbfboaofkpaaaDoor
open Go.ChangeShapes Go.WideShapes Go.ChangeAt Go.RowKit
open Go.ChangeMaps (open_string shut_string)
set_option maxRecDepth 100000 in
theorem Y4M (os : Os) (started : os.Started) (H : Type) (enc : TypeId × Value → H) :
  ReturnsInHanded {} Tryd.checked os 9 .any (fun w args => (Rows.queryCutSpec.pre enc Tryd.prog Tryd.f9 [] false w args ∧ laidMetH Tryd.prog laid2 w) ∧ sizedMet enc Tryd.prog Tryd.f9 (OpenSpec.ofChange Rows.queryCutSpec) false w args)
   (Rows.queryCutSpec.post enc Tryd.prog Tryd.f9 false true false false) := by
 refine Y5X (C := Tryd.checked) (X := fun w _ => laidMetH Tryd.prog laid2 w) (fun _ _ _ hh h => h.of_heap hh) own started Z4 Tryd.func9
  (ChangeSpec.witness_at (enc := enc) (C := Tryd.checked) (os := os) (X := fun w _ => laidMetH Tryd.prog laid2 w) false (Y5Q os) #[.agg #[.int .i64 0, .string ByteArray.empty, .slice none 0 0, .slice none 0 0], .int .i64 0, .string ByteArray.empty] 8 rfl Z4 Z4 Z4 Z4 Z4 (Y5x os _)) ?_
 intro W base args ds gs before hval0 hW hL hsh
 have hval : ∀ (j : Nat) t v, Tryd.f9.params[j]? = some t → args[j]? = some v → Value.okWide Tryd.prog W .any base t v := hval0
 have hW' := hW
 obtain ⟨p, q, hA0, hV, rfl, hfz, hnd⟩ := hW
 have hA : DataW.TrodAll enc Tryd.prog W 0 (fun _ => true) true Tryd.f9.params.toList args.toList ds p := hA0
 rw [Tryd.params9] at hA hval
 obtain ⟨v0, vs0, d0, ds0, p0, q0, hargs, rfl, rfl, h0, r0⟩ := trodAll_cons hA
 obtain ⟨v1, vs1, d1, ds1, p1, q1, rfl, rfl, rfl, h1, r1⟩ := trodAll_cons r0
 obtain ⟨v2, vs2, d2, ds2, p2, q2, rfl, rfl, rfl, h2, r2⟩ := trodAll_cons r1
 obtain ⟨rfl, rfl, rfl⟩ := trodAll_nil r2
 obtain rfl : args = #[v0, v1, v2] := by cases args; simp_all
 obtain ⟨rfl, rfl⟩ := trodVars_none hV
 have k0 := h0
 have lt0 : ∀ x ∈ p0, x.block < W.heap.size := by obtain ⟨m, hm⟩ := k0; exact DataW.trod_lt m _ _ _ hm
 obtain ⟨x0, A0, c0, B0, e0, rfl, g0, t0, u0, w0⟩ := open_path (hval 0 37 v0 rfl rfl) h0
 obtain ⟨a1, rfl, rfl, rfl, w1⟩ := open_int Tryd.underlying3 (hval 1 3 v1 rfl rfl) h1
 obtain ⟨a2, rfl, rfl, rfl, y2⟩ := open_string Tryd.underlying9 (hval 2 9 v2 rfl rfl) h2
 clear hA0 hval0
 obtain ⟨k, hk⟩ := Print.law_cut x0 a1 a2
 refine (Print.triviumlaw12_QueryCut.calls k x0.f0 x0.f1 A0 c0 x0.f2 B0 e0 x0.f3 a1 a2 true W (Y60 hL hsh) t0 g0 w0 u0 hk).mono fun e W' ⟨he, bel⟩ => ?_
 subst he
 exact ⟨_, rfl, _, _, _, [], _, [], hW', trodAll_mk1 (shut_bool Tryd.underlying4 _), (trodAll_cons_mk (Below.trod laidOut Z4 (of_decide_eq_true Z4) k0 bel lt0) (trodAll_cons_mk (shut_int Tryd.underlying3 w1) (trodAll_cons_mk (shut_string Tryd.underlying9 y2) trodAll_mk0))), rfl, bel.frame _, fun h => by cases h⟩
theorem queryCut_holds : Rows.QueryCutSaid :=
 OpenClaim.holds_of_wide 9 Tryd.f9 rfl rfl rfl rfl rfl rfl rfl ⟨rfl, rfl, rfl, rfl, rfl⟩ rfl rfl rfl rfl rfl Z4 Tryd.func9 Z4
  (of_decide_eq_true Z4) (by unfold Func.isWrapper; rw [if_neg (by decide +kernel)]; exact ⟨rfl, rfl⟩)
  (fun os started H enc _ => Y4M os started H enc)
theorem queryCut_card : Rows.QueryCutCardSaid :=
 Claim7.holds_tied_plain_at .later [] [.data, .pinned] true (true, "8dc71fce747bb8b3b218677ae7dbf523581ddbbfb392b53abaf975cea163e82b") false
  queryCut_holds (fun _ h => by cases h) Z4 (fun _ h => by cases h) queryCut_row_tie rfl ⟨rfl, rfl⟩ Z4 rfl
  (fun f fn hf hfn => by
   obtain rfl : f = 9 := Option.some.inj ((show Tryd.prog.funcNamed "trivium/triviumlaw12.QueryCut" = some 9 by kernel_rfl).symm.trans hf) |>.symm
   obtain rfl : fn = Tryd.f9 := (Option.some.inj (Tryd.func9.symm.trans hfn)).symm
   exact ⟨by kernel_rfl, fun j t ht => by
    rw [Tryd.params9] at ht
    rcases j with _ | _ | _ | j
    ·obtain rfl : t = 37 := by simpa using ht.symm
     exact (show Tryd.prog.wantsStandIn 37 = false by kernel_rfl)
    ·obtain rfl : t = 3 := by simpa using ht.symm
     exact (show Tryd.prog.wantsStandIn 3 = false by kernel_rfl)
    ·obtain rfl : t = 9 := by simpa using ht.symm
     exact (show Tryd.prog.wantsStandIn 9 = false by kernel_rfl)
    ·simp at ht⟩)
  Z4
#print axioms queryCut_card
end Go.Proofs.YtbpbfboaofkpaaaDoor
end
