/- QueryBlanks: blanks between change nothing. Conditions: none but the row's own (the two tables of unicode/utf8 as the program lays them). -/
import Derived.Test.YtbpbfboaofkpaaaDoorQaQ5
import Derived.Test.YtbpbfboaofkpaaaDoorCards
import Derived.Test.YtbpbfboaofkpaaaDoorTie
import Derived.SevenTiedAt
import Derived.ChangeMaps5
section
namespace Go.Proofs.YtbpbfboaofkpaaaDoor.Print
open Go.RowKit Go.Proofs.YtbpbfboaofkpaaaDoorW.PrintWords Go.Proofs.YtbpbfboaofkpaaaDoorW.PrintLast Go.Proofs.YtbpbfboaofkpaaaDoorW.PrintMore
attribute [local go_sem] max2_int min2_int max_two min_two max_three min_three max_four min_four
set_option linter.unusedVariables false
set_option linter.unusedSimpArgs false
mutual
def YK.l0 : Nat → Int → ByteArray → Int → Int → Int → Int → ByteArray → List ByteArray → List (S37) → Option (Int × ByteArray × List ByteArray × (List (S37)) × ByteArray × Int × Int × Int)
 | 0, _, _, _, _, _, _, _, _, _ => none
 | k + 1, x1, x1000, x1001, x1002, x1003, x115000, x115001, x115002, x115003 => (YL.f k x1000 x1001 x1002 x1003 124).bind fun bt115 => (if bt115.1 = true then ((YS.f k bt115.2.1 bt115.2.2.1 bt115.2.2.2.1 bt115.2.2.2.2 x1).bind fun bt120 => (YK.l0 k x1 bt120.2.2.2.2.1 bt120.2.2.2.2.2.1 bt120.2.2.2.2.2.2.1 bt120.2.2.2.2.2.2.2 4 (⟨#[]⟩ : ByteArray) ([] : List ByteArray) (([(⟨x115000, x115001, x115002, x115003⟩ : S37), (⟨bt120.1, bt120.2.1, bt120.2.2.1, bt120.2.2.2.1⟩ : S37)] : List (S37))))) else (some (x115000, x115001, x115002, x115003, bt115.2.1, bt115.2.2.1, bt115.2.2.2.1, bt115.2.2.2.2)))
def YK.f : Nat → ByteArray → Int → Int → Int → Int → Option (Int × ByteArray × List ByteArray × (List (S37)) × ByteArray × Int × Int × Int)
 | 0, _, _, _, _, _ => none
 | k + 1, s0_0, s0_1, s0_2, s0_3, a1 => (YS.f k s0_0 s0_1 s0_2 s0_3 a1).bind fun bt102 => (YK.l0 k a1 bt102.2.2.2.2.1 bt102.2.2.2.2.2.1 bt102.2.2.2.2.2.2.1 bt102.2.2.2.2.2.2.2 bt102.1 bt102.2.1 bt102.2.2.1 bt102.2.2.2.1)
def YS.l0 : Nat → Int → ByteArray → Int → Int → Int → Int → ByteArray → List ByteArray → List (S37) → Option (Int × ByteArray × List ByteArray × (List (S37)) × ByteArray × Int × Int × Int)
 | 0, _, _, _, _, _, _, _, _, _ => none
 | k + 1, x1, x1000, x1001, x1002, x1003, x149000, x149001, x149002, x149003 => (YL.f k x1000 x1001 x1002 x1003 47).bind fun bt149 => (if bt149.1 = true then ((YI.f k bt149.2.1 bt149.2.2.1 bt149.2.2.2.1 bt149.2.2.2.2 x1).bind fun bt154 => (YS.l0 k x1 bt154.2.2.2.2.1 bt154.2.2.2.2.2.1 bt154.2.2.2.2.2.2.1 bt154.2.2.2.2.2.2.2 3 (⟨#[]⟩ : ByteArray) ([] : List ByteArray) (([(⟨x149000, x149001, x149002, x149003⟩ : S37), (⟨bt154.1, bt154.2.1, bt154.2.2.1, bt154.2.2.2.1⟩ : S37)] : List (S37))))) else (some (x149000, x149001, x149002, x149003, bt149.2.1, bt149.2.2.1, bt149.2.2.2.1, bt149.2.2.2.2)))
def YS.f : Nat → ByteArray → Int → Int → Int → Int → Option (Int × ByteArray × List ByteArray × (List (S37)) × ByteArray × Int × Int × Int)
 | 0, _, _, _, _, _ => none
 | k + 1, s0_0, s0_1, s0_2, s0_3, a1 => (YI.f k s0_0 s0_1 s0_2 s0_3 a1).bind fun bt136 => (YS.l0 k a1 bt136.2.2.2.2.1 bt136.2.2.2.2.2.1 bt136.2.2.2.2.2.2.1 bt136.2.2.2.2.2.2.2 bt136.1 bt136.2.1 bt136.2.2.1 bt136.2.2.2.1)
def YI.l0 : Nat → ByteArray → Int → Int → Int → Int → ByteArray → List ByteArray → List (S37) → Option (Int × ByteArray × List ByteArray × (List (S37)) × ByteArray × Int × Int × Int)
 | 0, _, _, _, _, _, _, _, _ => none
 | k + 1, x1000, x1001, x1002, x1003, x183000, x183001, x183002, x183003 => (YL.f k x1000 x1001 x1002 x1003 42).bind fun bt183 => (if bt183.1 = true then (YI.l0 k bt183.2.1 bt183.2.2.1 bt183.2.2.2.1 bt183.2.2.2.2 5 (⟨#[]⟩ : ByteArray) ([] : List ByteArray) (([(⟨x183000, x183001, x183002, x183003⟩ : S37)] : List (S37)))) else ((YL.f k bt183.2.1 bt183.2.2.1 bt183.2.2.2.1 bt183.2.2.2.2 43).bind fun bt191 => (if bt191.1 = true then (YI.l0 k bt191.2.1 bt191.2.2.1 bt191.2.2.2.1 bt191.2.2.2.2 6 (⟨#[]⟩ : ByteArray) ([] : List ByteArray) (([(⟨x183000, x183001, x183002, x183003⟩ : S37)] : List (S37)))) else ((YL.f k bt191.2.1 bt191.2.2.1 bt191.2.2.2.1 bt191.2.2.2.2 63).bind fun bt199 => (if bt199.1 = true then (YI.l0 k bt199.2.1 bt199.2.2.1 bt199.2.2.2.1 bt199.2.2.2.2 7 (⟨#[]⟩ : ByteArray) ([] : List ByteArray) (([(⟨x183000, x183001, x183002, x183003⟩ : S37)] : List (S37)))) else (some (x183000, x183001, x183002, x183003, bt199.2.1, bt199.2.2.1, bt199.2.2.2.1, bt199.2.2.2.2)))))))
def YI.f : Nat → ByteArray → Int → Int → Int → Int → Option (Int × ByteArray × List ByteArray × (List (S37)) × ByteArray × Int × Int × Int)
 | 0, _, _, _, _, _ => none
 | k + 1, s0_0, s0_1, s0_2, s0_3, a1 => (YO.f k s0_0 s0_1 s0_2 s0_3 a1).bind fun bt170 => (YI.l0 k bt170.2.2.2.2.1 bt170.2.2.2.2.2.1 bt170.2.2.2.2.2.2.1 bt170.2.2.2.2.2.2.2 bt170.1 bt170.2.1 bt170.2.2.1 bt170.2.2.2.1)
def YO.j0 : Nat → Int → Int → Int → Bool → ByteArray → Int → Int → Int → Option (Int × ByteArray × List ByteArray × (List (S37)) × ByteArray × Int × Int × Int)
 | 0, _, _, _, _, _, _, _, _ => none
 | k + 1, x1, x5, x9, x10, x1000, x1001, x1002, x1003 => if x10 = true then (if x1 ≥ 5 then ((Y17.f x1000 x1001 x1002 x1003 x1001 3).bind fun bt213 => (some (bt213.1, bt213.2.1, bt213.2.2.1, bt213.2.2.2.1, bt213.2.2.2.2.1, bt213.2.2.2.2.2.1, bt213.2.2.2.2.2.2.1, bt213.2.2.2.2.2.2.2))) else (if x5 = 94 then ((YO.f k x1000 (wrap64 (x1001 + 1)) x1002 x1003 (wrap64 (x1 + 1))).bind fun bt225 => (some (2, (⟨#[]⟩ : ByteArray), ([] : List ByteArray), (([(⟨bt225.1, bt225.2.1, bt225.2.2.1, bt225.2.2.2.1⟩ : S37)] : List (S37))), bt225.2.2.2.2.1, bt225.2.2.2.2.2.1, bt225.2.2.2.2.2.2.1, bt225.2.2.2.2.2.2.2))) else ((YK.f k x1000 (wrap64 (x1001 + 1)) x1002 x1003 (wrap64 (x1 + 1))).bind fun bt240 => ((YL.f k bt240.2.2.2.2.1 bt240.2.2.2.2.2.1 bt240.2.2.2.2.2.2.1 bt240.2.2.2.2.2.2.2 41).bind fun bt253 => (if bt253.1 = true then (some (bt240.1, bt240.2.1, bt240.2.2.1, bt240.2.2.2.1, bt253.2.1, bt253.2.2.1, bt253.2.2.2.1, bt253.2.2.2.2)) else ((Y17.f bt253.2.1 bt253.2.2.1 bt253.2.2.2.1 bt253.2.2.2.2 bt253.2.2.1 2).bind fun bt258 => (some (bt258.1, bt258.2.1, bt258.2.2.1, bt258.2.2.2.1, bt258.2.2.2.2.1, bt258.2.2.2.2.2.1, bt258.2.2.2.2.2.2.1, bt258.2.2.2.2.2.2.2)))))))) else (if x9 = 33 then ((Yw.f k x1000 (wrap64 (x1001 + 1)) x1002 x1003).bind fun bt270 => (some (bt270.1, bt270.2.1, bt270.2.2.1, bt270.2.2.2.1, bt270.2.2.2.2.1, bt270.2.2.2.2.2.1, bt270.2.2.2.2.2.2.1, bt270.2.2.2.2.2.2.2))) else ((Ys.f k x1000 x1001 x1002 x1003).bind fun bt282 => (some (1, bt282.1, ([] : List ByteArray), ([] : List (S37)), bt282.2.1, bt282.2.2.1, bt282.2.2.2.1, bt282.2.2.2.2))))
def YO.f : Nat → ByteArray → Int → Int → Int → Int → Option (Int × ByteArray × List ByteArray × (List (S37)) × ByteArray × Int × Int × Int)
 | 0, _, _, _, _, _ => none
 | k + 1, s0_0, s0_1, s0_2, s0_3, a1 => (YE.f k s0_0 s0_1 s0_2 s0_3).bind fun bt208 => (if bt208.1 = 94 then (YO.j0 k a1 bt208.1 bt208.1 (bt208.1 == 94) bt208.2.1 bt208.2.2.1 bt208.2.2.2.1 bt208.2.2.2.2) else (YO.j0 k a1 bt208.1 bt208.1 (bt208.1 == 40) bt208.2.1 bt208.2.2.1 bt208.2.2.2.1 bt208.2.2.2.2))
end
theorem YK.mono_j : ∀ k, (∀ y0 y1 y2 y3 y4, LeO (YK.f k y0 y1 y2 y3 y4) (YK.f (k + 1) y0 y1 y2 y3 y4)) ∧ (∀ y0 y1 y2 y3 y4 y5 y6 y7 y8, LeO (YK.l0 k y0 y1 y2 y3 y4 y5 y6 y7 y8) (YK.l0 (k + 1) y0 y1 y2 y3 y4 y5 y6 y7 y8)) ∧ (∀ y0 y1 y2 y3 y4, LeO (YS.f k y0 y1 y2 y3 y4) (YS.f (k + 1) y0 y1 y2 y3 y4)) ∧ (∀ y0 y1 y2 y3 y4 y5 y6 y7 y8, LeO (YS.l0 k y0 y1 y2 y3 y4 y5 y6 y7 y8) (YS.l0 (k + 1) y0 y1 y2 y3 y4 y5 y6 y7 y8)) ∧ (∀ y0 y1 y2 y3 y4, LeO (YI.f k y0 y1 y2 y3 y4) (YI.f (k + 1) y0 y1 y2 y3 y4)) ∧ (∀ y0 y1 y2 y3 y4 y5 y6 y7, LeO (YI.l0 k y0 y1 y2 y3 y4 y5 y6 y7) (YI.l0 (k + 1) y0 y1 y2 y3 y4 y5 y6 y7)) ∧ (∀ y0 y1 y2 y3 y4, LeO (YO.f k y0 y1 y2 y3 y4) (YO.f (k + 1) y0 y1 y2 y3 y4)) ∧ (∀ y0 y1 y2 y3 y4 y5 y6 y7, LeO (YO.j0 k y0 y1 y2 y3 y4 y5 y6 y7) (YO.j0 (k + 1) y0 y1 y2 y3 y4 y5 y6 y7))
 | 0 => ⟨fun _ _ _ _ _ r h => by simp [YK.f] at h, fun _ _ _ _ _ _ _ _ _ r h => by simp [YK.l0] at h, fun _ _ _ _ _ r h => by simp [YS.f] at h, fun _ _ _ _ _ _ _ _ _ r h => by simp [YS.l0] at h, fun _ _ _ _ _ r h => by simp [YI.f] at h, fun _ _ _ _ _ _ _ _ r h => by simp [YI.l0] at h, fun _ _ _ _ _ r h => by simp [YO.f] at h, fun _ _ _ _ _ _ _ _ r h => by simp [YO.j0] at h⟩
 | k + 1 => by
  obtain ⟨ih0, ih1, ih2, ih3, ih4, ih5, ih6, ih7⟩ := YK.mono_j k
  refine ⟨?_, ?_, ?_, ?_, ?_, ?_, ?_, ?_⟩
  ·intro y0 y1 y2 y3 y4
   unfold YK.f
   exact QM
  ·intro y0 y1 y2 y3 y4 y5 y6 y7 y8
   unfold YK.l0
   exact QM
  ·intro y0 y1 y2 y3 y4
   unfold YS.f
   exact QM
  ·intro y0 y1 y2 y3 y4 y5 y6 y7 y8
   unfold YS.l0
   exact QM
  ·intro y0 y1 y2 y3 y4
   unfold YI.f
   exact QM
  ·intro y0 y1 y2 y3 y4 y5 y6 y7
   unfold YI.l0
   exact QM
  ·intro y0 y1 y2 y3 y4
   unfold YO.f
   exact QM
  ·intro y0 y1 y2 y3 y4 y5 y6 y7
   unfold YO.j0
   exact QM
end Go.Proofs.YtbpbfboaofkpaaaDoor.Print
end
section
set_option linter.unusedVariables false
set_option linter.unusedSimpArgs false
namespace Go.Proofs.YtbpbfboaofkpaaaDoor.Print
open Go.RowKit Go.Shelf Go.Lib Go.Proofs.YtbpbfboaofkpaaaDoorW.PrintWords
def Suf (s : ByteArray) (l : List UInt8) : Prop := ∃ pre, s.data.toList = pre ++ l
def ps (s : ByteArray) (l : List UInt8) : Int := (s.size : Int) - (l.length : Int)
def hd : List UInt8 → Int
 | [] => 0
 | c :: _ => (c.toNat : Int)
def skip : List UInt8 → List UInt8
 | [] => []
 | c :: l => if c = 32 then skip l else c :: l
theorem Suf.tail {s : ByteArray} {c : UInt8} {l : List UInt8} (h : Suf s (c :: l)) : Suf s l := by
 obtain ⟨pre, h⟩ := h
 exact ⟨pre ++ [c], by simpa using h⟩
theorem Suf.app {s : ByteArray} {t l : List UInt8} (h : Suf s (t ++ l)) : Suf s l := by
 obtain ⟨pre, h⟩ := h
 exact ⟨pre ++ t, by simpa using h⟩
theorem Suf.skip {s : ByteArray} : ∀ {l : List UInt8}, Suf s l → Suf s (skip l)
 | [], h => h
 | c :: l, h => by
  unfold Print.skip
  by_cases e : c = 32
  ·rw [if_pos e]; exact Suf.skip h.tail
  ·rw [if_neg e]; exact h
theorem Suf.len {s : ByteArray} {l : List UInt8} (h : Suf s l) : l.length ≤ s.size := by
 obtain ⟨pre, h⟩ := h
 have := congrArg List.length h
 rw [Array.length_toList, List.length_append] at this
 have e : s.size = s.data.size := rfl
 omega
theorem Suf.whole (s : ByteArray) : Suf s s.data.toList := ⟨[], rfl⟩
theorem Y40 (s : ByteArray) : ps s s.data.toList = 0 := by
 unfold ps
 rw [Array.length_toList]
 have e : s.size = s.data.size := rfl
 omega
theorem Suf.ps0 {s : ByteArray} {l : List UInt8} (h : Suf s l) : 0 ≤ ps s l := by
 have := h.len; unfold ps; omega
theorem Y4y (s : ByteArray) : ps s [] = s.size := by simp [ps]
theorem Y3N (s : ByteArray) (c : UInt8) (l : List UInt8) : ps s (c :: l) < s.size := by simp [ps]; omega
theorem ps_le (s : ByteArray) (l : List UInt8) : ps s l ≤ s.size := by unfold ps; omega
theorem Y2k {s : ByteArray} (hs : s.size ≤ 100000000) {c : UInt8} {l : List UInt8} (h : Suf s (c :: l)) : wrap64 (ps s (c :: l) + 1) = ps s l := by
 have := h.len
 simp only [List.length_cons] at this
 unfold ps wrap64
 simp only [List.length_cons]
 omega
theorem Y64 {s : ByteArray} {c : UInt8} {l : List UInt8} (h : Suf s (c :: l)) : bt s (ps s (c :: l)) = (c.toNat : Int) := by
 obtain ⟨pre, h⟩ := h
 have hl := congrArg List.length h
 rw [Array.length_toList, List.length_append, List.length_cons] at hl
 have e : s.size = s.data.size := rfl
 have hp : (ps s (c :: l)).toNat = pre.length := by unfold ps; simp only [List.length_cons]; omega
 have hlt : (ps s (c :: l)).toNat < s.size := by omega
 unfold bt
 rw [dif_pos hlt]
 have hlt2 : (ps s (c :: l)).toNat < s.data.toList.length := by rw [Array.length_toList]; omega
 have : s[(ps s (c :: l)).toNat] = s.data.toList[(ps s (c :: l)).toNat] := rfl
 rw [this]
 simp [h, hp]
theorem Y3s (l : List UInt8) : (skip l).length ≤ l.length := by
 induction l with
 | nil => exact Nat.le_refl _
 | cons c l ih =>
  unfold skip
  split
  ·exact Nat.le_succ_of_le ih
  ·exact Nat.le_refl _
theorem u8_eq {c : UInt8} {n : Nat} (h : n < 256) : ((c.toNat : Int) = (n : Int)) ↔ c = UInt8.ofNat n := by
 constructor
 ·intro e
  apply UInt8.toNat_inj.mp
  rw [UInt8.toNat_ofNat']
  omega
 ·intro e
  rw [e, UInt8.toNat_ofNat']
  omega
theorem Y1I (s : ByteArray) (hs : s.size ≤ 100000000) (o : Int) : ∀ l, Suf s l → Ev (fun k => Yb.f k s (ps s l) 0 o) (hd (skip l), s, ps s (skip l), 0, o)
 | [], h => by
  refine Ev.step (f := fun _ => _) (fun k => ?_) (Ev.now _)
  show Yb.l0 (k + 1) s (ps s []) 0 o = _
  simp only [Yb.l0, if_true]
  rw [Y4y, if_neg (by omega), if_pos (by omega)]
  simp [skip, hd, Y4y]
 | c :: l, h => by
  have b := Y64 h
  by_cases e : c = 32
  ·refine Ev.step (f := fun k => Yb.f k s (ps s l) 0 o) (fun k => ?_) ?_
   ·show Yb.l0 (k + 1) s (ps s (c :: l)) 0 o = Yb.l0 k s (ps s l) 0 o
    simp only [Yb.l0, if_true]
    rw [if_pos (Y3N s c l), if_pos h.ps0, b, if_pos (by rw [e]; rfl), Y2k hs h]
   ·have := Y1I s hs o l h.tail
    unfold skip; rw [if_pos e]; exact this
  ·refine Ev.step (f := fun _ => _) (fun k => ?_) (Ev.now _)
   show Yb.l0 (k + 1) s (ps s (c :: l)) 0 o = _
   simp only [Yb.l0, if_true]
   have hl := Y3N s c l
   rw [if_pos hl, if_pos h.ps0, b, if_neg (by intro e2; exact e ((u8_eq (n := 32) (by omega)).mp e2)), if_neg (by omega)]
   unfold skip; rw [if_neg e]; rfl
theorem next_e (s : ByteArray) (a e o : Int) (he : e ≠ 0) : Ev (fun k => Yb.f k s a e o) (0, s, a, e, o) := by
 refine Ev.step (f := fun _ => _) (fun k => ?_) (Ev.now _)
 show Yb.l0 (k + 1) s a e o = _
 simp only [Yb.l0]
 rw [if_neg he]
theorem Y4d {s : ByteArray} (hs : s.size ≤ 100000000) (o : Int) {l : List UInt8} {c : UInt8} {r : List UInt8} (h : Suf s l) (e : skip l = c :: r) (n : Int) (hn : n = (c.toNat : Int)) :
  Ev (fun k => YM.f k s (ps s l) 0 o n) (true, s, ps s r, 0, o) := by
 have hq := h.skip
 rw [e] at hq
 have h1 := Y1I s hs o l h
 rw [e] at h1
 refine Ev.bind h1 (Ev.congr (fun k => ?_) (Ev.now _))
 show (if (c.toNat : Int) = n then _ else _) = _
 rw [if_pos hn.symm, Y2k hs hq]
theorem is_no {s : ByteArray} (hs : s.size ≤ 100000000) (o : Int) {l : List UInt8} (h : Suf s l) (n : Int) (hn : hd (skip l) ≠ n) :
  Ev (fun k => YM.f k s (ps s l) 0 o n) (false, s, ps s (skip l), 0, o) := by
 refine Ev.bind (Y1I s hs o l h) (Ev.congr (fun k => ?_) (Ev.now _))
 show (if hd (skip l) = n then _ else _) = _
 rw [if_neg hn]
theorem is_e (s : ByteArray) (a e o n : Int) (he : e ≠ 0) (hn : n ≠ 0) : Ev (fun k => YM.f k s a e o n) (false, s, a, e, o) := by
 refine Ev.bind (next_e s a e o he) (Ev.congr (fun k => ?_) (Ev.now _))
 show (if (0 : Int) = n then _ else _) = _
 rw [if_neg (fun q => hn q.symm)]
theorem Y2X (s : ByteArray) (a o b c : Int) : Yk.f s a 0 o b c = some (0, ⟨#[]⟩, [], [], s, a, c, b) := by
 unfold Yk.f; rw [if_pos rfl]
theorem fails_e (s : ByteArray) (a e o b c : Int) (he : e ≠ 0) : Yk.f s a e o b c = some (0, ⟨#[]⟩, [], [], s, a, e, o) := by
 unfold Yk.f; rw [if_neg he]
theorem Y5Z {s : ByteArray} (hs : s.size ≤ 100000000) (o : Int) {l : List UInt8} {c : UInt8} {r : List UInt8} (h : Suf s l) (e : skip l = c :: r) (n : Int) (hn : n = (c.toNat : Int)) :
  Ev (fun k => YN.f k s (ps s l) 0 o n) (s, ps s r, 0, o) :=
 Ev.bind (Y4d hs o h e n hn) (Ev.congr (fun k => by simp) (Ev.now _))
theorem must_no {s : ByteArray} (hs : s.size ≤ 100000000) (o : Int) {l : List UInt8} (h : Suf s l) (n : Int) (hn : hd (skip l) ≠ n) :
  Ev (fun k => YN.f k s (ps s l) 0 o n) (s, ps s (skip l), 2, ps s (skip l)) :=
 Ev.bind (is_no hs o h n hn) (Ev.congr (fun k => by simp [Y2X]) (Ev.now _))
theorem must_e (s : ByteArray) (a e o n : Int) (he : e ≠ 0) (hn : n ≠ 0) : Ev (fun k => YN.f k s a e o n) (s, a, e, o) :=
 Ev.bind (is_e s a e o n he hn) (Ev.congr (fun k => by simp [fails_e _ _ _ _ _ _ he]) (Ev.now _))
def Y4X : List UInt8 → Option (List UInt8 × List UInt8)
 | [] => none
 | c :: l => if c = 62 then some ([], l) else (Y4X l).map fun x => (c :: x.1, x.2)
theorem Y3b : ∀ {l t r}, Y4X l = some (t, r) → l = t ++ 62 :: r ∧ ¬ (62 : UInt8) ∈ t
 | [], t, r, h => by simp [Y4X] at h
 | c :: l, t, r, h => by
  unfold Y4X at h
  by_cases e : c = 62
  ·rw [if_pos e] at h
   simp only [Option.some.injEq, Prod.mk.injEq] at h
   obtain ⟨rfl, rfl⟩ := h
   simp [e]
  ·rw [if_neg e] at h
   cases hu : Y4X l with
   | none => rw [hu] at h; cases h
   | some x =>
    rw [hu] at h
    simp only [Option.map_some, Option.some.injEq, Prod.mk.injEq] at h
    obtain ⟨rfl, rfl⟩ := h
    obtain ⟨h1, h2⟩ := Y3b (t := x.1) (r := x.2) hu
    refine ⟨by rw [h1]; simp, ?_⟩
    simp only [List.mem_cons, not_or]
    exact ⟨fun q => e q.symm, h2⟩
theorem upGt_mk : ∀ (t r : List UInt8), ¬ (62 : UInt8) ∈ t → Y4X (t ++ 62 :: r) = some (t, r)
 | [], r, h => by simp [Y4X]
 | c :: t, r, h => by
  simp only [List.mem_cons, not_or] at h
  simp only [List.cons_append]
  unfold Y4X
  rw [if_neg (fun q => h.1 q.symm), upGt_mk t r h.2]
  rfl
theorem Y5R : ∀ l, Lib.index l [62] = (match Y4X l with | some (t, _) => (t.length : Int) | none => -1)
 | [] => by simp [Lib.index, Y4X]
 | c :: l => by
  unfold Lib.index Y4X
  by_cases e : c = 62
  ·subst e; simp [List.isPrefixOf]
  ·have e2 : ([62] : List UInt8).isPrefixOf (c :: l) = false := by
    simp only [List.isPrefixOf, Bool.and_true, beq_eq_false_iff_ne]; exact fun q => e q.symm
   rw [if_neg e, e2, Y5R l]
   cases Y4X l with
   | none => rfl
   | some x =>
    have : ((x.1.length : Int) == -1) = false := by rw [beq_eq_false_iff_ne]; omega
    simp [this]
theorem cut_gt (l : List UInt8) : Lib.cut l [62] = (match Y4X l with | some (t, r) => (t, r, true) | none => (l, [], false)) := by
 unfold Lib.cut
 rw [Y5R]
 cases h : Y4X l with
 | none => simp
 | some x =>
  obtain ⟨t, r⟩ := x
  obtain ⟨h1, _⟩ := Y3b h
  have : (0 : Int) ≤ (t.length : Int) := by omega
  simp only [this, if_true]
  rw [h1]
  simp
def Y3Y (l : List UInt8) : Option (ByteArray × List UInt8) :=
 match skip l with
 | [] => none
 | c :: r => if c = 60 then
   match Y4X r with
   | none => none
   | some (t, l1) => if Y2O ⟨t.toArray⟩ then some (⟨t.toArray⟩, l1) else none
  else none
theorem Y55 {l : List UInt8} {t : ByteArray} {l1 : List UInt8} (h : Y3Y l = some (t, l1)) : ∃ r, skip l = 60 :: r ∧ Y4X r = some (t.data.toList, l1) ∧ Y2O t = true := by
 unfold Y3Y at h
 cases hk : skip l with
 | nil => rw [hk] at h; cases h
 | cons c r =>
  rw [hk] at h
  simp only at h
  by_cases e : c = 60
  ·rw [if_pos e] at h
   cases hu : Y4X r with
   | none => rw [hu] at h; cases h
   | some x =>
    rw [hu] at h
    simp only at h
    by_cases hi : Y2O ⟨x.1.toArray⟩ = true
    ·rw [if_pos hi] at h
     simp only [Option.some.injEq, Prod.mk.injEq] at h
     obtain ⟨rfl, rfl⟩ := h
     exact ⟨r, by rw [e], hu, hi⟩
    ·rw [if_neg hi] at h; cases h
  ·rw [if_neg e] at h; cases h
theorem Y5Q {s : ByteArray} {r : List UInt8} (h : Suf s r) : (s.extract (ps s r).toNat s.size).data.toList = r := by
 obtain ⟨pre, h⟩ := h
 have hl := congrArg List.length h
 rw [Array.length_toList, List.length_append] at hl
 have e : s.size = s.data.size := rfl
 have hp : (ps s r).toNat = pre.length := by unfold ps; omega
 rw [hp, ByteArray.data_extract, Array.toList_extract, h]
 rw [List.extract_eq_take_drop]
 simp
 apply List.take_of_length_le
 omega
theorem Y50 {a b : ByteArray} (h : a.data.toList = b.data.toList) : a = b := by
 cases a; cases b
 congr
 exact Array.toList_inj.mp h
theorem Y31 (a : ByteArray) : a.data.toList.length = a.size := by rw [Array.length_toList]; rfl
theorem Y3x {s : ByteArray} (hs : s.size ≤ 100000000) (o : Int) {l : List UInt8} {t : ByteArray} {l1 : List UInt8} (h : Suf s l) (hi : Y3Y l = some (t, l1)) :
  Ev (fun k => YJ.f k s (ps s l) 0 o) (t, s, ps s l1, 0, o) ∧ Suf s l1 ∧ l1.length + 2 ≤ l.length := by
 obtain ⟨r, hk, hu, hb⟩ := Y55 hi
 have hq := h.skip
 have hle := Y3s l
 rw [hk] at hq hle
 obtain ⟨hr, hn⟩ := Y3b hu
 have hl1 : Suf s l1 := by have := hq.tail; rw [hr] at this; exact (this.app).tail
 refine ⟨?_, hl1, ?_⟩
 ·refine Ev.bind (by have := Y1I s hs o l h; rw [hk] at this; exact this) (Ev.congr (f := fun _ => _) (fun k => ?_) (Ev.now _))
  have hlen := hq.len
  have hrl := congrArg List.length hr
  rw [List.length_append, List.length_cons, Y31] at hrl
  simp only [List.length_cons] at hlen
  have h60 : hd (60 :: r) = 60 := rfl
  show (if hd (60 :: r) = 60 then _ else _) = _
  rw [if_pos h60]
  simp only [Y2k hs hq]
  rw [if_pos hq.tail.ps0, if_pos (ps_le s r)]
  unfold strings_Cut.f
  have hx := Y5Q hq.tail
  have hxs : (s.extract (ps s r).toNat s.size).size = r.length := by rw [← Y31, hx]
  rw [if_pos (by unfold Y5W; rw [hxs]; exact decide_eq_true (by omega)), hx]
  have e62 : (⟨#[62]⟩ : ByteArray).data.toList = [62] := rfl
  rw [e62, cut_gt, hu]
  simp only [Option.bind_some, if_true]
  unfold Y14.f
  have et : (⟨t.data.toList.toArray⟩ : ByteArray) = t := Y50 (by simp)
  rw [et, if_pos Z1X, hb]
  simp only [Option.bind_some, if_true]
  have hw : wrap64 (ps s (60 :: r) + wrap64 ((t.size : Int) + 2)) = ps s l1 := by
   unfold ps wrap64
   simp only [List.length_cons]
   omega
  rw [hw]
 ·have := congrArg List.length hr
  rw [List.length_append] at this
  simp only [List.length_cons] at this hle
  omega
theorem Y3Z {s : ByteArray} (hs : s.size ≤ 100000000) (o : Int) {l : List UInt8} (h : Suf s l) (hi : Y3Y l = none) :
  Ev (fun k => YJ.f k s (ps s l) 0 o) (⟨#[]⟩, s, ps s (skip l), 2, ps s (skip l)) := by
 have hq := h.skip
 refine Ev.bind (Y1I s hs o l h) (Ev.congr (f := fun _ => _) (fun k => ?_) (Ev.now _))
 show (if hd (skip l) = 60 then _ else _) = _
 by_cases e : hd (skip l) = 60
 ·rw [if_pos e]
  unfold Y3Y at hi
  cases hk : skip l with
  | nil => rw [hk] at e; cases e
  | cons c r =>
   rw [hk] at hi e hq
   have ec : c = 60 := (u8_eq (n := 60) (by omega)).mp e
   subst ec
   simp only [if_true] at hi
   have hlen := hq.len
   simp only [List.length_cons] at hlen
   simp only [Y2k hs hq]
   rw [if_pos hq.tail.ps0, if_pos (ps_le s r)]
   unfold strings_Cut.f
   have hx := Y5Q hq.tail
   have hxs : (s.extract (ps s r).toNat s.size).size = r.length := by rw [← Y31, hx]
   rw [if_pos (by unfold Y5W; rw [hxs]; exact decide_eq_true (by omega)), hx]
   have e62 : (⟨#[62]⟩ : ByteArray).data.toList = [62] := rfl
   rw [e62, cut_gt]
   cases hu : Y4X r with
   | none => simp [Y2X]
   | some x =>
    rw [hu] at hi
    simp only at hi
    obtain ⟨hr, _⟩ := Y3b (t := x.1) (r := x.2) hu
    have hrl := congrArg List.length hr
    rw [List.length_append, List.length_cons] at hrl
    have hb : Y2O ⟨x.1.toArray⟩ = false := by
     by_cases hb : Y2O ⟨x.1.toArray⟩ = true
     ·rw [if_pos hb] at hi; cases hi
     ·simpa using hb
    simp only [Option.bind_some, if_true]
    unfold Y14.f
    have z : (⟨x.1.toArray⟩ : ByteArray).size = x.1.length := by rw [← Y31]
    rw [if_pos (by unfold Y4C; rw [z]; exact decide_eq_true (by omega)), hb]
    simp [Y2X]
 ·rw [if_neg e]
  simp [Y2X]
theorem Y2I : ∀ l, skip (skip l) = skip l
 | [] => rfl
 | c :: l => by
  by_cases e : c = 32
  ·have : skip (c :: l) = skip l := by conv => lhs; unfold skip; rw [if_pos e]
   rw [this]; exact Y2I l
  ·have : skip (c :: l) = c :: l := by conv => lhs; unfold skip; rw [if_neg e]
   rw [this, this]
theorem ext_upto {s : ByteArray} {t l1 : List UInt8} {r : List UInt8} (h : Suf s r) (hr : r = t ++ l1) : (s.extract (ps s r).toNat (ps s l1).toNat) = ⟨t.toArray⟩ := by
 apply Y50
 obtain ⟨pre, h⟩ := h
 have hl := congrArg List.length h
 rw [Array.length_toList, List.length_append] at hl
 have e : s.size = s.data.size := rfl
 have hrl := congrArg List.length hr
 rw [List.length_append] at hrl
 have hp : (ps s r).toNat = pre.length := by unfold ps; omega
 have hp2 : (ps s l1).toNat = pre.length + t.length := by unfold ps; omega
 rw [hp, hp2, ByteArray.data_extract, Array.toList_extract, h, hr]
 rw [List.extract_eq_take_drop]
 simp
theorem Ev.up {α : Type} {g : Nat → Option α} {r : α} (h : Ev (fun k => g (k + 1)) r) : Ev g r := Ev.step (fun _ => rfl) h
inductive Res where
 | ok (p : S37) (l : List UInt8)
 | bad (c : Int) (l : List UInt8)
inductive NT where
 | path | pathL (p : S37) | seq | seqL (p : S37) | step | stepL (p : S37) | back | nt | notL (ts : List ByteArray)
def pK (k : Int) (l : List S37) : S37 := ⟨k, ⟨#[]⟩, [], l⟩
def pIri (t : ByteArray) : S37 := ⟨1, t, [], []⟩
def pNot (l : List ByteArray) : S37 := ⟨8, ⟨#[]⟩, l, []⟩
def signK (n : Int) : Int := if n = 42 then 5 else if n = 43 then 6 else 7
inductive P : NT → Nat → List UInt8 → Res → Prop
 | path_ok {d l p l1 res} : P .seq d l (.ok p l1) → P (.pathL p) d l1 res → P .path d l res
 | path_bad {d l c lb} : P .seq d l (.bad c lb) → P .path d l (.bad c lb)
 | pathL_more {d p l r q l1 res} : skip l = 124 :: r → P .seq d r (.ok q l1) → P (.pathL (pK 4 [p, q])) d l1 res → P (.pathL p) d l res
 | pathL_bad {d p l r c lb} : skip l = 124 :: r → P .seq d r (.bad c lb) → P (.pathL p) d l (.bad c lb)
 | pathL_end {d p l} : hd (skip l) ≠ 124 → P (.pathL p) d l (.ok p (skip l))
 | seq_ok {d l p l1 res} : P .step d l (.ok p l1) → P (.seqL p) d l1 res → P .seq d l res
 | seq_bad {d l c lb} : P .step d l (.bad c lb) → P .seq d l (.bad c lb)
 | seqL_more {d p l r q l1 res} : skip l = 47 :: r → P .step d r (.ok q l1) → P (.seqL (pK 3 [p, q])) d l1 res → P (.seqL p) d l res
 | seqL_bad {d p l r c lb} : skip l = 47 :: r → P .step d r (.bad c lb) → P (.seqL p) d l (.bad c lb)
 | seqL_end {d p l} : hd (skip l) ≠ 47 → P (.seqL p) d l (.ok p (skip l))
 | step_ok {d l p l1 res} : P .back d l (.ok p l1) → P (.stepL p) d l1 res → P .step d l res
 | step_bad {d l c lb} : P .back d l (.bad c lb) → P .step d l (.bad c lb)
 | stepL_more {d p l c r res} : skip l = c :: r → (c = 42 ∨ c = 43 ∨ c = 63) → P (.stepL (pK (signK c.toNat) [p])) d r res → P (.stepL p) d l res
 | stepL_end {d p l} : hd (skip l) ≠ 42 → hd (skip l) ≠ 43 → hd (skip l) ≠ 63 → P (.stepL p) d l (.ok p (skip l))
 | up_ok {d l r p l1} : skip l = 94 :: r → d < 5 → P .back (d + 1) r (.ok p l1) → P .back d l (.ok (pK 2 [p]) l1)
 | up_bad {d l r c lb} : skip l = 94 :: r → d < 5 → P .back (d + 1) r (.bad c lb) → P .back d l (.bad c lb)
 | full {d l c r} : skip l = c :: r → (c = 94 ∨ c = 40) → 5 ≤ d → P .back d l (.bad 3 (skip l))
 | iri_ok {d l r t l1} : skip l = 60 :: r → Y3Y l = some (t, l1) → P .back d l (.ok (pIri t) l1)
 | iri_bad {d l r} : skip l = 60 :: r → Y3Y l = none → P .back d l (.bad 2 (skip l))
 | not_ {d l r res} : skip l = 33 :: r → P .nt d r res → P .back d l res
 | br_ok {d l r p l1 r1} : skip l = 40 :: r → d < 5 → P .path (d + 1) r (.ok p l1) → skip l1 = 41 :: r1 → P .back d l (.ok p r1)
 | br_bad {d l r c lb} : skip l = 40 :: r → d < 5 → P .path (d + 1) r (.bad c lb) → P .back d l (.bad c lb)
 | br_open {d l r p l1} : skip l = 40 :: r → d < 5 → P .path (d + 1) r (.ok p l1) → hd (skip l1) ≠ 41 → P .back d l (.bad 2 (skip l1))
 | other {d l} : hd (skip l) ≠ 94 → hd (skip l) ≠ 60 → hd (skip l) ≠ 33 → hd (skip l) ≠ 40 → P .back d l (.bad 2 (skip l))
 | nt_one {d l t l1} : hd l ≠ 40 → Y3Y l = some (t, l1) → P .nt d l (.ok (pNot [t]) l1)
 | nt_one_bad {d l} : hd l ≠ 40 → Y3Y l = none → P .nt d l (.bad 2 (skip l))
 | nt_br {d r t l1 res} : Y3Y r = some (t, l1) → P (.notL [t]) d l1 res → P .nt d (40 :: r) res
 | nt_br_bad {d r} : Y3Y r = none → P .nt d (40 :: r) (.bad 2 (skip r))
 | notL_more {d ts l r t l1 res} : skip l = 124 :: r → Y3Y r = some (t, l1) → P (.notL (ts ++ [t])) d l1 res → P (.notL ts) d l res
 | notL_bad {d ts l r} : skip l = 124 :: r → Y3Y r = none → P (.notL ts) d l (.bad 2 (skip r))
 | notL_end {d ts l r} : skip l = 41 :: r → P (.notL ts) d l (.ok (pNot ts) r)
 | notL_open {d ts l} : hd (skip l) ≠ 124 → hd (skip l) ≠ 41 → P (.notL ts) d l (.bad 2 (skip l))
abbrev R8 := Int × ByteArray × List ByteArray × List S37 × ByteArray × Int × Int × Int
def RI (s : ByteArray) (o : Int) : Res → R8 → Prop
 | .ok p l, r => Suf s l ∧ r = (p.f0, p.f1, p.f2, p.f3, s, ps s l, 0, o)
 | .bad c l, r => c ≠ 0 ∧ Suf s l ∧ ∃ l' q0 q1 q2 q3, Suf s l' ∧ r = (q0, q1, q2, q3, s, ps s l', c, ps s l)
def fI (s : ByteArray) (o : Int) : NT → Nat → List UInt8 → Nat → Option R8
 | .path, d, l => fun k => Yi.f k s (ps s l) 0 o (d : Int)
 | .pathL p, d, l => fun k => Yi.l0 k (d : Int) s (ps s l) 0 o p.f0 p.f1 p.f2 p.f3
 | .seq, d, l => fun k => Yr.f k s (ps s l) 0 o (d : Int)
 | .seqL p, d, l => fun k => Yr.l0 k (d : Int) s (ps s l) 0 o p.f0 p.f1 p.f2 p.f3
 | .step, d, l => fun k => Y7.f k s (ps s l) 0 o (d : Int)
 | .stepL p, d, l => fun k => Y7.l0 k s (ps s l) 0 o p.f0 p.f1 p.f2 p.f3
 | .back, d, l => fun k => Yy.f k s (ps s l) 0 o (d : Int)
 | .nt, d, l => fun k => Ya.f k s (ps s l) 0 o
 | .notL ts, d, l => fun k => Ya.l0 k s (ps s l) 0 o 8 ts
def fits (s : ByteArray) : NT → List UInt8 → Prop
 | .notL ts, l => ts.length + l.length ≤ s.size
 | _, _ => True
theorem Y5n {d : Nat} (h : d < 5) : wrap64 ((d : Int) + 1) = ((d + 1 : Nat) : Int) := by unfold wrap64; omega
theorem Y2C {s : ByteArray} {o : Int} {c : Int} {l : List UInt8} (hc : c ≠ 0) (h : Suf s l) {l' : List UInt8} (h' : Suf s l') (q0 : Int) (q1 : ByteArray) (q2 : List ByteArray) (q3 : List S37) :
  RI s o (.bad c l) (q0, q1, q2, q3, s, ps s l', c, ps s l) := ⟨hc, h, l', q0, q1, q2, q3, h', rfl⟩
theorem pathL_e (s : ByteArray) (d a e o : Int) (he : e ≠ 0) (q0 : Int) (q1 : ByteArray) (q2 : List ByteArray) (q3 : List S37) :
  Ev (fun k => Yi.l0 k d s a e o q0 q1 q2 q3) (q0, q1, q2, q3, s, a, e, o) := by
 refine Ev.up ?_
 simp only [Yi.l0]
 exact Z21
theorem seqL_e (s : ByteArray) (d a e o : Int) (he : e ≠ 0) (q0 : Int) (q1 : ByteArray) (q2 : List ByteArray) (q3 : List S37) :
  Ev (fun k => Yr.l0 k d s a e o q0 q1 q2 q3) (q0, q1, q2, q3, s, a, e, o) := by
 refine Ev.up ?_
 simp only [Yr.l0]
 exact Z21
theorem stepL_e (s : ByteArray) (a e o : Int) (he : e ≠ 0) (q0 : Int) (q1 : ByteArray) (q2 : List ByteArray) (q3 : List S37) :
  Ev (fun k => Y7.l0 k s a e o q0 q1 q2 q3) (q0, q1, q2, q3, s, a, e, o) := by
 refine Ev.up ?_
 simp only [Y7.l0]
 exact Ev.bind (next_e s a e o he) (Ev.congr (fun k => by simp) (Ev.now _))
theorem notL_e (s : ByteArray) (a e o : Int) (he : e ≠ 0) (q0 : Int) (ts : List ByteArray) :
  Ev (fun k => Ya.l0 k s a e o q0 ts) (q0, ⟨#[]⟩, ts, [], s, a, e, o) := by
 refine Ev.up ?_
 simp only [Ya.l0]
 refine Ev.bind (is_e s a e o _ he (by decide)) ?_
 simp only [Bool.false_eq_true, if_false]
 exact Ev.bind (must_e s a e o _ he (by decide)) (Ev.congr (fun k => by simp) (Ev.now _))
set_option maxHeartbeats 4000000 in
theorem impl (s : ByteArray) (hs : s.size ≤ 100000000) (o : Int) {m d l res} (h : P m d l res) : Suf s l → d ≤ 5 → fits s m l → ∃ r, Ev (fI s o m d l) r ∧ RI s o res r := by
 induction h with
 | path_ok _ _ ih1 ih2 =>
  intro hl hd _
  obtain ⟨r, h1, hl1, rfl⟩ := ih1 hl hd trivial
  obtain ⟨r2, h2, hr⟩ := ih2 hl1 hd trivial
  refine ⟨r2, Ev.up ?_, hr⟩
  simp only [fI, Yi.f]
  exact Ev.bind h1 h2
 | path_bad _ ih1 =>
  intro hl hd _
  obtain ⟨r, h1, hc, hl1, l', q0, q1, q2, q3, hl', rfl⟩ := ih1 hl hd trivial
  refine ⟨_, Ev.up ?_, Y2C hc hl1 hl' q0 q1 q2 q3⟩
  simp only [fI, Yi.f]
  exact Ev.bind h1 (pathL_e s _ _ _ _ hc _ _ _ _)
 | @pathL_more d p l r0 q l1 res hk _ _ ih1 ih2 =>
  intro hl hd _
  cases p; cases q
  have hq := hl.skip; rw [hk] at hq
  obtain ⟨r, h1, hl1, rfl⟩ := ih1 hq.tail hd trivial
  obtain ⟨r2, h2, hr⟩ := ih2 hl1 hd trivial
  refine ⟨r2, Ev.up ?_, hr⟩
  simp only [fI, Yi.l0]
  refine Ev.bind (Y4d hs o hl hk 124 rfl) ?_
  simp only [if_true]
  exact Ev.bind h1 h2
 | @pathL_bad d p l r0 c lb hk _ ih1 =>
  intro hl hd _
  cases p with | mk p0 p1 p2 p3 =>
  have hq := hl.skip; rw [hk] at hq
  obtain ⟨r, h1, hc, hl1, l', q0, q1, q2, q3, hl', rfl⟩ := ih1 hq.tail hd trivial
  refine ⟨_, Ev.up ?_, Y2C hc hl1 hl' 4 ⟨#[]⟩ [] [⟨p0, p1, p2, p3⟩, ⟨q0, q1, q2, q3⟩]⟩
  simp only [fI, Yi.l0]
  refine Ev.bind (Y4d hs o hl hk 124 rfl) ?_
  simp only [if_true]
  exact Ev.bind h1 (pathL_e s _ _ _ _ hc _ _ _ _)
 | pathL_end hk =>
  intro hl hd _
  refine ⟨_, Ev.up ?_, hl.skip, rfl⟩
  simp only [fI, Yi.l0]
  exact Ev.bind (is_no hs o hl 124 hk) (Ev.congr (fun k => by simp) (Ev.now _))
 | seq_ok _ _ ih1 ih2 =>
  intro hl hd _
  obtain ⟨r, h1, hl1, rfl⟩ := ih1 hl hd trivial
  obtain ⟨r2, h2, hr⟩ := ih2 hl1 hd trivial
  refine ⟨r2, Ev.up ?_, hr⟩
  simp only [fI, Yr.f]
  exact Ev.bind h1 h2
 | seq_bad _ ih1 =>
  intro hl hd _
  obtain ⟨r, h1, hc, hl1, l', q0, q1, q2, q3, hl', rfl⟩ := ih1 hl hd trivial
  refine ⟨_, Ev.up ?_, Y2C hc hl1 hl' q0 q1 q2 q3⟩
  simp only [fI, Yr.f]
  exact Ev.bind h1 (seqL_e s _ _ _ _ hc _ _ _ _)
 | @seqL_more d p l r0 q l1 res hk _ _ ih1 ih2 =>
  intro hl hd _
  cases p; cases q
  have hq := hl.skip; rw [hk] at hq
  obtain ⟨r, h1, hl1, rfl⟩ := ih1 hq.tail hd trivial
  obtain ⟨r2, h2, hr⟩ := ih2 hl1 hd trivial
  refine ⟨r2, Ev.up ?_, hr⟩
  simp only [fI, Yr.l0]
  refine Ev.bind (Y4d hs o hl hk 47 rfl) ?_
  simp only [if_true]
  exact Ev.bind h1 h2
 | @seqL_bad d p l r0 c lb hk _ ih1 =>
  intro hl hd _
  cases p with | mk p0 p1 p2 p3 =>
  have hq := hl.skip; rw [hk] at hq
  obtain ⟨r, h1, hc, hl1, l', q0, q1, q2, q3, hl', rfl⟩ := ih1 hq.tail hd trivial
  refine ⟨_, Ev.up ?_, Y2C hc hl1 hl' 3 ⟨#[]⟩ [] [⟨p0, p1, p2, p3⟩, ⟨q0, q1, q2, q3⟩]⟩
  simp only [fI, Yr.l0]
  refine Ev.bind (Y4d hs o hl hk 47 rfl) ?_
  simp only [if_true]
  exact Ev.bind h1 (seqL_e s _ _ _ _ hc _ _ _ _)
 | seqL_end hk =>
  intro hl hd _
  refine ⟨_, Ev.up ?_, hl.skip, rfl⟩
  simp only [fI, Yr.l0]
  exact Ev.bind (is_no hs o hl 47 hk) (Ev.congr (fun k => by simp) (Ev.now _))
 | step_ok _ _ ih1 ih2 =>
  intro hl hd _
  obtain ⟨r, h1, hl1, rfl⟩ := ih1 hl hd trivial
  obtain ⟨r2, h2, hr⟩ := ih2 hl1 hd trivial
  refine ⟨r2, Ev.up ?_, hr⟩
  simp only [fI, Y7.f]
  exact Ev.bind h1 h2
 | step_bad _ ih1 =>
  intro hl hd _
  obtain ⟨r, h1, hc, hl1, l', q0, q1, q2, q3, hl', rfl⟩ := ih1 hl hd trivial
  refine ⟨_, Ev.up ?_, Y2C hc hl1 hl' q0 q1 q2 q3⟩
  simp only [fI, Y7.f]
  exact Ev.bind h1 (stepL_e s _ _ _ hc _ _ _ _)
 | @stepL_more d p l c r0 res hk hc _ ih1 =>
  intro hl hd _
  have hq := hl.skip; rw [hk] at hq
  obtain ⟨r, h1, hr⟩ := ih1 hq.tail hd trivial
  refine ⟨r, Ev.up ?_, hr⟩
  simp only [fI, Y7.l0]
  have hn := Y1I s hs o l hl
  rw [hk] at hn
  refine Ev.bind hn ?_
  have e0 : wrap64 (ps s (c :: r0) + 1) = ps s r0 := Y2k hs hq
  cases p
  rcases hc with rfl | rfl | rfl
  ·have e1 : Print.hd (42 :: r0) = 42 := rfl
   simp only [e1, if_true]
   refine Ev.up ?_
   simp only [Y7.j1, e0]
   exact h1
  ·have e1 : Print.hd (43 :: r0) = 43 := rfl
   have e2 : ¬ ((43 : Int) = 42) := by decide
   simp only [e1, e2, if_true, if_false]
   refine Ev.up ?_
   simp only [Y7.j2, e0]
   exact h1
  ·have e1 : Print.hd (63 :: r0) = 63 := rfl
   have e2 : ¬ ((63 : Int) = 42) := by decide
   have e3 : ¬ ((63 : Int) = 43) := by decide
   simp only [e1, e2, e3, if_true, if_false]
   refine Ev.up ?_
   simp only [Y7.j3, e0]
   exact h1
 | stepL_end hk1 hk2 hk3 =>
  intro hl hd _
  refine ⟨_, Ev.up ?_, hl.skip, rfl⟩
  simp only [fI, Y7.l0]
  refine Ev.bind (Y1I s hs o _ hl) ?_
  simp only [hk1, hk2, hk3, if_false]
  exact Z1v
 | @up_ok d l r0 p l1 hk hd5 _ ih1 =>
  intro hl hd _
  cases p
  have hq := hl.skip; rw [hk] at hq
  obtain ⟨r, h1, hl1, rfl⟩ := ih1 hq.tail (by omega) trivial
  refine ⟨_, Ev.up ?_, hl1, rfl⟩
  simp only [fI, Yy.f]
  have hn := Y1I s hs o _ hl
  rw [hk] at hn
  refine Ev.bind hn ?_
  simp only [show Print.hd (94 :: r0) = 94 from rfl, if_true, Y2k hs hq, Y5n hd5, if_neg (show ¬ ((d : Nat) : Int) ≥ 5 by omega)]
  exact Z23
 | @up_bad d l r0 c lb hk hd5 _ ih1 =>
  intro hl hd _
  have hq := hl.skip; rw [hk] at hq
  obtain ⟨r, h1, hc, hl1, l', q0, q1, q2, q3, hl', rfl⟩ := ih1 hq.tail (by omega) trivial
  refine ⟨_, Ev.up ?_, Y2C hc hl1 hl' 2 ⟨#[]⟩ [] [⟨q0, q1, q2, q3⟩]⟩
  simp only [fI, Yy.f]
  have hn := Y1I s hs o _ hl
  rw [hk] at hn
  refine Ev.bind hn ?_
  simp only [show Print.hd (94 :: r0) = 94 from rfl, if_true, Y2k hs hq, Y5n hd5, if_neg (show ¬ ((d : Nat) : Int) ≥ 5 by omega)]
  exact Z23
 | @full d l c r0 hk hc h5 =>
  intro hl hd _
  refine ⟨_, ?_, Y2C (l' := skip l) (by decide) hl.skip hl.skip 0 ⟨#[]⟩ [] []⟩
  have hn := Y1I s hs o _ hl
  have hge : ((d : Nat) : Int) ≥ 5 := by omega
  refine Ev.up ?_
  simp only [fI, Yy.f]
  refine Ev.bind hn ?_
  rw [hk]
  rcases hc with rfl | rfl
  ·simp only [show Print.hd (94 :: r0) = 94 from rfl, if_true, if_pos hge, Y2X]
   exact Z1v
  ·simp only [show Print.hd (40 :: r0) = 40 from rfl, if_neg (show ¬ ((40 : Int) = 94) by decide)]
   refine Ev.bind (a := (0, ⟨#[]⟩, [], [], s, ps s (40 :: r0), 3, ps s (40 :: r0))) (Ev.up ?_) (Ev.now _)
   simp only [YG.f]
   have hq := hl.skip; rw [hk] at hq
   have hn2 := Y1I s hs o _ hq
   refine Ev.bind hn2 ?_
   have e4 : skip (40 :: r0) = 40 :: r0 := rfl
   rw [e4]
   simp only [show Print.hd (40 :: r0) = 40 from rfl, if_neg (show ¬ ((40 : Int) = 60) by decide), if_neg (show ¬ ((40 : Int) = 33) by decide), if_true, if_pos hge, Y2X]
   exact Z1v
 | @iri_ok d l r0 t l1 hk hi =>
  intro hl hd _
  have hq := hl.skip; rw [hk] at hq
  obtain ⟨h1, hl1, _⟩ := Y3x hs o hl hi
  refine ⟨_, Ev.up ?_, hl1, rfl⟩
  simp only [fI, Yy.f]
  have hn := Y1I s hs o _ hl
  rw [hk] at hn
  refine Ev.bind hn ?_
  simp only [show Print.hd (60 :: r0) = 60 from rfl, if_neg (show ¬ ((60 : Int) = 94) by decide)]
  refine Ev.bind (a := (1, t, [], [], s, ps s l1, 0, o)) (Ev.up ?_) (Ev.now _)
  simp only [YG.f]
  have hn2 := Y1I s hs o _ hq
  refine Ev.bind hn2 ?_
  have e4 : skip (60 :: r0) = 60 :: r0 := rfl
  rw [e4]
  simp only [show Print.hd (60 :: r0) = 60 from rfl, if_true]
  have hi2 : Y3Y (60 :: r0) = some (t, l1) := by unfold Y3Y at hi ⊢; rw [hk] at hi; rw [e4]; exact hi
  exact Ev.bind (Y3x hs o hq hi2).1 (Ev.now _)
 | @iri_bad d l r0 hk hi =>
  intro hl hd _
  have hq := hl.skip; rw [hk] at hq
  refine ⟨_, Ev.up ?_, Y2C (l' := skip l) (by decide) hl.skip hl.skip 1 ⟨#[]⟩ [] []⟩
  simp only [fI, Yy.f]
  have hn := Y1I s hs o _ hl
  refine Ev.bind hn ?_
  rw [hk]
  simp only [show Print.hd (60 :: r0) = 60 from rfl, if_neg (show ¬ ((60 : Int) = 94) by decide)]
  refine Ev.bind (a := (1, ⟨#[]⟩, [], [], s, ps s (60 :: r0), 2, ps s (60 :: r0))) (Ev.up ?_) (Ev.now _)
  simp only [YG.f]
  have hn2 := Y1I s hs o _ hq
  refine Ev.bind hn2 ?_
  have e4 : skip (60 :: r0) = 60 :: r0 := rfl
  rw [e4]
  simp only [show Print.hd (60 :: r0) = 60 from rfl, if_true]
  have hi2 : Y3Y (60 :: r0) = none := by unfold Y3Y at hi ⊢; rw [hk] at hi; rw [e4]; exact hi
  have := Y3Z hs o hq hi2
  rw [e4] at this
  exact Ev.bind this (Ev.now _)
 | @not_ d l r0 res hk _ ih1 =>
  intro hl hd _
  have hq := hl.skip; rw [hk] at hq
  obtain ⟨r, h1, hr⟩ := ih1 hq.tail hd trivial
  refine ⟨r, Ev.up ?_, hr⟩
  simp only [fI, Yy.f]
  have hn := Y1I s hs o _ hl
  rw [hk] at hn
  refine Ev.bind hn ?_
  simp only [show Print.hd (33 :: r0) = 33 from rfl, if_neg (show ¬ ((33 : Int) = 94) by decide)]
  refine Ev.bind (a := r) (Ev.up ?_) (Ev.now _)
  simp only [YG.f]
  have hn2 := Y1I s hs o _ hq
  refine Ev.bind hn2 ?_
  have e4 : skip (33 :: r0) = 33 :: r0 := rfl
  rw [e4]
  simp only [show Print.hd (33 :: r0) = 33 from rfl, if_neg (show ¬ ((33 : Int) = 60) by decide), if_true, Y2k hs hq]
  exact Z23
 | @br_ok d l r0 p l1 r1 hk hd5 _ hk2 ih1 =>
  intro hl hd _
  have hq := hl.skip; rw [hk] at hq
  obtain ⟨r, h1, hl1, rfl⟩ := ih1 hq.tail (by omega) trivial
  have hq1 := hl1.skip; rw [hk2] at hq1
  refine ⟨_, Ev.up ?_, hq1.tail, rfl⟩
  simp only [fI, Yy.f]
  have hn := Y1I s hs o _ hl
  rw [hk] at hn
  refine Ev.bind hn ?_
  simp only [show Print.hd (40 :: r0) = 40 from rfl, if_neg (show ¬ ((40 : Int) = 94) by decide)]
  refine Ev.bind (a := (p.f0, p.f1, p.f2, p.f3, s, ps s r1, 0, o)) (Ev.up ?_) (Ev.now _)
  simp only [YG.f]
  have hn2 := Y1I s hs o _ hq
  refine Ev.bind hn2 ?_
  have e4 : skip (40 :: r0) = 40 :: r0 := rfl
  rw [e4]
  simp only [show Print.hd (40 :: r0) = 40 from rfl, if_neg (show ¬ ((40 : Int) = 60) by decide), if_neg (show ¬ ((40 : Int) = 33) by decide), if_true, Y2k hs hq, Y5n hd5, if_neg (show ¬ ((d : Nat) : Int) ≥ 5 by omega)]
  refine Ev.bind h1 ?_
  exact Ev.bind (Y5Z hs o hl1 hk2 41 rfl) (Ev.now _)
 | @br_bad d l r0 c lb hk hd5 _ ih1 =>
  intro hl hd _
  have hq := hl.skip; rw [hk] at hq
  obtain ⟨r, h1, hc, hl1, l', q0, q1, q2, q3, hl', rfl⟩ := ih1 hq.tail (by omega) trivial
  refine ⟨_, Ev.up ?_, Y2C hc hl1 hl' q0 q1 q2 q3⟩
  simp only [fI, Yy.f]
  have hn := Y1I s hs o _ hl
  rw [hk] at hn
  refine Ev.bind hn ?_
  simp only [show Print.hd (40 :: r0) = 40 from rfl, if_neg (show ¬ ((40 : Int) = 94) by decide)]
  refine Ev.bind (a := (q0, q1, q2, q3, s, ps s l', c, ps s lb)) (Ev.up ?_) (Ev.now _)
  simp only [YG.f]
  have hn2 := Y1I s hs o _ hq
  refine Ev.bind hn2 ?_
  have e4 : skip (40 :: r0) = 40 :: r0 := rfl
  rw [e4]
  simp only [show Print.hd (40 :: r0) = 40 from rfl, if_neg (show ¬ ((40 : Int) = 60) by decide), if_neg (show ¬ ((40 : Int) = 33) by decide), if_true, Y2k hs hq, Y5n hd5, if_neg (show ¬ ((d : Nat) : Int) ≥ 5 by omega)]
  refine Ev.bind h1 ?_
  exact Ev.bind (must_e s _ _ _ 41 hc (by decide)) (Ev.now _)
 | @br_open d l r0 p l1 hk hd5 _ hk2 ih1 =>
  intro hl hd _
  have hq := hl.skip; rw [hk] at hq
  obtain ⟨r, h1, hl1, rfl⟩ := ih1 hq.tail (by omega) trivial
  refine ⟨_, Ev.up ?_, Y2C (l' := skip l1) (by decide) hl1.skip hl1.skip p.f0 p.f1 p.f2 p.f3⟩
  simp only [fI, Yy.f]
  have hn := Y1I s hs o _ hl
  rw [hk] at hn
  refine Ev.bind hn ?_
  simp only [show Print.hd (40 :: r0) = 40 from rfl, if_neg (show ¬ ((40 : Int) = 94) by decide)]
  refine Ev.bind (a := (p.f0, p.f1, p.f2, p.f3, s, ps s (skip l1), 2, ps s (skip l1))) (Ev.up ?_) (Ev.now _)
  simp only [YG.f]
  have hn2 := Y1I s hs o _ hq
  refine Ev.bind hn2 ?_
  have e4 : skip (40 :: r0) = 40 :: r0 := rfl
  rw [e4]
  simp only [show Print.hd (40 :: r0) = 40 from rfl, if_neg (show ¬ ((40 : Int) = 60) by decide), if_neg (show ¬ ((40 : Int) = 33) by decide), if_true, Y2k hs hq, Y5n hd5, if_neg (show ¬ ((d : Nat) : Int) ≥ 5 by omega)]
  refine Ev.bind h1 ?_
  exact Ev.bind (must_no hs o hl1 41 hk2) (Ev.now _)
 | @other d l k1 k2 k3 k4 =>
  intro hl hd _
  refine ⟨_, Ev.up ?_, Y2C (l' := skip l) (by decide) hl.skip hl.skip 0 ⟨#[]⟩ [] []⟩
  simp only [fI, Yy.f]
  refine Ev.bind (Y1I s hs o _ hl) ?_
  simp only [if_neg k1]
  refine Ev.bind (a := (0, ⟨#[]⟩, [], [], s, ps s (skip l), 2, ps s (skip l))) (Ev.up ?_) (Ev.now _)
  simp only [YG.f]
  refine Ev.bind (Y1I s hs o _ hl.skip) ?_
  rw [Y2I]
  simp only [if_neg k2, if_neg k3, if_neg k4, Y2X]
  exact Z1v
 | @nt_one d l t l1 hk hi =>
  intro hl hd _
  obtain ⟨h1, hl1, _⟩ := Y3x hs o hl hi
  refine ⟨_, ?_, hl1, rfl⟩
  simp only [fI, Ya.f]
  have hj : Ev (fun k => Ya.j0 k true s (ps s l) 0 o 8) (8, ⟨#[]⟩, [t], [], s, ps s l1, 0, o) := by
   refine Ev.up ?_
   simp only [Ya.j0, if_true]
   exact Z23
  cases l with
  | nil => simp only [if_pos (show ps s [] ≥ (s.size : Int) by rw [Y4y]; omega)]; exact hj
  | cons c r =>
   have hb : (bt s (ps s (c :: r)) != 40) = true := by rw [Y64 hl]; exact bne_iff_ne.mpr hk
   simp only [if_neg (show ¬ ps s (c :: r) ≥ (s.size : Int) by have := Y3N s c r; omega), if_pos hl.ps0, if_pos (Y3N s c r), hb]
   exact hj
 | @nt_one_bad d l hk hi =>
  intro hl hd _
  have h1 := Y3Z hs o hl hi
  refine ⟨_, ?_, Y2C (l' := skip l) (by decide) hl.skip hl.skip 8 ⟨#[]⟩ [⟨#[]⟩] []⟩
  simp only [fI, Ya.f]
  have hj : Ev (fun k => Ya.j0 k true s (ps s l) 0 o 8) (8, ⟨#[]⟩, [⟨#[]⟩], [], s, ps s (skip l), 2, ps s (skip l)) := by
   refine Ev.up ?_
   simp only [Ya.j0, if_true]
   exact Z23
  cases l with
  | nil => simp only [if_pos (show ps s [] ≥ (s.size : Int) by rw [Y4y]; omega)]; exact hj
  | cons c r =>
   have hb : (bt s (ps s (c :: r)) != 40) = true := by rw [Y64 hl]; exact bne_iff_ne.mpr hk
   simp only [if_neg (show ¬ ps s (c :: r) ≥ (s.size : Int) by have := Y3N s c r; omega), if_pos hl.ps0, if_pos (Y3N s c r), hb]
   exact hj
 | @nt_br d r0 t l1 res hi _ ih1 =>
  intro hl hd _
  obtain ⟨h1, hl1, hle⟩ := Y3x hs o hl.tail hi
  have hlen := hl.len
  simp only [List.length_cons] at hlen
  obtain ⟨r, h2, hr⟩ := ih1 hl1 hd (by simp only [fits, List.length_cons, List.length_nil]; omega)
  refine ⟨r, ?_, hr⟩
  have hb : (bt s (ps s (40 :: r0)) != 40) = false := by rw [Y64 hl]; rfl
  simp only [fI, Ya.f, if_neg (show ¬ ps s (40 :: r0) ≥ (s.size : Int) by have := Y3N s 40 r0; omega), if_pos hl.ps0, if_pos (Y3N s 40 r0), hb]
  refine Ev.up ?_
  simp only [Ya.j0, Bool.false_eq_true, if_false, Y2k hs hl]
  exact Ev.bind h1 h2
 | @nt_br_bad d r0 hi =>
  intro hl hd _
  have h1 := Y3Z hs o hl.tail hi
  refine ⟨_, ?_, Y2C (l' := skip r0) (by decide) hl.tail.skip hl.tail.skip 8 ⟨#[]⟩ [⟨#[]⟩] []⟩
  have hb : (bt s (ps s (40 :: r0)) != 40) = false := by rw [Y64 hl]; rfl
  simp only [fI, Ya.f, if_neg (show ¬ ps s (40 :: r0) ≥ (s.size : Int) by have := Y3N s 40 r0; omega), if_pos hl.ps0, if_pos (Y3N s 40 r0), hb]
  refine Ev.up ?_
  simp only [Ya.j0, Bool.false_eq_true, if_false, Y2k hs hl]
  exact Ev.bind h1 (notL_e s _ 2 _ (by decide) _ _)
 | @notL_more d ts l r0 t l1 res hk hi _ ih1 =>
  intro hl hd hf
  have hq := hl.skip; rw [hk] at hq
  have hle0 := Y3s l
  rw [hk] at hle0
  obtain ⟨h1, hl1, hle⟩ := Y3x hs o hq.tail hi
  simp only [fits, List.length_cons] at hf hle0
  obtain ⟨r, h2, hr⟩ := ih1 hl1 hd (by simp only [fits, List.length_append, List.length_cons, List.length_nil]; omega)
  refine ⟨r, Ev.up ?_, hr⟩
  simp only [fI, Ya.l0]
  refine Ev.bind (Y4d hs o hl hk 124 rfl) ?_
  simp only [if_true]
  refine Ev.bind h1 ?_
  simp only [if_pos (show ts.length < 8796093022208 by omega)]
  exact h2
 | @notL_bad d ts l r0 hk hi =>
  intro hl hd hf
  have hq := hl.skip; rw [hk] at hq
  simp only [fits] at hf
  refine ⟨_, Ev.up ?_, Y2C (l' := skip r0) (by decide) hq.tail.skip hq.tail.skip 8 ⟨#[]⟩ (ts ++ [⟨#[]⟩]) []⟩
  simp only [fI, Ya.l0]
  refine Ev.bind (Y4d hs o hl hk 124 rfl) ?_
  simp only [if_true]
  refine Ev.bind (Y3Z hs o hq.tail hi) ?_
  simp only [if_pos (show ts.length < 8796093022208 by omega)]
  exact notL_e s _ 2 _ (by decide) _ _
 | @notL_end d ts l r0 hk =>
  intro hl hd hf
  have hq := hl.skip; rw [hk] at hq
  refine ⟨_, Ev.up ?_, hq.tail, rfl⟩
  simp only [fI, Ya.l0]
  refine Ev.bind (is_no hs o hl 124 (by rw [hk]; show (41 : Int) ≠ 124; decide)) ?_
  simp only [Bool.false_eq_true, if_false]
  exact Ev.bind (Y5Z hs o hl.skip (by rw [Y2I]; exact hk) 41 rfl) (Ev.now _)
 | @notL_open d ts l k1 k2 =>
  intro hl hd hf
  refine ⟨_, Ev.up ?_, Y2C (l' := skip l) (by decide) hl.skip hl.skip 8 ⟨#[]⟩ ts []⟩
  simp only [fI, Ya.l0]
  refine Ev.bind (is_no hs o hl 124 k1) ?_
  simp only [Bool.false_eq_true, if_false]
  refine Ev.bind (must_no hs o hl.skip 41 (by rw [Y2I]; exact k2)) ?_
  rw [Y2I]
  exact Z1v
theorem Y36 {l : List UInt8} {t : ByteArray} {l1 : List UInt8} (hi : Y3Y l = some (t, l1)) : l1.length + 2 ≤ l.length := by
 obtain ⟨r, hk, hu, _⟩ := Y55 hi
 have hle := Y3s l
 obtain ⟨hr, _⟩ := Y3b hu
 have := congrArg List.length hr
 rw [hk] at hle
 rw [List.length_append] at this
 simp only [List.length_cons] at this hle
 omega
theorem Y1s {l : List UInt8} {c : UInt8} {r : List UInt8} (h : skip l = c :: r) : r.length + 1 ≤ l.length := by
 have := Y3s l
 rw [h] at this
 simpa using this
def Le (l : List UInt8) : Res → Prop
 | .ok _ l1 => l1.length ≤ l.length
 | .bad _ _ => True
theorem Le.up {l l' : List UInt8} {res : Res} (h : Le l' res) (hl : l'.length ≤ l.length) : Le l res := by
 cases res
 ·exact Nat.le_trans h hl
 ·trivial
theorem P.le {m d l res} (h : P m d l res) : Le l res := by
 induction h with
 | path_ok _ _ ih1 ih2 => exact ih2.up ih1
 | seq_ok _ _ ih1 ih2 => exact ih2.up ih1
 | step_ok _ _ ih1 ih2 => exact ih2.up ih1
 | pathL_more hk _ _ ih1 ih2 => exact ih2.up (Nat.le_trans ih1 Z1o)
 | seqL_more hk _ _ ih1 ih2 => exact ih2.up (Nat.le_trans ih1 Z1o)
 | stepL_more hk _ _ ih1 => exact ih1.up Z1o
 | not_ hk _ ih1 => exact ih1.up Z1o
 | nt_br hi _ ih1 => exact ih1.up (by have := Y36 hi; simp only [List.length_cons]; omega)
 | notL_more hk hi _ ih1 => exact ih1.up (by have := Y36 hi; have := Y1s hk; omega)
 | up_ok hk _ _ ih1 => exact Nat.le_trans ih1 Z1o
 | br_ok hk _ _ hk2 ih1 => exact Nat.le_trans (by have := Y1s hk2; omega) (Nat.le_trans ih1 Z1o)
 | pathL_end _ => exact Y3s _
 | seqL_end _ => exact Y3s _
 | stepL_end _ _ _ => exact Y3s _
 | iri_ok _ hi => have := Y36 hi; show _ ≤ _; omega
 | nt_one _ hi => have := Y36 hi; show _ ≤ _; omega
 | notL_end hk => have := Y1s hk; show _ ≤ _; omega
 | _ => trivial
theorem Y2t {l : List UInt8} {n : Nat} (hn : 0 < n) (h : n < 256) (e : hd l = (n : Int)) : ∃ r, l = UInt8.ofNat n :: r := by
 cases l with
 | nil => simp only [hd] at e; omega
 | cons c r => exact ⟨r, by rw [(u8_eq h).mp e]⟩
theorem total : ∀ n : Nat, ∀ l : List UInt8, l.length < n →
  (∀ d, ∃ res, P .path d l res) ∧ (∀ d p, ∃ res, P (.pathL p) d l res) ∧ (∀ d, ∃ res, P .seq d l res) ∧ (∀ d p, ∃ res, P (.seqL p) d l res) ∧
  (∀ d, ∃ res, P .step d l res) ∧ (∀ d p, ∃ res, P (.stepL p) d l res) ∧ (∀ d, ∃ res, P .back d l res) ∧ (∀ d, ∃ res, P .nt d l res) ∧ (∀ d ts, ∃ res, P (.notL ts) d l res)
 | 0, l, h => absurd h (Nat.not_lt_zero _)
 | n + 1, l, h => by
  have ih := total n
  have hnotL : ∀ l : List UInt8, l.length < n + 1 → ∀ d ts, ∃ res, P (.notL ts) d l res := by
   intro l h d ts
   by_cases h1 : hd (skip l) = 124
   ·obtain ⟨r, hr⟩ := Y2t (n := 124) (by omega) (by omega) h1
    cases hi : Y3Y r with
    | none => exact ⟨_, .notL_bad hr hi⟩
    | some x =>
     obtain ⟨t, l1⟩ := x
     obtain ⟨res, hp⟩ := (ih l1 (by have := Y36 hi; have := Y1s hr; omega)).2.2.2.2.2.2.2.2 d (ts ++ [t])
     exact ⟨_, .notL_more hr hi hp⟩
   ·by_cases h2 : hd (skip l) = 41
    ·obtain ⟨r, hr⟩ := Y2t (n := 41) (by omega) (by omega) h2
     exact ⟨_, .notL_end hr⟩
    ·exact ⟨_, .notL_open h1 h2⟩
  have hnt : ∀ l : List UInt8, l.length < n + 1 → ∀ d, ∃ res, P .nt d l res := by
   intro l h d
   by_cases h1 : hd l = 40
   ·obtain ⟨r, rfl⟩ := Y2t (n := 40) (by omega) (by omega) h1
    cases hi : Y3Y r with
    | none => exact ⟨_, .nt_br_bad hi⟩
    | some x =>
     obtain ⟨t, l1⟩ := x
     simp only [List.length_cons] at h
     obtain ⟨res, hp⟩ := (ih l1 (by have := Y36 hi; omega)).2.2.2.2.2.2.2.2 d [t]
     exact ⟨_, .nt_br hi hp⟩
   ·cases hi : Y3Y l with
    | none => exact ⟨_, .nt_one_bad h1 hi⟩
    | some x => exact ⟨_, .nt_one h1 hi⟩
  have hback : ∀ l : List UInt8, l.length < n + 1 → ∀ d, ∃ res, P .back d l res := by
   intro l h d
   by_cases h1 : hd (skip l) = 94
   ·obtain ⟨r, hr⟩ := Y2t (n := 94) (by omega) (by omega) h1
    by_cases h5 : d < 5
    ·obtain ⟨res, hp⟩ := (ih r Z1W).2.2.2.2.2.2.1 (d + 1)
     cases res with
     | ok p l1 => exact ⟨_, .up_ok hr h5 hp⟩
     | bad c lb => exact ⟨_, .up_bad hr h5 hp⟩
    ·exact ⟨_, .full hr (Or.inl rfl) (by omega)⟩
   ·by_cases h2 : hd (skip l) = 60
    ·obtain ⟨r, hr⟩ := Y2t (n := 60) (by omega) (by omega) h2
     cases hi : Y3Y l with
     | none => exact ⟨_, .iri_bad hr hi⟩
     | some x => exact ⟨_, .iri_ok hr hi⟩
    ·by_cases h3 : hd (skip l) = 33
     ·obtain ⟨r, hr⟩ := Y2t (n := 33) (by omega) (by omega) h3
      obtain ⟨res, hp⟩ := (ih r Z1W).2.2.2.2.2.2.2.1 d
      exact ⟨_, .not_ hr hp⟩
     ·by_cases h4 : hd (skip l) = 40
      ·obtain ⟨r, hr⟩ := Y2t (n := 40) (by omega) (by omega) h4
       by_cases h5 : d < 5
       ·obtain ⟨res, hp⟩ := (ih r Z1W).1 (d + 1)
        cases res with
        | bad c lb => exact ⟨_, .br_bad hr h5 hp⟩
        | ok p l1 =>
         by_cases h6 : hd (skip l1) = 41
         ·obtain ⟨r1, hr1⟩ := Y2t (n := 41) (by omega) (by omega) h6
          exact ⟨_, .br_ok hr h5 hp hr1⟩
         ·exact ⟨_, .br_open hr h5 hp h6⟩
       ·exact ⟨_, .full hr (Or.inr rfl) (by omega)⟩
      ·exact ⟨_, .other h1 h2 h3 h4⟩
  have hstepL : ∀ l : List UInt8, l.length < n + 1 → ∀ d p, ∃ res, P (.stepL p) d l res := by
   intro l h d p
   by_cases h0 : hd (skip l) = 42 ∨ hd (skip l) = 43 ∨ hd (skip l) = 63
   ·have hx : ∃ c r, skip l = c :: r ∧ (c = 42 ∨ c = 43 ∨ c = 63) := by
     rcases h0 with h0 | h0 | h0
     ·obtain ⟨r, hr⟩ := Y2t (n := 42) (by omega) (by omega) h0; exact ⟨_, r, hr, Or.inl rfl⟩
     ·obtain ⟨r, hr⟩ := Y2t (n := 43) (by omega) (by omega) h0; exact ⟨_, r, hr, Or.inr (Or.inl rfl)⟩
     ·obtain ⟨r, hr⟩ := Y2t (n := 63) (by omega) (by omega) h0; exact ⟨_, r, hr, Or.inr (Or.inr rfl)⟩
    obtain ⟨c, r, hr, hc⟩ := hx
    obtain ⟨res, hp⟩ := (ih r Z1W).2.2.2.2.2.1 d (pK (signK c.toNat) [p])
    exact ⟨_, .stepL_more hr hc hp⟩
   ·simp only [not_or] at h0
    exact ⟨_, .stepL_end h0.1 h0.2.1 h0.2.2⟩
  have hstep : ∀ l : List UInt8, l.length < n + 1 → ∀ d, ∃ res, P .step d l res := by
   intro l h d
   obtain ⟨res, hp⟩ := hback l h d
   cases res with
   | bad c lb => exact ⟨_, .step_bad hp⟩
   | ok p l1 =>
    have hle : l1.length ≤ l.length := hp.le
    obtain ⟨res, hp2⟩ := hstepL l1 (by omega) d p
    exact ⟨_, .step_ok hp hp2⟩
  have hseqL : ∀ l : List UInt8, l.length < n + 1 → ∀ d p, ∃ res, P (.seqL p) d l res := by
   intro l h d p
   by_cases h1 : hd (skip l) = 47
   ·obtain ⟨r, hr⟩ := Y2t (n := 47) (by omega) (by omega) h1
    have hl1 := Y1s hr
    obtain ⟨res, hp⟩ := hstep r (by omega) d
    cases res with
    | bad c lb => exact ⟨_, .seqL_bad hr hp⟩
    | ok q l1 =>
     have hle : l1.length ≤ r.length := hp.le
     obtain ⟨res, hp2⟩ := (ih l1 (by omega)).2.2.2.1 d (pK 3 [p, q])
     exact ⟨_, .seqL_more hr hp hp2⟩
   ·exact ⟨_, .seqL_end h1⟩
  have hseq : ∀ l : List UInt8, l.length < n + 1 → ∀ d, ∃ res, P .seq d l res := by
   intro l h d
   obtain ⟨res, hp⟩ := hstep l h d
   cases res with
   | bad c lb => exact ⟨_, .seq_bad hp⟩
   | ok p l1 =>
    have hle : l1.length ≤ l.length := hp.le
    obtain ⟨res, hp2⟩ := hseqL l1 (by omega) d p
    exact ⟨_, .seq_ok hp hp2⟩
  have hpathL : ∀ l : List UInt8, l.length < n + 1 → ∀ d p, ∃ res, P (.pathL p) d l res := by
   intro l h d p
   by_cases h1 : hd (skip l) = 124
   ·obtain ⟨r, hr⟩ := Y2t (n := 124) (by omega) (by omega) h1
    have hl1 := Y1s hr
    obtain ⟨res, hp⟩ := hseq r (by omega) d
    cases res with
    | bad c lb => exact ⟨_, .pathL_bad hr hp⟩
    | ok q l1 =>
     have hle : l1.length ≤ r.length := hp.le
     obtain ⟨res, hp2⟩ := (ih l1 (by omega)).2.1 d (pK 4 [p, q])
     exact ⟨_, .pathL_more hr hp hp2⟩
   ·exact ⟨_, .pathL_end h1⟩
  have hpath : ∀ l : List UInt8, l.length < n + 1 → ∀ d, ∃ res, P .path d l res := by
   intro l h d
   obtain ⟨res, hp⟩ := hseq l h d
   cases res with
   | bad c lb => exact ⟨_, .path_bad hp⟩
   | ok p l1 =>
    have hle : l1.length ≤ l.length := hp.le
    obtain ⟨res, hp2⟩ := hpathL l1 (by omega) d p
    exact ⟨_, .path_ok hp hp2⟩
  exact ⟨hpath l h, hpathL l h, hseq l h, hseqL l h, hstep l h, hstepL l h, hback l h, hnt l h, hnotL l h⟩
inductive Ans where
 | ok (p : S37)
 | bad (c at_ : Int)
def Ans.is (s : ByteArray) : Ans → Int × ByteArray × List ByteArray × List S37 × Int × Int → Prop
 | .ok p, r => r = (p.f0, p.f1, p.f2, p.f3, (s.size : Int), 0)
 | .bad c a, r => r = (0, ⟨#[]⟩, [], [], a, c)
inductive Whole (s : ByteArray) : Ans → Prop
 | long : s.size > 600 → Whole s (.bad 4 0)
 | ok {p l} : s.size ≤ 600 → P .path 0 s.data.toList (.ok p l) → skip l = [] → Whole s (.ok p)
 | bad {c lb} : s.size ≤ 600 → P .path 0 s.data.toList (.bad c lb) → Whole s (.bad c (ps s lb))
 | rest {p l} : s.size ≤ 600 → P .path 0 s.data.toList (.ok p l) → skip l ≠ [] → Whole s (.bad 2 (ps s (skip l)))
theorem Y5x (s : ByteArray) : ∃ a, Whole s a := by
 by_cases h : s.size > 600
 ·exact ⟨_, .long h⟩
 ·obtain ⟨res, hp⟩ := (total (s.data.toList.length + 1) s.data.toList (by omega)).1 0
  cases res with
  | bad c lb => exact ⟨_, .bad (by omega) hp⟩
  | ok p l =>
   by_cases h2 : skip l = []
   ·exact ⟨_, .ok (by omega) hp h2⟩
   ·exact ⟨_, .rest (by omega) hp h2⟩
theorem Y4x (s : ByteArray) {a : Ans} (h : Whole s a) : ∃ r, Ev (fun k => Yt.f k s) r ∧ a.is s r := by
 cases h with
 | long h =>
  refine ⟨_, ?_, rfl⟩
  unfold Yt.f
  simp only [if_pos (show (s.size : Int) > 600 by omega)]
  exact Z1v
 | @ok p l hs hp h2 =>
  obtain ⟨r, h1, hl, rfl⟩ := impl s (by omega) 0 hp (Suf.whole s) (by omega) trivial
  refine ⟨_, ?_, rfl⟩
  simp only [fI, Y40] at h1
  unfold Yt.f
  simp only [if_neg (show ¬ (s.size : Int) > 600 by omega)]
  refine Ev.bind h1 ?_
  have hn := Y1I s (by omega) 0 l hl
  rw [h2] at hn
  refine Ev.bind hn ?_
  simp only [hd, if_true]
  refine Ev.up ?_
  simp only [Yt.j0, Y4y, decide_eq_false (show ¬ (s.size : Int) < s.size by omega), Bool.false_eq_true, if_false, if_true]
  exact Z1v
 | @bad c lb hs hp =>
  obtain ⟨r, h1, hc, hl, l', q0, q1, q2, q3, hl', rfl⟩ := impl s (by omega) 0 hp (Suf.whole s) (by omega) trivial
  refine ⟨_, ?_, rfl⟩
  simp only [fI, Y40] at h1
  unfold Yt.f
  simp only [if_neg (show ¬ (s.size : Int) > 600 by omega)]
  refine Ev.bind h1 ?_
  refine Ev.bind (next_e s _ _ _ hc) ?_
  simp only [if_true, if_neg hc]
  refine Ev.up ?_
  simp only [Yt.j0, Bool.false_eq_true, if_false, if_neg hc]
  exact Z1v
 | @rest p l hs hp h2 =>
  obtain ⟨r, h1, hl, rfl⟩ := impl s (by omega) 0 hp (Suf.whole s) (by omega) trivial
  refine ⟨_, ?_, rfl⟩
  simp only [fI, Y40] at h1
  unfold Yt.f
  simp only [if_neg (show ¬ (s.size : Int) > 600 by omega)]
  refine Ev.bind h1 ?_
  refine Ev.bind (Y1I s (by omega) 0 l hl) ?_
  have h20 : (2 : Int) ≠ 0 := by decide
  cases e : skip l with
  | nil => exact absurd e h2
  | cons c r =>
   by_cases hc : hd (c :: r) = 0
   ·simp only [hc, if_true]
    refine Ev.up ?_
    simp only [Yt.j0, decide_eq_true (Y3N s c r), if_true, Y2X, Option.bind_some, if_neg h20]
    exact Z1v
   ·simp only [if_neg hc]
    refine Ev.up ?_
    simp only [Yt.j0, if_true, Y2X, Option.bind_some, if_neg h20]
    exact Z1v
inductive Y5z : S37 → Prop
 | mk {a b c d} : c.length ≤ 1000000 → d.length ≤ 1000000 → (∀ q ∈ d, Y5z q) → Y5z ⟨a, b, c, d⟩
theorem Y4j {a b : ByteArray} : a.toList = b.toList ↔ a = b := by
 rw [Lib.toList_data, Lib.toList_data]
 exact ⟨Y50, fun h => by rw [h]⟩
theorem Y3d {i n : Nat} (h : i < n) (hn : n ≤ 1000000) : wrap64 ((i : Int) + 1) = ((i + 1 : Nat) : Int) := by unfold wrap64; omega
theorem Y39 {xs : List ByteArray} {i : Nat} (h : i < xs.length) : Y2m ByteArray.empty xs (i : Int) = xs[i] := by
 unfold Y2m; simp [List.getD_eq_getElem?_getD, List.getElem?_eq_getElem h]
theorem Y3j {xs : List S37} {i : Nat} (h : i < xs.length) : Y4 xs (i : Int) = xs[i] := by
 unfold Y4; simp [List.getD_eq_getElem?_getD, List.getElem?_eq_getElem h]
theorem Y3G {α : Type} {xs ys : List α} {i : Nat} (h : i < xs.length) (h' : i < ys.length) : xs.drop i = ys.drop i ↔ xs[i] = ys[i] ∧ xs.drop (i + 1) = ys.drop (i + 1) := by
 rw [List.drop_eq_getElem_cons h, List.drop_eq_getElem_cons h', List.cons.injEq]
def Tells {α : Type} (g : Nat → Option Bool) (a b : α) : Prop := (a = b → Ev g true) ∧ (a ≠ b → Ev g false)
theorem s37_eq {p q : S37} : p = q ↔ p.f0 = q.f0 ∧ p.f1 = q.f1 ∧ p.f2 = q.f2 ∧ p.f3 = q.f3 := by
 cases p; cases q; simp
def Y5i (p q : S37) (k : Nat) : Option Bool := Y3.f k p.f0 p.f1 p.f2 p.f3 q.f0 q.f1 q.f2 q.f3
theorem texts_r (p q : S37) (hl : p.f2.length = q.f2.length) (hn : p.f2.length ≤ 1000000) {g : Nat → Option Bool} (hg : g = fun k => Y3.l1 k 0 p.f0 p.f1 p.f2 p.f3 q.f0 q.f1 q.f2 q.f3) : ∀ d i : Nat, i + d = p.f2.length →
  (p.f2.drop i = q.f2.drop i → ∀ r, Ev g r → Ev (fun k => Y3.l0 k (i : Int) p.f0 p.f1 p.f2 p.f3 q.f0 q.f1 q.f2 q.f3) r) ∧
  (p.f2.drop i ≠ q.f2.drop i → Ev (fun k => Y3.l0 k (i : Int) p.f0 p.f1 p.f2 p.f3 q.f0 q.f1 q.f2 q.f3) false)
 | 0, i, h => by
  refine ⟨fun _ r hr => Ev.up ?_, fun q => absurd Z1Y q⟩
  simp only [Y3.l0, if_neg (show ¬ (i : Int) < (p.f2.length : Int) by omega)]
  rw [hg] at hr
  exact hr
 | d + 1, i, h => by
  have h1 : i < p.f2.length := by omega
  have h2 : i < q.f2.length := by omega
  obtain ⟨t1, t2⟩ := texts_r p q hl hn hg d (i + 1) (by omega)
  by_cases e : p.f2[i] = q.f2[i]
  ·have st : ∀ r, Ev (fun k => Y3.l0 k ((i + 1 : Nat) : Int) p.f0 p.f1 p.f2 p.f3 q.f0 q.f1 q.f2 q.f3) r → Ev (fun k => Y3.l0 k (i : Int) p.f0 p.f1 p.f2 p.f3 q.f0 q.f1 q.f2 q.f3) r := by
    intro r hr
    refine Ev.up ?_
    simp only [Y3.l0, if_pos (show (i : Int) < (p.f2.length : Int) by omega), if_pos (show (0 : Int) ≤ (i : Int) by omega), if_pos (show (i : Int) < (q.f2.length : Int) by omega), Y39 h1, Y39 h2, if_pos (Y4j.mpr e), Y3d h1 hn]
    exact hr
   exact ⟨fun w r hr => st _ (t1 ((Y3G h1 h2).mp w).2 r hr), fun w => st _ (t2 (fun v => w ((Y3G h1 h2).mpr ⟨e, v⟩)))⟩
  ·refine ⟨fun w => absurd ((Y3G h1 h2).mp w).1 e, fun _ => Ev.up ?_⟩
   simp only [Y3.l0, if_pos (show (i : Int) < (p.f2.length : Int) by omega), if_pos (show (0 : Int) ≤ (i : Int) by omega), if_pos (show (i : Int) < (q.f2.length : Int) by omega), Y39 h1, Y39 h2, if_neg (fun w => e (Y4j.mp w))]
   exact Z1v
theorem kids_r (p q : S37) (hl : p.f3.length = q.f3.length) (hn : p.f3.length ≤ 1000000) (ih : ∀ a ∈ p.f3, ∀ b, Tells (Y5i a b) a b) : ∀ d i : Nat, i + d = p.f3.length →
  Tells (fun k => Y3.l1 k (i : Int) p.f0 p.f1 p.f2 p.f3 q.f0 q.f1 q.f2 q.f3) (p.f3.drop i) (q.f3.drop i)
 | 0, i, h => by
  refine ⟨fun _ => Ev.up ?_, fun q => absurd Z1Y q⟩
  simp only [Y3.l1, if_neg (show ¬ (i : Int) < (p.f3.length : Int) by omega)]
  exact Z1v
 | d + 1, i, h => by
  have h1 : i < p.f3.length := by omega
  have h2 : i < q.f3.length := by omega
  obtain ⟨t1, t2⟩ := kids_r p q hl hn ih d (i + 1) (by omega)
  obtain ⟨s1, s2⟩ := ih p.f3[i] (List.getElem_mem h1) q.f3[i]
  by_cases e : p.f3[i] = q.f3[i]
  ·have st : ∀ r, Ev (fun k => Y3.l1 k ((i + 1 : Nat) : Int) p.f0 p.f1 p.f2 p.f3 q.f0 q.f1 q.f2 q.f3) r → Ev (fun k => Y3.l1 k (i : Int) p.f0 p.f1 p.f2 p.f3 q.f0 q.f1 q.f2 q.f3) r := by
    intro r hr
    refine Ev.up ?_
    simp only [Y3.l1, if_pos (show (i : Int) < (p.f3.length : Int) by omega), if_pos (show (0 : Int) ≤ (i : Int) by omega), if_pos (show (i : Int) < (q.f3.length : Int) by omega), Y3j h1, Y3j h2]
    refine Ev.bind (s1 e) ?_
    simp only [if_true, Y3d h1 hn]
    exact hr
   exact ⟨fun w => st _ (t1 ((Y3G h1 h2).mp w).2), fun w => st _ (t2 (fun v => w ((Y3G h1 h2).mpr ⟨e, v⟩)))⟩
  ·refine ⟨fun w => absurd ((Y3G h1 h2).mp w).1 e, fun _ => Ev.up ?_⟩
   simp only [Y3.l1, if_pos (show (i : Int) < (p.f3.length : Int) by omega), if_pos (show (0 : Int) ≤ (i : Int) by omega), if_pos (show (i : Int) < (q.f3.length : Int) by omega), Y3j h1, Y3j h2]
   refine Ev.bind (s2 e) ?_
   simp only [Bool.false_eq_true, if_false]
   exact Z1v
theorem same_r {p : S37} (hp : Y5z p) : ∀ q, Tells (Y5i p q) p q := by
 induction hp with
 | @mk a b c d hc hd _ ih =>
  intro q
  have no : ∀ x : Int × ByteArray × List ByteArray × List S37, Ev (fun k => Y3.j0 k true a b c d q.f0 q.f1 q.f2 q.f3) false := fun _ => Ev.up (by simp only [Y3.j0, if_true]; exact Ev.now _)
  by_cases h0 : a = q.f0
  ·by_cases h1 : b = q.f1
   ·by_cases hl : c.length = q.f2.length
    ·by_cases hl3 : d.length = q.f3.length
     ·have st : ∀ r, Ev (fun k => Y3.l0 k 0 a b c d q.f0 q.f1 q.f2 q.f3) r → Ev (Y5i ⟨a, b, c, d⟩ q) r := by
       intro r hr
       refine Ev.up ?_
       simp only [Y5i, Y3.f, if_pos h0, if_pos (Y4j.mpr h1), if_pos (show (c.length : Int) = (q.f2.length : Int) by omega)]
       rw [show ((d.length : Int) != (q.f3.length : Int)) = false from by rw [hl3]; simp]
       refine Ev.up ?_
       simp only [Y3.j0, Bool.false_eq_true, if_false]
       exact hr
      have tx := texts_r ⟨a, b, c, d⟩ q hl hc rfl c.length 0 (by simp)
      have kx := kids_r ⟨a, b, c, d⟩ q hl3 hd ih d.length 0 (by simp)
      constructor
      ·rintro rfl
       exact st _ (tx.1 rfl _ (kx.1 rfl))
      ·intro ne
       by_cases h2 : c = q.f2
       ·exact st _ (tx.1 (by simpa using h2) _ (kx.2 (fun w => ne (s37_eq.mpr ⟨h0, h1, h2, by simpa using w⟩))))
       ·exact st _ (tx.2 (by simpa using h2))
     ·refine ⟨fun w => absurd (by rw [← w]) hl3, fun _ => Ev.up ?_⟩
      simp only [Y5i, Y3.f, if_pos h0, if_pos (Y4j.mpr h1), if_pos (show (c.length : Int) = (q.f2.length : Int) by omega)]
      rw [show ((d.length : Int) != (q.f3.length : Int)) = true from bne_iff_ne.mpr (by omega)]
      exact no ⟨a, b, c, d⟩
    ·refine ⟨fun w => absurd (by rw [← w]) hl, fun _ => Ev.up ?_⟩
     simp only [Y5i, Y3.f, if_pos h0, if_pos (Y4j.mpr h1), if_neg (show ¬ (c.length : Int) = (q.f2.length : Int) by omega)]
     exact no ⟨a, b, c, d⟩
   ·refine ⟨fun w => absurd (by rw [← w]) h1, fun _ => Ev.up ?_⟩
    simp only [Y5i, Y3.f, if_pos h0, if_neg (fun w => h1 (Y4j.mp w))]
    exact no ⟨a, b, c, d⟩
  ·refine ⟨fun w => absurd (by rw [← w]) h0, fun _ => Ev.up ?_⟩
   simp only [Y5i, Y3.f, if_neg h0]
   exact no ⟨a, b, c, d⟩
def FineN : NT → List UInt8 → Prop
 | .pathL p, _ => Y5z p
 | .seqL p, _ => Y5z p
 | .stepL p, _ => Y5z p
 | .notL ts, l => ts.length + l.length ≤ 1000000
 | _, _ => True
def FineR : Res → Prop
 | .ok p _ => Y5z p
 | .bad _ _ => True
theorem fine_k1 (k : Int) {p : S37} (h : Y5z p) : Y5z (pK k [p]) := .mk (by simp) (by simp) (by intro q hq; simp at hq; rw [hq]; exact h)
theorem fine_k2 (k : Int) {p q : S37} (h : Y5z p) (h2 : Y5z q) : Y5z (pK k [p, q]) := .mk (by simp) (by simp) (by
 intro x hx
 simp at hx
 rcases hx with rfl | rfl
 ·exact h
 ·exact h2)
theorem P.fine {m d l res} (h : P m d l res) : l.length ≤ 1000000 → FineN m l → FineR res := by
 induction h with
 | path_ok h1 _ ih1 ih2 => intro hl _; exact ih2 (Nat.le_trans h1.le hl) (ih1 hl trivial)
 | seq_ok h1 _ ih1 ih2 => intro hl _; exact ih2 (Nat.le_trans h1.le hl) (ih1 hl trivial)
 | step_ok h1 _ ih1 ih2 => intro hl _; exact ih2 (Nat.le_trans h1.le hl) (ih1 hl trivial)
 | @pathL_more d p l r0 q l1 res hk h1 _ ih1 ih2 =>
  intro hl hp
  have := Y1s hk
  have h2 : l1.length ≤ r0.length := h1.le
  exact ih2 (by omega) (fine_k2 4 hp (ih1 (by omega) trivial))
 | @seqL_more d p l r0 q l1 res hk h1 _ ih1 ih2 =>
  intro hl hp
  have := Y1s hk
  have h2 : l1.length ≤ r0.length := h1.le
  exact ih2 (by omega) (fine_k2 3 hp (ih1 (by omega) trivial))
 | stepL_more hk _ _ ih1 => intro hl hp; exact ih1 Z1o (fine_k1 _ hp)
 | not_ hk _ ih1 => intro hl _; exact ih1 Z1o trivial
 | nt_br hi _ ih1 => intro hl _; simp only [List.length_cons] at hl; have := Y36 hi; exact ih1 (by omega) (by simp only [FineN, List.length_cons, List.length_nil]; omega)
 | notL_more hk hi _ ih1 => intro hl hf; simp only [FineN] at hf; have := Y36 hi; have := Y1s hk; exact ih1 (by omega) (by simp only [FineN, List.length_append, List.length_cons, List.length_nil]; omega)
 | up_ok hk _ _ ih1 => intro hl _; exact fine_k1 _ (ih1 Z1o trivial)
 | br_ok hk _ _ hk2 ih1 => intro hl _; exact ih1 Z1o trivial
 | pathL_end _ => intro _ hp; exact hp
 | seqL_end _ => intro _ hp; exact hp
 | stepL_end _ _ _ => intro _ hp; exact hp
 | iri_ok _ _ => intro _ _; exact .mk (by simp) (by simp) (by simp)
 | nt_one _ _ => intro _ _; exact .mk (by simp) (by simp) (by simp)
 | notL_end hk => intro hl hf; simp only [FineN] at hf; exact .mk (by omega) (by simp) (by simp)
 | _ => intros; trivial
set_option maxRecDepth 100000 in
theorem Y5u : Ev (fun k => YH.f k) true := Ev.of (fun k => YH.mono k) (k := 100) (by decide +kernel)
theorem fine_0 : Y5z ⟨0, ⟨#[]⟩, [], []⟩ := .mk (by simp) (by simp) (by simp)
theorem S37.ind {M : S37 → Prop} (h : ∀ a b c d, (∀ q ∈ d, M q) → M ⟨a, b, c, d⟩) : ∀ p, M p
 | ⟨a, b, c, d⟩ => h a b c d (fun q hq => S37.ind h q)
termination_by p => SizeOf.sizeOf p
decreasing_by
 have := List.sizeOf_lt_of_mem hq
 simp
 omega
inductive Y3L : Nat → S37 → Prop
 | mk {m a b c d} : b.size ≤ 300 → c.length ≤ 20 → (∀ x ∈ c, x.size ≤ 300) → d.length ≤ 4 → (∀ q ∈ d, Y3L m q) → Y3L (m + 1) ⟨a, b, c, d⟩
def bigF (p : S37) (deep : Int) (k : Nat) : Option Bool := Yn.f k p.f0 p.f1 p.f2 p.f3 deep
theorem Y52 (p : S37) (deep : Int) (hn : p.f2.length ≤ 20) {g : Nat → Option Bool} (hg : g = fun k => Yn.l1 k deep 0 p.f0 p.f1 p.f2 p.f3) (b : Bool) (he : Ev g b) : ∀ d i : Nat, i + d = p.f2.length →
  ∃ r, Ev (fun k => Yn.l0 k deep (i : Int) p.f0 p.f1 p.f2 p.f3) r ∧ (r = false → b = false ∧ ∀ x ∈ p.f2.drop i, x.size ≤ 300)
 | 0, i, h => by
  refine ⟨b, Ev.up ?_, fun hb => ⟨hb, Z1N⟩⟩
  simp only [Yn.l0, if_neg (show ¬ (i : Int) < (p.f2.length : Int) by omega)]
  rw [hg] at he
  exact he
 | d + 1, i, h => by
  have h1 : i < p.f2.length := by omega
  by_cases hx : p.f2[i].size > 300
  ·refine ⟨true, Ev.up ?_, fun q => by cases q⟩
   simp only [Yn.l0, if_pos (show (i : Int) < (p.f2.length : Int) by omega), if_pos (show (0 : Int) ≤ (i : Int) by omega), Y39 h1, if_pos (show ((p.f2[i].size : Nat) : Int) > 300 by omega)]
   exact Z1v
  ·obtain ⟨r, h2, h3⟩ := Y52 p deep hn hg b he d (i + 1) (by omega)
   refine ⟨r, Ev.up ?_, fun q => ⟨(h3 q).1, fun x hm => ?_⟩⟩
   ·simp only [Yn.l0, if_pos (show (i : Int) < (p.f2.length : Int) by omega), if_pos (show (0 : Int) ≤ (i : Int) by omega), Y39 h1, if_neg (show ¬ ((p.f2[i].size : Nat) : Int) > 300 by omega), Y3d h1 (by omega)]
    exact h2
   ·rw [List.drop_eq_getElem_cons h1, List.mem_cons] at hm
    rcases hm with rfl | hm
    ·omega
    ·exact (h3 q).2 x hm
theorem Y5C (p : S37) (deep : Nat) (hd : deep ≤ 12) (hn : p.f3.length ≤ 4) (ih : ∀ q ∈ p.f3, ∀ e : Nat, e ≤ 13 → ∃ r, Ev (bigF q (e : Int)) r ∧ (r = false → e ≤ 12 ∧ Y3L (13 - e) q)) : ∀ d i : Nat, i + d = p.f3.length →
  ∃ r, Ev (fun k => Yn.l1 k (deep : Int) (i : Int) p.f0 p.f1 p.f2 p.f3) r ∧ (r = false → ∀ q ∈ p.f3.drop i, deep + 1 ≤ 12 ∧ Y3L (13 - (deep + 1)) q)
 | 0, i, h => by
  refine ⟨false, Ev.up ?_, fun hb => by rw [List.drop_of_length_le (by omega)]; simp⟩
  simp only [Yn.l1, if_neg (show ¬ (i : Int) < (p.f3.length : Int) by omega)]
  exact Z1v
 | d + 1, i, h => by
  have h1 : i < p.f3.length := by omega
  obtain ⟨r1, e1, h2⟩ := ih p.f3[i] (List.getElem_mem h1) (deep + 1) (by omega)
  have hw : wrap64 ((deep : Int) + 1) = ((deep + 1 : Nat) : Int) := Y3d (n := 1000) (by omega) (by omega)
  cases r1 with
  | true =>
   refine ⟨true, Ev.up ?_, fun q => by cases q⟩
   simp only [Yn.l1, if_pos (show (i : Int) < (p.f3.length : Int) by omega), if_pos (show (0 : Int) ≤ (i : Int) by omega), Y3j h1, hw]
   refine Ev.bind e1 ?_
   simp only [if_true]
   exact Z1v
  | false =>
   obtain ⟨r, h3, h4⟩ := Y5C p deep hd hn ih d (i + 1) (by omega)
   refine ⟨r, Ev.up ?_, fun q x hm => ?_⟩
   ·simp only [Yn.l1, if_pos (show (i : Int) < (p.f3.length : Int) by omega), if_pos (show (0 : Int) ≤ (i : Int) by omega), Y3j h1, hw, Y3d h1 (show p.f3.length ≤ 1000000 by omega)]
    refine Ev.bind e1 ?_
    simp only [Bool.false_eq_true, if_false]
    exact h3
   ·rw [List.drop_eq_getElem_cons h1, List.mem_cons] at hm
    rcases hm with rfl | hm
    ·exact h2 rfl
    ·exact h4 q x hm
theorem big_all : ∀ p, ∀ deep : Nat, deep ≤ 13 → ∃ r, Ev (bigF p (deep : Int)) r ∧ (r = false → deep ≤ 12 ∧ Y3L (13 - deep) p) := by
 refine S37.ind fun a b c d ih deep hd => ?_
 have yes : ∀ x : Unit, Ev (fun k => Yn.j0 k (deep : Int) true a b c d) true := fun _ => Ev.up (by simp only [Yn.j0, if_true]; exact Ev.now _)
 by_cases h1 : deep > 12
 ·refine ⟨true, Ev.up ?_, fun q => by cases q⟩
  simp only [bigF, Yn.f, if_pos (show (deep : Int) > 12 by omega)]
  exact yes ()
 ·by_cases h2 : d.length > 4
  ·refine ⟨true, Ev.up ?_, fun q => by cases q⟩
   simp only [bigF, Yn.f, if_neg (show ¬ (deep : Int) > 12 by omega), if_pos (show (d.length : Int) > 4 by omega)]
   exact yes ()
  ·by_cases h3 : c.length > 20
   ·refine ⟨true, Ev.up ?_, fun q => by cases q⟩
    simp only [bigF, Yn.f, if_neg (show ¬ (deep : Int) > 12 by omega), if_neg (show ¬ (d.length : Int) > 4 by omega), if_pos (show (c.length : Int) > 20 by omega)]
    exact yes ()
   ·by_cases h4 : b.size > 300
    ·refine ⟨true, Ev.up ?_, fun q => by cases q⟩
     simp only [bigF, Yn.f, if_neg (show ¬ (deep : Int) > 12 by omega), if_neg (show ¬ (d.length : Int) > 4 by omega), if_neg (show ¬ (c.length : Int) > 20 by omega), decide_eq_true (show (b.size : Int) > 300 by omega)]
     exact yes ()
    ·obtain ⟨r1, e1, k1⟩ := Y5C ⟨a, b, c, d⟩ deep (by omega) (show d.length ≤ 4 by omega) (fun q hq e he => ih q hq e he) d.length 0 (by simp)
     obtain ⟨r, e2, k2⟩ := Y52 ⟨a, b, c, d⟩ (deep : Int) (show c.length ≤ 20 by omega) rfl r1 e1 c.length 0 (by simp)
     refine ⟨r, Ev.up ?_, fun q => ⟨by omega, ?_⟩⟩
     ·simp only [bigF, Yn.f, if_neg (show ¬ (deep : Int) > 12 by omega), if_neg (show ¬ (d.length : Int) > 4 by omega), if_neg (show ¬ (c.length : Int) > 20 by omega), decide_eq_false (show ¬ (b.size : Int) > 300 by omega)]
      refine Ev.up ?_
      simp only [Yn.j0, Bool.false_eq_true, if_false]
      exact e2
     ·obtain ⟨q1, q2⟩ := k2 q
      have q3 := k1 q1
      obtain ⟨m, hm⟩ : ∃ m, 13 - deep = m + 1 := ⟨12 - deep, by omega⟩
      rw [hm]
      have hm2 : 13 - (deep + 1) = m := by omega
      rw [hm2] at q3
      exact .mk (by omega) (by omega) (by simpa using q2) (by omega) (fun x hx => (q3 x (by simpa using hx)).2)
theorem Y3L.fine {m : Nat} {p : S37} (h : Y3L m p) : Y5z p := by
 induction h with
 | mk h1 h2 h3 h4 _ ih => exact .mk (by omega) (by omega) ih
def Y2B (k : Int) : Int := if k = 1 ∨ k = 8 then 0 else if k = 3 ∨ k = 4 then 2 else if k = 2 ∨ k = 5 ∨ k = 6 ∨ k = 7 then 1 else -1
theorem kidsI (a : Int) : Ev (fun k => YA.f k a) (Y2B a) := by
 by_cases h1 : a = 1
 ·subst h1; exact Ev.of (fun k => YA.mono _ k) (k := 5) (by decide)
 by_cases h2 : a = 2
 ·subst h2; exact Ev.of (fun k => YA.mono _ k) (k := 5) (by decide)
 by_cases h3 : a = 3
 ·subst h3; exact Ev.of (fun k => YA.mono _ k) (k := 5) (by decide)
 by_cases h4 : a = 4
 ·subst h4; exact Ev.of (fun k => YA.mono _ k) (k := 5) (by decide)
 by_cases h5 : a = 5
 ·subst h5; exact Ev.of (fun k => YA.mono _ k) (k := 5) (by decide)
 by_cases h6 : a = 6
 ·subst h6; exact Ev.of (fun k => YA.mono _ k) (k := 5) (by decide)
 by_cases h7 : a = 7
 ·subst h7; exact Ev.of (fun k => YA.mono _ k) (k := 5) (by decide)
 by_cases h8 : a = 8
 ·subst h8; exact Ev.of (fun k => YA.mono _ k) (k := 5) (by decide)
 have e : Y2B a = -1 := by simp [Y2B, h1, h2, h3, h4, h5, h6, h7, h8]
 rw [e]
 refine Ev.of (fun k => YA.mono _ k) (k := 5) ?_
 have b : ∀ n : Int, ¬ a = n → (a == n) = false := fun n h => beq_eq_false_iff_ne.mpr h
 simp [YA.f, YA.j0, YA.j1, h1, h2, h3, h4, h5, h6, h7, b 8 h8, b 7 h7]
theorem kidsR (a : Int) : Ev (fun k => Yj.f k a) (Y2B a) := by
 by_cases h1 : a = 1
 ·subst h1; exact Ev.of (fun k => Yj.mono _ k) (k := 5) (by decide)
 by_cases h2 : a = 2
 ·subst h2; exact Ev.of (fun k => Yj.mono _ k) (k := 5) (by decide)
 by_cases h3 : a = 3
 ·subst h3; exact Ev.of (fun k => Yj.mono _ k) (k := 5) (by decide)
 by_cases h4 : a = 4
 ·subst h4; exact Ev.of (fun k => Yj.mono _ k) (k := 5) (by decide)
 by_cases h5 : a = 5
 ·subst h5; exact Ev.of (fun k => Yj.mono _ k) (k := 5) (by decide)
 by_cases h6 : a = 6
 ·subst h6; exact Ev.of (fun k => Yj.mono _ k) (k := 5) (by decide)
 by_cases h7 : a = 7
 ·subst h7; exact Ev.of (fun k => Yj.mono _ k) (k := 5) (by decide)
 by_cases h8 : a = 8
 ·subst h8; exact Ev.of (fun k => Yj.mono _ k) (k := 5) (by decide)
 have e : Y2B a = -1 := by simp [Y2B, h1, h2, h3, h4, h5, h6, h7, h8]
 rw [e]
 refine Ev.of (fun k => Yj.mono _ k) (k := 5) ?_
 have b : ∀ n : Int, ¬ a = n → (a == n) = false := fun n h => beq_eq_false_iff_ne.mpr h
 simp [Yj.f, Yj.j0, Yj.j1, h1, h2, h3, h4, h5, h6, h7, b 8 h8, b 4 h4]
def Top (deep : Nat) (p : S37) : Prop :=
 deep ≤ 5 ∧ Y2B p.f0 = (p.f3.length : Int) ∧ (p.f0 = 1 → Y2O p.f1 = true) ∧ (p.f0 ≠ 1 → p.f1 = ⟨#[]⟩) ∧ (p.f0 = 8 → 1 ≤ p.f2.length ∧ p.f2.length ≤ 4) ∧ (p.f0 ≠ 8 → p.f2 = []) ∧ ∀ x ∈ p.f2, Y2O x = true
inductive May : Nat → S37 → Prop
 | mk {deep p} : Top deep p → (∀ q ∈ p.f3, May (deep + 1) q) → May deep p
def cntI (p : S37) (deep : Int) (k : Nat) : Option Int := Yp.f k p.f0 p.f1 p.f2 p.f3 deep
def cntR (p : S37) (deep : Int) (k : Nat) : Option Int := Y2.f k p.f0 p.f1 p.f2 p.f3 deep
theorem Y4N {t : ByteArray} (h : Y2O t = true) : 0 < t.size ∧ t.size ≤ 60 := by
 unfold Y2O at h
 simp only [Bool.and_eq_true, decide_eq_true_eq] at h
 exact ⟨h.1.1.1, h.1.1.2⟩
theorem iri_nil : Y2O ⟨#[]⟩ = false := by
 cases h : Y2O ⟨#[]⟩ with
 | false => rfl
 | true => have := (Y4N h).1; exact absurd this (by decide)
theorem Y3H {t : ByteArray} : t.toList = ([] : List UInt8) ↔ t = ⟨#[]⟩ := by
 rw [← Y4j]
 have : (⟨#[]⟩ : ByteArray).toList = [] := by rw [Lib.toList_data]
 rw [this]
theorem tI {t : ByteArray} (h : t.size ≤ 1000000) : Y14.f t = some (Y2O t) := by
 unfold Y14.f; rw [if_pos Z1X]
theorem tR {t : ByteArray} (h : t.size ≤ 1000000) : YV.f t = some (Y2O t) := by
 unfold YV.f; rw [if_pos Z1X]
theorem nI {t : ByteArray} (h : t.size ≤ 1000000) : Y1i.f t = some (!Y2O t) := by
 unfold Y1i.f; rw [tI h]; rfl
theorem cf_l (xs : List ByteArray) (hn : xs.length ≤ 20) (hx : ∀ x ∈ xs, x.size ≤ 300) : ∀ d i : Nat, i + d = xs.length →
  ((∀ x ∈ xs.drop i, Y2O x = true) → Ev (fun k => Yf.l0 k xs (xs.length : Int) (i : Int)) (-1)) ∧
  ((¬ ∀ x ∈ xs.drop i, Y2O x = true) → ∃ j : Nat, Ev (fun k => Yf.l0 k xs (xs.length : Int) (i : Int)) (j : Int))
 | 0, i, h => by
  refine ⟨fun _ => Ev.up ?_, fun q => absurd Z1N q⟩
  simp only [Yf.l0, if_neg (show ¬ (i : Int) < (xs.length : Int) by omega)]
  exact Z1v
 | d + 1, i, h => by
  have h1 : i < xs.length := by omega
  have hs := nI (t := xs[i]) (by have := hx xs[i] (List.getElem_mem h1); omega)
  obtain ⟨t1, t2⟩ := cf_l xs hn hx d (i + 1) (by omega)
  rw [List.drop_eq_getElem_cons h1]
  by_cases e : Y2O xs[i] = true
  ·have st : ∀ r, Ev (fun k => Yf.l0 k xs (xs.length : Int) ((i + 1 : Nat) : Int)) r → Ev (fun k => Yf.l0 k xs (xs.length : Int) (i : Int)) r := by
    intro r hr
    refine Ev.up ?_
    simp only [Yf.l0, if_pos (show (i : Int) < (xs.length : Int) by omega), if_pos (show (0 : Int) ≤ (i : Int) by omega), Y39 h1, hs, e, Option.bind_some, Bool.not_true, Bool.false_eq_true, if_false, Y3d h1 (show xs.length ≤ 1000000 by omega)]
    exact hr
   exact ⟨fun q => st _ (t1 (fun x m => q x (List.mem_cons_of_mem _ m))), fun q => by
    obtain ⟨j, hj⟩ := t2 (fun w => q (fun x m => by
     rcases List.mem_cons.mp m with rfl | m
     ·exact e
     ·exact w x m))
    exact ⟨j, st _ hj⟩⟩
  ·refine ⟨fun q => absurd (q _ (List.mem_cons_self ..)) e, fun _ => ⟨i, Ev.up ?_⟩⟩
   have e2 : Y2O xs[i] = false := by simpa using e
   simp only [Yf.l0, if_pos (show (i : Int) < (xs.length : Int) by omega), if_pos (show (0 : Int) ≤ (i : Int) by omega), Y39 h1, hs, e2, Option.bind_some, Bool.not_false, if_true]
   exact Z1v
theorem cf (xs : List ByteArray) (hn : xs.length ≤ 20) (hx : ∀ x ∈ xs, x.size ≤ 300) : ∃ b, Ev (fun k => Yq.f k xs) b ∧ (b = false ↔ ∀ x ∈ xs, Y2O x = true) := by
 obtain ⟨t1, t2⟩ := cf_l xs hn hx xs.length 0 (by omega)
 by_cases e : ∀ x ∈ xs, Y2O x = true
 ·exact ⟨false, Ev.bind (t1 e) (Ev.congr (fun k => by simp) (Ev.now _)), by simpa using e⟩
 ·obtain ⟨j, hj⟩ := t2 e
  refine ⟨true, Ev.bind hj (Ev.congr (fun k => by rw [decide_eq_true (show (j : Int) ≥ 0 by omega)]) (Ev.now _)), by simpa using e⟩
theorem count_top {m : Nat} (p : S37) (hp : Y3L m p) (deep : Nat) :
  (¬ Top deep p → Ev (cntI p (deep : Int)) (-1)) ∧ (Top deep p → ∀ r, Ev (fun k => Yp.l0 k (deep : Int) 1 p.f3 (p.f3.length : Int) 0) r → Ev (cntI p (deep : Int)) r) := by
 obtain ⟨hb, hc, hx, hd, _⟩ := hp
 rename_i m a b c d hk
 have hnb := nI (t := b) (by omega)
 obtain ⟨cb, ec, hcb⟩ := cf c hc hx
 constructor
 ·intro hn
  refine Ev.up ?_
  simp only [cntI, Yp.f]
  by_cases h5 : (deep : Int) > 5
  ·simp only [if_pos h5]; exact Ev.now _
  simp only [if_neg h5]
  refine Ev.bind (kidsI a) ?_
  by_cases hk2 : (d.length : Int) = Y2B a
  ·simp only [if_pos hk2]
   by_cases ht : ((a == 1) == (b.toList != ([] : List UInt8))) = true
   ·simp only [if_pos ht]
    by_cases ht2 : ((a == 8) == (decide ((c.length : Int) > 0))) = true
    ·simp only [if_pos ht2]
     by_cases h4 : (c.length : Int) > 4
     ·simp only [if_pos h4]; exact Ev.now _
     simp only [if_neg h4]
     simp only [beq_iff_eq] at ht ht2
     have h8 : (a = 8 → 1 ≤ c.length ∧ c.length ≤ 4) ∧ (a ≠ 8 → c = []) := by
      by_cases e8 : a = 8
      ·rw [beq_iff_eq.mpr e8] at ht2
       have := of_decide_eq_true ht2.symm
       exact ⟨fun _ => by omega, fun q => absurd e8 q⟩
      ·rw [beq_eq_false_iff_ne.mpr e8] at ht2
       have := of_decide_eq_false ht2.symm
       exact ⟨fun q => absurd q e8, fun _ => List.eq_nil_of_length_eq_zero (by omega)⟩
     by_cases hbe : b.toList = ([] : List UInt8)
     ·simp only [if_pos hbe]
      refine Ev.bind ec ?_
      cases cb with
      | true => simp only [if_true]; exact Ev.now _
      | false =>
       exfalso
       have a1 : a ≠ 1 := by
        intro e
        rw [beq_iff_eq.mpr e, hbe] at ht
        cases ht
       exact hn ⟨by omega, hk2.symm, fun q => absurd q a1, fun _ => Y3H.mp hbe, h8.1, h8.2, hcb.mp rfl⟩
     ·simp only [if_neg hbe, hnb, Option.bind_some]
      cases hi : Y2O b with
      | false => simp only [Bool.not_false, if_true]; exact Ev.now _
      | true =>
       simp only [Bool.not_true, Bool.false_eq_true, if_false]
       refine Ev.bind ec ?_
       cases cb with
       | true => simp only [if_true]; exact Ev.now _
       | false =>
        exfalso
        have a1 : a = 1 := by
         rw [bne_iff_ne.mpr hbe] at ht
         simpa using ht
        exact hn ⟨by omega, hk2.symm, fun _ => hi, fun q => absurd a1 q, h8.1, h8.2, hcb.mp rfl⟩
    ·simp only [if_neg ht2]; exact Ev.now _
   ·simp only [if_neg ht]; exact Ev.now _
  ·simp only [if_neg hk2]; exact Ev.now _
 ·rintro ⟨h5, hk2, hi, hb0, h8, h80, hall⟩ r hr
  simp only at h5 hk2 hi hb0 h8 h80 hall hr
  have hcb2 := hcb.mpr hall
  subst hcb2
  refine Ev.up ?_
  simp only [cntI, Yp.f, if_neg (show ¬ (deep : Int) > 5 by omega)]
  refine Ev.bind (kidsI a) ?_
  simp only [if_pos hk2.symm]
  have h4 : ¬ (c.length : Int) > 4 := by
   by_cases e8 : a = 8
   ·have := h8 e8; omega
   ·rw [h80 e8]; simp
  have ht2 : ((a == 8) == (decide ((c.length : Int) > 0))) = true := by
   by_cases e8 : a = 8
   ·have := h8 e8
    rw [beq_iff_eq.mpr e8, decide_eq_true (show (c.length : Int) > 0 by omega)]; rfl
   ·rw [beq_eq_false_iff_ne.mpr e8, h80 e8]; rfl
  by_cases a1 : a = 1
  ·have hb1 := hi a1
   have hbe : ¬ b.toList = ([] : List UInt8) := by
    intro e
    rw [Y3H.mp e, iri_nil] at hb1
    cases hb1
   have ht : ((a == 1) == (b.toList != ([] : List UInt8))) = true := by
    rw [beq_iff_eq.mpr a1, bne_iff_ne.mpr hbe]; rfl
   simp only [if_pos ht, if_pos ht2, if_neg h4, if_neg hbe, hnb, hb1, Option.bind_some, Bool.not_true, Bool.false_eq_true, if_false]
   refine Ev.bind ec ?_
   simp only [Bool.false_eq_true, if_false]
   exact hr
  ·have hbe : b.toList = ([] : List UInt8) := Y3H.mpr (hb0 a1)
   have ht : ((a == 1) == (b.toList != ([] : List UInt8))) = true := by
    rw [beq_eq_false_iff_ne.mpr a1, hbe]; rfl
   simp only [if_pos ht, if_pos ht2, if_neg h4, if_pos hbe]
   refine Ev.bind ec ?_
   simp only [Bool.false_eq_true, if_false]
   exact hr
theorem Y59 (p : S37) (deep : Int) (hn : p.f2.length ≤ 20) (hx : ∀ x ∈ p.f2, x.size ≤ 300) {g : Nat → Option Int} (hg : g = fun k => Y2.l1 k deep 1 0 p.f0 p.f1 p.f2 p.f3) : ∀ d i : Nat, i + d = p.f2.length →
  ((∀ x ∈ p.f2.drop i, Y2O x = true) → ∀ r, Ev g r → Ev (fun k => Y2.l0 k deep (i : Int) p.f0 p.f1 p.f2 p.f3) r) ∧
  ((¬ ∀ x ∈ p.f2.drop i, Y2O x = true) → Ev (fun k => Y2.l0 k deep (i : Int) p.f0 p.f1 p.f2 p.f3) (-1))
 | 0, i, h => by
  refine ⟨fun _ r hr => Ev.up ?_, fun q => absurd Z1N q⟩
  simp only [Y2.l0, if_neg (show ¬ (i : Int) < (p.f2.length : Int) by omega)]
  rw [hg] at hr
  exact hr
 | d + 1, i, h => by
  have h1 : i < p.f2.length := by omega
  have hs := tR (t := p.f2[i]) (by have := hx p.f2[i] (List.getElem_mem h1); omega)
  obtain ⟨t1, t2⟩ := Y59 p deep hn hx hg d (i + 1) (by omega)
  rw [List.drop_eq_getElem_cons h1]
  by_cases e : Y2O p.f2[i] = true
  ·have st : ∀ r, Ev (fun k => Y2.l0 k deep ((i + 1 : Nat) : Int) p.f0 p.f1 p.f2 p.f3) r → Ev (fun k => Y2.l0 k deep (i : Int) p.f0 p.f1 p.f2 p.f3) r := by
    intro r hr
    refine Ev.up ?_
    simp only [Y2.l0, if_pos (show (i : Int) < (p.f2.length : Int) by omega), if_pos (show (0 : Int) ≤ (i : Int) by omega), Y39 h1, hs, e, Option.bind_some, if_true, Y3d h1 (show p.f2.length ≤ 1000000 by omega)]
    exact hr
   exact ⟨fun q r hr => st _ (t1 (fun x m => q x (List.mem_cons_of_mem _ m)) r hr), fun q => st _ (t2 (fun w => q (fun x m => by
     rcases List.mem_cons.mp m with rfl | m
     ·exact e
     ·exact w x m)))⟩
  ·refine ⟨fun q => absurd (q _ (List.mem_cons_self ..)) e, fun _ => Ev.up ?_⟩
   have e2 : Y2O p.f2[i] = false := by simpa using e
   simp only [Y2.l0, if_pos (show (i : Int) < (p.f2.length : Int) by omega), if_pos (show (0 : Int) ≤ (i : Int) by omega), Y39 h1, hs, e2, Option.bind_some, Bool.false_eq_true, if_false]
   exact Z1v
theorem may_top {m : Nat} (p : S37) (hp : Y3L m p) (deep : Nat) :
  (¬ Top deep p → Ev (cntR p (deep : Int)) (-1)) ∧ (Top deep p → ∀ r, Ev (fun k => Y2.l1 k (deep : Int) 1 0 p.f0 p.f1 p.f2 p.f3) r → Ev (cntR p (deep : Int)) r) := by
 obtain ⟨hb, hc, hx, hd, _⟩ := hp
 rename_i m a b c d hk
 have hnb := tR (t := b) (by omega)
 obtain ⟨x1, x2⟩ := Y59 ⟨a, b, c, d⟩ (deep : Int) hc hx rfl c.length 0 (by simp)
 simp only [List.drop_zero] at x1 x2
 have z0 : Ev (fun k => Y2.j0 k (deep : Int) true a b c d) (-1) := Ev.up (by simp only [Y2.j0, if_true]; exact Ev.now _)
 have z1 : Ev (fun k => Y2.j1 k (deep : Int) true a b c d) (-1) := Ev.up (by simp only [Y2.j1, if_true]; exact Ev.now _)
 have y1 : ∀ r, Ev (fun k => Y2.l0 k (deep : Int) 0 a b c d) r → Ev (fun k => Y2.j1 k (deep : Int) false a b c d) r := fun r h => Ev.up (by simp only [Y2.j1, Bool.false_eq_true, if_false]; exact h)
 have y0 : ∀ r, ((a = 1 → Y2O b = true) ∧ (a = 8 → 1 ≤ c.length ∧ c.length ≤ 4) → Ev (fun k => Y2.l0 k (deep : Int) 0 a b c d) r) → (¬ ((a = 1 → Y2O b = true) ∧ (a = 8 → 1 ≤ c.length ∧ c.length ≤ 4)) → r = -1) → Ev (fun k => Y2.j0 k (deep : Int) false a b c d) r := by
  intro r h1 h2
  refine Ev.up ?_
  simp only [Y2.j0, Bool.false_eq_true, if_false]
  by_cases a1 : a = 1
  ·have a8 : ¬ a = 8 := by omega
   simp only [if_pos a1, hnb, Option.bind_some]
   cases hi : Y2O b with
   | true =>
    simp only [if_true, if_neg a8]
    exact y1 _ (h1 ⟨fun _ => hi, fun q => absurd q a8⟩)
   | false =>
    simp only [Bool.false_eq_true, if_false]
    rw [h2 (fun q => by rw [hi] at q; exact absurd (q.1 a1) (by simp))]
    exact z1
  ·simp only [if_neg a1]
   by_cases a8 : a = 8
   ·simp only [if_pos a8]
    by_cases l1 : (c.length : Int) < 1
    ·simp only [if_pos l1]
     rw [h2 (fun q => by have := q.2 a8; omega)]
     exact z1
    ·by_cases l4 : (c.length : Int) > 4
     ·simp only [if_neg l1, decide_eq_true l4]
      rw [h2 (fun q => by have := q.2 a8; omega)]
      exact z1
     ·simp only [if_neg l1, decide_eq_false l4]
      exact y1 _ (h1 ⟨fun q => absurd q a1, fun _ => by omega⟩)
   ·simp only [if_neg a8]
    exact y1 _ (h1 ⟨fun q => absurd q a1, fun q => absurd q a8⟩)
 have key : ∀ r, (Top deep ⟨a, b, c, d⟩ → Ev (fun k => Y2.l1 k (deep : Int) 1 0 a b c d) r) → (¬ Top deep ⟨a, b, c, d⟩ → r = -1) → Ev (cntR ⟨a, b, c, d⟩ (deep : Int)) r := by
  intro r h1 h2
  refine Ev.up ?_
  simp only [cntR, Y2.f]
  refine Ev.bind (kidsR a) ?_
  by_cases hk2 : Y2B a = (d.length : Int)
  ·simp only [if_pos hk2]
   by_cases h5 : (deep : Int) > 5
   ·simp only [if_pos h5]
    rw [h2 (fun q => by have := q.1; omega)]
    exact z0
   ·simp only [if_neg h5]
    have main : (a ≠ 1 → b = ⟨#[]⟩) → (a ≠ 8 → c = []) → Ev (fun k => Y2.j0 k (deep : Int) false a b c d) r := by
     intro hb0 h80
     refine y0 r (fun q => ?_) (fun q => h2 (fun t => q ⟨t.2.2.1, t.2.2.2.2.1⟩))
     by_cases hall : ∀ x ∈ c, Y2O x = true
     ·exact x1 hall _ (h1 ⟨by omega, hk2, q.1, hb0, q.2, h80, hall⟩)
     ·rw [h2 (fun t => hall t.2.2.2.2.2.2)]
      exact x2 hall
    by_cases a1 : a = 1
    ·have a8 : ¬ a = 8 := by omega
     simp only [if_pos a1, if_neg a8]
     by_cases l0 : (c.length : Int) > 0
     ·simp only [decide_eq_true l0]
      rw [h2 (fun t => by have hc0 : c = [] := t.2.2.2.2.2.1 a8; rw [hc0] at l0; simp at l0)]
      exact z0
     ·simp only [decide_eq_false l0]
      exact main (fun q => absurd a1 q) (fun _ => List.eq_nil_of_length_eq_zero (by omega))
    ·simp only [if_neg a1]
     by_cases hbe : b.toList = ([] : List UInt8)
     ·simp only [if_pos hbe]
      by_cases a8 : a = 8
      ·simp only [if_pos a8]
       exact main (fun _ => Y3H.mp hbe) (fun q => absurd a8 q)
      ·simp only [if_neg a8]
       by_cases l0 : (c.length : Int) > 0
       ·simp only [decide_eq_true l0]
        rw [h2 (fun t => by have hc0 : c = [] := t.2.2.2.2.2.1 a8; rw [hc0] at l0; simp at l0)]
        exact z0
       ·simp only [decide_eq_false l0]
        exact main (fun _ => Y3H.mp hbe) (fun _ => List.eq_nil_of_length_eq_zero (by omega))
     ·simp only [if_neg hbe]
      rw [h2 (fun t => hbe (Y3H.mpr (t.2.2.2.1 a1)))]
      exact z0
  ·simp only [if_neg hk2]
   rw [h2 (fun q => hk2 q.2.1)]
   exact z0
 exact ⟨fun hn => key _ (fun t => absurd t hn) (fun _ => rfl), fun ht r hr => key r (fun _ => hr) (fun hn => absurd ht hn)⟩
theorem Y4u (p : S37) (deep : Nat) (hd : deep ≤ 12) (B : Nat) (hB : B ≤ 4398046511104) (hn : p.f3.length ≤ 4)
  (ih : ∀ q ∈ p.f3, ∃ v : Int, Ev (cntI q ((deep + 1 : Nat) : Int)) v ∧ Ev (cntR q ((deep + 1 : Nat) : Int)) v ∧ (v = -1 ∨ (1 ≤ v ∧ v ≤ B ∧ May (deep + 1) q))) : ∀ d i : Nat, i + d = p.f3.length → ∀ x : Nat, 1 ≤ x → x ≤ 1 + i * B →
  ∃ v : Int, Ev (fun k => Yp.l0 k (deep : Int) (x : Int) p.f3 (p.f3.length : Int) (i : Int)) v ∧ Ev (fun k => Y2.l1 k (deep : Int) (x : Int) (i : Int) p.f0 p.f1 p.f2 p.f3) v ∧ (v = -1 ∨ (1 ≤ v ∧ v ≤ 1 + p.f3.length * B ∧ ∀ q ∈ p.f3.drop i, May (deep + 1) q))
 | 0, i, h, x, hx1, hx => by
  have hx2 : ((x : Nat) : Int) ≤ 1 + (p.f3.length : Int) * (B : Int) := by
   have e : i = p.f3.length := by omega
   rw [← e]; exact_mod_cast hx
  refine ⟨x, Ev.up ?_, Ev.up ?_, Or.inr ⟨by omega, hx2, Z1N⟩⟩
  ·simp only [Yp.l0, if_neg (show ¬ (i : Int) < (p.f3.length : Int) by omega)]
   exact Z1v
  ·simp only [Y2.l1, if_neg (show ¬ (i : Int) < (p.f3.length : Int) by omega)]
   exact Z1v
 | d + 1, i, h, x, hx1, hx => by
  have h1 : i < p.f3.length := by omega
  obtain ⟨v, e1, e2, hv⟩ := ih p.f3[i] (List.getElem_mem h1)
  have hw : wrap64 ((deep : Int) + 1) = ((deep + 1 : Nat) : Int) := Y3d (n := 1000) (by omega) (by omega)
  have p1 := show (i : Int) < (p.f3.length : Int) by omega
  have p0 := show (0 : Int) ≤ (i : Int) by omega
  rcases hv with rfl | ⟨v1, v2, v3⟩
  ·refine ⟨-1, Ev.up ?_, Ev.up ?_, Or.inl rfl⟩
   ·simp only [Yp.l0, if_pos p1, if_pos p0, Y3j h1, hw]
    exact Ev.bind e1 (Ev.congr (fun k => by simp) (Ev.now _))
   ·simp only [Y2.l1, if_pos p1, if_pos p0, Y3j h1, hw]
    exact Ev.bind e2 (Ev.congr (fun k => by simp) (Ev.now _))
  ·obtain ⟨n, rfl⟩ := Int.eq_ofNat_of_zero_le (show 0 ≤ v by omega)
   have hi4 : i ≤ 4 := by omega
   have hnB : n ≤ B := by omega
   have hxB : x + n ≤ 1 + (i + 1) * B := by rw [Nat.add_mul]; omega
   have hiB : (i + 1) * B ≤ 5 * B := Nat.mul_le_mul_right B (by omega)
   have hw2 : wrap64 ((x : Int) + (n : Int)) = ((x + n : Nat) : Int) := by
    unfold wrap64
    omega
   obtain ⟨v, f1, f2, f3⟩ := Y4u p deep hd B hB hn ih d (i + 1) (by omega) (x + n) (Nat.le_trans hx1 (Nat.le_add_right _ _)) hxB
   refine ⟨v, Ev.up ?_, Ev.up ?_, ?_⟩
   ·simp only [Yp.l0, if_pos p1, if_pos p0, Y3j h1, hw]
    refine Ev.bind e1 ?_
    simp only [if_neg (show ¬ (n : Int) < 0 by omega), Y3d h1 (show p.f3.length ≤ 1000000 by omega)]
    rw [hw2]
    exact f1
   ·simp only [Y2.l1, if_pos p1, if_pos p0, Y3j h1, hw]
    refine Ev.bind e2 ?_
    simp only [if_neg (show ¬ (n : Int) < 0 by omega), Y3d h1 (show p.f3.length ≤ 1000000 by omega)]
    rw [hw2]
    exact f2
   ·rcases f3 with f3 | ⟨g1, g2, g3⟩
    ·exact Or.inl f3
    ·refine Or.inr ⟨g1, g2, fun q hq => ?_⟩
     rw [List.drop_eq_getElem_cons h1, List.mem_cons] at hq
     rcases hq with rfl | hq
     ·exact v3
     ·exact g3 q hq
theorem count_may {m : Nat} {p : S37} (hp : Y3L m p) : ∀ deep : Nat, deep + m ≤ 13 → ∃ v : Int, Ev (cntI p (deep : Int)) v ∧ Ev (cntR p (deep : Int)) v ∧ (v = -1 ∨ (1 ≤ v ∧ v ≤ ((8 ^ m : Nat) : Int) ∧ May deep p)) := by
 induction hp with
 | @mk m a b c d hb hc hx hd hk ih =>
  intro deep hm
  have hp : Y3L (m + 1) ⟨a, b, c, d⟩ := .mk hb hc hx hd hk
  obtain ⟨c1, c2⟩ := count_top _ hp deep
  obtain ⟨m1, m2⟩ := may_top _ hp deep
  by_cases ht : Top deep ⟨a, b, c, d⟩
  ·obtain ⟨v, e1, e2, e3⟩ := Y4u ⟨a, b, c, d⟩ deep (by omega) (8 ^ m) (Nat.le_trans (Nat.pow_le_pow_right (by omega) (show m ≤ 14 by omega)) (by decide)) hd (fun q hq => ih q hq (deep + 1) (by omega)) d.length 0 (by simp) 1 (by omega) (by omega)
   refine ⟨v, c2 ht _ e1, m2 ht _ e2, ?_⟩
   rcases e3 with e3 | ⟨g1, g2, g3⟩
   ·exact Or.inl e3
   ·refine Or.inr ⟨g1, ?_, .mk ht (by simpa using g3)⟩
    have : 1 ≤ 8 ^ m := Nat.pos_of_ne_zero (by simp)
    have h4 : d.length * 8 ^ m ≤ 4 * 8 ^ m := Nat.mul_le_mul_right _ hd
    have h5 : 1 + d.length * 8 ^ m ≤ 8 ^ (m + 1) := by rw [Nat.pow_succ]; omega
    refine Int.le_trans g2 ?_
    exact_mod_cast h5
  ·exact ⟨-1, c1 ht, m1 ht, Or.inl rfl⟩
def isI (p : S37) (k : Nat) : Option Bool := Y1b.f k p.f0 p.f1 p.f2 p.f3
def isR (p : S37) (k : Nat) : Option Bool := Y18.f k p.f0 p.f1 p.f2 p.f3
theorem is_path {p : S37} (hp : Y3L 13 p) : ∃ b, Ev (isI p) b ∧ Ev (isR p) b ∧ (b = true → May 0 p) := by
 obtain ⟨v, e1, e2, e3⟩ := count_may hp 0 (by omega)
 refine ⟨decide (1 ≤ v ∧ v ≤ 30), ?_, ?_, fun h => ?_⟩
 ·refine Ev.bind e1 (Ev.congr (fun k => ?_) (Ev.now _))
  by_cases h : v > 0
  ·rw [if_pos h]; congr 1; exact decide_eq_decide.2 (by omega)
  ·rw [if_neg h]; congr 1; exact (decide_eq_false (by omega)).symm
 ·refine Ev.bind e2 (Ev.congr (fun k => ?_) (Ev.now _))
  by_cases h : v ≥ 1
  ·rw [if_pos h]; congr 1; exact decide_eq_decide.2 (by omega)
  ·rw [if_neg h]; congr 1; exact (decide_eq_false (by omega)).symm
 ·have := of_decide_eq_true h
  rcases e3 with rfl | e3
  ·omega
  ·exact e3.2.2
theorem dec_cont (s : ByteArray) (i k : Nat) (h1 : 1 ≤ k) (h2 : k < (Utf8.decode s i).2) : (s.get! (i + k)).toNat / 64 = 2 := by
 unfold Utf8.decode at h2
 simp only at h2
 split at h2
 ·simp at h2; omega
 split at h2
 ·rename_i _ hc
  simp only [Bool.and_eq_true, beq_iff_eq, decide_eq_true_eq] at hc
  have e : k = 1 := by split at h2 <;> simp at h2 <;> omega
  rw [e]; exact hc.2.2
 split at h2
 ·rename_i _ _ hc
  simp only [Bool.and_eq_true, beq_iff_eq, decide_eq_true_eq] at hc
  have e : k = 1 ∨ k = 2 := by split at h2 <;> simp at h2 <;> omega
  rcases e with rfl | rfl
  ·exact hc.1.2.2
  ·exact hc.2.2
 split at h2
 ·rename_i _ _ _ hc
  simp only [Bool.and_eq_true, beq_iff_eq, decide_eq_true_eq] at hc
  have e : k = 1 ∨ k = 2 ∨ k = 3 := by split at h2 <;> simp at h2 <;> omega
  rcases e with rfl | rfl | rfl
  ·exact hc.1.1.2.2
  ·exact hc.1.2.2
  ·exact hc.2.2
 ·simp at h2; omega
theorem dec_pos (s : ByteArray) (i : Nat) : 1 ≤ (Utf8.decode s i).2 := by
 unfold Utf8.decode
 simp only
 repeat' split
 all_goals simp
theorem Y5Y (p : Nat → Bool) (s : ByteArray) : ∀ (b i j : Nat), i ≤ j → j < s.size → s.size - i ≤ b → (s.get! j).toNat < 128 → (Y2h s b i).all p = true → p (s.get! j).toNat = true
 | 0, i, j, h1, h2, h3, h4, h5 => by omega
 | b + 1, i, j, h1, h2, h3, h4, h5 => by
  unfold Y2h at h5
  rw [if_pos (by omega), List.all_cons, Bool.and_eq_true] at h5
  by_cases e : j = i
  ·subst e
   have : Utf8.decode s j = ((s.get! j).toNat, 1) := by
    unfold Utf8.decode
    simp only [Nat.add_zero]
    rw [if_pos h4]
   rw [this] at h5
   exact h5.1
  ·by_cases h6 : i + (Utf8.decode s i).2 ≤ j
   ·exact Y5Y p s b _ j h6 h2 (by have := dec_pos s i; omega) h4 h5.2
   ·have := dec_cont s i (j - i) (by omega) (by omega)
    rw [show i + (j - i) = j by omega] at this
    omega
theorem Y5T {t : ByteArray} (h : Y2O t = true) (c : UInt8) (hc : c.toNat < 128) (hp : Y1a c.toNat = false) : ¬ c ∈ t.data.toList := by
 intro hm
 obtain ⟨j, hj, he⟩ := List.getElem_of_mem hm
 rw [Y31] at hj
 unfold Y2O at h
 simp only [Bool.and_eq_true, decide_eq_true_eq] at h
 have h2 := h.2
 rw [Y45] at h2
 have hj2 : j < t.data.size := hj
 have hg : t.get! j = c := by
  rw [← he]
  show t.data[j]! = _
  rw [getElem!_pos t.data j hj2]
  simp
 have := Y5Y Y1a t t.size 0 j (by omega) hj (by omega) (by rw [hg]; exact hc) h2
 rw [hg, hp] at this
 cases this
def bl (n : Nat) : List UInt8 := List.replicate n 32
def Y4v (n : Nat) : List ByteArray → List UInt8
 | [] => 41 :: bl n
 | t :: ts => 124 :: (bl n ++ (60 :: (t.data.toList ++ 62 :: (bl n ++ Y4v n ts))))
def notI (n : Nat) (t : ByteArray) (ts : List ByteArray) : List UInt8 := 60 :: (t.data.toList ++ 62 :: (bl n ++ Y4v n ts))
inductive Rd : Bool → S37 → (Nat → List UInt8) → Prop
 | iri {t} : Y2O t = true → Rd false (pIri t) (fun n => 60 :: (t.data.toList ++ 62 :: bl n))
 | up {p f} : Rd true p f → Rd false (pK 2 [p]) (fun n => 94 :: (bl n ++ f n))
 | two {k c p q f g} : (k = 3 ∧ c = 47 ∨ k = 4 ∧ c = 124) → Rd true p f → Rd true q g → Rd false (pK k [p, q]) (fun n => f n ++ c :: (bl n ++ g n))
 | many {k c p f} : (k = 5 ∧ c = 42 ∨ k = 6 ∧ c = 43 ∨ k = 7 ∧ c = 63) → Rd true p f → Rd false (pK k [p]) (fun n => f n ++ c :: bl n)
 | not {t ts} : (∀ x ∈ t :: ts, Y2O x = true) → Rd false (pNot (t :: ts)) (fun n => 33 :: 40 :: (bl n ++ notI n t ts))
 | w_iri {t f} : Rd false (pIri t) f → Rd true (pIri t) f
 | w_br {p f} : p.f0 ≠ 1 → Rd false p f → Rd true p (fun n => 40 :: (bl n ++ (f n ++ 41 :: bl n)))
theorem Y20 : ∀ (m : Nat) (l : List UInt8), skip (bl m ++ l) = skip l
 | 0, l => rfl
 | m + 1, l => by
  show skip (32 :: (bl m ++ l)) = skip l
  conv => lhs; unfold skip
  rw [if_pos rfl]; exact Y20 m l
theorem Y2l {c : UInt8} (h : c ≠ 32) (l : List UInt8) : skip (c :: l) = c :: l := by
 conv => lhs; unfold skip
 rw [if_neg h]
theorem Y4L {t : ByteArray} (h : Y2O t = true) (m : Nat) (rest : List UInt8) : Y3Y (bl m ++ (60 :: (t.data.toList ++ 62 :: rest))) = some (t, rest) := by
 unfold Y3Y
 rw [Y20, Y2l (by decide)]
 simp only [if_true]
 rw [upGt_mk _ _ (Y5T h 62 (by decide) (by decide))]
 have et : (⟨t.data.toList.toArray⟩ : ByteArray) = t := Y50 (by simp)
 simp only [et, h, if_true]
def Endy (l : List UInt8) : Prop := hd (skip l) ≠ 42 ∧ hd (skip l) ≠ 43 ∧ hd (skip l) ≠ 63 ∧ hd (skip l) ≠ 47 ∧ hd (skip l) ≠ 124
theorem Endy.bl {l : List UInt8} (h : Endy l) (n : Nat) : Endy (bl n ++ l) := by unfold Endy at h ⊢; rw [Y20]; exact h
theorem Y2K {d : Nat} {l : List UInt8} {p : S37} {r : List UInt8} (h : P .step d l (.ok p (skip r))) (he : Endy r) : P .path d l (.ok p (skip r)) := by
 have e := Y2I r
 obtain ⟨h1, h2, h3, h4, h5⟩ := he
 have s1 : P (.seqL p) d (skip r) (.ok p (skip r)) := by have := P.seqL_end (d := d) (p := p) (l := skip r) (by rw [e]; exact h4); rw [e] at this; exact this
 have s2 : P (.pathL p) d (skip r) (.ok p (skip r)) := by have := P.pathL_end (d := d) (p := p) (l := skip r) (by rw [e]; exact h5); rw [e] at this; exact this
 exact .path_ok (.seq_ok h s1) s2
theorem Y2A {d : Nat} {l : List UInt8} {p : S37} {r : List UInt8} (h : P .back d l (.ok p r)) (h1 : hd (skip r) ≠ 42) (h2 : hd (skip r) ≠ 43) (h3 : hd (skip r) ≠ 63) : P .step d l (.ok p (skip r)) := .step_ok h (.stepL_end h1 h2 h3)
theorem Y2a {d : Nat} {l : List UInt8} {c : Int} {lb : List UInt8} (h : P .back d l (.bad c lb)) : P .path d l (.bad c lb) := .path_bad (.seq_bad (.step_bad h))
theorem Y4w (d n : Nat) (rest : List UInt8) : ∀ (ts us : List ByteArray), (∀ x ∈ ts, Y2O x = true) → P (.notL us) d (bl n ++ (Y4v n ts ++ rest)) (.ok (pNot (us ++ ts)) (bl n ++ rest))
 | [], us, _ => by
  rw [List.append_nil]
  refine .notL_end ?_
  rw [Y20]
  exact Y2l (by decide) _
 | t :: ts, us, h => by
  have ih := Y4w d n rest ts (us ++ [t]) (fun x m => h x (List.mem_cons_of_mem _ m))
  rw [List.append_assoc, List.singleton_append] at ih
  refine .notL_more (r := bl n ++ (60 :: (t.data.toList ++ 62 :: (bl n ++ (Y4v n ts ++ rest))))) (t := t) (l1 := bl n ++ (Y4v n ts ++ rest)) ?_ (Y4L (h t (List.mem_cons_self ..)) n _) ih
  rw [Y20]
  simp only [Y4v, List.cons_append, List.append_assoc]
  exact Y2l (by decide) _
def Back (p : S37) (f : Nat → List UInt8) : Prop :=
 ∃ g : Nat → List UInt8, (∀ n, f n = g n ++ bl n) ∧ ∀ d, (∀ n m rest, P .back d (bl m ++ (g n ++ rest)) (.ok p rest)) ∨ (∀ n m rest, ∃ lb, P .back d (bl m ++ (g n ++ rest)) (.bad 3 lb))
def Path (p : S37) (f : Nat → List UInt8) : Prop :=
 ∀ d, (∀ n m rest, Endy rest → P .path d (bl m ++ (f n ++ rest)) (.ok p (skip rest))) ∨ (∀ n m rest, Endy rest → ∃ lb, P .path d (bl m ++ (f n ++ rest)) (.bad 3 lb))
theorem Rd.reads {w p f} (h : Rd w p f) : (w = true → Back p f) ∧ (w = false → Path p f) := by
 induction h with
 | @iri t hi =>
  refine ⟨(fun e => by cases e), fun _ d => Or.inl fun n m rest he => ?_⟩
  have h1 := Y4L hi m (bl n ++ rest)
  have h2 : P .back d (bl m ++ (60 :: (t.data.toList ++ 62 :: (bl n ++ rest)))) (.ok (pIri t) (bl n ++ rest)) := .iri_ok (by rw [Y20]; exact Y2l (by decide) _) h1
  simp only [List.cons_append, List.append_assoc]
  have he2 := he.bl n
  have := Y2K (Y2A h2 he2.1 he2.2.1 he2.2.2.1) he2
  rw [Y20] at this
  exact this
 | @up p f _ ih =>
  refine ⟨(fun e => by cases e), fun _ d => ?_⟩
  obtain ⟨g, hg, hb⟩ := ih.1 rfl
  have sk : ∀ n m rest, skip (bl m ++ (94 :: (bl n ++ f n) ++ rest)) = 94 :: (bl n ++ (g n ++ (bl n ++ rest))) := by
   intro n m rest
   rw [Y20, List.cons_append, Y2l (by decide), hg n]
   simp [List.append_assoc]
  by_cases h5 : d < 5
  ·rcases hb (d + 1) with hb | hb
   ·refine Or.inl fun n m rest he => ?_
    have h2 : P .back d (bl m ++ (94 :: (bl n ++ f n) ++ rest)) (.ok (pK 2 [p]) (bl n ++ rest)) := .up_ok (sk n m rest) h5 (hb n n _)
    have he2 := he.bl n
    have := Y2K (Y2A h2 he2.1 he2.2.1 he2.2.2.1) he2
    rw [Y20] at this
    exact this
   ·refine Or.inr fun n m rest he => ?_
    obtain ⟨lb, h2⟩ := hb n n (bl n ++ rest)
    exact ⟨lb, Y2a (.up_bad (sk n m rest) h5 h2)⟩
  ·exact Or.inr fun n m rest he => ⟨_, Y2a (.full (sk n m rest) (Or.inl rfl) (by omega))⟩
 | @two k c p q f g hk _ _ ih1 ih2 =>
  refine ⟨(fun e => by cases e), fun _ d => ?_⟩
  obtain ⟨f1, hf1, hb1⟩ := ih1.1 rfl
  obtain ⟨g1, hg1, hb2⟩ := ih2.1 rfl
  have hc : c ≠ 32 ∧ c ≠ 42 ∧ c ≠ 43 ∧ c ≠ 63 := by rcases hk with ⟨_, rfl⟩ | ⟨_, rfl⟩ <;> decide
  have hcn : ∀ (r : List UInt8), hd (c :: r) ≠ 42 ∧ hd (c :: r) ≠ 43 ∧ hd (c :: r) ≠ 63 := by
   intro r
   rcases hk with ⟨_, rfl⟩ | ⟨_, rfl⟩
   ·exact ⟨by show (47 : Int) ≠ 42; decide, by show (47 : Int) ≠ 43; decide, by show (47 : Int) ≠ 63; decide⟩
   ·exact ⟨by show (124 : Int) ≠ 42; decide, by show (124 : Int) ≠ 43; decide, by show (124 : Int) ≠ 63; decide⟩
  have tx : ∀ n m rest, bl m ++ (f n ++ c :: (bl n ++ g n) ++ rest) = bl m ++ (f1 n ++ (bl n ++ (c :: (bl n ++ (g1 n ++ (bl n ++ rest)))))) := by
   intro n m rest
   rw [hf1 n, hg1 n]
   simp [List.append_assoc]
  have sk : ∀ n (r : List UInt8), skip (bl n ++ (c :: r)) = c :: r := fun n r => by rw [Y20]; exact Y2l hc.1 _
  have sk2 : ∀ (r : List UInt8), skip (c :: r) = c :: r := fun r => Y2l hc.1 _
  rcases hb1 d with hb1 | hb1
  ·have st : ∀ n m rest, P .step d (bl m ++ (f1 n ++ (bl n ++ (c :: (bl n ++ (g1 n ++ (bl n ++ rest))))))) (.ok p (c :: (bl n ++ (g1 n ++ (bl n ++ rest))))) := by
    intro n m rest
    have := Y2A (hb1 n m (bl n ++ (c :: (bl n ++ (g1 n ++ (bl n ++ rest)))))) (by rw [sk]; exact (hcn _).1) (by rw [sk]; exact (hcn _).2.1) (by rw [sk]; exact (hcn _).2.2)
    rw [sk] at this
    exact this
   rcases hb2 d with hb2 | hb2
   ·refine Or.inl fun n m rest he => ?_
    rw [tx]
    have he2 := he.bl n
    have s2 := Y2A (hb2 n n (bl n ++ rest)) he2.1 he2.2.1 he2.2.2.1
    rw [Y20] at s2
    have e := Y2I rest
    obtain ⟨h1, h2, h3, h4, h5⟩ := he
    have z1 : ∀ x, P (.seqL x) d (skip rest) (.ok x (skip rest)) := fun x => by have := P.seqL_end (d := d) (p := x) (l := skip rest) (by rw [e]; exact h4); rw [e] at this; exact this
    have z2 : ∀ x, P (.pathL x) d (skip rest) (.ok x (skip rest)) := fun x => by have := P.pathL_end (d := d) (p := x) (l := skip rest) (by rw [e]; exact h5); rw [e] at this; exact this
    rcases hk with ⟨rfl, rfl⟩ | ⟨rfl, rfl⟩
    ·exact .path_ok (.seq_ok (st n m rest) (.seqL_more (sk2 _) s2 (z1 _))) (z2 _)
    ·have z3 : P (.seqL p) d (124 :: (bl n ++ (g1 n ++ (bl n ++ rest)))) (.ok p (124 :: (bl n ++ (g1 n ++ (bl n ++ rest))))) := by
      have := P.seqL_end (d := d) (p := p) (l := 124 :: (bl n ++ (g1 n ++ (bl n ++ rest)))) (by rw [sk2]; show (124 : Int) ≠ 47; decide)
      rw [sk2] at this
      exact this
     exact .path_ok (.seq_ok (st n m rest) z3) (.pathL_more (sk2 _) (.seq_ok s2 (z1 _)) (z2 _))
   ·refine Or.inr fun n m rest he => ?_
    rw [tx]
    obtain ⟨lb, h2⟩ := hb2 n n (bl n ++ rest)
    rcases hk with ⟨rfl, rfl⟩ | ⟨rfl, rfl⟩
    ·exact ⟨lb, .path_bad (.seq_ok (st n m rest) (.seqL_bad (sk2 _) (.step_bad h2)))⟩
    ·have z3 : P (.seqL p) d (124 :: (bl n ++ (g1 n ++ (bl n ++ rest)))) (.ok p (124 :: (bl n ++ (g1 n ++ (bl n ++ rest))))) := by
      have := P.seqL_end (d := d) (p := p) (l := 124 :: (bl n ++ (g1 n ++ (bl n ++ rest)))) (by rw [sk2]; show (124 : Int) ≠ 47; decide)
      rw [sk2] at this
      exact this
     exact ⟨lb, .path_ok (.seq_ok (st n m rest) z3) (.pathL_bad (sk2 _) (.seq_bad (.step_bad h2)))⟩
  ·refine Or.inr fun n m rest he => ?_
   rw [tx]
   obtain ⟨lb, h2⟩ := hb1 n m (bl n ++ (c :: (bl n ++ (g1 n ++ (bl n ++ rest)))))
   exact ⟨lb, Y2a h2⟩
 | @many k c p f hk _ ih =>
  refine ⟨(fun e => by cases e), fun _ d => ?_⟩
  obtain ⟨f1, hf1, hb1⟩ := ih.1 rfl
  have hc : c ≠ 32 := by rcases hk with ⟨_, rfl⟩ | ⟨_, rfl⟩ | ⟨_, rfl⟩ <;> decide
  have hc2 : (c = 42 ∨ c = 43 ∨ c = 63) ∧ signK c.toNat = k := by rcases hk with ⟨rfl, rfl⟩ | ⟨rfl, rfl⟩ | ⟨rfl, rfl⟩ <;> decide
  have tx : ∀ n m rest, bl m ++ (f n ++ c :: bl n ++ rest) = bl m ++ (f1 n ++ (bl n ++ (c :: (bl n ++ rest)))) := by
   intro n m rest
   rw [hf1 n]
   simp [List.append_assoc]
  rcases hb1 d with hb1 | hb1
  ·refine Or.inl fun n m rest he => ?_
   rw [tx]
   have he2 := he.bl n
   have z : P (.stepL (pK k [p])) d (bl n ++ rest) (.ok (pK k [p]) (skip (bl n ++ rest))) := .stepL_end he2.1 he2.2.1 he2.2.2.1
   rw [← hc2.2] at z
   have s2 : P .step d (bl m ++ (f1 n ++ (bl n ++ (c :: (bl n ++ rest))))) (.ok (pK (signK c.toNat) [p]) (skip (bl n ++ rest))) :=
    .step_ok (hb1 n m _) (.stepL_more (by rw [Y20]; exact Y2l hc _) hc2.1 z)
   have := Y2K s2 he2
   rw [Y20, hc2.2] at this
   exact this
  ·refine Or.inr fun n m rest he => ?_
   rw [tx]
   obtain ⟨lb, h2⟩ := hb1 n m (bl n ++ (c :: (bl n ++ rest)))
   exact ⟨lb, Y2a h2⟩
 | @not t ts hall =>
  refine ⟨(fun e => by cases e), fun _ d => Or.inl fun n m rest he => ?_⟩
  have h1 := Y4w d n rest ts [t] (fun x mx => hall x (List.mem_cons_of_mem _ mx))
  have h2 : P .back d (bl m ++ (33 :: 40 :: (bl n ++ notI n t ts) ++ rest)) (.ok (pNot (t :: ts)) (bl n ++ rest)) := by
   refine .not_ (r := 40 :: (bl n ++ (60 :: (t.data.toList ++ 62 :: (bl n ++ (Y4v n ts ++ rest)))))) ?_ (.nt_br (Y4L (hall t (List.mem_cons_self ..)) n _) h1)
   rw [Y20]
   simp only [notI, List.cons_append, List.append_assoc]
   exact Y2l (by decide) _
  have he2 := he.bl n
  have := Y2K (Y2A h2 he2.1 he2.2.1 he2.2.2.1) he2
  rw [Y20] at this
  exact this
 | @w_iri t f h ih =>
  refine ⟨fun _ => ?_, fun e => by cases e⟩
  cases h with
  | iri hi =>
   refine ⟨fun n => 60 :: (t.data.toList ++ [62]), fun n => by simp, fun d => Or.inl fun n m rest => ?_⟩
   have h1 := Y4L hi m rest
   simp only [List.cons_append, List.append_assoc, List.singleton_append]
   exact .iri_ok (by rw [Y20]; exact Y2l (by decide) _) h1
 | @w_br p f h0 _ ih =>
  refine ⟨fun _ => ⟨fun n => 40 :: (bl n ++ (f n ++ [41])), fun n => by simp, fun d => ?_⟩, fun e => by cases e⟩
  have sk : ∀ n m rest, skip (bl m ++ (40 :: (bl n ++ (f n ++ [41])) ++ rest)) = 40 :: (bl n ++ (f n ++ 41 :: rest)) := by
   intro n m rest
   rw [Y20, List.cons_append, Y2l (by decide)]
   simp [List.append_assoc]
  have he : ∀ rest : List UInt8, Endy (41 :: rest) := by
   intro rest
   unfold Endy
   rw [Y2l (by decide)]
   exact ⟨by show (41 : Int) ≠ 42; decide, by show (41 : Int) ≠ 43; decide, by show (41 : Int) ≠ 63; decide, by show (41 : Int) ≠ 47; decide, by show (41 : Int) ≠ 124; decide⟩
  by_cases h5 : d < 5
  ·rcases ih.2 rfl (d + 1) with hb | hb
   ·refine Or.inl fun n m rest => ?_
    have h1 := hb n n (41 :: rest) (he rest)
    rw [Y2l (by decide)] at h1
    exact .br_ok (sk n m rest) h5 h1 (Y2l (by decide) _)
   ·refine Or.inr fun n m rest => ?_
    obtain ⟨lb, h1⟩ := hb n n (41 :: rest) (he rest)
    exact ⟨lb, .br_bad (sk n m rest) h5 h1⟩
  ·exact Or.inr fun n m rest => ⟨_, .full (sk n m rest) (Or.inr rfl) (by omega)⟩
theorem Y2g (a b : ByteArray) : (a ++ b).data.toList = a.data.toList ++ b.data.toList := by simp
theorem Y1H (a b : ByteArray) : (a ++ b).size = a.size + b.size := by simp
def Y4h (p : S37) (k : Nat) : Option ByteArray := YB.f k p.f0 p.f1 p.f2 p.f3
def Y4i (p : S37) (k : Nat) : Option ByteArray := Y8.f k p.f0 p.f1 p.f2 p.f3
def brI (p : S37) (k : Nat) : Option ByteArray := YD.f k p.f0 p.f1 p.f2 p.f3
def wiR (p : S37) (k : Nat) : Option ByteArray := Yv.f k p.f0 p.f1 p.f2 p.f3
theorem Rd.in1 {p f} (h : Rd false p f) (h0 : p.f0 = 1) : Rd true p f := by
 cases h with
 | iri hi => exact .w_iri (.iri hi)
 | up _ => cases h0
 | two hk _ _ => rcases hk with ⟨rfl, _⟩ | ⟨rfl, _⟩ <;> cases h0
 | many hk _ => rcases hk with ⟨rfl, _⟩ | ⟨rfl, _⟩ | ⟨rfl, _⟩ <;> cases h0
 | not _ => cases h0
def Shows (p : S37) (B : Nat) : Prop := ∃ f t, Rd false p f ∧ Ev (Y4h p) t ∧ Ev (Y4i p) t ∧ t.data.toList = f 0 ∧ t.size ≤ B
def Within (p : S37) (B : Nat) : Prop := ∃ f t, Rd true p f ∧ Ev (brI p) t ∧ Ev (wiR p) t ∧ t.data.toList = f 0 ∧ t.size ≤ B
theorem Shows.within {p : S37} {B : Nat} (hB : B ≤ 100000000) (h : Shows p B) : Within p (B + 2) := by
 obtain ⟨f, t, h1, h2, h3, h4, h5⟩ := h
 by_cases h0 : p.f0 = 1
 ·refine ⟨f, t, h1.in1 h0, Ev.up ?_, Ev.up ?_, h4, by omega⟩
  ·simp only [brI, YD.f, if_pos h0]; exact Ev.bind h2 (Ev.now _)
  ·simp only [wiR, Yv.f, if_pos h0]; exact Ev.bind h3 (Ev.now _)
 ·refine ⟨_, (⟨#[40]⟩ : ByteArray) ++ t ++ ⟨#[41]⟩, .w_br h0 h1, Ev.up ?_, Ev.up ?_, ?_, ?_⟩
  ·simp only [brI, YD.f, if_neg h0]
   refine Ev.bind h2 ?_
   simp only [if_pos (show 1 + t.size ≤ 9223372036854775807 by omega), if_pos (show 1 + t.size + 1 ≤ 9223372036854775807 by omega)]
   exact Z1v
  ·simp only [wiR, Yv.f, if_neg h0]
   refine Ev.bind h3 ?_
   simp only [if_pos (show 1 + t.size ≤ 9223372036854775807 by omega), if_pos (show 1 + t.size + 1 ≤ 9223372036854775807 by omega)]
   exact Z1v
  ·rw [Y2g, Y2g, h4]; simp [bl]
  ·rw [Y1H, Y1H]
   have e1 : (⟨#[40]⟩ : ByteArray).size = 1 := rfl
   have e2 : (⟨#[41]⟩ : ByteArray).size = 1 := rfl
   omega
theorem Y4O : ∀ (ts : List ByteArray) (t : ByteArray), 60 :: (Y37 [62, 124, 60] (t :: ts) ++ [62, 41]) = notI 0 t ts
 | [], t => by simp [Y37, notI, Y4v, bl]
 | u :: ts, t => by
  have ih := Y4O ts u
  simp only [Y37, notI, Y4v, bl, List.replicate_zero, List.nil_append] at ih ⊢
  rw [← ih]
  simp
theorem Y4B (p : S37) (hall : ∀ x ∈ p.f2, x.size ≤ 60) : ∀ d i : Nat, i + d = p.f2.length → 1 ≤ i → p.f2.length ≤ 4 → ∀ x : ByteArray, x.size + 63 * d ≤ 100000 →
  ∃ t, Ev (fun k => Y8.l0 k x (i : Int) p.f0 p.f1 p.f2 p.f3) t ∧ t.data.toList = x.data.toList ++ Y4v 0 (p.f2.drop i)
 | 0, i, h, hi, hn, x, hx => by
  refine ⟨x ++ ⟨#[41]⟩, Ev.up ?_, ?_⟩
  ·simp only [Y8.l0, if_neg (show ¬ (i : Int) < (p.f2.length : Int) by omega), if_pos (show x.size + 1 ≤ 9223372036854775807 by omega)]
   exact Z1v
  ·rw [List.drop_of_length_le (by omega), Y2g]; simp [Y4v, bl]
 | d + 1, i, h, hi, hn, x, hx => by
  have h1 : i < p.f2.length := by omega
  have hz := hall p.f2[i] (List.getElem_mem h1)
  have es : ((((x ++ (⟨#[124]⟩ : ByteArray)) ++ (⟨#[60]⟩ : ByteArray)) ++ p.f2[i]) ++ (⟨#[62]⟩ : ByteArray)).size = x.size + 1 + 1 + p.f2[i].size + 1 := by
   rw [Y1H, Y1H, Y1H, Y1H]; rfl
  obtain ⟨t, e, ht⟩ := Y4B p hall d (i + 1) (by omega) (by omega) hn ((((x ++ (⟨#[124]⟩ : ByteArray)) ++ (⟨#[60]⟩ : ByteArray)) ++ p.f2[i]) ++ (⟨#[62]⟩ : ByteArray)) (by rw [es]; omega)
  refine ⟨t, Ev.up ?_, ?_⟩
  ·simp only [Y8.l0, if_pos (show (i : Int) < (p.f2.length : Int) by omega), if_pos (show (i : Int) > 0 by omega), if_pos (show (0 : Int) ≤ (i : Int) by omega), Y39 h1, if_pos (show x.size + 1 ≤ 9223372036854775807 by omega), if_pos (show x.size + 1 + 1 ≤ 9223372036854775807 by omega), if_pos (show x.size + 1 + 1 + p.f2[i].size ≤ 9223372036854775807 by omega), if_pos (show x.size + 1 + 1 + p.f2[i].size + 1 ≤ 9223372036854775807 by omega), Y3d h1 (show p.f2.length ≤ 1000000 by omega)]
   exact e
  ·rw [ht, List.drop_eq_getElem_cons h1]
   simp [Y4v, bl, Y2g]
theorem shows {deep : Nat} {p : S37} (h : May deep p) : ∀ m, deep + m = 6 → Shows p (1000 * 4 ^ m) := by
 induction h with
 | @mk deep p ht _ ih =>
  intro m hm
  obtain ⟨h5, hk, hi, hb0, h8, h80, hall⟩ := ht
  obtain ⟨m, rfl⟩ : ∃ m', m = m' + 1 := ⟨m - 1, by omega⟩
  have hp4 : 1 ≤ 4 ^ m := Nat.pos_of_ne_zero (by simp)
  have hp5 : 4 ^ m ≤ 4 ^ 6 := Nat.pow_le_pow_right (by omega) (by omega)
  have hp6 : (4 : Nat) ^ 6 = 4096 := by decide
  have hp7 : 4 ^ (m + 1) = 4 * 4 ^ m := by rw [Nat.pow_succ, Nat.mul_comm]
  have hin : ∀ q ∈ p.f3, Within q (1000 * 4 ^ m + 2) := fun q hq => (ih q hq m (by omega)).within (by omega)
  rw [hp7]
  generalize hB : 4 ^ m = B at *
  clear hp7 hB ih
  obtain ⟨a, b, c, d⟩ := p
  simp only at hk hi hb0 h8 h80 hall hin
  by_cases a1 : a = 1
  ·subst a1
   have hz := Y4N (hi rfl)
   have hd0 : d = [] := by rw [show Y2B 1 = 0 from rfl] at hk; exact List.eq_nil_of_length_eq_zero (by omega)
   rw [h80 (by decide), hd0]
   refine ⟨_, (⟨#[60]⟩ : ByteArray) ++ b ++ ⟨#[62]⟩, .iri (hi rfl), Ev.up ?_, Ev.up ?_, ?_, ?_⟩
   ·simp only [Y4h, YB.f, if_true, if_pos (show 1 + b.size ≤ 9223372036854775807 by omega), if_pos (show 1 + b.size + 1 ≤ 9223372036854775807 by omega)]
    exact Z1v
   ·simp only [Y4i, Y8.f, if_true, if_pos (show 1 + b.size ≤ 9223372036854775807 by omega), if_pos (show 1 + b.size + 1 ≤ 9223372036854775807 by omega)]
    exact Z1v
   ·rw [Y2g, Y2g]; simp [bl]
   ·rw [Y1H, Y1H]
    have e1 : (⟨#[60]⟩ : ByteArray).size = 1 := rfl
    have e2 : (⟨#[62]⟩ : ByteArray).size = 1 := rfl
    omega
  have hbe : b = ⟨#[]⟩ := hb0 a1
  subst hbe
  by_cases a8 : a = 8
  ·subst a8
   have hd0 : d = [] := by rw [show Y2B 8 = 0 from rfl] at hk; exact List.eq_nil_of_length_eq_zero (by omega)
   subst hd0
   have hl := h8 rfl
   cases c with
   | nil => simp at hl
   | cons t ts =>
    have hsz : ∀ x ∈ t :: ts, x.size ≤ 60 := fun x hx => (Y4N (hall x hx)).2
    have htz := hsz t (List.mem_cons_self ..)
    have h60 : (((⟨#[33, 40]⟩ : ByteArray) ++ (⟨#[60]⟩ : ByteArray)) ++ t ++ (⟨#[62]⟩ : ByteArray)).size = 2 + 1 + t.size + 1 := by
     rw [Y1H, Y1H, Y1H]; rfl
    simp only [List.length_cons] at hl
    obtain ⟨r, er, hr⟩ := Y4B ⟨8, ⟨#[]⟩, t :: ts, []⟩ hsz ts.length 1 Z20 (by omega) Z20 (((⟨#[33, 40]⟩ : ByteArray) ++ (⟨#[60]⟩ : ByteArray)) ++ t ++ (⟨#[62]⟩ : ByteArray)) (by rw [h60]; omega)
    have hlist : r.data.toList = 33 :: 40 :: notI 0 t ts := by
     rw [hr, Y2g, Y2g, Y2g]
     simp [notI, bl]
    have hjl : ∀ (ts : List ByteArray) (t : ByteArray), (∀ x ∈ t :: ts, x.size ≤ 60) → (Y37 [62, 124, 60] (t :: ts)).length ≤ 63 * (ts.length + 1) := by
     intro ts
     induction ts with
     | nil => intro t h; have := h t (List.mem_cons_self ..); simp only [Y37, List.length_nil]; rw [Y31]; omega
     | cons u ts ih =>
      intro t h
      have h1 := h t (List.mem_cons_self ..)
      have h2 := ih u (fun x hx => h x (List.mem_cons_of_mem _ hx))
      simp only [Y37, List.length_append, List.length_cons, List.length_nil]
      rw [Y31]
      omega
    have hj := hjl ts t hsz
    have hsep : (⟨#[62, 124, 60]⟩ : ByteArray).data.toList = [62, 124, 60] := rfl
    refine ⟨_, r, .not hall, Ev.up ?_, Ev.up ?_, by rw [hlist]; simp [bl], ?_⟩
    ·simp only [Y4h, YB.f, if_neg (show ¬ (8 : Int) = 1 by decide), if_neg (show ¬ (8 : Int) = 2 by decide), if_neg (show ¬ (8 : Int) = 3 by decide), if_neg (show ¬ (8 : Int) = 4 by decide), if_neg (show ¬ (8 : Int) = 5 by decide), if_neg (show ¬ (8 : Int) = 6 by decide), if_neg (show ¬ (8 : Int) = 7 by decide)]
     unfold strings_Join.f
     have hok : Y57 (t :: ts) ⟨#[62, 124, 60]⟩ = true := by
      unfold Y57
      simp only [Bool.and_eq_true, decide_eq_true_eq, List.all_eq_true]
      refine ⟨⟨Z20, fun x hx => by have := hsz x hx; omega⟩, by decide⟩
     have hjs : (⟨(Y37 [62, 124, 60] (t :: ts)).toArray⟩ : ByteArray).size = (Y37 [62, 124, 60] (t :: ts)).length := by rw [← Y31]
     rw [if_pos hok, hsep]
     simp only [Option.bind_some]
     rw [if_pos (by rw [hjs]; omega), if_pos (by rw [hjs]; omega)]
     have : (((⟨#[33, 40, 60]⟩ : ByteArray) ++ (⟨(Y37 [62, 124, 60] (t :: ts)).toArray⟩ : ByteArray)) ++ (⟨#[62, 41]⟩ : ByteArray)) = r := by
      apply Y50
      rw [hlist, Y2g, Y2g, ← Y4O]
      simp
     rw [this]
     exact Z1v
    ·simp only [Y4i, Y8.f, if_neg (show ¬ (8 : Int) = 1 by decide), if_neg (show ¬ (8 : Int) = 2 by decide), if_neg (show ¬ (8 : Int) = 3 by decide), if_neg (show ¬ (8 : Int) = 4 by decide), if_true]
     refine Ev.up ?_
     have r0 : Y2m ByteArray.empty (t :: ts) (0 : Int) = t := rfl
     have e2 : (⟨#[33, 40]⟩ : ByteArray).size = 2 := rfl
     have e0 : wrap64 ((0 : Int) + 1) = ((1 : Nat) : Int) := by unfold wrap64; omega
     simp only [Y8.l0, if_pos (show (0 : Int) < ((t :: ts).length : Int) by simp only [List.length_cons]; omega), if_neg (show ¬ (0 : Int) > 0 by decide), if_pos (show (0 : Int) ≤ 0 by decide), r0, if_pos (show (⟨#[33, 40]⟩ : ByteArray).size + 1 ≤ 9223372036854775807 by omega), if_pos (show (⟨#[33, 40]⟩ : ByteArray).size + 1 + t.size ≤ 9223372036854775807 by omega), if_pos (show (⟨#[33, 40]⟩ : ByteArray).size + 1 + t.size + 1 ≤ 9223372036854775807 by omega), e0]
     exact er
    ·have hrs : r.size = r.data.toList.length := (Y31 r).symm
     rw [hlist] at hrs
     rw [← Y4O] at hrs
     simp only [List.length_cons, List.length_append, List.length_nil] at hrs
     omega
  have hc0 : c = [] := h80 a8
  subst hc0
  by_cases a34 : a = 3 ∨ a = 4
  ·have hd2 : d.length = 2 := by rcases a34 with rfl | rfl <;> (first | rw [show Y2B 3 = 2 from rfl] at hk | rw [show Y2B 4 = 2 from rfl] at hk) <;> omega
   match d, hd2 with
   | [q1, q2], _ =>
    obtain ⟨f1, t1, g1, i1, j1, l1, s1⟩ := hin q1 (by simp)
    obtain ⟨f2, t2, g2, i2, j2, l2, s2⟩ := hin q2 (by simp)
    have r0 : Y4 [q1, q2] 0 = q1 := rfl
    have r1 : Y4 [q1, q2] 1 = q2 := rfl
    have p0 : (0 : Int) < (([q1, q2] : List S37).length : Int) := by simp
    have p1 : (1 : Int) < (([q1, q2] : List S37).length : Int) := by simp
    rcases a34 with rfl | rfl
    ·refine ⟨_, (t1 ++ (⟨#[47]⟩ : ByteArray)) ++ t2, .two (Or.inl ⟨rfl, rfl⟩) g1 g2, Ev.up ?_, Ev.up ?_, ?_, ?_⟩
     ·simp only [Y4h, YB.f, if_neg (show ¬ (3 : Int) = 1 by decide), if_neg (show ¬ (3 : Int) = 2 by decide), if_true, if_pos p0, if_pos p1, r0, r1]
      refine Ev.bind i1 ?_
      simp only [if_pos (show t1.size + 1 ≤ 9223372036854775807 by omega)]
      refine Ev.bind i2 ?_
      simp only [if_pos (show t1.size + 1 + t2.size ≤ 9223372036854775807 by omega)]
      exact Z1v
     ·simp only [Y4i, Y8.f, if_neg (show ¬ (3 : Int) = 1 by decide), if_neg (show ¬ (3 : Int) = 2 by decide), if_true, if_pos p0, if_pos p1, r0, r1]
      refine Ev.bind j1 ?_
      simp only [if_pos (show t1.size + 1 ≤ 9223372036854775807 by omega)]
      refine Ev.bind j2 ?_
      simp only [if_pos (show t1.size + 1 + t2.size ≤ 9223372036854775807 by omega)]
      exact Z1v
     ·rw [Y2g, Y2g, l1, l2]; simp [bl]
     ·rw [Y1H, Y1H]
      have e1 : (⟨#[47]⟩ : ByteArray).size = 1 := rfl
      omega
    ·refine ⟨_, (t1 ++ (⟨#[124]⟩ : ByteArray)) ++ t2, .two (Or.inr ⟨rfl, rfl⟩) g1 g2, Ev.up ?_, Ev.up ?_, ?_, ?_⟩
     ·simp only [Y4h, YB.f, if_neg (show ¬ (4 : Int) = 1 by decide), if_neg (show ¬ (4 : Int) = 2 by decide), if_neg (show ¬ (4 : Int) = 3 by decide), if_true, if_pos p0, if_pos p1, r0, r1]
      refine Ev.bind i1 ?_
      simp only [if_pos (show t1.size + 1 ≤ 9223372036854775807 by omega)]
      refine Ev.bind i2 ?_
      simp only [if_pos (show t1.size + 1 + t2.size ≤ 9223372036854775807 by omega)]
      exact Z1v
     ·simp only [Y4i, Y8.f, if_neg (show ¬ (4 : Int) = 1 by decide), if_neg (show ¬ (4 : Int) = 2 by decide), if_neg (show ¬ (4 : Int) = 3 by decide), if_true, if_pos p0, if_pos p1, r0, r1]
      refine Ev.bind j1 ?_
      simp only [if_pos (show t1.size + 1 ≤ 9223372036854775807 by omega)]
      refine Ev.bind j2 ?_
      simp only [if_pos (show t1.size + 1 + t2.size ≤ 9223372036854775807 by omega)]
      exact Z1v
     ·rw [Y2g, Y2g, l1, l2]; simp [bl]
     ·rw [Y1H, Y1H]
      have e1 : (⟨#[124]⟩ : ByteArray).size = 1 := rfl
      omega
  by_cases a27 : a = 2 ∨ a = 5 ∨ a = 6 ∨ a = 7
  ·have hd1 : d.length = 1 := by
    have : Y2B a = 1 := by rcases a27 with rfl | rfl | rfl | rfl <;> rfl
    omega
   match d, hd1 with
   | [q1], _ =>
    obtain ⟨f1, t1, g1, i1, j1, l1, s1⟩ := hin q1 (by simp)
    have r0 : Y4 [q1] 0 = q1 := rfl
    have p0 : (0 : Int) < (([q1] : List S37).length : Int) := by simp
    rcases a27 with rfl | a57
    ·refine ⟨_, (⟨#[94]⟩ : ByteArray) ++ t1, .up g1, Ev.up ?_, Ev.up ?_, ?_, ?_⟩
     ·simp only [Y4h, YB.f, if_neg (show ¬ (2 : Int) = 1 by decide), if_true, if_pos p0, r0]
      refine Ev.bind i1 ?_
      simp only [if_pos (show 1 + t1.size ≤ 9223372036854775807 by omega)]
      exact Z1v
     ·simp only [Y4i, Y8.f, if_neg (show ¬ (2 : Int) = 1 by decide), if_true, if_pos p0, r0]
      refine Ev.bind j1 ?_
      simp only [if_pos (show 1 + t1.size ≤ 9223372036854775807 by omega)]
      exact Z1v
     ·rw [Y2g, l1]; simp [bl]
     ·rw [Y1H]
      have e1 : (⟨#[94]⟩ : ByteArray).size = 1 := rfl
      omega
    ·have mk : ∀ (c : UInt8), (a = 5 ∧ c = 42 ∨ a = 6 ∧ c = 43 ∨ a = 7 ∧ c = 63) → Ev (Y4h ⟨a, ⟨#[]⟩, [], [q1]⟩) (t1 ++ ⟨#[c]⟩) → Ev (Y4i ⟨a, ⟨#[]⟩, [], [q1]⟩) (t1 ++ ⟨#[c]⟩) → Shows ⟨a, ⟨#[]⟩, [], [q1]⟩ (1000 * (4 * B)) := by
      intro c hc e1 e2
      refine ⟨_, _, .many hc g1, e1, e2, by rw [Y2g, l1]; simp [bl], ?_⟩
      rw [Y1H]
      have e1 : (⟨#[c]⟩ : ByteArray).size = 1 := rfl
      omega
     rcases a57 with rfl | rfl | rfl
     ·refine mk 42 (Or.inl ⟨rfl, rfl⟩) (Ev.up ?_) (Ev.up ?_)
      ·simp only [Y4h, YB.f, if_neg (show ¬ (5 : Int) = 1 by decide), if_neg (show ¬ (5 : Int) = 2 by decide), if_neg (show ¬ (5 : Int) = 3 by decide), if_neg (show ¬ (5 : Int) = 4 by decide), if_true, if_pos p0, r0]
       refine Ev.bind i1 ?_
       simp only [if_pos (show t1.size + 1 ≤ 9223372036854775807 by omega)]
       exact Z1v
      ·simp only [Y4i, Y8.f, if_neg (show ¬ (5 : Int) = 1 by decide), if_neg (show ¬ (5 : Int) = 2 by decide), if_neg (show ¬ (5 : Int) = 3 by decide), if_neg (show ¬ (5 : Int) = 4 by decide), if_neg (show ¬ (5 : Int) = 8 by decide), if_pos p0, r0]
       refine Ev.bind j1 ?_
       have e1 : (⟨#[42]⟩ : ByteArray).size = 1 := rfl
       simp only [Y19.f, if_true, Option.bind_some, if_pos (show t1.size + (⟨#[42]⟩ : ByteArray).size ≤ 9223372036854775807 by omega)]
       exact Z1v
     ·refine mk 43 (Or.inr (Or.inl ⟨rfl, rfl⟩)) (Ev.up ?_) (Ev.up ?_)
      ·simp only [Y4h, YB.f, if_neg (show ¬ (6 : Int) = 1 by decide), if_neg (show ¬ (6 : Int) = 2 by decide), if_neg (show ¬ (6 : Int) = 3 by decide), if_neg (show ¬ (6 : Int) = 4 by decide), if_neg (show ¬ (6 : Int) = 5 by decide), if_true, if_pos p0, r0]
       refine Ev.bind i1 ?_
       simp only [if_pos (show t1.size + 1 ≤ 9223372036854775807 by omega)]
       exact Z1v
      ·simp only [Y4i, Y8.f, if_neg (show ¬ (6 : Int) = 1 by decide), if_neg (show ¬ (6 : Int) = 2 by decide), if_neg (show ¬ (6 : Int) = 3 by decide), if_neg (show ¬ (6 : Int) = 4 by decide), if_neg (show ¬ (6 : Int) = 8 by decide), if_pos p0, r0]
       refine Ev.bind j1 ?_
       have e1 : (⟨#[43]⟩ : ByteArray).size = 1 := rfl
       simp only [Y19.f, if_neg (show ¬ (6 : Int) = 5 by decide), if_true, Option.bind_some, if_pos (show t1.size + (⟨#[43]⟩ : ByteArray).size ≤ 9223372036854775807 by omega)]
       exact Z1v
     ·refine mk 63 (Or.inr (Or.inr ⟨rfl, rfl⟩)) (Ev.up ?_) (Ev.up ?_)
      ·simp only [Y4h, YB.f, if_neg (show ¬ (7 : Int) = 1 by decide), if_neg (show ¬ (7 : Int) = 2 by decide), if_neg (show ¬ (7 : Int) = 3 by decide), if_neg (show ¬ (7 : Int) = 4 by decide), if_neg (show ¬ (7 : Int) = 5 by decide), if_neg (show ¬ (7 : Int) = 6 by decide), if_true, if_pos p0, r0]
       refine Ev.bind i1 ?_
       simp only [if_pos (show t1.size + 1 ≤ 9223372036854775807 by omega)]
       exact Z1v
      ·simp only [Y4i, Y8.f, if_neg (show ¬ (7 : Int) = 1 by decide), if_neg (show ¬ (7 : Int) = 2 by decide), if_neg (show ¬ (7 : Int) = 3 by decide), if_neg (show ¬ (7 : Int) = 4 by decide), if_neg (show ¬ (7 : Int) = 8 by decide), if_pos p0, r0]
       refine Ev.bind j1 ?_
       have e1 : (⟨#[63]⟩ : ByteArray).size = 1 := rfl
       simp only [Y19.f, if_neg (show ¬ (7 : Int) = 5 by decide), if_neg (show ¬ (7 : Int) = 6 by decide), Option.bind_some, if_pos (show t1.size + (⟨#[63]⟩ : ByteArray).size ≤ 9223372036854775807 by omega)]
       exact Z1v
  ·exfalso
   have : Y2B a = -1 := by simp only [not_or] at a34 a27; simp [Y2B, a1, a8, a34, a27]
   omega
theorem shows0 {p : S37} (h : May 0 p) : ∃ f t, Rd false p f ∧ Ev (Y4h p) t ∧ Ev (Y4i p) t ∧ t.data.toList = f 0 ∧ t.size ≤ 4096000 := by
 obtain ⟨f, t, h1, h2, h3, h4, h5⟩ := shows h 6 rfl
 exact ⟨f, t, h1, h2, h3, h4, Nat.le_trans h5 (by decide)⟩
theorem Y5P : Endy [] := by unfold Endy; simp [skip, hd]
theorem rd_whole {p : S37} {f : Nat → List UInt8} (h : Rd false p f) : (∀ (s : ByteArray) (n m : Nat), s.data.toList = bl m ++ f n → s.size ≤ 600 → Whole s (.ok p)) ∨ (∀ (s : ByteArray) (n m : Nat), s.data.toList = bl m ++ f n → s.size ≤ 600 → ∃ a, Whole s (.bad 3 a)) := by
 rcases h.reads.2 rfl 0 with h | h
 ·refine Or.inl fun s n m e hs => ?_
  have := h n m [] Y5P
  rw [List.append_nil, ← e] at this
  exact .ok hs this rfl
 ·refine Or.inr fun s n m e hs => ?_
  obtain ⟨lb, this⟩ := h n m [] Y5P
  rw [List.append_nil, ← e] at this
  exact ⟨_, .bad hs this⟩
def ins : Bool → List UInt8 → List UInt8
 | _, [] => []
 | w, c :: l => if c = 60 then c :: ins true l else if w = true then (if c = 62 then c :: 32 :: 32 :: ins false l else c :: ins true l) else if c = 33 then c :: ins false l else c :: 32 :: 32 :: ins false l
theorem ins_iri : ∀ (t r : List UInt8), ¬ (62 : UInt8) ∈ t → ins true (t ++ 62 :: r) = t ++ 62 :: 32 :: 32 :: ins false r
 | [], r, h => by simp [ins]
 | c :: t, r, h => by
  simp only [List.mem_cons, not_or] at h
  have ih := ins_iri t r h.2
  have h62 : ¬ c = 62 := fun q => h.1 q.symm
  by_cases e : c = 60
  ·simp [ins, e, ih]
  ·simp [ins, e, h62, ih]
theorem Y3r (c : UInt8) (h : c ≠ 60) (h2 : c ≠ 33) (r : List UInt8) : ins false (c :: r) = c :: 32 :: 32 :: ins false r := by
 simp [ins, h, h2]
theorem ins_bang (r : List UInt8) : ins false (33 :: r) = 33 :: ins false r := by simp [ins]
theorem ins_lt (t r : List UInt8) (h : ¬ (62 : UInt8) ∈ t) : ins false (60 :: (t ++ 62 :: r)) = 60 :: (t ++ 62 :: 32 :: 32 :: ins false r) := by
 simp only [ins, if_true]
 rw [ins_iri t r h]
theorem Y5S : ∀ (ts : List ByteArray) (rest : List UInt8), (∀ x ∈ ts, Y2O x = true) → ins false (Y4v 0 ts ++ rest) = Y4v 2 ts ++ ins false rest
 | [], rest, _ => by simp [Y4v, bl, ins, List.replicate]
 | t :: ts, rest, h => by
  have ih := Y5S ts rest (fun x m => h x (List.mem_cons_of_mem _ m))
  have hn := Y5T (h t (List.mem_cons_self ..)) 62 (by decide) (by decide)
  have e : Y4v 0 (t :: ts) ++ rest = 124 :: (60 :: (t.data.toList ++ 62 :: (Y4v 0 ts ++ rest))) := by simp [Y4v, bl]
  rw [e, Y3r 124 (by decide) (by decide), ins_lt _ _ hn, ih]
  simp [Y4v, bl, List.replicate]
theorem Rd.ins {w p f} (h : Rd w p f) : ∀ rest, ins false (f 0 ++ rest) = f 2 ++ Print.ins false rest := by
 induction h with
 | @iri t hi =>
  intro rest
  have hn := Y5T hi 62 (by decide) (by decide)
  have e : (60 :: (t.data.toList ++ 62 :: bl 0)) ++ rest = 60 :: (t.data.toList ++ 62 :: rest) := by simp [bl]
  rw [e, ins_lt _ _ hn]
  simp [bl, List.replicate]
 | @up p f _ ih =>
  intro rest
  have e : (94 :: (bl 0 ++ f 0)) ++ rest = 94 :: (f 0 ++ rest) := by simp [bl]
  rw [e, Y3r 94 (by decide) (by decide), ih]
  simp [bl, List.replicate]
 | @two k c p q f g hk _ _ ih1 ih2 =>
  intro rest
  have hc : c ≠ 60 ∧ c ≠ 33 := by rcases hk with ⟨_, rfl⟩ | ⟨_, rfl⟩ <;> decide
  have e : (f 0 ++ c :: (bl 0 ++ g 0)) ++ rest = f 0 ++ (c :: (g 0 ++ rest)) := by simp [bl]
  rw [e, ih1, Y3r c hc.1 hc.2, ih2]
  simp [bl, List.replicate]
 | @many k c p f hk _ ih =>
  intro rest
  have hc : c ≠ 60 ∧ c ≠ 33 := by rcases hk with ⟨_, rfl⟩ | ⟨_, rfl⟩ | ⟨_, rfl⟩ <;> decide
  have e : (f 0 ++ c :: bl 0) ++ rest = f 0 ++ (c :: rest) := by simp [bl]
  rw [e, ih, Y3r c hc.1 hc.2]
  simp [bl, List.replicate]
 | @not t ts hall =>
  intro rest
  have hn := Y5T (hall t (List.mem_cons_self ..)) 62 (by decide) (by decide)
  have e : (33 :: 40 :: (bl 0 ++ notI 0 t ts)) ++ rest = 33 :: 40 :: (60 :: (t.data.toList ++ 62 :: (Y4v 0 ts ++ rest))) := by simp [bl, notI]
  rw [e, ins_bang, Y3r 40 (by decide) (by decide), ins_lt _ _ hn, Y5S ts rest (fun x m => hall x (List.mem_cons_of_mem _ m))]
  simp [bl, notI, List.replicate]
 | w_iri _ ih => exact ih
 | @w_br p f h0 _ ih =>
  intro rest
  have e : (40 :: (bl 0 ++ (f 0 ++ 41 :: bl 0))) ++ rest = 40 :: (f 0 ++ (41 :: rest)) := by simp [bl]
  rw [e, Y3r 40 (by decide) (by decide), ih, Y3r 41 (by decide) (by decide)]
  simp [bl, List.replicate]
theorem ext_one {s : ByteArray} {c : UInt8} {l : List UInt8} (h : Suf s (c :: l)) : s.extract (ps s (c :: l)).toNat (ps s l).toNat = ⟨#[c]⟩ := by
 have := ext_upto (t := [c]) (l1 := l) h rfl
 simpa using this
theorem Y3l (s : ByteArray) (hs : s.size ≤ 10000000) : ∀ (l : List UInt8) (w : Bool) (x : ByteArray), Suf s l → x.size ≤ 1 + 3 * (s.size - l.length) →
  ∃ t w', t.data.toList = x.data.toList ++ ins w l ∧ ∀ r, Ev (fun k => triviumlaw12_QueryBlanks.l0 k s t w' (s.size : Int)) r → Ev (fun k => triviumlaw12_QueryBlanks.l0 k s x w (ps s l)) r
 | [], w, x, h, hx => ⟨x, w, by simp [ins], fun r hr => by rw [Y4y]; exact hr⟩
 | c :: l, w, x, h, hx => by
  have b := Y64 h
  have hlen := h.len
  simp only [List.length_cons] at hlen hx
  have hsu : wrap64 (ps s (c :: l) + 1) = ps s l := Y2k (by omega) h
  have hps : ps s (c :: l) = (s.size : Int) - (l.length + 1 : Nat) := by simp [ps]
  have hpl : ps s l = (s.size : Int) - (l.length : Nat) := by simp [ps]
  have q1 := Y3N s c l
  have q2 := h.ps0
  have q3 : ps s (c :: l) ≤ ps s l := by omega
  have q4 := ps_le s l
  have q5 : x.size + (ps s l).toNat - (ps s (c :: l)).toNat ≤ 9223372036854775807 := by omega
  have q6 : x.size + ((ps s l).toNat - (ps s (c :: l)).toNat) + 2 ≤ 9223372036854775807 := by omega
  have ex := ext_one h
  have z1 : (x ++ (⟨#[c]⟩ : ByteArray)).size = x.size + 1 := by rw [Y1H]; rfl
  have z2 : (x ++ (⟨#[c]⟩ : ByteArray) ++ (⟨#[32, 32]⟩ : ByteArray)).size = x.size + 3 := by rw [Y1H, Y1H]; rfl
  have one : ∀ w2 : Bool, ins w (c :: l) = c :: ins w2 l → (∀ r, Ev (fun k => triviumlaw12_QueryBlanks.l0 k s (x ++ ⟨#[c]⟩) w2 (ps s l)) r → Ev (fun k => triviumlaw12_QueryBlanks.l0 k s x w (ps s (c :: l))) r) →
    ∃ t w', t.data.toList = x.data.toList ++ ins w (c :: l) ∧ ∀ r, Ev (fun k => triviumlaw12_QueryBlanks.l0 k s t w' (s.size : Int)) r → Ev (fun k => triviumlaw12_QueryBlanks.l0 k s x w (ps s (c :: l))) r := by
   intro w2 hi hst
   obtain ⟨t, w', ht, hr⟩ := Y3l s hs l w2 (x ++ ⟨#[c]⟩) h.tail (by rw [z1]; omega)
   exact ⟨t, w', by rw [ht, Y2g, hi]; simp, fun r e => hst r (hr r e)⟩
  have two : ∀ w2 : Bool, ins w (c :: l) = c :: 32 :: 32 :: ins w2 l → (∀ r, Ev (fun k => triviumlaw12_QueryBlanks.l0 k s (x ++ ⟨#[c]⟩ ++ ⟨#[32, 32]⟩) w2 (ps s l)) r → Ev (fun k => triviumlaw12_QueryBlanks.l0 k s x w (ps s (c :: l))) r) →
    ∃ t w', t.data.toList = x.data.toList ++ ins w (c :: l) ∧ ∀ r, Ev (fun k => triviumlaw12_QueryBlanks.l0 k s t w' (s.size : Int)) r → Ev (fun k => triviumlaw12_QueryBlanks.l0 k s x w (ps s (c :: l))) r := by
   intro w2 hi hst
   obtain ⟨t, w', ht, hr⟩ := Y3l s hs l w2 (x ++ ⟨#[c]⟩ ++ ⟨#[32, 32]⟩) h.tail (by rw [z2]; omega)
   exact ⟨t, w', by rw [ht, Y2g, Y2g, hi]; simp, fun r e => hst r (hr r e)⟩
  have e60 : ∀ n : Nat, n < 256 → ((c.toNat : Int) = (n : Int) ↔ c = UInt8.ofNat n) := fun n hn => u8_eq hn
  by_cases c60 : c = 60
  ·have y60 : (c.toNat : Int) = 60 := (e60 60 (by omega)).mpr c60
   refine one true (by simp [ins, c60]) fun r hr => Ev.up ?_
   simp only [triviumlaw12_QueryBlanks.l0, if_pos q1, if_pos q2, b, if_pos y60, hsu, if_pos q3, if_pos q4, if_pos q5, ex]
   exact hr
  ·have n60 : ¬ (c.toNat : Int) = 60 := fun q => c60 ((e60 60 (by omega)).mp q)
   cases w with
   | true =>
    by_cases c62 : c = 62
    ·have n62 : (c.toNat : Int) = 62 := (e60 62 (by omega)).mpr c62
     have n33 : ¬ (c.toNat : Int) = 33 := by omega
     refine two false (by simp [ins, c62]) fun r hr => Ev.up ?_
     simp only [triviumlaw12_QueryBlanks.l0, if_pos q1, if_pos q2, b, if_neg n60, if_true, hsu, if_pos q3, if_pos q4, if_pos q5, if_pos n62, if_neg n33, if_pos q6, ex]
     rw [show ((c.toNat : Int) != 62) = false from by rw [n62]; rfl]
     exact hr
    ·have n62 : ¬ (c.toNat : Int) = 62 := fun q => c62 ((e60 62 (by omega)).mp q)
     refine one true (by simp [ins, c62]) fun r hr => Ev.up ?_
     simp only [triviumlaw12_QueryBlanks.l0, if_pos q1, if_pos q2, b, if_neg n60, if_true, hsu, if_pos q3, if_pos q4, if_pos q5, if_neg n62, ex]
     rw [show ((c.toNat : Int) != 62) = true from bne_iff_ne.mpr n62]
     exact hr
   | false =>
    by_cases c33 : c = 33
    ·have n33 : (c.toNat : Int) = 33 := (e60 33 (by omega)).mpr c33
     refine one false (by simp [ins, c33]) fun r hr => Ev.up ?_
     simp only [triviumlaw12_QueryBlanks.l0, if_pos q1, if_pos q2, b, if_neg n60, Bool.false_eq_true, if_false, hsu, if_pos q3, if_pos q4, if_pos q5, if_pos n33, ex]
     exact hr
    ·have n33 : ¬ (c.toNat : Int) = 33 := fun q => c33 ((e60 33 (by omega)).mp q)
     refine two false (by simp [ins, c60, c33]) fun r hr => Ev.up ?_
     simp only [triviumlaw12_QueryBlanks.l0, if_pos q1, if_pos q2, b, if_neg n60, Bool.false_eq_true, if_false, hsu, if_pos q3, if_pos q4, if_pos q5, if_neg n33, if_pos q6, ex]
     exact hr
theorem law_blanks (p : S37) : ∃ k, triviumlaw12_QueryBlanks.f k p.f0 p.f1 p.f2 p.f3 = some true := by
 refine Ev.rounds (g := fun k => triviumlaw12_QueryBlanks.f k p.f0 p.f1 p.f2 p.f3) ?_
 unfold triviumlaw12_QueryBlanks.f
 obtain ⟨r1, b1, s1⟩ := big_all p 0 (by omega)
 have yes : Ev (fun k => triviumlaw12_QueryBlanks.j0 k true p.f0 p.f1 p.f2 p.f3) true := Ev.up (by simp only [triviumlaw12_QueryBlanks.j0, if_true]; exact Ev.now _)
 refine Ev.bind b1 ?_
 cases r1 with
 | true => simp only [if_true]; exact yes
 | false =>
  simp only [Bool.false_eq_true, if_false]
  have hp := (s1 rfl).2
  obtain ⟨b, i1, i2, i3⟩ := is_path hp
  refine Ev.bind i2 ?_
  cases b with
  | false => exact yes
  | true =>
   obtain ⟨f, s, hr, e1, e2, hs, hz⟩ := shows0 (i3 rfl)
   refine Ev.up ?_
   simp only [triviumlaw12_QueryBlanks.j0, Bool.not_true, Bool.false_eq_true, if_false]
   refine Ev.bind e2 ?_
   obtain ⟨t, w', ht, hst⟩ := Y3l s (by omega) s.data.toList false ⟨#[32]⟩ (Suf.whole s) (by rw [Y31]; simp only [Nat.sub_self, Nat.mul_zero, Nat.add_zero]; exact Nat.le_refl _)
   rw [Y40] at hst
   refine hst true (Ev.up ?_)
   simp only [triviumlaw12_QueryBlanks.l0, if_neg (show ¬ (s.size : Int) < (s.size : Int) by omega)]
   have hi := hr.ins []
   rw [List.append_nil, ← hs] at hi
   have ht2 : t.data.toList = bl 1 ++ f 2 := by
    rw [ht, hi]
    simp [bl, Print.ins]
   by_cases h6 : t.size > 600
   ·obtain ⟨a, ha⟩ := Y5x s
    obtain ⟨r0, p0, _⟩ := Y4x s ha
    obtain ⟨r, p1, hr2⟩ := Y4x t (.long h6)
    simp only [Ans.is] at hr2
    subst hr2
    refine Ev.bind p0 (Ev.bind p1 ?_)
    simp only [if_pos (show (t.size : Int) > 600 by omega), if_true]
    exact Ev.bind Y5u (Ev.now _)
   ·have hle : s.size ≤ t.size := by
     have l1 := congrArg List.length ht
     rw [List.length_append, Y31] at l1
     have grow : ∀ (l : List UInt8) (w : Bool), l.length ≤ (ins w l).length := by
      intro l
      induction l with
      | nil => intro w; simp
      | cons c l ih =>
       intro w
       have i1 := ih true
       have i2 := ih false
       unfold ins
       repeat' split
       all_goals simp only [List.length_cons]; omega
     have l2 := grow s.data.toList false
     rw [Y31] at l2
     omega
    rcases rd_whole hr with hw | hw
    ·have w1 := hw s 0 0 (by rw [hs]; rfl) (by omega)
     have w2 := hw t 2 1 ht2 (by omega)
     obtain ⟨r0, p0, q0⟩ := Y4x s w1
     obtain ⟨r, p1, q1⟩ := Y4x t w2
     simp only [Ans.is] at q0 q1
     subst q0; subst q1
     refine Ev.bind p0 (Ev.bind p1 ?_)
     simp only [if_neg (show ¬ (t.size : Int) > 600 by omega), if_true]
     refine Ev.bind ((same_r hp.fine p).1 rfl) ?_
     simp only [if_true]
     exact Ev.bind Y5u (Ev.now _)
    ·obtain ⟨a1, w1⟩ := hw s 0 0 (by rw [hs]; rfl) (by omega)
     obtain ⟨a2, w2⟩ := hw t 2 1 ht2 (by omega)
     obtain ⟨r0, p0, q0⟩ := Y4x s w1
     obtain ⟨r, p1, q1⟩ := Y4x t w2
     simp only [Ans.is] at q0 q1
     subst q0; subst q1
     refine Ev.bind p0 (Ev.bind p1 ?_)
     simp only [if_neg (show ¬ (t.size : Int) > 600 by omega), if_true]
     refine Ev.bind ((same_r fine_0 ⟨0, ⟨#[]⟩, [], []⟩).1 rfl) ?_
     simp only [if_true, if_neg (show ¬ (3 : Int) = 0 by decide)]
     exact Ev.bind Y5u (Ev.now _)
end Go.Proofs.YtbpbfboaofkpaaaDoor.Print
end
section
set_option linter.unusedVariables false
namespace Go.Proofs.YtbpbfboaofkpaaaDoor
open Go.ChangeShapes Go.WideShapes Go.ChangeAt Go.RowKit
open Go.ChangeMaps (open_string shut_string)
set_option maxRecDepth 100000 in
theorem Y3A (os : Os) (started : os.Started) (H : Type) (enc : TypeId × Value → H) :
  ReturnsInHanded {} Tryd.checked os 6 .any (fun w args => (Rows.queryBlanksSpec.pre enc Tryd.prog Tryd.f6 [] false w args ∧ laidMetH Tryd.prog laid2 w) ∧ sizedMet enc Tryd.prog Tryd.f6 (OpenSpec.ofChange Rows.queryBlanksSpec) false w args)
   (Rows.queryBlanksSpec.post enc Tryd.prog Tryd.f6 false true false false) := by
 refine Y5h (C := Tryd.checked) (X := fun w _ => laidMetH Tryd.prog laid2 w) (fun _ _ _ hh h => h.of_heap hh) own started Z8 Tryd.func6
  (ChangeSpec.witness_at (enc := enc) (C := Tryd.checked) (os := os) (X := fun w _ => laidMetH Tryd.prog laid2 w) false (Y58 os) #[.agg #[.int .i64 0, .string ByteArray.empty, .slice none 0 0, .slice none 0 0]] 8 rfl Z8 Z8 Z8 Z8 Z8 (Y4P os _)) ?_
 intro W base args ds gs before hval0 hW hL hsh
 have hval : ∀ (j : Nat) t v, Tryd.f6.params[j]? = some t → args[j]? = some v → Value.okWide Tryd.prog W .any base t v := hval0
 have hW' := hW
 obtain ⟨p, q, hA0, hV, rfl, hfz, hnd⟩ := hW
 have hA : DataW.TrodAll enc Tryd.prog W 0 (fun _ => true) true Tryd.f6.params.toList args.toList ds p := hA0
 rw [Tryd.params6] at hA hval
 obtain ⟨v0, vs0, d0, ds0, p0, q0, hargs, rfl, rfl, h0, r0⟩ := trodAll_cons hA
 obtain ⟨rfl, rfl, rfl⟩ := trodAll_nil r0
 obtain rfl : args = #[v0] := by cases args; simp_all
 obtain ⟨rfl, rfl⟩ := trodVars_none hV
 have k0 := h0
 have lt0 : ∀ x ∈ p0, x.block < W.heap.size := by obtain ⟨m, hm⟩ := k0; exact DataW.trod_lt m _ _ _ hm
 obtain ⟨x0, A0, c0, B0, e0, rfl, g0, t0, u0, w0⟩ := open_path (hval 0 37 v0 rfl rfl) h0
 clear hA0 hval0
 obtain ⟨k, hk⟩ := Print.law_blanks x0
 refine (Print.triviumlaw12_QueryBlanks.calls k x0.f0 x0.f1 A0 c0 x0.f2 B0 e0 x0.f3 true W (Y5l hL hsh) t0 g0 w0 u0 hk).mono fun e W' ⟨he, bel⟩ => ?_
 subst he
 exact ⟨_, rfl, _, _, _, [], _, [], hW', trodAll_mk1 (shut_bool Tryd.underlying4 _), (trodAll_cons_mk (Below.trod laidOut Z8 (of_decide_eq_true Z8) k0 bel lt0) trodAll_mk0), rfl, bel.frame _, fun h => by cases h⟩
theorem queryBlanks_holds : Rows.QueryBlanksSaid :=
 OpenClaim.holds_of_wide 6 Tryd.f6 rfl rfl rfl rfl rfl rfl rfl ⟨rfl, rfl, rfl, rfl, rfl⟩ rfl rfl rfl rfl rfl Z8 Tryd.func6 Z8
  (of_decide_eq_true Z8) (by unfold Func.isWrapper; rw [if_neg (by decide +kernel)]; exact ⟨rfl, rfl⟩)
  (fun os started H enc _ => Y3A os started H enc)
theorem queryBlanks_card : Rows.QueryBlanksCardSaid :=
 Claim7.holds_tied_plain_at .later [] [.data, .pinned] true (true, "8dc71fce747bb8b3b218677ae7dbf523581ddbbfb392b53abaf975cea163e82b") false
  queryBlanks_holds (fun _ h => by cases h) Z8 (fun _ h => by cases h) queryBlanks_row_tie rfl ⟨rfl, rfl⟩ Z8 rfl
  (fun f fn hf hfn => by
   obtain rfl : f = 6 := Option.some.inj ((show Tryd.prog.funcNamed "trivium/triviumlaw12.QueryBlanks" = some 6 by kernel_rfl).symm.trans hf) |>.symm
   obtain rfl : fn = Tryd.f6 := (Option.some.inj (Tryd.func6.symm.trans hfn)).symm
   exact ⟨by kernel_rfl, fun j t ht => by
    rw [Tryd.params6] at ht
    rcases j with _ | j
    ·obtain rfl : t = 37 := by simpa using ht.symm
     exact (show Tryd.prog.wantsStandIn 37 = false by kernel_rfl)
    ·simp at ht⟩)
  Z8
#print axioms queryBlanks_card
end Go.Proofs.YtbpbfboaofkpaaaDoor
end
