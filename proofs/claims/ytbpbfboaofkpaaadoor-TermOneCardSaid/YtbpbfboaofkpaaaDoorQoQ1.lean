/- Proofs for this claim: printed by our driver and joined by pack.py; the last text holds the statement. -/
import Derived.Shelf.Unicode.ValidAny
import Derived.Shelf.Strings.Builder1
import Derived.Shelf.Strings.Builder2
import Derived.Shelf.Strings.OnBuilder
import Derived.Shelf.Small.Utf8
import Derived.Shelf.Small.Strs
import Derived.Shelf.Strings.BuilderF
import Derived.Shelf.Strings.BuilderK
import Derived.Shelf.Strings.Search1
import Derived.Shelf.Strings.Search2
import Derived.Shelf.Strings.Search3
import Derived.Shelf.Strings.Cut
import Derived.Shelf.Strings.Count
import Derived.Shelf.LaysM
import Derived.Shelf.Strings.Shaped
import Derived.Shelf.GgClosure.StringsIndexFunc
import Derived.Ground.GgwProg
import Derived.Shelf.GgClosure.StringsIndexFuncTop
import Derived.Shelf.Strings.Split
import Derived.Shelf.Strings.SplitShaped
import Derived.Shelf.Unicode.Decode
import Derived.Shelf.Strings.Runes
import Derived.Shelf.Strings.RuneCount
import Derived.Shelf.Strings.Explode
import Derived.Shelf.Unicode.DecodeSlow
import Derived.Shelf.Unicode.DecodeAny
import Derived.Shelf.Strings.FuncGrows
import Derived.Shelf.Slices.Turned
import Derived.Shelf.Slices.Equal
import Derived.Test.YtbpbfboaofkpaaaDoorProg
import Derived.Below
import Derived.Deep.Draws
import Derived.Test.YtbpbfboaofkpaaaDoorRows
import Derived.ProofKit
import Derived.LaidMore
import Derived.MakeChecks
import Derived.OpenShut
import Derived.Stop.Joined
import Derived.HandedShaped
import Derived.Shelf.Vars
import Derived.Lib.LaidU8T
import Derived.Deep.AppendLies
import Derived.Maps.AppendAt
import Derived.OwnWalk
import Derived.Laws.BytesArg
import Derived.Laws.MakeOwn
import Derived.Laws.OwnMore
import Derived.Deep.OwnRows
import Derived.Tactics
import Derived.Lib.ConvBytes
import Derived.Laws.Slices
import Derived.WalkKit
import Derived.KernelRfl
import Derived.RowKit3
import Derived.Deep.LoopGhost
import Derived.Deep.QuietTactic
import Derived.BigQuiet
import Derived.WideLaws
import Derived.Deep.DeepCutAuto
import Derived.Deep.CutBlock
import Derived.Deep.RegionHeld3
import Derived.Laws.Rows
import Derived.Lib.AppendStr
import Derived.ArgAppend
import Derived.Laws.IdiomCopy
import Derived.RowKit
import Derived.OrdersHeld
import Derived.Laws.BitsLemmas
import Derived.Laws.StructEq
import Derived.Lib.SmallJoins
import Derived.SliceStrings
import Derived.Carry
import Derived.ChangeOld
import Derived.Laws.Cover1
import Derived.WalkMore
import Derived.Lib.Hide
import Derived.Laws.IdiomStrings
import Derived.LoopTactic
import Derived.Laws.Cover4
import Derived.Lib.SplitLaws
import Derived.Lib.IndexMore
import Derived.Below
namespace Go.Proofs
end Go.Proofs
namespace Go.Proofs.YtbpbfboaofkpaaaDoor
end Go.Proofs.YtbpbfboaofkpaaaDoor
namespace Go.Proofs.YtbpbfboaofkpaaaDoor.Print
end Go.Proofs.YtbpbfboaofkpaaaDoor.Print
namespace Go.Proofs.YtbpbfboaofkpaaaDoorW.PrintLast
end Go.Proofs.YtbpbfboaofkpaaaDoorW.PrintLast
namespace Go.Proofs.YtbpbfboaofkpaaaDoorW.PrintMore
end Go.Proofs.YtbpbfboaofkpaaaDoorW.PrintMore
namespace Go.Proofs.YtbpbfboaofkpaaaDoorW.PrintWords
end Go.Proofs.YtbpbfboaofkpaaaDoorW.PrintWords
set_option linter.unusedSimpArgs false
namespace Go.Proofs.YtbpbfboaofkpaaaDoorW.PrintLast
open Go Go.RowKit
theorem cellx {w W : World} {p : Addr} {v : Value} (hb : Below w.heap.size w W) (h : w.cell? p = some v) : W.cell? p = some v := (hb.cell (World.block_lt_of_cell? w _ h)).trans h
theorem below_w {B : Nat} {w0 w1 w : World} (_ : Below B w0 w1) (k : Below B w0 w) : Below B w0 w := k
end Go.Proofs.YtbpbfboaofkpaaaDoorW.PrintLast
namespace Go.Proofs
theorem QB {P : Prop} (h : P := by refine below_w HB.out ?_; repeat (first | (with_reducible first | exact HB.out | apply YW | apply Y1M | apply YH | refine Y2j ?_ (Y0.out (by assumption)) | refine Y2j ?_ (Ym.ge (Y0.out (by assumption))) | refine Y2j ?_ (YR.ge (Y0.out (by assumption))) | refine Y2j ?_ (YS.ge (Y0.out (by assumption)))) | exact HB.out)) : P := h
theorem QK {P : Prop} (h : P := by refine keep_w HK.out ?_; repeat (first | (with_reducible first | exact HK.out | apply Yb.set_ | apply Y4y | apply keep_drew | apply Y4x | refine keep_far ?_ (Y0.out (by assumption)) _) | exact HK.out)) : P := h
theorem QQ {P : Prop} (h : P := by (with_reducible repeat (first | refine Yo ?_ _ | refine Yg ?_ | refine Yn ?_ _)); exact Y0.out (by assumption)) : P := h
theorem QI67_0 {P : Prop} (h : P := by repeat (first | (with_reducible first | exact HI0.out | apply Ym.alloc | apply Ym.drewN | apply Ym.drew | apply Ym.set_0 | apply Ym.set_1 | apply Ym.set_2 | apply Ym.set_3 | refine Ym.far ?_ (Y0.out (by assumption)) _) | exact HI0.out)) : P := h
theorem QI67_103 {P : Prop} (h : P := by repeat (first | (with_reducible first | exact HI103.out | apply Ym.alloc | apply Ym.drewN | apply Ym.drew | apply Ym.set_0 | apply Ym.set_1 | apply Ym.set_2 | apply Ym.set_3 | refine Ym.far ?_ (Y0.out (by assumption)) _) | exact HI103.out)) : P := h
theorem QM {P : Prop} (h : P := by repeat' first | (with_reducible first | apply ih | apply ih0 | apply ih1 | apply ih2 | apply ih3 | apply ih4 | apply ih5 | apply ih6 | apply ih7 | apply ih8 | apply ih9 | apply ih10 | apply ih11 | apply ih12 | apply ih13 | apply ih14 | apply ih15 | apply ih16 | apply ih17 | apply ih18 | apply ih19 | apply ih20 | apply ih21 | apply ih22 | apply ih23 | apply ih24 | apply ih25 | apply YK.mono | apply Ys.mono | apply Y4.mono | exact LeO.refl _ | exact LeO.none _ | refine LeO.ite ?_ ?_ | refine LeO.bind ?_ (fun _ => ?_)) | apply ih | apply ih0 | apply ih1 | apply ih2 | apply ih3 | apply ih4 | apply ih5 | apply ih6 | apply ih7 | apply ih8 | apply ih9 | apply ih10 | apply ih11 | apply ih12 | apply ih13 | apply ih14 | apply ih15 | apply ih16 | apply ih17 | apply ih18 | apply ih19 | apply ih20 | apply ih21 | apply ih22 | apply ih23 | apply ih24 | apply ih25 | apply YK.mono | apply Ys.mono | apply Y4.mono | exact LeO.refl _ | exact LeO.none _ | refine LeO.ite ?_ ?_ | refine LeO.bind ?_ (fun _ => ?_)) : P := h
theorem Z0 {P : Prop} (h : P := by (try simp only [List.map_toArray, List.map_cons, List.map_nil]); first | done | rfl | (simp only [List.length_drop, List.length_take]; rfl)) : P := h
theorem Z1 {P : Prop} (h : P := by first | rfl | (simp [Y1x, Y1y] <;> rfl) | (simp [*, Y1x, Y1y] <;> rfl)) : P := h
theorem Z2 {P : Prop} (h : P := by (with_reducible repeat (first | refine Yo ?_ _ | refine Yg ?_ | refine Yn ?_ _)); exact YM (cs := #[.int .i64 0, .string (⟨#[]⟩ : ByteArray), .string (⟨#[]⟩ : ByteArray)]) QQ 0 _ rfl) : P := h
theorem Z3 {P : Prop} (h : P := by repeat (first | exact (Y1n HT.out QB) | (with_reducible refine Y43 ?_ _) | (with_reducible refine Y44 ?_ _) | (with_reducible refine Y4t ?_))) : P := h
theorem Z4 {P : Prop} (h : P := by first | rfl | (simp; done) | (simp [*]; done)) : P := h
theorem Z5 {P : Prop} (h : P := by first | (with_reducible assumption) | assumption) : P := h
theorem Z6 {P : Prop} (h : P := by repeat (first | exact YO.refl _ | apply YO.step)) : P := h
theorem Z7 {P : Prop} (h : P := by kernel_rfl) : P := h
theorem Z8 {P : Prop} (h : P := by (with_reducible repeat (first | refine Yo ?_ _ | refine Yg ?_ | refine Yn ?_ _)); exact YQ (by (with_reducible repeat (first | refine Yo ?_ _ | refine Yg ?_ | refine Yn ?_ _)); exact YQ (by (with_reducible repeat (first | refine Yo ?_ _ | refine Yg ?_ | refine Yn ?_ _)); exact YQ QQ NB101_102.out _) NB101_102.out _) NB101_102.out _) : P := h
theorem Z9 {P : Prop} (h : P := by (with_reducible repeat (first | refine Yo ?_ _ | refine Yg ?_ | refine Yn ?_ _)); exact YQ (by (with_reducible repeat (first | refine Yo ?_ _ | refine Yg ?_ | refine Yn ?_ _)); exact YQ (by (with_reducible repeat (first | refine Yo ?_ _ | refine Yg ?_ | refine Yn ?_ _)); exact YQ QQ NB101_115.out _) NB101_115.out _) NB101_115.out _) : P := h
theorem Za {P : Prop} (h : P := by (with_reducible repeat (first | refine Yo ?_ _ | refine Yg ?_ | refine Yn ?_ _)); exact YQ (by (with_reducible repeat (first | refine Yo ?_ _ | refine Yg ?_ | refine Yn ?_ _)); exact YQ (by (with_reducible repeat (first | refine Yo ?_ _ | refine Yg ?_ | refine Yn ?_ _)); exact YQ QQ NB102_115.out _) NB102_115.out _) NB102_115.out _) : P := h
theorem Zb {P : Prop} (h : P := by first | (go_simp; done) | (go_simp; rfl)) : P := h
theorem Zc {P : Prop} (h : P := by (with_reducible repeat (first | refine Yo ?_ _ | refine Yg ?_ | refine Yn ?_ _)); exact YQ (by (with_reducible repeat (first | refine Yo ?_ _ | refine Yg ?_ | refine Yn ?_ _)); exact YQ (by (with_reducible repeat (first | refine Yo ?_ _ | refine Yg ?_ | refine Yn ?_ _)); exact YQ QQ NB101_109.out _) NB101_109.out _) NB101_109.out _) : P := h
theorem Zd {P : Prop} (h : P := by exact absurd H (by simp)) : P := h
theorem Ze {P : Prop} (h : P := by (with_reducible repeat (first | refine Yo ?_ _ | refine Yg ?_ | refine Yn ?_ _)); exact YQ (by (with_reducible repeat (first | refine Yo ?_ _ | refine Yg ?_ | refine Yn ?_ _)); exact YQ QQ NB101_105.out _) NB101_105.out _) : P := h
theorem Zf {P : Prop} (h : P := by (with_reducible repeat (first | refine Yo ?_ _ | refine Yg ?_ | refine Yn ?_ _)); exact BK101.out) : P := h
theorem Zg {P : Prop} (h : P := by exact (Y1m.c3 (show Kd.M k24 _ _ _ (⟨a0_0, a0_1, a0_2⟩ : S24) [.int .i64 a0_0, .string a0_1, .string a0_2] from (k24_mkM _ _ _ (⟨a0_0, a0_1, a0_2⟩ : S24) )) (Y1m.c3 (show Kd.M k24 _ _ _ (⟨a1_0, a1_1, a1_2⟩ : S24) [.int .i64 a1_0, .string a1_1, .string a1_2] from (k24_mkM _ _ _ (⟨a1_0, a1_1, a1_2⟩ : S24) )) (Y1m.none _ _)))) : P := h
theorem Zh {P : Prop} (h : P := by (with_reducible repeat (first | refine Yo ?_ _ | refine Yg ?_ | refine Yn ?_ _)); exact BK102.out) : P := h
theorem Zi {P : Prop} (h : P := by (with_reducible repeat (first | refine Yo ?_ _ | refine Yg ?_ | refine Yn ?_ _)); exact YQ QQ NB101_0.out _) : P := h
theorem Zj {P : Prop} (h : P := by first | omega | exact Nat.le_refl _) : P := h
theorem Zk {P : Prop} (h : P := by first | exact HB.out | exact Y16 HB.out _) : P := h
theorem Zl {P : Prop} (h : P := by simp only [Y2A, List.drop, Y3u]; exact HG.out) : P := h
theorem Zm {P : Prop} (h : P := by repeat (first | exact (Kd.R_reads' HO105.out).2.2 | (with_reducible refine Kd.C_alloc ?_ _) | (with_reducible refine Kd.C_drewN ?_ _) | (with_reducible refine Kd.C_drew ?_))) : P := h
theorem Zn {P : Prop} (h : P := by (with_reducible repeat (first | refine Yo ?_ _ | refine Yg ?_ | refine Yn ?_ _)); exact YQ QQ NB102_0.out _) : P := h
theorem Zo {P : Prop} (h : P := by have := HK1.out; first | omega | exact Nat.le_refl _) : P := h
theorem Zp {P : Prop} (h : P := by (with_reducible repeat (first | apply Kd.R_alloc | apply Kd.R_drewN | apply Kd.R_drew)); exact HO105.out) : P := h
theorem Zq {P : Prop} (h : P := by exact ⟨rfl, Below.refl _ _⟩) : P := h
theorem Zr {P : Prop} (h : P := by have := of_decide_eq_true q; omega) : P := h
theorem Zs {P : Prop} (h : P := by have := HK1.out; have := HJ2.out; have := HJ13.out; first | omega | exact Nat.le_refl _) : P := h
theorem Zt {P : Prop} (h : P := by (try simp only [List.map_toArray, List.map_cons, List.map_nil]); first | done | (simp only [hji13]; rfl) | rfl | (simp only [List.length_drop, List.length_take]; rfl)) : P := h
theorem Zu {P : Prop} (h : P := by first | exact Below.refl _ _ | exact ⟨rfl, rfl, rfl, Nat.le_refl _, fun _ _ => rfl⟩) : P := h
theorem Zv {P : Prop} (h : P := by have := HK1.out; omega) : P := h
theorem Zw {P : Prop} (h : P := by (with_reducible repeat (first | refine Yo ?_ _ | refine Yg ?_ | refine Yn ?_ _)); exact YQ QQ NB105_0.out _) : P := h
theorem Zx {P : Prop} (h : P := by exact ⟨by rw [HRF.out]; rfl, HB0.out.trans (((HB.out.mono (Nat.le_succ _))).trans ((Below.refl _ _).alloc (by have := HX.out; omega) _))⟩) : P := h
theorem Zy {P : Prop} (h : P := by have := HK1.out; have := HJ4.out; omega) : P := h
theorem Zz {P : Prop} (h : P := by exact ⟨by rw [← HR.out, if_neg (show ¬ x < 0 by have := HD.out; omega)]; rfl, (Y16 bel0 m).alloc (Nat.le_refl _) _⟩) : P := h
theorem ZA {P : Prop} (h : P := by exact QI67_0) : P := h
theorem ZB {P : Prop} (h : P := by rw [hg]; exact (Yd QB)) : P := h
theorem ZC {P : Prop} (h : P := by exact Ev.now _) : P := h
theorem ZD {P : Prop} (h : P := by exact ⟨b, Ev.up (by simp only [Y6.j2, if_true, Bool.false_eq_true, if_false]; exact h1), h2⟩) : P := h
theorem ZE {P : Prop} (h : P := by exact ⟨rfl, rfl⟩) : P := h
theorem ZF {P : Prop} (h : P := by exact ⟨by simpa using Y2L hb 0 (.string x), hg⟩) : P := h
theorem ZG {P : Prop} (h : P := by go_simp; rfl) : P := h
theorem ZH {P : Prop} (h : P := by rw [h] at hr; cases hr) : P := h
theorem ZI {P : Prop} (h : P := by have := HK1.out; have := HJ2.out; first | omega | exact Nat.le_refl _) : P := h
theorem ZJ {P : Prop} (h : P := by have := HK1.out; have := HJ7.out; first | omega | exact Nat.le_refl _) : P := h
theorem ZK {P : Prop} (h : P := by have := HK1.out; have := HK2.out; first | omega | exact Nat.le_refl _) : P := h
theorem ZL {P : Prop} (h : P := by (with_reducible repeat (first | refine Yo ?_ _ | refine Yg ?_ | refine Yn ?_ _)); exact YM (cs := #[.int .i64 0, .string (⟨#[]⟩ : ByteArray), .string (⟨#[]⟩ : ByteArray)]) (by (with_reducible repeat (first | refine Yo ?_ _ | refine Yg ?_ | refine Yn ?_ _)); exact YM (cs := #[.int .i64 0, .string (⟨#[]⟩ : ByteArray), .string (⟨#[]⟩ : ByteArray)]) Z2 1 _ rfl) 2 _ rfl) : P := h
theorem ZM {P : Prop} (h : P := by (with_reducible repeat (first | refine Yo ?_ _ | refine Yg ?_ | refine Yn ?_ _)); exact YM (cs := #[.int .i64 t111, .string t112, .string (⟨#[]⟩ : ByteArray)]) (by (with_reducible repeat (first | refine Yo ?_ _ | refine Yg ?_ | refine Yn ?_ _)); exact YM (cs := #[.int .i64 t111, .string (⟨#[]⟩ : ByteArray), .string (⟨#[]⟩ : ByteArray)]) Z2 1 _ rfl) 2 _ rfl) : P := h
theorem ZN {P : Prop} (h : P := by (with_reducible repeat (first | refine Yo ?_ _ | refine Yg ?_ | refine Yn ?_ _)); exact YM (cs := #[.int .i64 4, .string (⟨#[97, 10]⟩ : ByteArray), .string (⟨#[]⟩ : ByteArray)]) (by (with_reducible repeat (first | refine Yo ?_ _ | refine Yg ?_ | refine Yn ?_ _)); exact YM (cs := #[.int .i64 4, .string (⟨#[]⟩ : ByteArray), .string (⟨#[]⟩ : ByteArray)]) Z2 1 _ rfl) 2 _ rfl) : P := h
theorem ZO {P : Prop} (h : P := by (with_reducible repeat (first | refine Yo ?_ _ | refine Yg ?_ | refine Yn ?_ _)); exact YM (cs := #[.int .i64 3, .string t102, .string (⟨#[]⟩ : ByteArray)]) (by (with_reducible repeat (first | refine Yo ?_ _ | refine Yg ?_ | refine Yn ?_ _)); exact YM (cs := #[.int .i64 3, .string (⟨#[]⟩ : ByteArray), .string (⟨#[]⟩ : ByteArray)]) Z2 1 _ rfl) 2 _ rfl) : P := h
theorem ZP {P : Prop} (h : P := by (with_reducible repeat (first | refine Yo ?_ _ | refine Yg ?_ | refine Yn ?_ _)); exact YM (cs := #[.int .i64 t104, .string t105, .string (⟨#[]⟩ : ByteArray)]) (by (with_reducible repeat (first | refine Yo ?_ _ | refine Yg ?_ | refine Yn ?_ _)); exact YM (cs := #[.int .i64 t104, .string (⟨#[]⟩ : ByteArray), .string (⟨#[]⟩ : ByteArray)]) Z2 1 _ rfl) 2 _ rfl) : P := h
theorem ZQ {P : Prop} (h : P := by (with_reducible repeat (first | refine Yo ?_ _ | refine Yg ?_ | refine Yn ?_ _)); exact YM (cs := #[.int .i64 0, .string (⟨#[]⟩ : ByteArray), .string (⟨#[]⟩ : ByteArray)]) (by (with_reducible repeat (first | refine Yo ?_ _ | refine Yg ?_ | refine Yn ?_ _)); exact YM (cs := #[.int .i64 0, .string (⟨#[]⟩ : ByteArray), .string (⟨#[]⟩ : ByteArray)]) (by (with_reducible repeat (first | refine Yo ?_ _ | refine Yg ?_ | refine Yn ?_ _)); exact YM (cs := #[.int .i64 0, .string (⟨#[]⟩ : ByteArray), .string (⟨#[]⟩ : ByteArray)]) Zc 0 _ rfl) 1 _ rfl) 2 _ rfl) : P := h
theorem ZR {P : Prop} (h : P := by (with_reducible repeat (first | refine Yo ?_ _ | refine Yg ?_ | refine Yn ?_ _)); exact YM (cs := #[.int .i64 x103000_1, .string x103001_1, .string (⟨#[]⟩ : ByteArray)]) (by (with_reducible repeat (first | refine Yo ?_ _ | refine Yg ?_ | refine Yn ?_ _)); exact YM (cs := #[.int .i64 x103000_1, .string (⟨#[]⟩ : ByteArray), .string (⟨#[]⟩ : ByteArray)]) Z2 1 _ rfl) 2 _ rfl) : P := h
theorem ZS {P : Prop} (h : P := by have : (0 : Int) < (x1000_1.size : Int) := of_decide_eq_true Z5; omega) : P := h
theorem ZT {P : Prop} (h : P := by exact ⟨Z1, QB⟩) : P := h
theorem ZU {P : Prop} (h : P := by (with_reducible repeat (first | refine Yo ?_ _ | refine Yg ?_ | refine Yn ?_ _)); exact YQ Ze NB101_105.out _) : P := h
theorem ZV {P : Prop} (h : P := by exact ⟨Z1, QI67_0, QB, QK⟩) : P := h
theorem ZW {P : Prop} (h : P := by (with_reducible repeat (first | refine Yo ?_ _ | refine Yg ?_ | refine Yn ?_ _)); exact YM (cs := #[.int .i64 0, .string (⟨#[]⟩ : ByteArray), .string (⟨#[]⟩ : ByteArray)]) Ze 0 _ rfl) : P := h
theorem ZX {P : Prop} (h : P := by exact ⟨Z4, Z6⟩) : P := h
end Go.Proofs
namespace Go.Proofs.YtbpbfboaofkpaaaDoor.Print.Bz
abbrev t := true
abbrev f := false
end Go.Proofs.YtbpbfboaofkpaaaDoor.Print.Bz
namespace Go.Proofs.YtbpbfboaofkpaaaDoor.Print
section
open Bz
abbrev Y38 : Array Bool := #[f,f,f,f,f,f,f,f,f,f,f,f,f,f,f,f,f,f,f,f,f,f,f,f,f,f,f,f,f,f,f,f,f,f]
abbrev Y39 : Array Bool := #[t,f,f,f,f,f,f,f,f,f,f,f,f,f,f,f,f,f,f,f,f,f,f,f,f,f,f,f,f,f,f,f,f,f]
abbrev Y1Y : Array Bool := #[t,t,t,t,t,t,t,t,t,t,f,f,t,f,f,f,f,f,f,f,f,f,f,f,f,f,f,f,f,f,f,f,f,f]
abbrev Y2r : Array Bool := #[t,t,t,t,t,f,f,f,f,f,f,f,f,f,f,f,f,f,f,f,f,f,f,f,f,f,f,f,f,f,f,f,f,f]
abbrev Y2a : Array Bool := #[t,t,t,t,t,t,t,t,t,f,f,f,f,f,f,f,f,f,f,f,f,f,f,f,f,f,f,f,f,f,f,f,f,f]
abbrev bz34_1fff : Array Bool := #[t,t,t,t,t,t,t,t,t,t,t,t,t,f,f,f,f,f,f,f,f,f,f,f,f,f,f,f,f,f,f,f,f,f]
abbrev Y1C : Array Bool := #[t,t,t,t,t,t,t,t,t,t,t,t,t,t,t,t,t,f,f,f,f,f,f,f,f,f,f,f,f,f,f,f,f,f]
abbrev Y1o : Array Bool := #[t,t,t,t,t,t,t,t,t,t,t,t,t,t,t,t,t,t,t,t,t,f,f,f,f,f,f,f,f,f,f,f,f,f]
abbrev Y1f : Array Bool := #[t,t,t,t,t,t,t,t,t,t,t,t,t,t,t,t,t,t,t,t,t,t,t,t,t,f,f,f,f,f,f,f,f,f]
abbrev Y17 : Array Bool := #[t,t,t,t,t,t,t,t,t,t,t,t,t,t,t,t,t,t,t,t,t,t,t,t,t,t,t,t,t,f,f,f,f,f]
abbrev YZ : Array Bool := #[t,t,t,t,t,t,t,t,t,t,t,t,t,t,t,t,t,t,t,t,t,t,t,t,t,t,t,t,t,t,t,t,t,f]
abbrev Y3a : Array Bool := #[t,t,f,f,f,f,f,f,f,f,f,f,f,f,f,f,f,f,f,f,f,f,f,f,f,f,f,f,f,f,f,f,f,f]
abbrev Y1Z : Array Bool := #[t,t,t,t,t,t,t,t,t,t,f,f,t,t,f,f,f,f,f,f,f,f,f,f,f,f,f,f,f,f,f,f,f,f]
abbrev Y2s : Array Bool := #[t,t,t,t,t,t,f,f,f,f,f,f,f,f,f,f,f,f,f,f,f,f,f,f,f,f,f,f,f,f,f,f,f,f]
abbrev Y2b : Array Bool := #[t,t,t,t,t,t,t,t,t,t,f,f,f,f,f,f,f,f,f,f,f,f,f,f,f,f,f,f,f,f,f,f,f,f]
abbrev bz34_3fff : Array Bool := #[t,t,t,t,t,t,t,t,t,t,t,t,t,t,f,f,f,f,f,f,f,f,f,f,f,f,f,f,f,f,f,f,f,f]
abbrev Y1D : Array Bool := #[t,t,t,t,t,t,t,t,t,t,t,t,t,t,t,t,t,t,f,f,f,f,f,f,f,f,f,f,f,f,f,f,f,f]
abbrev Y1p : Array Bool := #[t,t,t,t,t,t,t,t,t,t,t,t,t,t,t,t,t,t,t,t,t,t,f,f,f,f,f,f,f,f,f,f,f,f]
abbrev Y1g : Array Bool := #[t,t,t,t,t,t,t,t,t,t,t,t,t,t,t,t,t,t,t,t,t,t,t,t,t,t,f,f,f,f,f,f,f,f]
abbrev Y18 : Array Bool := #[t,t,t,t,t,t,t,t,t,t,t,t,t,t,t,t,t,t,t,t,t,t,t,t,t,t,t,t,t,t,f,f,f,f]
abbrev Y10 : Array Bool := #[t,t,t,t,t,t,t,t,t,t,t,t,t,t,t,t,t,t,t,t,t,t,t,t,t,t,t,t,t,t,t,t,t,t]
abbrev Y3b : Array Bool := #[t,t,t,f,f,f,f,f,f,f,f,f,f,f,f,f,f,f,f,f,f,f,f,f,f,f,f,f,f,f,f,f,f,f]
abbrev Y20 : Array Bool := #[t,t,t,t,t,t,t,t,t,t,f,f,t,t,t,f,f,f,f,f,f,f,f,f,f,f,f,f,f,f,f,f,f,f]
abbrev Y21 : Array Bool := #[t,t,t,t,t,t,t,t,t,t,t,f,t,t,t,f,f,f,f,f,f,f,f,f,f,f,f,f,f,f,f,f,f,f]
abbrev Y2t : Array Bool := #[t,t,t,t,t,t,t,f,f,f,f,f,f,f,f,f,f,f,f,f,f,f,f,f,f,f,f,f,f,f,f,f,f,f]
abbrev bz34_7ff : Array Bool := #[t,t,t,t,t,t,t,t,t,t,t,f,f,f,f,f,f,f,f,f,f,f,f,f,f,f,f,f,f,f,f,f,f,f]
abbrev Y1O : Array Bool := #[t,t,t,t,t,t,t,t,t,t,t,t,t,t,t,f,f,f,f,f,f,f,f,f,f,f,f,f,f,f,f,f,f,f]
abbrev Y1E : Array Bool := #[t,t,t,t,t,t,t,t,t,t,t,t,t,t,t,t,t,t,t,f,f,f,f,f,f,f,f,f,f,f,f,f,f,f]
abbrev Y1q : Array Bool := #[t,t,t,t,t,t,t,t,t,t,t,t,t,t,t,t,t,t,t,t,t,t,t,f,f,f,f,f,f,f,f,f,f,f]
abbrev Y1h : Array Bool := #[t,t,t,t,t,t,t,t,t,t,t,t,t,t,t,t,t,t,t,t,t,t,t,t,t,t,t,f,f,f,f,f,f,f]
abbrev Y19 : Array Bool := #[t,t,t,t,t,t,t,t,t,t,t,t,t,t,t,t,t,t,t,t,t,t,t,t,t,t,t,t,t,t,t,f,f,f]
abbrev Y3c : Array Bool := #[t,t,t,t,f,f,f,f,f,f,f,f,f,f,f,f,f,f,f,f,f,f,f,f,f,f,f,f,f,f,f,f,f,f]
abbrev Y2u : Array Bool := #[t,t,t,t,t,t,t,t,f,f,f,f,f,f,f,f,f,f,f,f,f,f,f,f,f,f,f,f,f,f,f,f,f,f]
abbrev bz34_fff : Array Bool := #[t,t,t,t,t,t,t,t,t,t,t,t,f,f,f,f,f,f,f,f,f,f,f,f,f,f,f,f,f,f,f,f,f,f]
abbrev Y1P : Array Bool := #[t,t,t,t,t,t,t,t,t,t,t,t,t,t,t,t,f,f,f,f,f,f,f,f,f,f,f,f,f,f,f,f,f,f]
abbrev Y1F : Array Bool := #[t,t,t,t,t,t,t,t,t,t,t,t,t,t,t,t,t,t,t,t,f,f,f,f,f,f,f,f,f,f,f,f,f,f]
abbrev Y1r : Array Bool := #[t,t,t,t,t,t,t,t,t,t,t,t,t,t,t,t,t,t,t,t,t,t,t,t,f,f,f,f,f,f,f,f,f,f]
abbrev Y1i : Array Bool := #[t,t,t,t,t,t,t,t,t,t,t,t,t,t,t,t,t,t,t,t,t,t,t,t,t,t,t,t,f,f,f,f,f,f]
abbrev Y1a : Array Bool := #[t,t,t,t,t,t,t,t,t,t,t,t,t,t,t,t,t,t,t,t,t,t,t,t,t,t,t,t,t,t,t,t,f,f]
abbrev bz8_0 : Array Bool := #[f,f,f,f,f,f,f,f]
abbrev bz8_1 : Array Bool := #[t,f,f,f,f,f,f,f]
abbrev bz8_11 : Array Bool := #[t,f,f,f,t,f,f,f]
abbrev bz8_13 : Array Bool := #[t,t,f,f,t,f,f,f]
abbrev bz8_33 : Array Bool := #[t,t,f,f,t,t,f,f]
abbrev bz8_37 : Array Bool := #[t,t,t,f,t,t,f,f]
abbrev bz8_3f : Array Bool := #[t,t,t,t,t,t,f,f]
abbrev bz8_7f : Array Bool := #[t,t,t,t,t,t,t,f]
abbrev bz8_ff : Array Bool := #[t,t,t,t,t,t,t,t]
abbrev bz9_0 : Array Bool := #[f,f,f,f,f,f,f,f,f]
abbrev bz9_1 : Array Bool := #[t,f,f,f,f,f,f,f,f]
abbrev bz9_11 : Array Bool := #[t,f,f,f,t,f,f,f,f]
abbrev bz9_13 : Array Bool := #[t,t,f,f,t,f,f,f,f]
abbrev bz9_1ff : Array Bool := #[t,t,t,t,t,t,t,t,t]
abbrev bz9_33 : Array Bool := #[t,t,f,f,t,t,f,f,f]
abbrev bz9_37 : Array Bool := #[t,t,t,f,t,t,f,f,f]
abbrev bz9_3f : Array Bool := #[t,t,t,t,t,t,f,f,f]
abbrev bz9_7f : Array Bool := #[t,t,t,t,t,t,t,f,f]
abbrev bz9_ff : Array Bool := #[t,t,t,t,t,t,t,t,f]
end
end Go.Proofs.YtbpbfboaofkpaaaDoor.Print
section
namespace Go.Proofs
open Go.Shelf
open Go.Shelf
def Tryd.lays196_ren : Go.Shelf.Ren := ⟨fun | 196 => 38 | 259 => 69 | n => n, fun | 9 => 9 | 4 => 4 | 3 => 3 | 5 => 5 | 12 => 12 | 119 => 93 | 0 => 0 | 46 => 97 | 139 => 96 | 138 => 95 | 53 => 117 | n => n, fun | 3 => 0 | 4 => 1 | n => n⟩
theorem Tryd.lays196 : Go.Proofs.Lays.n196 Tryd.prog Tryd.lays196_ren := {
 mixed := by kernel_rfl
 f196 := Tryd.func38.trans (congrArg some Z7)
 f259 := Tryd.func69.trans (congrArg some Z7)
 t0 := Tryd.underlying0
 a0 := Tryd.isAgg0
 z0 := Tryd.sizeOf0
 v0 := Tryd.zeroValue0
 t3 := Tryd.underlying3
 a3 := Tryd.isAgg3
 z3 := Tryd.sizeOf3
 v3 := Tryd.zeroValue3
 t4 := Tryd.underlying4
 a4 := Tryd.isAgg4
 z4 := Tryd.sizeOf4
 v4 := Tryd.zeroValue4
 t5 := Tryd.underlying5
 a5 := Tryd.isAgg5
 z5 := Tryd.sizeOf5
 v5 := Tryd.zeroValue5
 t9 := Tryd.underlying9
 a9 := Tryd.isAgg9
 z9 := Tryd.sizeOf9
 v9 := Tryd.zeroValue9
 t12 := Tryd.underlying12
 a12 := Tryd.isAgg12
 z12 := Tryd.sizeOf12
 v12 := Tryd.zeroValue12
 t46 := Tryd.underlying97
 a46 := Tryd.isAgg97
 z46 := Tryd.sizeOf97
 v46 := Tryd.zeroValue97
 t53 := Tryd.underlying117
 a53 := Tryd.isAgg117
 z53 := Tryd.sizeOf117
 v53 := Tryd.zeroValue117
 t119 := Tryd.underlying93
 a119 := Tryd.isAgg93
 z119 := Tryd.sizeOf93
 t138 := Tryd.underlying95
 a138 := Tryd.isAgg95
 z138 := Tryd.sizeOf95
 v138 := Tryd.zeroValue95
 t139 := Tryd.underlying96
 a139 := Tryd.isAgg96
 z139 := Tryd.sizeOf96
 v139 := Tryd.zeroValue96
 g3 := by kernel_rfl
 g4 := by kernel_rfl }
def Tryd.laysGw17_ren : Go.Shelf.Ren := ⟨fun | 17 => 104 | 15 => 115 | 20 => 125 | n => n, fun | 9 => 9 | 23 => 99 | 4 => 4 | 3 => 3 | 0 => 0 | 21 => 21 | n => n, fun | n => n⟩
theorem Tryd.laysGw17 : Go.Proofs.LaysGw.n17 Tryd.prog Tryd.laysGw17_ren := {
 mixed := by kernel_rfl
 f15 := Tryd.func115.trans (congrArg some Z7)
 f17 := Tryd.func104.trans (congrArg some Z7)
 f20 := Tryd.func125.trans (congrArg some Z7)
 t0 := Tryd.underlying0
 a0 := Tryd.isAgg0
 z0 := Tryd.sizeOf0
 v0 := Tryd.zeroValue0
 i0 := by kernel_rfl
 t3 := Tryd.underlying3
 a3 := Tryd.isAgg3
 z3 := Tryd.sizeOf3
 v3 := Tryd.zeroValue3
 i3 := by kernel_rfl
 t4 := Tryd.underlying4
 a4 := Tryd.isAgg4
 z4 := Tryd.sizeOf4
 v4 := Tryd.zeroValue4
 i4 := by kernel_rfl
 t9 := Tryd.underlying9
 a9 := Tryd.isAgg9
 z9 := Tryd.sizeOf9
 v9 := Tryd.zeroValue9
 i9 := by kernel_rfl
 t21 := Tryd.underlying21
 a21 := Tryd.isAgg21
 z21 := Tryd.sizeOf21
 v21 := Tryd.zeroValue21
 i21 := by kernel_rfl
 t23 := Tryd.underlying99
 a23 := Tryd.isAgg99
 z23 := Tryd.sizeOf99
 v23 := Tryd.zeroValue99
 i23 := by kernel_rfl }
open Go.RowKit Go.Lib in
theorem Tryd.strings_ContainsFunc_grows (g : Nat) (lb : Array Value) (eg : ∀ args w, (callFunc g args).run Tryd.prog w = .ok (.enter g args) w) (p : Nat → Bool) (s : ByteArray) (w : World) (hp : PredGrows Tryd.prog g lb p w) :
  Calls Tryd.prog 104 #[.string s, .func (.func g) #[] lb] w fun e w' => e = .returned (.bool (decide (0 ≤ Lib.idxFunc p true s))) ∧ Below w.heap.size w w' := Any.strings_ContainsFunc_grows Tryd.laysGw17 g lb eg p s w hp
def Tryd.lays151_ren : Go.Shelf.Ren := ⟨fun | 151 => 106 | 152 => 116 | 137 => 126 | 119 => 127 | 224 => 128 | 225 => 129 | 217 => 137 | 266 => 143 | n => n, fun | 9 => 9 | 21 => 21 | 4 => 4 | 3 => 3 | 5 => 5 | 0 => 0 | 46 => 97 | n => n, fun | n => n⟩
theorem Tryd.lays151 : Go.Proofs.Lays.n151 Tryd.prog Tryd.lays151_ren := {
 mixed := by kernel_rfl
 f119 := Tryd.func127.trans (congrArg some Z7)
 f137 := Tryd.func126.trans (congrArg some Z7)
 f151 := Tryd.func106.trans (congrArg some Z7)
 f152 := Tryd.func116.trans (congrArg some Z7)
 f217 := Tryd.func137.trans (congrArg some Z7)
 f224 := Tryd.func128.trans (congrArg some Z7)
 f225 := Tryd.func129.trans (congrArg some Z7)
 f266 := Tryd.func143.trans (congrArg some Z7)
 t0 := Tryd.underlying0
 a0 := Tryd.isAgg0
 z0 := Tryd.sizeOf0
 v0 := Tryd.zeroValue0
 t3 := Tryd.underlying3
 a3 := Tryd.isAgg3
 z3 := Tryd.sizeOf3
 v3 := Tryd.zeroValue3
 t4 := Tryd.underlying4
 a4 := Tryd.isAgg4
 z4 := Tryd.sizeOf4
 v4 := Tryd.zeroValue4
 t5 := Tryd.underlying5
 a5 := Tryd.isAgg5
 z5 := Tryd.sizeOf5
 v5 := Tryd.zeroValue5
 t9 := Tryd.underlying9
 a9 := Tryd.isAgg9
 z9 := Tryd.sizeOf9
 v9 := Tryd.zeroValue9
 t21 := Tryd.underlying21
 a21 := Tryd.isAgg21
 z21 := Tryd.sizeOf21
 v21 := Tryd.zeroValue21
 t46 := Tryd.underlying97
 a46 := Tryd.isAgg97
 z46 := Tryd.sizeOf97
 v46 := Tryd.zeroValue97 }
open Go.RowKit Go.Lib in
theorem Tryd.strings_ContainsRune_ascii (s : ByteArray) (r : Int) (w : World) (h0 : 0 ≤ r) (h1 : r < 128) :
  Calls Tryd.prog 106 #[.string s, .int .i32 r] w fun e w' => e = .returned (.bool (decide (0 ≤ Lib.indexByte s.data.toList r.toNat.toUInt8))) ∧ w' = w := Any.strings_ContainsRune_ascii Tryd.lays151 s r w h0 h1
def Tryd.lays146_ren : Go.Shelf.Ren := ⟨fun | 146 => 75 | 221 => 107 | 268 => 117 | 138 => 118 | 143 => 119 | 195 => 130 | 197 => 131 | 218 => 132 | 219 => 133 | 260 => 138 | 217 => 137 | 225 => 129 | 224 => 128 | 267 => 139 | 266 => 143 | 314 => 144 | n => n, fun | 9 => 9 | 31 => 34 | 3 => 3 | 4 => 4 | 0 => 0 | 105 => 134 | 21 => 21 | 5 => 5 | 46 => 97 | 119 => 93 | 139 => 96 | 138 => 95 | 146 => 139 | 51 => 138 | n => n, fun | 1 => 2 | 3 => 0 | 4 => 1 | n => n⟩
theorem Tryd.lays146 : Go.Proofs.Lays.n146 Tryd.prog Tryd.lays146_ren := {
 mixed := by kernel_rfl
 f138 := Tryd.func118.trans (congrArg some Z7)
 f143 := Tryd.func119.trans (congrArg some Z7)
 f146 := Tryd.func75.trans (congrArg some Z7)
 f195 := Tryd.func130.trans (congrArg some Z7)
 f197 := Tryd.func131.trans (congrArg some Z7)
 f217 := Tryd.func137.trans (congrArg some Z7)
 f218 := Tryd.func132.trans (congrArg some Z7)
 f219 := Tryd.func133.trans (congrArg some Z7)
 f221 := Tryd.func107.trans (congrArg some Z7)
 f224 := Tryd.func128.trans (congrArg some Z7)
 f225 := Tryd.func129.trans (congrArg some Z7)
 f260 := Tryd.func138.trans (congrArg some Z7)
 f266 := Tryd.func143.trans (congrArg some Z7)
 f267 := Tryd.func139.trans (congrArg some Z7)
 f268 := Tryd.func117.trans (congrArg some Z7)
 f314 := Tryd.func144.trans (congrArg some Z7)
 t0 := Tryd.underlying0
 a0 := Tryd.isAgg0
 z0 := Tryd.sizeOf0
 v0 := Tryd.zeroValue0
 t3 := Tryd.underlying3
 a3 := Tryd.isAgg3
 z3 := Tryd.sizeOf3
 v3 := Tryd.zeroValue3
 t4 := Tryd.underlying4
 a4 := Tryd.isAgg4
 z4 := Tryd.sizeOf4
 v4 := Tryd.zeroValue4
 t5 := Tryd.underlying5
 a5 := Tryd.isAgg5
 z5 := Tryd.sizeOf5
 v5 := Tryd.zeroValue5
 t9 := Tryd.underlying9
 a9 := Tryd.isAgg9
 z9 := Tryd.sizeOf9
 v9 := Tryd.zeroValue9
 t21 := Tryd.underlying21
 a21 := Tryd.isAgg21
 z21 := Tryd.sizeOf21
 v21 := Tryd.zeroValue21
 t31 := Tryd.underlying34
 a31 := Tryd.isAgg34
 z31 := Tryd.sizeOf34
 v31 := Tryd.zeroValue34
 t46 := Tryd.underlying97
 a46 := Tryd.isAgg97
 z46 := Tryd.sizeOf97
 v46 := Tryd.zeroValue97
 t51 := Tryd.underlying138
 a51 := Tryd.isAgg138
 z51 := Tryd.sizeOf138
 v51 := Tryd.zeroValue138
 t105 := Tryd.underlying134
 a105 := Tryd.isAgg134
 z105 := Tryd.sizeOf134
 v105 := Tryd.zeroValue134
 t119 := Tryd.underlying93
 a119 := Tryd.isAgg93
 z119 := Tryd.sizeOf93
 t138 := Tryd.underlying95
 a138 := Tryd.isAgg95
 z138 := Tryd.sizeOf95
 v138 := Tryd.zeroValue95
 t139 := Tryd.underlying96
 a139 := Tryd.isAgg96
 z139 := Tryd.sizeOf96
 v139 := Tryd.zeroValue96
 t146 := Tryd.underlying139
 a146 := Tryd.isAgg139
 z146 := Tryd.sizeOf139
 v146 := Tryd.zeroValue139
 g1 := by kernel_rfl
 g3 := by kernel_rfl
 g4 := by kernel_rfl }
open Go.RowKit Go.Lib in
theorem Tryd.strings_Split (s sep : ByteArray) (m : Int) (w : World) (hs : s.size < 4294967281) (hm : w.cell? ⟨2, 0, none⟩ = some (.int .i64 m)) (h1 : 1 ≤ sep.size) :
  Calls Tryd.prog 75 #[.string s, .string sep] w fun e w' =>
   e = .returned (.slice (some ⟨w.heap.size, 0, none⟩) (Lib.countB s sep + 1) (Lib.countB s sep + 1)) ∧ w' = w.alloc (.cells ((Lib.splitB sep 0 (Lib.countB s sep) s).map Value.string).toArray 9) := Any.strings_Split Tryd.lays146 Z7 s sep m w hs hm h1
def Tryd.lays169_ren : Go.Shelf.Ren := ⟨fun | 169 => 81 | n => n, fun | 70 => 101 | 9 => 9 | 0 => 0 | 72 => 103 | 37 => 22 | 127 => 120 | 3 => 3 | 5 => 5 | n => n, fun | n => n⟩
theorem Tryd.lays169 : Go.Proofs.Lays.n169 Tryd.prog Tryd.lays169_ren := {
 mixed := by kernel_rfl
 f169 := Tryd.func81.trans (congrArg some Z7)
 t0 := Tryd.underlying0
 a0 := Tryd.isAgg0
 z0 := Tryd.sizeOf0
 v0 := Tryd.zeroValue0
 t3 := Tryd.underlying3
 a3 := Tryd.isAgg3
 z3 := Tryd.sizeOf3
 v3 := Tryd.zeroValue3
 t9 := Tryd.underlying9
 a9 := Tryd.isAgg9
 z9 := Tryd.sizeOf9
 v9 := Tryd.zeroValue9
 t37 := Tryd.underlying22
 a37 := Tryd.isAgg22
 z37 := Tryd.sizeOf22
 v37 := Tryd.zeroValue22
 t70 := Tryd.underlying101
 a70 := Tryd.isAgg101
 z70 := Tryd.sizeOf101
 v70 := Tryd.zeroValue101
 t72 := Tryd.underlying103
 a72 := Tryd.isAgg103
 z72 := Tryd.sizeOf103
 v72 := Tryd.zeroValue103
 t127 := Tryd.underlying120
 a127 := Tryd.isAgg120
 z127 := Tryd.sizeOf120
 v127 := Tryd.zeroValue120 }
theorem Tryd.Builder_Extra_169 : Builder.Extra Tryd.prog Tryd.lays169_ren := {
 sizeBuilder := by kernel_rfl
 liesBuilder := by kernel_rfl
 t5 := Tryd.underlying5
 a5 := Tryd.isAgg5
 z5 := Tryd.sizeOf5
 v5 := Tryd.zeroValue5
 infoByte := by kernel_rfl
 cellsByte := by kernel_rfl
 sizeByte := by kernel_rfl
 neB5 := by decide }
open Go.RowKit in
theorem Tryd.Builder_String_any (B b : Nat) (l : List UInt8) (w : World) (h : Lib.IsBuilder 103 5 B b (Lib.byteCells l) w) (hBw : B ≤ w.heap.size) :
  Calls Tryd.prog 81 #[.pointer (some ⟨b, 0, none⟩)] w fun e w' => e = .returned (.string ⟨l.toArray⟩) ∧ Below B w w' := Any.Builder_String_any Tryd.lays169 Tryd.Builder_Extra_169 B b l w h hBw
end Go.Proofs
end
section
namespace Go.Proofs.YtbpbfboaofkpaaaDoor.Print
open Go.RowKit
structure Tabs (w : World) : Prop where
 u8 : Lib.Utf8Tabs 0 1 w
 ml : ∃ m : Int, w.cell? ⟨2, 0, none⟩ = some (.int .i64 m)
theorem Y1n {w w' : World} (h : Tabs w) (hb : Below w.heap.size w w') : Tabs w' := by
 refine ⟨Utf8Tabs_below h.u8 hb, ?_⟩
 obtain ⟨m, hm⟩ := h.ml
 exact ⟨m, (hb.cell (World.block_lt_of_cell? w _ hm)).trans hm⟩
theorem Y43 {w : World} (h : Tabs w) (o : Obj) : Tabs (w.alloc o) := Y1n h ((Below.refl _ _).alloc (Nat.le_refl _) o)
theorem Y16 {B : Nat} {w W : World} (h : Below B w W) (n : Nat) : Below B w (W.drewN n) := ⟨h.os, h.tape, h.output, h.size, h.block⟩
theorem Y44 {w : World} (h : Tabs w) (n : Nat) : Tabs (w.drewN n) := Y1n h (Y16 (Below.refl _ _) n)
theorem Y4t {w : World} (h : Tabs w) : Tabs w.drew := Y1n h ((Below.refl _ _).drew)
end Go.Proofs.YtbpbfboaofkpaaaDoor.Print
end
section
set_option linter.unusedVariables false
namespace Go.Proofs.YtbpbfboaofkpaaaDoor
open Go.ChangeShapes Go.WideShapes Go.ChangeAt Go.RowKit Go.Shelf
theorem own : ownKnob Tryd.prog.godebug = none := by kernel_rfl
def laid2 : List (String × DataW Unit) := [("unicode/utf8.acceptRanges", Rows.laid_unicode_utf8_acceptRanges), ("unicode/utf8.first", Rows.laid_unicode_utf8_first)]
theorem extraU8 : U8Extra Tryd.prog Tryd.lays196_ren := ⟨Z7, Z7, Z7, Z7, Z7, Z7, Z7⟩
theorem accept_is : (Rows.laid_unicode_utf8_acceptRanges : DataW Unit) = Lib.acceptData := by kernel_rfl
theorem first_is : Rows.laid_unicode_utf8_first = Lib.firstData := by kernel_rfl
theorem Y41 {W : World} (h : laidMetH Tryd.prog laid2 W) (hs : W.ShapedOpen Tryd.prog) : Print.Tabs W := by
 rw [MakeChecks.laidMetH_plain _ _ _ Z7] at h
 refine ⟨utf8Tabs_of_readsT (U8Types.of196 Tryd.lays196) extraU8 (Lib.laidMet.reads h ?_) (Lib.laidMet.reads h ?_), ?_⟩
 ·rw [← first_is]; exact List.mem_cons_of_mem _ (List.mem_cons_self ..)
 ·rw [← accept_is]; exact List.mem_cons_self ..
 ·exact cell_of_shapedOpen_int (zero := #[.int .i64 0]) (t := 3) hs (of_decide_eq_true Z7) Z7 rfl Z7 Z7 Tryd.underlying3
def Y4n (cs : List Value) : Obj → Obj
 | .cells _ t frozen => .cells cs.toArray t frozen
 | o => o
noncomputable def Y3P (os : Os) : World :=
 { World.holding Tryd.prog os ⟨#[], #[], []⟩ with heap := ((World.holding Tryd.prog os ⟨#[], #[], []⟩).heap.modify 0 (Y4n (Lib.firstTab.map fun z => Value.int .u8 z))).modify 1 (Y4n ((List.range 16).flatMap fun i => [Value.int .u8 (Lib.accLo i : Int), Value.int .u8 (Lib.accHi i : Int)])) }
theorem Y3y (os : Os) (args : Array Value) : laidMetH Tryd.prog laid2 ((Y3P os).forCall (fun _ _ => 0) ⟨#[], args, []⟩).memory := by
 rw [MakeChecks.laidMetH_plain _ _ _ Z7]
 exact laidMet_of_run' 8 Z7 Z7
theorem Y3Z {a : Assume} {C : Checked} {os : Os} {f : FuncId} {fn : Func} {s : ChangeSpec} {conds : List PathCond} {apart fresh handsOn again : Bool} {H : Type} {enc : TypeId × Value → H} {X : World → Array Value → Prop}
  (hX : ∀ (w w' : World) (args : Array Value), w.heap = w'.heap → X w args → X w' args)
  (own : ownKnob C.prog.godebug = none) (started : os.Started) (noInit : C.prog.inits.idxOf? f = none) (hfn : C.prog.funcs[f]? = some fn)
  (witness : ∃ (w : World) (tape : Tape) (i : Input), w.os = os ∧ (w.forCall tape i).Shaped C.prog ∧ i.vars = [] ∧ Input.okWide C.prog (w.forCall tape i) .any w.heap.size f i ∧
   ((s.pre enc C.prog fn conds apart (w.forCall tape i).memory i.args ∧ X (w.forCall tape i).memory i.args) ∧ sizedMet enc C.prog fn (OpenSpec.ofChange s) apart (w.forCall tape i).memory i.args) ∧ a.holds C.prog (lone (Frame.enter C.prog f i.args .normal) [] (w.forCall tape i)))
  (contract : ∀ (W : World) (base : Nat) (args : Array Value) (ds gs : List (DataW H)) (before : List MemPlace),
   (∀ (j : Nat) t v, fn.params[j]? = some t → args[j]? = some v → Value.okWide C.prog W .any base t v) →
   DataW.Whole enc C.prog fn.params.toList s.vars apart W args.toList ds gs before →
   X W args → W.ShapedOpen C.prog →
   Calls C.prog f args W fun e W' => ∃ v, e = .returned v ∧ s.post enc C.prog fn apart fresh handsOn again W args v W') :
  ReturnsInHanded a C os f .any (fun w args => (s.pre enc C.prog fn conds apart w args ∧ X w args) ∧ sizedMet enc C.prog fn (OpenSpec.ofChange s) apart w args) (s.post enc C.prog fn apart fresh handsOn again) := by
 refine returnsInHanded_of_calls own started noInit witness ?_
 intro w tape i _ hsh _ hok hpre _
 obtain ⟨_, _, _, fn', hfn', _, _, _, _, hval⟩ := hok
 obtain rfl : fn' = fn := Option.some.inj (hfn'.symm.trans hfn)
 obtain ⟨⟨⟨ds, gs, before, hw, _⟩, hx⟩, _⟩ := hpre
 refine (contract (w.forCall tape i) w.heap.size i.args ds gs before hval (DataW.Whole.of_heap (w' := w.forCall tape i) (by rfl) hw) (hX _ _ _ (by rfl) hx) hsh).mono fun e W' ⟨v, he, hp⟩ => ?_
 subst he
 exact ChangeSpec.post_blind hp
end Go.Proofs.YtbpbfboaofkpaaaDoor
end
section
set_option linter.unusedVariables false
set_option linter.unusedSimpArgs false
namespace Go.Proofs.YtbpbfboaofkpaaaDoorW.PrintWords
open Go.RowKit
structure Y0 (p : Prop) : Prop where mk :: (out : p)
structure YO (w w' : World) : Prop where mk :: (out : ∃ n, w' = w.drewN n)
theorem YO.refl (w : World) : YO w w := ⟨⟨0, rfl⟩⟩
theorem YO.step {w w' : World} (h : YO w w') (n : Nat) : YO w (w'.drewN n) := by
 obtain ⟨m, rfl⟩ := h
 exact ⟨⟨m + n, World.drewN_drewN ..⟩⟩
theorem YO.grown {w w' : World} (h : YO w w') : Grown w w' := by
 obtain ⟨n, rfl⟩ := h
 induction n with
 | zero => exact Grown.refl _
 | succ n ih => rw [← World.drew_drewN]; exact Grown.drew ih
theorem YO.below {w w' : World} (h : YO w w') : Below w.heap.size w w' := by
 obtain ⟨n, rfl⟩ := h
 induction n with
 | zero => exact Below.refl _ _
 | succ n ih => rw [← World.drew_drewN]; exact ih.drew
def rd (xs : List Int) (i : Int) : Int := xs.getD i.toNat 0
def bt (s : ByteArray) (i : Int) : Int := if h : i.toNat < s.size then ((s[i.toNat]'h).toNat : Int) else 0
theorem YV (s : ByteArray) (i : Int) : ∀ h : i.toNat < s.size, ((s[i.toNat]'h).toNat : Int) = bt s i := fun h => by simp [bt, h]
def nums (k : IntKind) (xs : List Int) : List Value := xs.map fun x => .int k x
theorem YW {w W : World} (h : Below w.heap.size w W) (o : Obj) : Below w.heap.size w (W.alloc o) := h.alloc h.size o
theorem Y37 {B : Nat} {w W : World} (h : Below B w W) : Below B w W.drew := ⟨h.os, h.tape, h.output, h.size, h.block⟩
theorem Y1M {B : Nat} {w W : World} (h : Below B w W) (n : Nat) : Below B w (W.drewN n) := ⟨h.os, h.tape, h.output, h.size, h.block⟩
theorem Y4u {B : Nat} {w w1 w2 : World} (h : Below B w w1) (hB : B ≤ w1.heap.size) (k : Below w1.heap.size w1 w2) : Below B w w2 :=
 h.trans ⟨k.os, k.tape, k.output, k.size, fun i hi => k.block i (Nat.lt_of_lt_of_le hi hB)⟩
theorem Y1v {w w1 : World} (h : Below w.heap.size w w1) (row : Option Nat) : w.grownBy w1 row := ⟨h.os, h.tape, h.output, h.size, fun i hi _ => h.block i hi⟩
theorem Y1T {w w1 : World} (h : Below w.heap.size w w1) {a : Addr} {v : Value} (hc : w.cell? a = some v) : w1.cell? a = some v := (h.cell (World.block_lt_of_cell? w a hc)).trans hc
def YT (w : World) (k : IntKind) (A : Option Addr) (n : Nat) (xs : List Int) : Prop :=
 xs.length = n ∧ n ≤ 9223372036854775807 ∧ (0 < n → ∃ ad, A = some ad ∧ ∀ j, j < n → w.cell? (ad.add j) = some (.int k (xs.getD j 0)))
theorem YT.at_ {w : World} {k : IntKind} {A : Option Addr} {n : Nat} {xs : List Int} (h : YT w k A n xs) (i : Int) (h0 : 0 ≤ i) (h1 : i < n) : ∃ ad, A = some ad ∧ w.cell? (ad.add i.toNat) = some (.int k (rd xs i)) := by
 obtain ⟨ad, e, hc⟩ := h.2.2 (by omega)
 exact ⟨ad, e, hc _ (by omega)⟩
theorem YT.below {w w1 : World} {k : IntKind} {A : Option Addr} {n : Nat} {xs : List Int} (h : YT w k A n xs) (hb : Below w.heap.size w w1) : YT w1 k A n xs :=
 ⟨h.1, h.2.1, fun hn => by
  obtain ⟨ad, e, hc⟩ := h.2.2 hn
  exact ⟨ad, e, fun j hj => Y1T hb (hc j hj)⟩⟩
theorem own_base {w : World} {base : Nat} {e : TypeId} {size n : Nat} {v : Value} {xs : List Value} (h : w.ownsRow base e size v n xs) (k : Nat) (hk : v.ownBlock = some k) : base ≤ k := by
 rcases h.2 with ⟨rfl, _⟩ | ⟨g, cap, cur, rfl, hb, _⟩
 ·simp [Value.ownBlock] at hk
 ·have : g = k := by simpa [Value.ownBlock] using hk
  omega
theorem own_lt {w : World} {base : Nat} {e : TypeId} {size n : Nat} {v : Value} {xs : List Value} (h : w.ownsRow base e size v n xs) (k : Nat) (hk : v.ownBlock = some k) : k < w.heap.size := by
 rcases h.2 with ⟨rfl, _⟩ | ⟨g, cap, cur, rfl, hb, hh, _⟩
 ·simp [Value.ownBlock] at hk
 ·have : g = k := by simpa [Value.ownBlock] using hk
  subst this
  exact (Array.getElem?_eq_some_iff.1 hh).1
theorem Y3U {w w1 : World} {base : Nat} {e : TypeId} {size n : Nat} {v : Value} {xs : List Value} (h : w.ownsRow base e size v n xs) (hb : Below w.heap.size w w1) : w1.ownsRow base e size v n xs :=
 h.kept (Y1v hb none) (by cases v.ownBlock <;> simp)
theorem own_other {w w1 : World} {base : Nat} {e : TypeId} {size n : Nat} {v : Value} {xs : List Value} (h : w.ownsRow base e size v n xs) {row : Option Nat} (hg : w.grownBy w1 row) (hne : v.ownBlock = none ∨ v.ownBlock ≠ row) : w1.ownsRow base e size v n xs := h.kept hg hne
theorem own_store {W : World} {base g n cap : Nat} {e : TypeId} {k : IntKind} {xs : List Int} (h : W.ownsRow base e 1 (.slice (some ⟨g, 0, none⟩) n cap) n (nums k xs)) (i x : Int) :
  (W.setCell ⟨g, i.toNat, none⟩ (.int k x)).ownsRow base e 1 (.slice (some ⟨g, 0, none⟩) n cap) n (nums k (xs.set i.toNat x)) ∧ W.grownBy (W.setCell ⟨g, i.toNat, none⟩ (.int k x)) (some g) := by
 have hs := h.stored i.toNat (.int k x)
 have he : (nums k xs).set i.toNat (.int k x) = nums k (xs.set i.toNat x) := by simp [nums, List.map_set]
 rwa [he] at hs
theorem YT.Y29 {w : World} {k : IntKind} {A : Option Addr} {n : Nat} {xs : List Int} (h : YT w k A n xs) (i : Nat) (hi : i ≤ n) : YT w k A i (xs.take i) := by
 refine ⟨by rw [List.length_take, h.1]; omega, by have := h.2.1; omega, fun hp => ?_⟩
 obtain ⟨ad, e, hc⟩ := h.2.2 (by omega)
 refine ⟨ad, e, fun j hj => ?_⟩
 rw [hc j (by omega)]
 simp [List.getD_eq_getElem?_getD, hj]
def LeO {α : Type} (a b : Option α) : Prop := ∀ r, a = some r → b = some r
theorem LeO.refl {α : Type} (a : Option α) : LeO a a := fun _ h => h
theorem LeO.none {α : Type} (b : Option α) : LeO Option.none b := fun _ h => by cases h
theorem LeO.trans {α : Type} {a b c : Option α} (h : LeO a b) (k : LeO b c) : LeO a c := fun r hr => k r (h r hr)
theorem LeO.ite {α : Type} {c : Prop} [Decidable c] {a a' b b' : Option α} (h : LeO a a') (k : LeO b b') : LeO (if c then a else b) (if c then a' else b') := by
 split
 ·exact h
 ·exact k
theorem LeO.bind {α β : Type} {a a' : Option α} {f f' : α → Option β} (h : LeO a a') (k : ∀ x, LeO (f x) (f' x)) : LeO (a.bind f) (a'.bind f') := by
 intro r hr
 obtain ⟨x, hx, hf⟩ := Option.bind_eq_some_iff.1 hr
 exact Option.bind_eq_some_iff.2 ⟨x, h x hx, k x r hf⟩
theorem LeO.map {α β : Type} {a a' : Option α} (f : α → β) (h : LeO a a') : LeO (a.map f) (a'.map f) := by
 intro r hr
 obtain ⟨x, hx, hf⟩ := Option.map_eq_some_iff.1 hr
 exact Option.map_eq_some_iff.2 ⟨x, h x hx, hf⟩
theorem Y2P {α : Type} {g : Nat → Option α} (h : ∀ k, LeO (g k) (g (k + 1))) (k : Nat) : ∀ j, LeO (g k) (g (k + j))
 | 0 => LeO.refl _
 | j + 1 => (Y2P h k j).trans (h (k + j))
theorem Y3J {α : Type} {g : Nat → Option α} (h : ∀ k, LeO (g k) (g (k + 1))) {k k' : Nat} (hk : k ≤ k') {r : α} (hr : g k = some r) : g k' = some r := by
 have := Y2P h k (k' - k) r hr
 rwa [Nat.add_sub_cancel' hk] at this
def Y1m {α : Type} (R : α → List Value → Prop) (size : Nat) (ps : List α) (cs : List Value) : Prop :=
 cs.length = ps.length * size ∧ ∀ j p, ps[j]? = some p → R p ((cs.drop (j * size)).take size)
theorem Y1m.none {α : Type} (R : α → List Value → Prop) (size : Nat) : Y1m R size [] [] := ⟨by simp, fun j p h => by simp at h⟩
theorem Y1m.imp_ {α : Type} {R R' : α → List Value → Prop} {size : Nat} {ps : List α} {cs : List Value} (h : Y1m R size ps cs) (hR : ∀ p c, R p c → R' p c) : Y1m R' size ps cs := ⟨h.1, fun j p hj => hR _ _ (h.2 j p hj)⟩
def Y1t {α : Type} (R : α → List Value → Prop) (size : Nat) (w : World) (A : Option Addr) (n : Nat) (ps : List α) : Prop :=
 ps.length = n ∧ n ≤ 9223372036854775807 ∧ (0 < n → ∃ ad, A = some ad ∧ ∀ j p, ps[j]? = some p → ∃ c, c.length = size ∧ R p c ∧ ∀ i u, c[i]? = some u → w.cell? (ad.add (j * size + i)) = some u)
theorem Y1t.get_ {α : Type} {R : α → List Value → Prop} {size : Nat} {w : World} {A : Option Addr} {n : Nat} {ps : List α} (h : Y1t R size w A n ps) (d : α) (i : Int) (h0 : 0 ≤ i) (h1 : i < n) :
  ∃ ad c, A = some ad ∧ c.length = size ∧ R (ps.getD i.toNat d) c ∧ ∀ j u, c[j]? = some u → w.cell? (ad.add (i.toNat * size + j)) = some u := by
 obtain ⟨ad, e, hc⟩ := h.2.2 (by omega)
 have hl : i.toNat < ps.length := by have := h.1; omega
 obtain ⟨c, hs, hr, hcell⟩ := hc i.toNat _ (List.getElem?_eq_getElem hl)
 refine ⟨ad, c, e, hs, ?_, hcell⟩
 rw [List.getD_eq_getElem?_getD, List.getElem?_eq_getElem hl]
 exact hr
theorem Y1t.imp_ {α : Type} {R R' : α → List Value → Prop} {size : Nat} {w w1 : World} {A : Option Addr} {n : Nat} {ps : List α} (h : Y1t R size w A n ps) (hb : Below w.heap.size w w1) (hR : ∀ p c, R p c → R' p c) : Y1t R' size w1 A n ps :=
 ⟨h.1, h.2.1, fun hn => by
  obtain ⟨ad, e, hc⟩ := h.2.2 hn
  refine ⟨ad, e, fun j p hj => ?_⟩
  obtain ⟨c, hs, hr, hcell⟩ := hc j p hj
  exact ⟨c, hs, hR _ _ hr, fun i u hu => Y1T hb (hcell i u hu)⟩⟩
theorem Y3z {α : Type} {R : α → List Value → Prop} {w : World} {base n size : Nat} {e : TypeId} {v : Value} {ps : List α} {cs : List Value} (h : w.ownsRow base e size v n cs) (hR : Y1m R size ps cs) (hn : ps.length = n) :
  ∃ A c, v = .slice A n c ∧ Y1t R size w A n ps := by
 rcases Nat.eq_zero_or_pos n with h0 | h0
 ·rcases h.2 with ⟨rfl, rfl⟩ | ⟨g, cap, cur, rfl, _⟩
  ·exact ⟨none, 0, rfl, hn, by omega, fun hp => absurd hp (by omega)⟩
  ·exact ⟨_, cap, rfl, hn, by omega, fun hp => absurd hp (by omega)⟩
 ·obtain ⟨g, cap, rfl, _, _⟩ := h.form h0
  have hm : n ≤ 9223372036854775807 := by
   rcases h.2 with ⟨_, h1⟩ | ⟨g', cap', cur, he, _, _, h1, h2, _⟩
   ·omega
   ·simp only [maxLen] at h2
    omega
  refine ⟨_, cap, rfl, hn, hm, fun _ => ⟨_, rfl, fun j p hj => ⟨(cs.drop (j * size)).take size, ?_, hR.2 j p hj, fun i u hu => ?_⟩⟩⟩
  ·have hjl := (List.getElem?_eq_some_iff.1 hj).1
   have h1 : j * size + size ≤ cs.length := by rw [hR.1, ← Nat.succ_mul]; exact Nat.mul_le_mul_right _ hjl
   rw [List.length_take, List.length_drop]
   omega
  ·refine h.cells (g := g) rfl _ u ?_
   rw [List.getElem?_take] at hu
   split at hu
   ·rw [List.getElem?_drop] at hu
    exact hu
   ·cases hu
theorem Y3G (ad : Addr) (m j : Nat) (hj : 0 < j) : ad.add (m + j) = ⟨(ad.add m).block, (ad.add m).off + j, none⟩ := by
 unfold Addr.add
 by_cases hm : m = 0
 ·subst hm
  simp [Nat.ne_of_gt hj]
 ·simp [hm, Nat.add_assoc]
theorem Y3h {w : World} {base : Nat} {e t : TypeId} {size n g : Nat} {v : Value} {xs : List Value} {cs : Array Value} (h : w.ownsRow base e size v n xs) (hg : w.heap[g]? = some (.cells cs t (0, 0))) (hne : e ≠ t) : some g ≠ v.ownBlock := by
 rcases h.2 with ⟨rfl, _⟩ | ⟨g', cap, cur, rfl, _, hh, _⟩
 ·simp [Value.ownBlock]
 ·intro he
  have : g = g' := by simpa [Value.ownBlock] using he
  subst this
  rw [hg] at hh
  injection hh with hh
  injection hh with _ ht
  exact hne ht.symm
theorem Y4d {w : World} {base : Nat} {e : TypeId} {size n : Nat} {v : Value} {xs : List Value} (h : w.ownsRow base e size v n xs) {p : Addr} (hne : some p.block ≠ v.ownBlock) (u : Value) : (w.setCell p u).ownsRow base e size v n xs := by
 obtain ⟨h1, h2⟩ := h
 refine ⟨h1, ?_⟩
 rcases h2 with h2 | ⟨g, cap, cur, rfl, hg, hh, r⟩
 ·exact .inl h2
 ·exact .inr ⟨g, cap, cur, rfl, hg, by rw [Below.heap_setCell _ _ _ _ (fun e => hne (by rw [e]; rfl))]; exact hh, r⟩
theorem Y2L {w : World} {g : Nat} {t : TypeId} {cs : Array Value} (h : w.heap[g]? = some (.cells cs t (0, 0))) (i : Nat) (u : Value) : (w.setCell ⟨g, i, none⟩ u).heap[g]? = some (.cells (cs.setIfInBounds i u) t (0, 0)) := by
 simp [World.setCell, Array.getElem?_modify, h]
theorem YQ {w : World} {g : Nat} {t : TypeId} {cs : Array Value} (h : w.heap[g]? = some (.cells cs t (0, 0))) {p : Addr} (hp : g ≠ p.block) (u : Value) : (w.setCell p u).heap[g]? = some (.cells cs t (0, 0)) := (Below.heap_setCell w p u g hp).trans h
theorem Yy {w : World} {g : Nat} {o : Obj} (h : w.heap[g]? = some o) : g < w.heap.size := (Array.getElem?_eq_some_iff.1 h).1
theorem Y1 {w : World} {g : Nat} {t : TypeId} {cs : Array Value} (h : w.heap[g]? = some (.cells cs t (0, 0))) (i : Nat) : w.cell? ⟨g, i, none⟩ = cs[i]? := cell_of_row w g i cs t (0, 0) h
theorem Yv {w : World} {g : Nat} {t : TypeId} {cs : Array Value} (h : w.heap[g]? = some (.cells cs t (0, 0))) (i : Nat) : w.frozen? ⟨g, i, none⟩ = false := by simp [World.frozen?, h]
theorem Y2K {w w1 : World} {g : Nat} {o : Obj} {row : Option Nat} (h : w.heap[g]? = some o) (hg : w.grownBy w1 row) (hne : some g ≠ row) : w1.heap[g]? = some o := (hg.block g (Yy h) hne).trans h
def Yb (w w' : World) (g : Nat) (row : Option Nat) : Prop := w.heap.size ≤ w'.heap.size ∧ ∀ i, i < w.heap.size → i ≠ g → some i ≠ row → w'.heap[i]? = w.heap[i]?
theorem keep_w {w0 w1 w : World} {g : Nat} {r : Option Nat} (_ : Yb w0 w1 g r) (k : Yb w0 w g r) : Yb w0 w g r := k
theorem Yb.refl (w : World) (g : Nat) (row : Option Nat) : Yb w w g row := ⟨Nat.le_refl _, fun _ _ _ _ => rfl⟩
theorem Yb.of_grown {w w1 : World} {row : Option Nat} (h : w.grownBy w1 row) (g : Nat) : Yb w w1 g row := ⟨h.size, fun i hi _ hr => h.block i hi hr⟩
theorem Yb.of_below {w w1 : World} (h : Below w.heap.size w w1) (g : Nat) (row : Option Nat) : Yb w w1 g row := ⟨h.size, fun i hi _ _ => h.block i hi⟩
theorem Yb.set_ {w w1 : World} {g : Nat} {row : Option Nat} (h : Yb w w1 g row) (j : Nat) (u : Value) : Yb w (w1.setCell ⟨g, j, none⟩ u) g row :=
 ⟨by simpa [World.setCell] using h.1, fun i hi hg hr => (Below.heap_setCell w1 ⟨g, j, none⟩ u i hg).trans (h.2 i hi hg hr)⟩
theorem Yb.trans {w w1 w2 : World} {g : Nat} {row row1 : Option Nat} (h : Yb w w1 g row) (k : Yb w1 w2 g row1) (hr : row1 = row ∨ ∃ b, row1 = some b ∧ w.heap.size ≤ b) : Yb w w2 g row :=
 ⟨Nat.le_trans h.1 k.1, fun i hi hg hn => by
  refine (k.2 i (Nat.lt_of_lt_of_le hi h.1) hg ?_).trans (h.2 i hi hg hn)
  rcases hr with rfl | ⟨b, rfl, hb⟩
  ·exact hn
  ·intro e
   injection e with e
   omega⟩
theorem Yb.blk {w w1 : World} {g g' : Nat} {row : Option Nat} {o : Obj} (h : Yb w w1 g row) (hb : w.heap[g']? = some o) (hg : g' ≠ g) (hr : some g' ≠ row) : w1.heap[g']? = some o := (h.2 g' (Yy hb) hg hr).trans hb
theorem Yb.own {w w1 : World} {g : Nat} {row : Option Nat} {base : Nat} {e : TypeId} {size n : Nat} {v : Value} {xs : List Value} (h : Yb w w1 g row) (ho : w.ownsRow base e size v n xs) (hg : v.ownBlock ≠ some g) (hr : v.ownBlock = none ∨ v.ownBlock ≠ row) : w1.ownsRow base e size v n xs := by
 obtain ⟨h1, h2⟩ := ho
 refine ⟨h1, ?_⟩
 rcases h2 with h2 | ⟨b, cap, cur, rfl, hb, hh, r⟩
 ·exact .inl h2
 ·refine .inr ⟨b, cap, cur, rfl, hb, h.blk hh ?_ ?_, r⟩
  ·intro e
   exact hg (by rw [← e]; rfl)
  ·rcases hr with hr | hr
   ·simp [Value.ownBlock] at hr
   ·exact hr
def Ev {α : Type} (g : Nat → Option α) (r : α) : Prop := ∃ K, ∀ k, K ≤ k → g k = some r
theorem Ev.of {α : Type} {g : Nat → Option α} {r : α} (hg : ∀ k, LeO (g k) (g (k + 1))) {k : Nat} (h : g k = some r) : Ev g r := ⟨k, fun _ hk => Y3J hg hk h⟩
theorem Ev.now {α : Type} (r : α) : Ev (fun _ => some r) r := ⟨0, fun _ _ => rfl⟩
theorem Ev.rounds {α : Type} {g : Nat → Option α} {r : α} (h : Ev g r) : ∃ k, g k = some r := by
 obtain ⟨K, h⟩ := h
 exact ⟨K, h K (Nat.le_refl _)⟩
theorem Ev.bind {α β : Type} {g : Nat → Option α} {f : Nat → α → Option β} {a : α} {r : β} (h : Ev g a) (k : Ev (fun n => f n a) r) : Ev (fun n => (g n).bind (f n)) r := by
 obtain ⟨K, h⟩ := h
 obtain ⟨K', k⟩ := k
 refine ⟨max K K', fun n hn => ?_⟩
 have h1 := h n (by omega)
 have h2 := k n (by omega)
 simp only [h1, Option.bind_some]
 exact h2
theorem Ev.step {α : Type} {g f : Nat → Option α} {r : α} (h : ∀ k, g (k + 1) = f k) (k : Ev f r) : Ev g r := by
 obtain ⟨K, k⟩ := k
 refine ⟨K + 1, fun n hn => ?_⟩
 obtain ⟨m, rfl⟩ : ∃ m, n = m + 1 := ⟨n - 1, by omega⟩
 rw [h]
 exact k m (by omega)
theorem Ev.congr {α : Type} {g f : Nat → Option α} {r : α} (h : ∀ k, g k = f k) (k : Ev f r) : Ev g r := by
 obtain ⟨K, k⟩ := k
 exact ⟨K, fun n hn => (h n).trans (k n hn)⟩
theorem Y4A {w : World} {base base' : Nat} {e : TypeId} {size n : Nat} {v : Value} {xs : List Value} (h : w.ownsRow base e size v n xs) (hb : base' ≤ base) : w.ownsRow base' e size v n xs := by
 obtain ⟨h1, h2⟩ := h
 refine ⟨h1, ?_⟩
 rcases h2 with h2 | ⟨g, cap, cur, rfl, hg, r⟩
 ·exact .inl h2
 ·exact .inr ⟨g, cap, cur, rfl, Nat.le_trans hb hg, r⟩
section
variable {α : Type} {enc : α → Value} {d : α}
def rdOf (d : α) (xs : List α) (i : Int) : α := xs.getD i.toNat d
def Y1d (enc : α → Value) (d : α) (w : World) (A : Option Addr) (n : Nat) (xs : List α) : Prop :=
 xs.length = n ∧ n ≤ 9223372036854775807 ∧ (0 < n → ∃ ad, A = some ad ∧ ∀ j, j < n → w.cell? (ad.add j) = some (enc (xs.getD j d)))
theorem Y1d.at_ {w : World} {A : Option Addr} {n : Nat} {xs : List α} (h : Y1d enc d w A n xs) (i : Int) (h0 : 0 ≤ i) (h1 : i < n) : ∃ ad, A = some ad ∧ w.cell? (ad.add i.toNat) = some (enc (rdOf d xs i)) := by
 obtain ⟨ad, e, hc⟩ := h.2.2 (by omega)
 exact ⟨ad, e, hc _ (by omega)⟩
theorem Y1d.below {w w1 : World} {A : Option Addr} {n : Nat} {xs : List α} (h : Y1d enc d w A n xs) (hb : Below w.heap.size w w1) : Y1d enc d w1 A n xs :=
 ⟨h.1, h.2.1, fun hn => by
  obtain ⟨ad, e, hc⟩ := h.2.2 hn
  exact ⟨ad, e, fun j hj => Y1T hb (hc j hj)⟩⟩
theorem Y1d.Y29 {w : World} {A : Option Addr} {n : Nat} {xs : List α} (h : Y1d enc d w A n xs) (i : Nat) (hi : i ≤ n) : Y1d enc d w A i (xs.take i) := by
 refine ⟨by rw [List.length_take, h.1]; omega, by have := h.2.1; omega, fun hp => ?_⟩
 obtain ⟨ad, e, hc⟩ := h.2.2 (by omega)
 refine ⟨ad, e, fun j hj => ?_⟩
 rw [hc j (by omega)]
 simp [List.getD_eq_getElem?_getD, hj]
end
end Go.Proofs.YtbpbfboaofkpaaaDoorW.PrintWords
end
section
set_option linter.unusedVariables false
set_option linter.unusedSimpArgs false
namespace Go.Proofs.YtbpbfboaofkpaaaDoorW.PrintWords
open Go.RowKit
theorem Yn {w : World} {g : Nat} {o : Obj} (h : w.heap[g]? = some o) (o' : Obj) : (w.alloc o').heap[g]? = some o := (Below.heap_alloc w o' g (Yy h)).trans h
theorem Yg {w : World} {g : Nat} {o : Obj} (h : w.heap[g]? = some o) : w.drew.heap[g]? = some o := h
theorem Yo {w : World} {g : Nat} {o : Obj} (h : w.heap[g]? = some o) (n : Nat) : (w.drewN n).heap[g]? = some o := h
theorem Y9 {w w1 : World} {g : Nat} {o : Obj} (h : w.heap[g]? = some o) (hb : Below w.heap.size w w1) : w1.heap[g]? = some o := (hb.block g (Yy h)).trans h
theorem blk_new (w : World) (o : Obj) : (w.alloc o).heap[w.heap.size]? = some o := heap_alloc_new w o
section
variable {P : Program}
theorem Y1Q {fn : Func} {p u : Tmp} {ty : TypeId} (h : fn.results = #[.cell p ty, .tmp u]) (tmps : Array Value) (w : World) (g : Nat) (t : TypeId) (cs : Array Value) (fr : Nat × Nat) (d : TypeDesc)
  (hp : tmps.getD p undef = .pointer (some ⟨g, 0, none⟩)) (hg : w.heap[g]? = some (.cells cs t fr))
  (hu : P.underlying ty = some d) (hd : (match d with | .struct _ | .array _ _ => true | _ => false) = true) (hi : (P.info? ty).map (·.size) = some cs.size) :
  (results fn tmps).run P w = .ok (.tuple #[.agg cs, tmps.getD u undef]) w := by
 have hp' : tmps[p]?.getD undef = .pointer (some ⟨g, 0, none⟩) := by simpa using hp
 simp [results, h, hp', asAddr, run_loadVar_row w g t ty cs fr d hg hu hd hi]
end
end Go.Proofs.YtbpbfboaofkpaaaDoorW.PrintWords
end
section
set_option linter.unusedVariables false
set_option linter.unusedSimpArgs false
namespace Go.Proofs.YtbpbfboaofkpaaaDoorW.PrintWords
open Go.RowKit
theorem own_le {w : World} {base n m c size : Nat} {e : TypeId} {A : Option Addr} {xs : List Value} (h : w.ownsRow base e size (.slice A m c) n xs) : m ≤ c := by
 rcases h.2 with ⟨he, _⟩ | ⟨g, cap, cur, he, _, _, hnc, _⟩
 ·injection he with _ h2 h3
  omega
 ·injection he with _ h2 h3
  omega
def Y11 {α : Type} (R : α → List Value → Prop) (e : TypeId) (size : Nat) (w : World) (base : Nat) (v : Value) (ps : List α) : Prop :=
 ∃ inner, w.ownsRow base e size v ps.length inner ∧ Y1m R size ps inner
section
variable {α : Type} {R R' : α → List Value → Prop} {e : TypeId} {size : Nat} {w w1 : World} {base : Nat} {v : Value} {ps : List α}
theorem Y11.imp_ (h : Y11 R e size w base v ps) (hR : ∀ p c, R p c → R' p c) : Y11 R' e size w base v ps := by
 obtain ⟨inner, ho, hr⟩ := h
 exact ⟨inner, ho, hr.imp_ hR⟩
theorem Y11.below (h : Y11 R e size w base v ps) (hb : Below w.heap.size w w1) : Y11 R e size w1 base v ps := by
 obtain ⟨inner, ho, hr⟩ := h
 exact ⟨inner, Y3U ho hb, hr⟩
theorem Y11.other (h : Y11 R e size w base v ps) {row : Option Nat} (hg : w.grownBy w1 row) (hne : v.ownBlock = none ∨ v.ownBlock ≠ row) : Y11 R e size w1 base v ps := by
 obtain ⟨inner, ho, hr⟩ := h
 exact ⟨inner, own_other ho hg hne, hr⟩
theorem Y11.set_ (h : Y11 R e size w base v ps) {g : Nat} {t : TypeId} {cells : Array Value} (hb : w.heap[g]? = some (.cells cells t (0, 0))) (ht : e ≠ t) (j : Nat) (u : Value) : Y11 R e size (w.setCell ⟨g, j, none⟩ u) base v ps := by
 obtain ⟨inner, ho, hr⟩ := h
 exact ⟨inner, Y4d ho (Y3h ho hb ht) u, hr⟩
theorem Y11.keep (h : Y11 R e size w base v ps) {g : Nat} {t : TypeId} {cells : Array Value} (hb : w.heap[g]? = some (.cells cells t (0, 0))) (ht : e ≠ t) (hk : Yb w w1 g none) : Y11 R e size w1 base v ps := by
 obtain ⟨inner, ho, hr⟩ := h
 exact ⟨inner, hk.own ho (Ne.symm (Y3h ho hb ht)) (by cases v.ownBlock <;> simp), hr⟩
theorem Y11.reads (h : Y11 R e size w base v ps) : ∃ A c, v = .slice A ps.length c ∧ ps.length ≤ c ∧ Y1t R size w A ps.length ps := by
 obtain ⟨inner, ho, hr⟩ := h
 obtain ⟨A, c, rfl, hrow⟩ := Y3z ho hr rfl
 exact ⟨A, c, rfl, own_le ho, hrow⟩
theorem Y11.ne_block (h : Y11 R e size w base v ps) {g : Nat} {t : TypeId} {cells : Array Value} (hb : w.heap[g]? = some (.cells cells t (0, 0))) (ht : e ≠ t) : some g ≠ v.ownBlock := by
 obtain ⟨inner, ho, hr⟩ := h
 exact Y3h ho hb ht
theorem Y11.lit (W : World) (base : Nat) {inner : List Value} (hr : Y1m R size ps inner) (hb : base ≤ W.heap.size) (hm : ps.length ≤ 9223372036854775807) :
  Y11 R e size (W.alloc (.cells inner.toArray e)) base (.slice (some ⟨W.heap.size, 0, none⟩) ps.length ps.length) ps := by
 have h := World.ownsRow_lit (base := base) (e := e) (size := size) W inner.toArray ps.length hb (by simpa [maxLen] using hm) (by simpa using hr.1)
 exact ⟨inner, by simpa using h, hr⟩
end
end Go.Proofs.YtbpbfboaofkpaaaDoorW.PrintWords
end
section
set_option linter.unusedVariables false
set_option linter.unusedSimpArgs false
namespace Go.Proofs.YtbpbfboaofkpaaaDoorW.PrintWords
open Go.RowKit
structure Kd (α : Type) where
 sz : Nat
 E : List Nat
 K : World → α → List Value → Prop
 M : World → Nat → (Nat → Prop) → α → List Value → Prop
 K_len : ∀ {w x cs}, K w x cs → cs.length = sz
 K_one : ∀ {w x cs}, K w x cs → ∀ u ∈ cs, u.oneCell' = true
 K_below : ∀ {w w1 : World} {x cs}, Below w.heap.size w w1 → K w x cs → K w1 x cs
 K_of_M : ∀ {w base ok x cs}, M w base ok x cs → K w x cs
 M_mono : ∀ {w base ok ok' x cs}, (∀ k, ok k → ok' k) → M w base ok x cs → M w base ok' x cs
 M_bound : ∀ {w : World} {base ok x cs}, M w base ok x cs → M w base (fun k => ok k ∧ base ≤ k ∧ k < w.heap.size ∧ ∃ q, q ∈ E ∧ ∃ cells, w.heap[k]? = some (.cells cells q (0, 0))) x cs
 M_move : ∀ {w w1 : World} {base ok x cs}, (∀ k, ok k → w1.heap[k]? = w.heap[k]?) → M w base ok x cs → M w1 base ok x cs
 M_lower : ∀ {w base base' ok x cs}, base' ≤ base → M w base ok x cs → M w base' ok x cs
theorem own_move {w w1 : World} {base : Nat} {e : TypeId} {size n : Nat} {v : Value} {xs : List Value} (h : w.ownsRow base e size v n xs) (hm : ∀ k, v.ownBlock = some k → w1.heap[k]? = w.heap[k]?) : w1.ownsRow base e size v n xs := by
 obtain ⟨h1, h2⟩ := h
 refine ⟨h1, ?_⟩
 rcases h2 with h2 | ⟨g, cap, cur, rfl, hg, hh, r⟩
 ·exact .inl h2
 ·exact .inr ⟨g, cap, cur, rfl, hg, (hm g (by simp [Value.ownBlock])).trans hh, r⟩
theorem own_typed {w : World} {base : Nat} {e : TypeId} {size n : Nat} {v : Value} {xs : List Value} (h : w.ownsRow base e size v n xs) (k : Nat) (hk : v.ownBlock = some k) : ∃ cells, w.heap[k]? = some (.cells cells e (0, 0)) := by
 rcases h.2 with ⟨rfl, _⟩ | ⟨g, cap, cur, rfl, hg, hh, r⟩
 ·simp [Value.ownBlock] at hk
 ·have : g = k := by simpa [Value.ownBlock] using hk
  subst this
  exact ⟨cur, hh⟩
namespace Kd
def C {α : Type} (d : Kd α) (w : World) (A : Option Addr) (n : Nat) (xs : List α) : Prop := Y1t (d.K w) d.sz w A n xs
def R {α : Type} (d : Kd α) (e : Nat) (w : World) (base : Nat) (ok : Nat → Prop) (v : Value) (xs : List α) : Prop :=
 (∀ k, v.ownBlock = some k → ok k) ∧ Y11 (d.M w base (fun k => ok k ∧ some k ≠ v.ownBlock)) e d.sz w base v xs
section
variable {α : Type} {d : Kd α} {e : Nat} {w w1 : World} {base : Nat} {ok ok' : Nat → Prop} {v : Value} {xs : List α}
theorem Y3m {A : Option Addr} {n : Nat} (h : d.C w A n xs) (hb : Below w.heap.size w w1) : d.C w1 A n xs := Y1t.imp_ h hb (fun _ _ hp => d.K_below hb hp)
theorem Y4h (h : d.R e w base ok v xs) (hok : ∀ k, ok k → ok' k) : d.R e w base ok' v xs := ⟨fun k hk => hok k (h.1 k hk), h.2.imp_ (fun _ _ hp => d.M_mono (fun k hk => ⟨hok k hk.1, hk.2⟩) hp)⟩
theorem Y3n (h : d.R e w base ok v xs) : d.R e w base (fun k => ok k ∧ base ≤ k ∧ k < w.heap.size ∧ ∃ q, q ∈ e :: d.E ∧ ∃ cells, w.heap[k]? = some (.cells cells q (0, 0))) v xs := by
 obtain ⟨h0, inner, ho, hr⟩ := h
 refine ⟨fun k hk => ?_, inner, ho, hr.imp_ (fun _ _ hp => d.M_mono (fun k hk => ?_) (d.M_bound hp))⟩
 ·obtain ⟨cells, hc⟩ := own_typed ho k hk
  exact ⟨h0 k hk, own_base ho k hk, own_lt ho k hk, e, List.mem_cons_self, cells, hc⟩
 ·obtain ⟨⟨h1, h2⟩, h3, h4, q, hq, hc⟩ := hk
  exact ⟨⟨h1, h3, h4, q, List.mem_cons_of_mem _ hq, hc⟩, h2⟩
theorem R_move (h : d.R e w base ok v xs) (hm : ∀ k, ok k → w1.heap[k]? = w.heap[k]?) : d.R e w1 base ok v xs := by
 obtain ⟨h0, inner, ho, hr⟩ := h
 exact ⟨h0, inner, own_move ho (fun k hk => hm k (h0 k hk)), hr.imp_ (fun _ _ hp => d.M_move (fun k hk => hm k hk.1) hp)⟩
theorem R_lower {base' : Nat} (h : d.R e w base ok v xs) (hb : base' ≤ base) : d.R e w base' ok v xs := by
 obtain ⟨h0, inner, ho, hr⟩ := h
 exact ⟨h0, inner, Y4A ho hb, hr.imp_ (fun _ _ hp => d.M_lower hb hp)⟩
theorem R_step (h : d.R e w base ok v xs) (hm : ∀ k, ok k → k < w.heap.size → w1.heap[k]? = w.heap[k]?) : d.R e w1 base ok v xs :=
 Y4h (R_move (Y3n h) (fun k hk => hm k hk.1 hk.2.2.1)) (fun _ hk => hk.1)
theorem M_step {x : α} {cs : List Value} (h : d.M w base ok x cs) (hm : ∀ k, ok k → k < w.heap.size → w1.heap[k]? = w.heap[k]?) : d.M w1 base ok x cs :=
 d.M_mono (fun _ hk => hk.1) (d.M_move (fun k hk => hm k hk.1 hk.2.2.1) (d.M_bound h))
theorem R_below (h : d.R e w base ok v xs) (hb : Below w.heap.size w w1) : d.R e w1 base ok v xs := R_step h (fun k _ hk => hb.block k hk)
theorem M_below {x : α} {cs : List Value} (h : d.M w base ok x cs) (hb : Below w.heap.size w w1) : d.M w1 base ok x cs := M_step h (fun k _ hk => hb.block k hk)
theorem R_types (h : d.R e w base ok v xs) {g t : Nat} {cells : Array Value} (hb : w.heap[g]? = some (.cells cells t (0, 0))) (ht : ∀ q, q ∈ e :: d.E → q ≠ t) : d.R e w base (fun k => ok k ∧ k ≠ g) v xs :=
 Y4h (Y3n h) (fun k hk => ⟨hk.1, by
  obtain ⟨_, _, _, q, hq, cells', hc⟩ := hk
  rintro rfl
  rw [hc] at hb
  injection hb with hb
  injection hb with _ hb
  exact ht q hq hb⟩)
theorem Y42 (h : d.R e w base ok v xs) : ∃ A c, v = .slice A xs.length c ∧ xs.length ≤ c ∧ d.C w A xs.length xs := by
 obtain ⟨A, c, he, hl, hr⟩ := Y11.reads h.2
 exact ⟨A, c, he, hl, hr.imp_ (Below.refl _ _) (fun _ _ hp => d.K_of_M hp)⟩
theorem R_slice (h : d.R e w base ok v xs) : ∃ A c, v = .slice A xs.length c := by
 obtain ⟨A, c, he, _⟩ := Y42 h
 exact ⟨A, c, he⟩
theorem R_ne (h : d.R e w base ok v xs) {g t : Nat} {cells : Array Value} (hb : w.heap[g]? = some (.cells cells t (0, 0))) (ht : e ≠ t) : some g ≠ v.ownBlock := Y11.ne_block h.2 hb ht
end
end Kd
end Go.Proofs.YtbpbfboaofkpaaaDoorW.PrintWords
end
section
set_option linter.unusedVariables false
set_option linter.unusedSimpArgs false
namespace Go.Proofs.YtbpbfboaofkpaaaDoorW.PrintWords
open Go.RowKit
namespace Kd
def scalar {α : Type} (enc : α → Value) (h1 : ∀ x, (enc x).oneCell' = true) : Kd α where
 sz := 1
 E := []
 K := fun _ x cs => cs = [enc x]
 M := fun _ _ _ x cs => cs = [enc x]
 K_len := fun h => by rw [h]; rfl
 K_one := fun h u hu => by
  rw [h] at hu
  rw [List.mem_singleton.1 hu]
  exact h1 _
 K_below := fun _ h => h
 K_of_M := fun h => h
 M_mono := fun _ h => h
 M_bound := fun h => h
 M_move := fun _ h => h
 M_lower := fun _ h => h
def int (k : IntKind) : Kd Int := scalar (Value.int k) (fun _ => rfl)
def bool : Kd Bool := scalar Value.bool (fun _ => rfl)
def string : Kd ByteArray := scalar Value.string (fun _ => rfl)
def slice {α : Type} (e : Nat) (d : Kd α) : Kd (List α) where
 sz := 1
 E := e :: d.E
 K := fun w xs cs => ∃ A c, cs = [.slice A xs.length c] ∧ xs.length ≤ c ∧ d.C w A xs.length xs
 M := fun w base ok xs cs => ∃ v, cs = [v] ∧ d.R e w base ok v xs
 K_len := by
  rintro w x cs ⟨A, c, rfl, _⟩
  rfl
 K_one := by
  rintro w x cs ⟨A, c, rfl, _⟩ u hu
  rw [List.mem_singleton.1 hu]
  rfl
 K_below := by
  rintro w w1 x cs hb ⟨A, c, rfl, hl, hr⟩
  exact ⟨A, c, rfl, hl, Y3m hr hb⟩
 K_of_M := by
  rintro w base ok x cs ⟨v, rfl, h⟩
  obtain ⟨A, c, rfl, hl, hr⟩ := Y42 h
  exact ⟨A, c, rfl, hl, hr⟩
 M_mono := by
  rintro w base ok ok' x cs hok ⟨v, rfl, h⟩
  exact ⟨v, rfl, Y4h h hok⟩
 M_bound := by
  rintro w base ok x cs ⟨v, rfl, h⟩
  exact ⟨v, rfl, Y3n h⟩
 M_move := by
  rintro w w1 base ok x cs hm ⟨v, rfl, h⟩
  exact ⟨v, rfl, R_move h hm⟩
 M_lower := by
  rintro w base base' ok x cs hb ⟨v, rfl, h⟩
  exact ⟨v, rfl, R_lower h hb⟩
def pair {α β : Type} (a : Kd α) (b : Kd β) : Kd (α × β) where
 sz := a.sz + b.sz
 E := a.E ++ b.E
 K := fun w x cs => ∃ c0 c1, cs = c0 ++ c1 ∧ a.K w x.1 c0 ∧ b.K w x.2 c1
 M := fun w base ok x cs => ∃ c0 c1, cs = c0 ++ c1 ∧ a.M w base ok x.1 c0 ∧ b.M w base ok x.2 c1
 K_len := by
  rintro w x cs ⟨c0, c1, rfl, h0, h1⟩
  rw [List.length_append, a.K_len h0, b.K_len h1]
 K_one := by
  rintro w x cs ⟨c0, c1, rfl, h0, h1⟩ u hu
  rcases List.mem_append.1 hu with hu | hu
  ·exact a.K_one h0 u hu
  ·exact b.K_one h1 u hu
 K_below := by
  rintro w w1 x cs hb ⟨c0, c1, rfl, h0, h1⟩
  exact ⟨c0, c1, rfl, a.K_below hb h0, b.K_below hb h1⟩
 K_of_M := by
  rintro w base ok x cs ⟨c0, c1, rfl, h0, h1⟩
  exact ⟨c0, c1, rfl, a.K_of_M h0, b.K_of_M h1⟩
 M_mono := by
  rintro w base ok ok' x cs hok ⟨c0, c1, rfl, h0, h1⟩
  exact ⟨c0, c1, rfl, a.M_mono hok h0, b.M_mono hok h1⟩
 M_bound := by
  rintro w base ok x cs ⟨c0, c1, rfl, h0, h1⟩
  refine ⟨c0, c1, rfl, a.M_mono ?_ (a.M_bound h0), b.M_mono ?_ (b.M_bound h1)⟩
  ·rintro k ⟨h2, h3, h4, q, hq, hc⟩
   exact ⟨h2, h3, h4, q, List.mem_append_left _ hq, hc⟩
  ·rintro k ⟨h2, h3, h4, q, hq, hc⟩
   exact ⟨h2, h3, h4, q, List.mem_append_right _ hq, hc⟩
 M_move := by
  rintro w w1 base ok x cs hm ⟨c0, c1, rfl, h0, h1⟩
  exact ⟨c0, c1, rfl, a.M_move hm h0, b.M_move hm h1⟩
 M_lower := by
  rintro w base base' ok x cs hb ⟨c0, c1, rfl, h0, h1⟩
  exact ⟨c0, c1, rfl, a.M_lower hb h0, b.M_lower hb h1⟩
def iso {α β : Type} (d : Kd α) (f : β → α) : Kd β where
 sz := d.sz
 E := d.E
 K := fun w x cs => d.K w (f x) cs
 M := fun w base ok x cs => d.M w base ok (f x) cs
 K_len := d.K_len
 K_one := d.K_one
 K_below := d.K_below
 K_of_M := d.K_of_M
 M_mono := d.M_mono
 M_bound := d.M_bound
 M_move := d.M_move
 M_lower := d.M_lower
def bot {α : Type} (sz : Nat) (E : List Nat) : Kd α where
 sz := sz
 E := E
 K := fun _ _ _ => False
 M := fun _ _ _ _ _ => False
 K_len := fun h => h.elim
 K_one := fun h => h.elim
 K_below := fun _ h => h
 K_of_M := fun h => h
 M_mono := fun _ h => h
 M_bound := fun h => h
 M_move := fun _ h => h
 M_lower := fun _ h => h
def upto {α : Type} (F : Kd α → Kd α) (sz : Nat) (E : List Nat) : Nat → Kd α
 | 0 => bot sz E
 | n + 1 => F (upto F sz E n)
theorem C_get {α : Type} {d : Kd α} {w : World} {A : Option Addr} {n : Nat} {xs : List α} (h : d.C w A n xs) (z : α) (i : Int) (h0 : 0 ≤ i) (h1 : i < n) :
  ∃ ad c, A = some ad ∧ c.length = d.sz ∧ d.K w (xs.getD i.toNat z) c ∧ ∀ j u, c[j]? = some u → w.cell? (ad.add (i.toNat * d.sz + j)) = some u := Y1t.get_ h z i h0 h1
section
variable {α β : Type} {d : Kd α} {d' : Kd β} {e e' : Nat} {w w1 W : World} {base b b' : Nat} {ok ok' okv oku : Nat → Prop} {v u : Value} {xs : List α} {ys : List β}
theorem R_alloc (h : d.R e w base ok v xs) (o : Obj) : d.R e (w.alloc o) base ok v xs := R_below h (YW (Below.refl _ _) o)
theorem R_drew (h : d.R e w base ok v xs) : d.R e w.drew base ok v xs := R_below h (Y37 (Below.refl _ _))
theorem R_drewN (h : d.R e w base ok v xs) (m : Nat) : d.R e (w.drewN m) base ok v xs := R_below h (Y1M (Below.refl _ _) m)
theorem C_alloc {A : Option Addr} {n : Nat} (h : d.C w A n xs) (o : Obj) : d.C (w.alloc o) A n xs := Y3m h (YW (Below.refl _ _) o)
theorem C_drew {A : Option Addr} {n : Nat} (h : d.C w A n xs) : d.C w.drew A n xs := Y3m h (Y37 (Below.refl _ _))
theorem C_drewN {A : Option Addr} {n : Nat} (h : d.C w A n xs) (m : Nat) : d.C (w.drewN m) A n xs := Y3m h (Y1M (Below.refl _ _) m)
theorem R_reads' {A : Option Addr} {n c : Nat} (h : d.R e w base ok (.slice A n c) xs) : n = xs.length ∧ n ≤ c ∧ d.C w A xs.length xs := by
 obtain ⟨A', c', he, hl, hr⟩ := Y42 h
 injection he with h1 h2 h3
 subst h1
 exact ⟨h2, by omega, hr⟩
end
end Kd
end Go.Proofs.YtbpbfboaofkpaaaDoorW.PrintWords
end
section
set_option linter.unusedVariables false
set_option linter.unusedSimpArgs false
namespace Go.Proofs.YtbpbfboaofkpaaaDoorW.PrintWords
open Go.RowKit
namespace Kd
section
variable {P : Program} {ops : Array Oper} {rest : List Oper} {o : Oper} {a : Act} {Q : Exit → Act → World → Prop}
theorem event_run {W w1 : World} {v : Value} (hgd : o.guard = none) (hrun : (execOp a.eval o).run P W = .ok (.value v) w1) (h : wpList P ops Q rest (a.put o.dst v) w1) : wpList P ops Q (o :: rest) a W := by
 refine wpList_plain hgd fun K hK => ?_
 unfold Oper.wp
 rw [hrun]
 exact hK _ _ h
variable {α : Type}
theorem R_lit (d : Kd α) {w0 W : World} (base e : Nat) (hgd : o.guard = none) {N : Tmp} (_hd : o.dst = some N) {xs : List α} {inner : List Value} {ok okp : Nat → Prop}
  (hrun : (execOp a.eval o).run P W = .ok (.value (.slice (some ⟨W.heap.size, 0, none⟩) xs.length xs.length)) (W.alloc (.cells inner.toArray e)))
  (hrep : Y1m (d.M W base okp) d.sz xs inner) (hok : ∀ k, okp k → ok k) (hfresh : ok W.heap.size) (HB : Below base w0 W) (hbase : base ≤ W.heap.size) (hm : xs.length ≤ 9223372036854775807)
  (h : ∀ v1 w1, d.R e w1 base ok v1 xs → Below base w0 w1 → W.grownBy w1 none → (∃ b, v1.ownBlock = some b ∧ W.heap.size ≤ b) → wpList P ops Q rest (a.put o.dst v1) w1) : wpList P ops Q (o :: rest) a W := by
 refine event_run hgd hrun (h _ _ ⟨fun k hk => ?_, inner, ?_, ?_⟩ (HB.alloc hbase _) (World.grownBy_alloc W _ none) ⟨W.heap.size, by simp [Value.ownBlock], Nat.le_refl _⟩)
 ·have : W.heap.size = k := by simpa [Value.ownBlock] using hk
  subst this
  exact hfresh
 ·have h2 := World.ownsRow_lit (base := base) (e := e) (size := d.sz) W inner.toArray xs.length hbase (by simpa [maxLen] using hm) (by simpa using hrep.1)
  simpa using h2
 ·refine hrep.imp_ (fun p c hp => d.M_mono (fun k hk => ⟨hok k hk.1, fun he => ?_⟩) (M_below (d.M_bound hp) (YW (Below.refl _ _) _)))
  have h3 : k = W.heap.size := by simpa [Value.ownBlock] using he
  have := hk.2.2.1
  omega
end
end Kd
end Go.Proofs.YtbpbfboaofkpaaaDoorW.PrintWords
end
section
set_option linter.unusedVariables false
set_option linter.unusedSimpArgs false
namespace Go.Proofs.YtbpbfboaofkpaaaDoorW.PrintWords
open Go.RowKit
def QRow (w : World) (base : Nat) (e : TypeId) (size : Nat) (v : Value) (n : Nat) (xs : List Value) : Prop :=
  xs.length = n * size ∧
  ((n = 0 ∧ ∃ A, v = .slice A 0 0 ∧ ∀ a, A = some a → base ≤ a.block ∧ ∃ cur, w.heap[a.block]? = some (.cells cur e (0, 0))) ∨
   ∃ g off cap cur, v = .slice (some ⟨g, off * size, none⟩) n cap ∧ base ≤ g ∧ w.heap[g]? = some (.cells cur e (0, 0)) ∧ n ≤ cap ∧ off + cap ≤ maxLen ∧ cur.size = (off + cap) * size ∧ (cur.toList.drop (off * size)).take (n * size) = xs)
namespace Kd
def Q {α : Type} (d : Kd α) (e : Nat) (w : World) (base : Nat) (ok : Nat → Prop) (v : Value) (xs : List α) : Prop :=
 (∀ k, v.ownBlock = some k → ok k) ∧ ∃ inner, QRow w base e d.sz v xs.length inner ∧ Y1m (d.M w base (fun k => ok k ∧ some k ≠ v.ownBlock)) d.sz xs inner
end Kd
end Go.Proofs.YtbpbfboaofkpaaaDoorW.PrintWords
end
section
set_option linter.unusedVariables false
set_option linter.unusedSimpArgs false
namespace Go.Proofs.YtbpbfboaofkpaaaDoorW.PrintWords
open Go.RowKit
theorem Yd {w W : World} (h : Below w.heap.size w W) : w.heap.size ≤ W.heap.size := h.size
theorem Y8 {w W w2 : World} (h : Below w.heap.size w W) (k : Below W.heap.size W w2) : Below w.heap.size w w2 := Y4u h h.size k
theorem YT.nil (W : World) (k : IntKind) : YT W k none ([] : List Int).length [] := ⟨rfl, by simp, fun h => absurd h (Nat.lt_irrefl 0)⟩
theorem YT.drewN {W : World} {k : IntKind} {A : Option Addr} {n : Nat} {xs : List Int} (h : YT W k A n xs) (m : Nat) : YT (W.drewN m) k A n xs := h
theorem Y2j {w W : World} {g j : Nat} {v : Value} (h : Below w.heap.size w W) (hg : w.heap.size ≤ g) : Below w.heap.size w (W.setCell ⟨g, j, none⟩ v) := h.setCell hg _
theorem Y4y {w W : World} {g : Nat} {row : Option Nat} (h : Yb w W g row) (m : Nat) : Yb w (W.drewN m) g row := h
theorem Y4x {w W : World} {g : Nat} (h : Yb w W g none) (o : Obj) : Yb w (W.alloc o) g none := h.trans (Yb.of_grown (World.grownBy_alloc W o none) g) (.inl rfl)
theorem Y3O {w W : World} {g : Nat} (h : Yb w W g none) {a : Addr} {v : Value} (hc : w.cell? a = some v) (hne : a.block ≠ g) : W.cell? a = some v := by
 have := h.2 a.block (World.block_lt_of_cell? w a hc) hne (by simp)
 simpa [World.cell?, this] using hc
theorem Y3F (a : Addr) (i : Nat) : (a.add i).block = a.block := by unfold Addr.add; split <;> rfl
theorem YN {w W : World} {g : Nat} {row : Option Nat} (h : Yb w W g row) : w.heap.size ≤ W.heap.size := h.1
theorem Y1d.nil {α : Type} (enc : α → Value) (d : α) (W : World) : Y1d enc d W none ([] : List α).length [] := ⟨rfl, by simp, fun h => absurd h (Nat.lt_irrefl 0)⟩
theorem Y1d.drewN {α : Type} {enc : α → Value} {d : α} {W : World} {A : Option Addr} {n : Nat} {xs : List α} (h : Y1d enc d W A n xs) (m : Nat) : Y1d enc d (W.drewN m) A n xs := h
theorem YT.keep {w W : World} {k : IntKind} {A : Option Addr} {n g : Nat} {xs : List Int} (h : YT w k A n xs) (hk : Yb w W g none) (hf : ∀ ad, A = some ad → 0 < n → ad.block ≠ g) : YT W k A n xs :=
 ⟨h.1, h.2.1, fun hn => by
  obtain ⟨ad, e, hc⟩ := h.2.2 hn
  exact ⟨ad, e, fun j hj => Y3O hk (hc j hj) (by rw [Y3F]; exact hf ad e hn)⟩⟩
theorem Y1d.keep {α : Type} {enc : α → Value} {d : α} {w W : World} {A : Option Addr} {n g : Nat} {xs : List α} (h : Y1d enc d w A n xs) (hk : Yb w W g none) (hf : ∀ ad, A = some ad → 0 < n → ad.block ≠ g) : Y1d enc d W A n xs :=
 ⟨h.1, h.2.1, fun hn => by
  obtain ⟨ad, e, hc⟩ := h.2.2 hn
  exact ⟨ad, e, fun j hj => Y3O hk (hc j hj) (by rw [Y3F]; exact hf ad e hn)⟩⟩
theorem YM {w : World} {g : Nat} {t : TypeId} {cs cs' : Array Value} (h : w.heap[g]? = some (.cells cs t (0, 0))) (i : Nat) (u : Value) (e : cs.setIfInBounds i u = cs') : (w.setCell ⟨g, i, none⟩ u).heap[g]? = some (.cells cs' t (0, 0)) := e ▸ Y2L h i u
theorem keep_far {w W : World} {g : Nat} {row : Option Nat} (h : Yb w W g row) {p : Addr} (hp : w.heap.size ≤ p.block) (u : Value) : Yb w (W.setCell p u) g row :=
 ⟨by simpa [World.setCell] using h.1, fun i hi hg hr => (Below.heap_setCell W p u i (by omega)).trans (h.2 i hi hg hr)⟩
theorem Y4c {W : World} {base g cap : Nat} {e : TypeId} {k : IntKind} {xs : List Int} (h : W.ownsRow base e 1 (.slice (some ⟨g, 0, none⟩) xs.length cap) xs.length (nums k xs)) (i x : Int) :
  (W.setCell ⟨g, i.toNat, none⟩ (.int k x)).ownsRow base e 1 (.slice (some ⟨g, 0, none⟩) xs.length cap) (xs.set i.toNat x).length (nums k (xs.set i.toNat x)) := by
 have := (own_store h i x).1
 rwa [show (xs.set i.toNat x).length = xs.length by simp]
theorem YH {base : Nat} {w W : World} (h : Below base w W) : Below base w W.drew := h.drew
theorem keep_drew {w W : World} {g : Nat} {row : Option Nat} (h : Yb w W g row) : Yb w W.drew g row := h
namespace Kd
section
variable {α : Type} {d : Kd α} {e base g : Nat} {ok : Nat → Prop} {w w1 : World} {v : Value} {xs : List α} {o : Obj}
theorem R_newB (h : d.R e w1 w.heap.size ok v xs) (hb : w.heap[g]? = some o) : d.R e w1 w.heap.size (fun k => ok k ∧ k ≠ g) v xs := Y4h (Y3n h) (fun k hk => ⟨hk.1, by have := Yy hb; have := hk.2.1; omega⟩)
theorem freshB (hb : w.heap[g]? = some o) : ∀ k, w.heap.size ≤ k → k ≠ g := fun k hk => by have := Yy hb; omega
end
end Kd
end Go.Proofs.YtbpbfboaofkpaaaDoorW.PrintWords
end
section
set_option linter.unusedVariables false
set_option linter.unusedSimpArgs false
namespace Go.Proofs.YtbpbfboaofkpaaaDoorW.PrintWords
open Go.RowKit
section
variable {P : Program} {ops : Array Oper} {rest : List Oper} {o : Oper} {a : Act} {Q : Exit → Act → World → Prop}
theorem Yp {W : World} (hgd : o.guard = none) {N : Tmp} (_hd : o.dst = some N) {cs : Array Value} {t : TypeId}
  (hrun : (execOp a.eval o).run P W = .ok (.value (.pointer (some ⟨W.heap.size, 0, none⟩))) (W.alloc (.cells cs t (0, 0))))
  (h : ∀ g, g = W.heap.size → ∀ w1, w1.heap[g]? = some (.cells cs t (0, 0)) → Below W.heap.size W w1 → wpList P ops Q rest (a.put o.dst (.pointer (some ⟨g, 0, none⟩))) w1) : wpList P ops Q (o :: rest) a W :=
 Kd.event_run hgd hrun (h _ rfl _ (blk_new W _) (YW (Below.refl _ _) _))
end
end Go.Proofs.YtbpbfboaofkpaaaDoorW.PrintWords
end
section
set_option linter.unusedVariables false
set_option linter.unusedSimpArgs false
namespace Go.Proofs.YtbpbfboaofkpaaaDoorW.PrintWords
open Go.RowKit
section
variable {P : Program} {ops : Array Oper} {rest : List Oper} {o : Oper} {a : Act} {Q : Exit → Act → World → Prop} {W : World}
theorem Yt {N : Tmp} (_hN : o.dst = some N) (h : wpList P ops Q (o :: rest) a W) : wpList P ops Q (o :: rest) a W := h
end
end Go.Proofs.YtbpbfboaofkpaaaDoorW.PrintWords
end
section
namespace Go.Proofs.YtbpbfboaofkpaaaDoorW.PrintLast
section
variable {P : Program} {ops : Array Oper} {Q : Exit → Act → World → Prop} {md : Region.Mode} {S : World → Prop} {ds : List Nat}
def Region.reachB (md : Region.Mode) (ops : Array Oper) (i : Nat) : Nat → Nat → Bool
 | 0, _ => false
 | fuel + 1, d => match ops[d]? with
  | some o => o.after.any fun e => Region.binds md e && (e.on == i || Region.reachB md ops i fuel e.on)
  | none => false
def Region.closedB (md : Region.Mode) (ops : Array Oper) (listed : Array Bool) : Bool :=
 (List.range ops.size).all fun j => !listed.getD j false || match ops[j]? with
  | some o => o.after.all fun e => !Region.binds md e || listed.getD e.on false
  | none => true
def Region.lastB (md : Region.Mode) (ops : Array Oper) (listed : Array Bool) (ds : List Nat) (i : Nat) : Bool :=
 ds.all fun d => listed.getD d true || Region.reachB md ops i ops.size d
def Y12 (md : Region.Mode) (ops : Array Oper) (listed : Array Bool) : Prop :=
 ∀ j oj, ops[j]? = some oj → listed.getD j false = true → ∀ e ∈ oj.after, Region.binds md e = true → listed.getD e.on false = true
theorem Region.closedB_spec {listed : Array Bool} (h : Region.closedB md ops listed = true) : Y12 md ops listed := by
 intro j oj hj hl e he hb
 have hlt : j < ops.size := (Array.getElem?_eq_some_iff.1 hj).1
 have h1 := List.all_eq_true.1 h j (List.mem_range.2 hlt)
 simp only [hl, hj, Bool.not_true, Bool.false_or] at h1
 have h2 := Array.all_eq_true_iff_forall_mem.1 h1 e he
 simpa [hb] using h2
theorem Y12.set {listed : Array Bool} {i : Nat} (h : Y12 md ops listed) (hi : i ∈ Region.ready md ops listed) : Y12 md ops (listed.setIfInBounds i true) := by
 obtain ⟨_, oi, hoi, hall⟩ := mem_ready.1 hi
 intro j oj hj hl e he hb
 by_cases hij : i = j
 ·subst hij
  have : oj = oi := Option.some.inj (hj.symm.trans hoi)
  subst this
  exact getD_set_true (hall e he hb)
 ·rw [getD_set_ne false hij] at hl
  exact getD_set_true (h j oj hj hl e he hb)
theorem Region.reach_listed {listed : Array Bool} {i : Nat} (hc : Y12 md ops listed) : ∀ (fuel d : Nat), Region.reachB md ops i fuel d = true → listed.getD d false = true → listed.getD i false = true
 | 0, _, h, _ => by simp [Region.reachB] at h
 | fuel + 1, d, h, hl => by
  unfold Region.reachB at h
  cases ho : ops[d]? with
  | none => rw [ho] at h; simp at h
  | some o =>
   rw [ho] at h
   obtain ⟨e, he, h1⟩ := Array.any_eq_true'.1 h
   simp only [Bool.and_eq_true, Bool.or_eq_true, beq_iff_eq] at h1
   have hle := hc d o ho hl e he h1.1
   rcases h1.2 with h2 | h2
   ·rw [← h2]; exact hle
   ·exact Region.reach_listed hc fuel e.on h2 hle
theorem Region.reach_not_ready {listed : Array Bool} {i d fuel : Nat} (hc : Y12 md ops listed) (hr : Region.reachB md ops i fuel d = true) (hun : listed.getD i true = false) : d ∉ Region.ready md ops listed := by
 intro hd
 obtain ⟨_, o, ho, hall⟩ := mem_ready.1 hd
 have hi : listed.getD i false = true := by
  cases fuel with
  | zero => simp [Region.reachB] at hr
  | succ n =>
   unfold Region.reachB at hr
   rw [ho] at hr
   obtain ⟨e, he, h1⟩ := Array.any_eq_true'.1 hr
   simp only [Bool.and_eq_true, Bool.or_eq_true, beq_iff_eq] at h1
   have hle := hall e he h1.1
   rcases h1.2 with h2 | h2
   ·rw [← h2]; exact hle
   ·exact Region.reach_listed hc n e.on h2 hle
 rcases Nat.lt_or_ge i listed.size with h' | h'
 ·simp [h'] at hun hi
  rw [hun] at hi
  cases hi
 ·simp [Array.getElem?_eq_none h'] at hun
def Yw (P : Program) (md : Region.Mode) (ops : Array Oper) (Q : Exit → Act → World → Prop) (S : World → Prop) (ds : List Nat) : Nat → Array Bool → Act → World → Prop
 | 0, listed, a, w => Region.ready md ops listed = [] ∧ Q .normal a w
 | fuel + 1, listed, a, w =>
  (Region.ready md ops listed = [] → Q .normal a w) ∧
  ∀ i ∈ Region.ready md ops listed, wpOp P ops Q i (fun a' w' => (i ∉ ds → S w → S w') ∧ Yw P md ops Q S ds fuel (listed.setIfInBounds i true) a' w') a w
theorem Y2q : ∀ (fuel : Nat) (listed : Array Bool) (a : Act) (w : World), Yw P md ops Q S ds fuel listed a w → wpAny P md ops Q fuel listed a w
 | 0, _, _, _, h => h
 | fuel + 1, _, _, _, h => ⟨h.1, fun i hi => wpOp_mono (fun a' w' h' => Y2q fuel _ a' w' h'.2) (h.2 i hi)⟩
theorem Y2V {i : Nat} {oi : Oper} {v : Value} (hi : ops[i]? = some oi) (hsel : ∀ (j : Nat) (o : Oper) cs b, ops[j]? = some o → o.op ≠ .select cs b)
  (hQ : ∀ c a w, Q (.panic c) (a.put oi.dst v) w → Q (.panic c) a w) (n : Nat) :
  ∀ (fuel : Nat) (listed : Array Bool) (a : Act) (w : World),
   (∀ j oj, ops[j]? = some oj → j ≠ i → listed.getD j true = false → (∀ e ∈ oj.after, Region.binds md e = true → e.on ≠ i) → oi.apart ops oj = true) →
   Y12 md ops listed → (∀ d ∈ ds, listed.getD d true = false → Region.reachB md ops i n d = true) →
   i ∈ Region.ready md ops listed → YieldsIf P ops S oi v a → S w →
   Yw P md ops Q S ds fuel (listed.setIfInBounds i true) (a.put oi.dst v) w → Yw P md ops Q S ds (fuel + 1) listed a w := by
 intro fuel
 induction fuel with
 | zero =>
  intro listed a w _ _ _ hr hy hS H
  refine ⟨fun h => ZH, fun j hj => ?_⟩
  by_cases hji : j = i
  ·subst hji; exact hy.wpOp hi hS ⟨fun _ h => h, H⟩
  ·have := ready_mono hj hji
   rw [H.1] at this
   cases this
 | succ fuel ih =>
  intro listed a w hfree hc hd hr hy hS H
  refine ⟨fun h => ZH, fun j hj => ?_⟩
  by_cases hji : j = i
  ·subst hji; exact hy.wpOp hi hS ⟨fun _ h => h, H⟩
  ·have h1 := H.2 j (ready_mono hj hji)
   obtain ⟨hjun, oj, hoj, hall⟩ := mem_ready.1 hj
   have hiun := (mem_ready.1 hr).1
   have hnot : ∀ e ∈ oj.after, Region.binds md e = true → e.on ≠ i := fun e he hb heq => by
    have h1 := hall e he hb
    rw [heq] at h1
    rcases Nat.lt_or_ge i listed.size with h' | h'
    ·simp [h'] at hiun h1; rw [hiun] at h1; cases h1
    ·simp [Array.getElem?_eq_none h'] at h1
   have hjd : j ∉ ds := fun hm => Region.reach_not_ready hc (hd j hm hjun) hiun hj
   have h2 := wpOp_putIf hoj (hfree j oj hoj hji hjun hnot) (fun cs b => hsel i oi cs b hi) (fun cs b => hsel j oj cs b hoj) hQ hy h1
   have hfree' : ∀ k ok, ops[k]? = some ok → k ≠ i → (listed.setIfInBounds j true).getD k true = false →
     (∀ e ∈ ok.after, Region.binds md e = true → e.on ≠ i) → oi.apart ops ok = true := fun k ok hk hki hun hno => by
    refine hfree k ok hk hki ?_ hno
    by_cases hjk : j = k
    ·subst hjk; exact hjun
    ·rw [getD_set_ne true hjk] at hun; exact hun
   have hd' : ∀ d ∈ ds, (listed.setIfInBounds j true).getD d true = false → Region.reachB md ops i n d = true := fun d hm hun => by
    refine hd d hm ?_
    by_cases hjk : j = d
    ·subst hjk; exact hjun
    ·rw [getD_set_ne true hjk] at hun; exact hun
   refine wpOp_mono (fun a' w' h3 => ⟨h3.2.1, ih (listed.setIfInBounds j true) a' w' hfree' (hc.set hj) hd' (ready_mono hr (Ne.symm hji)) h3.1 (h3.2.1 hjd hS) ?_⟩) h2
   rw [Array.setIfInBounds_comm _ _ hji]
   exact h3.2.2
theorem Y3E {i : Nat} {oi : Oper} {v : Value} (hi : ops[i]? = some oi) (hsel : ∀ (j : Nat) (o : Oper) cs b, ops[j]? = some o → o.op ≠ .select cs b)
  (hQ : ∀ c a w, Q (.panic c) (a.put oi.dst v) w → Q (.panic c) a w) :
  ∀ (fuel : Nat) (listed : Array Bool) (a : Act) (w : World),
   (∀ j oj, ops[j]? = some oj → j ≠ i → listed.getD j true = false → (∀ e ∈ oj.after, Region.binds md e = true → e.on ≠ i) → oi.apart ops oj = true) →
   i ∈ Region.ready md ops listed → Yields P ops oi v a →
   Yw P md ops Q S ds fuel (listed.setIfInBounds i true) (a.put oi.dst v) w → Yw P md ops Q S ds (fuel + 1) listed a w := by
 intro fuel
 induction fuel with
 | zero =>
  intro listed a w _ hr hy H
  refine ⟨fun h => ZH, fun j hj => ?_⟩
  by_cases hji : j = i
  ·subst hji; exact (hy.yieldsIf (S := fun _ => True)).wpOp hi trivial ⟨fun _ h => h, H⟩
  ·have := ready_mono hj hji
   rw [H.1] at this
   cases this
 | succ fuel ih =>
  intro listed a w hfree hr hy H
  refine ⟨fun h => ZH, fun j hj => ?_⟩
  by_cases hji : j = i
  ·subst hji; exact (hy.yieldsIf (S := fun _ => True)).wpOp hi trivial ⟨fun _ h => h, H⟩
  ·have h1 := H.2 j (ready_mono hj hji)
   obtain ⟨hjun, oj, hoj, hall⟩ := mem_ready.1 hj
   have hiun := (mem_ready.1 hr).1
   have hnot : ∀ e ∈ oj.after, Region.binds md e = true → e.on ≠ i := fun e he hb heq => by
    have h1 := hall e he hb
    rw [heq] at h1
    rcases Nat.lt_or_ge i listed.size with h' | h'
    ·simp [h'] at hiun h1; rw [hiun] at h1; cases h1
    ·simp [Array.getElem?_eq_none h'] at h1
   have h2 := wpOp_put hoj (hfree j oj hoj hji hjun hnot) (fun cs b => hsel i oi cs b hi) (fun cs b => hsel j oj cs b hoj) hQ hy h1
   have hfree' : ∀ k ok, ops[k]? = some ok → k ≠ i → (listed.setIfInBounds j true).getD k true = false →
     (∀ e ∈ ok.after, Region.binds md e = true → e.on ≠ i) → oi.apart ops ok = true := fun k ok hk hki hun hno => by
    refine hfree k ok hk hki ?_ hno
    by_cases hjk : j = k
    ·subst hjk; exact hjun
    ·rw [getD_set_ne true hjk] at hun; exact hun
   refine wpOp_mono (fun a' w' h3 => ⟨h3.2.1, ih (listed.setIfInBounds j true) a' w' hfree' (ready_mono hr (Ne.symm hji)) h3.1 ?_⟩) h2
   rw [Array.setIfInBounds_comm _ _ hji]
   exact h3.2.2
theorem Y35 {i : Nat} {oi : Oper} {v : Value} {fuel : Nat} {listed : Array Bool} {a : Act} {w : World} (hi : ops[i]? = some oi)
  (hs : Region.noSelect ops = true) (hf : Region.free md ops listed i = true) (hr : (Region.ready md ops listed).contains i = true)
  (hc : Region.closedB md ops listed = true) (hl : Region.lastB md ops listed ds i = true)
  (hQ : ∀ c a w, Q (.panic c) (a.put oi.dst v) w → Q (.panic c) a w) (hy : YieldsIf P ops S oi v a) (hS : S w)
  (h : Yw P md ops Q S ds fuel (listed.setIfInBounds i true) (a.put oi.dst v) w) : Yw P md ops Q S ds (fuel + 1) listed a w :=
 Y2V hi (Region.noSelect_spec hs) hQ ops.size fuel listed a w (Region.free_spec hi hf) (Region.closedB_spec hc)
  (fun d hm hun => by have := List.all_eq_true.1 hl d hm; rw [hun] at this; simpa using this) (by simpa using hr) hy hS h
theorem Y3D {rs : List Nat} {fuel : Nat} {listed : Array Bool} {a : Act} {w : World} (hr : Region.ready md ops listed = rs) (hne : rs ≠ [])
  (h : ∀ i ∈ rs, wpOp P ops Q i (fun a' w' => (i ∉ ds → S w → S w') ∧ Yw P md ops Q S ds fuel (listed.setIfInBounds i true) a' w') a w) : Yw P md ops Q S ds (fuel + 1) listed a w :=
 ⟨fun h0 => absurd (hr ▸ h0) hne, hr ▸ h⟩
theorem Y34 {listed : Array Bool} {a : Act} {w : World} (hr : Region.ready md ops listed = []) (h : Q .normal a w) :
  ∀ fuel, Yw P md ops Q S ds fuel listed a w
 | 0 => ⟨hr, h⟩
 | _ + 1 => ⟨fun _ => h, by rw [hr]; simp⟩
theorem Y36 {id : Nat} {a : Act} {w : World} (hm : P.follows .mixedOrders = true)
  (h : Yw P .any ops Q S ds ops.size (Array.replicate ops.size false) a { w with drawn := w.drawn + 1 }) : (Code.region id ops true).wp P Q a w :=
 wp_region_any hm (Y2q _ _ _ _ h)
def Y1w (P : Program) (md : Region.Mode) (ops : Array Oper) (Q : Exit → Act → World → Prop) (S : World → Prop) (ds : List Nat) (fuel : Nat) (listed : Array Bool) (a : Act) (w : World) (rs : List Nat) : Prop :=
 ∀ i ∈ rs, wpOp P ops Q i (fun a' w' => (i ∉ ds → S w → S w') ∧ Yw P md ops Q S ds fuel (listed.setIfInBounds i true) a' w') a w
theorem Y1w.nil {fuel : Nat} {listed : Array Bool} {a : Act} {w : World} : Y1w P md ops Q S ds fuel listed a w [] := fun _ h => by cases h
theorem Y1w.cons {fuel : Nat} {listed : Array Bool} {a : Act} {w : World} {i : Nat} {o : Oper} {rs : List Nat} (ho : ops[i]? = some o) (hd : i ∉ ds)
  (h : ∀ K' : Act → World → Prop, Shut (∀ a w, S w → (S w → Yw P md ops Q S ds fuel (listed.setIfInBounds i true) a w) → K' a w) → if Region.wanted o (yielded ops a.tmps) = true then Oper.wp P o a w K' Q else K' (a.put o.dst undef) w)
  (hs : Y1w P md ops Q S ds fuel listed a w rs) : Y1w P md ops Q S ds fuel listed a w (i :: rs) := fun j hj => by
 rcases List.mem_cons.1 hj with rfl | hj
 ·exact wpOp_step ho (fun K' hK => h K' (fun a w hS hW => hK a w ⟨fun _ _ => hS, hW hS⟩))
 ·exact hs j hj
theorem Y2W {rs : List Nat} {fuel : Nat} {listed : Array Bool} {a : Act} {w : World} (hr : Region.ready md ops listed = rs) (hne : rs ≠ [])
  (h : Y1w P md ops Q S ds fuel listed a w rs) : Yw P md ops Q S ds (fuel + 1) listed a w := Y3D hr hne h
theorem Y1K {id n : Nat} {a : Act} {w : World} (l : Array Bool) (hm : P.follows .mixedOrders = true) (hn : ops.size = n) (hl : Array.replicate n false = l) (hS : S w.drew)
  (h : S w.drew → Yw P .any ops Q S ds n l a w.drew) : (Code.region id ops true).wp P Q a w := by
 subst hn
 subst hl
 exact Y36 hm (h hS)
def Y4D (md : Region.Mode) (ops : Array Oper) (ds : List Nat) (l l' : Array Bool) (i : Nat) : Bool :=
 Region.noSelect ops && Region.free md ops l i && (Region.ready md ops l).contains i && Region.closedB md ops l && Region.lastB md ops l ds i && (l.setIfInBounds i true == l')
theorem Y29 {i : Nat} {N : Option Tmp} {oi : Oper} {v : Value} {fuel : Nat} {l : Array Bool} {a : Act} {w : World} (l' : Array Bool) (hi : ops[i]? = some oi) (hN : oi.dst = N) (hc : Y4D md ops ds l l' i = true)
  (hQ : ∀ c a w, Q (.panic c) (a.put oi.dst v) w → Q (.panic c) a w) (hy : YieldsIf P ops S oi v a) (hS : S w) {a' : Act} (ha : a.put N v = a')
  (h : Yw P md ops Q S ds fuel l' a' w) : Yw P md ops Q S ds (fuel + 1) l a w := by
 subst ha
 subst hN
 simp only [Y4D, Bool.and_eq_true, beq_iff_eq] at hc
 obtain ⟨⟨⟨⟨⟨h1, h2⟩, h3⟩, h4⟩, h5⟩, h6⟩ := hc
 subst h6
 exact Y35 hi h1 h2 h3 h4 h5 hQ hy hS h
def anyB (md : Region.Mode) (ops : Array Oper) (l l' : Array Bool) (i : Nat) : Bool :=
 Region.noSelect ops && Region.free md ops l i && (Region.ready md ops l).contains i && (l.setIfInBounds i true == l')
theorem Y2h {i : Nat} {N : Option Tmp} {oi : Oper} {v : Value} {fuel : Nat} {l : Array Bool} {a : Act} {w : World} (l' : Array Bool) (hi : ops[i]? = some oi) (hN : oi.dst = N) (hc : anyB md ops l l' i = true)
  (hQ : ∀ c a w, Q (.panic c) (a.put oi.dst v) w → Q (.panic c) a w) (hy : Yields P ops oi v a) {a' : Act} (ha : a.put N v = a')
  (h : Yw P md ops Q S ds fuel l' a' w) : Yw P md ops Q S ds (fuel + 1) l a w := by
 subst ha
 subst hN
 simp only [anyB, Bool.and_eq_true, beq_iff_eq] at hc
 obtain ⟨⟨⟨h1, h2⟩, h3⟩, h6⟩ := hc
 subst h6
 exact Y3E hi (Region.noSelect_spec h1) hQ fuel l a w (Region.free_spec hi h2) (by simpa using h3) hy h
def Y4q (md : Region.Mode) (ops : Array Oper) (l l' : Array Bool) (i : Nat) : Bool := (Region.ready md ops l == [i]) && (l.setIfInBounds i true == l')
theorem Y2Q {i : Nat} {N : Option Tmp} {oi : Oper} {fuel : Nat} {l : Array Bool} {a : Act} {w : World} (l' : Array Bool) (hi : ops[i]? = some oi) (hN : oi.dst = N) (hc : Y4q md ops l l' i = true) (hd : i ∉ ds)
  (h : ∀ K : Act → World → Prop, Shut (∀ a' w', S w' → (S w' → Yw P md ops Q S ds fuel l' a' w') → K a' w') → if Region.wanted oi (yielded ops a.tmps) = true then Oper.wp P oi a w K Q else K (a.put N undef) w) :
  Yw P md ops Q S ds (fuel + 1) l a w := by
 subst hN
 simp only [Y4q, Bool.and_eq_true, beq_iff_eq] at hc
 obtain ⟨h1, h2⟩ := hc
 subst h2
 exact Y2W h1 (by simp) (Y1w.cons hi hd (fun K hK => h K hK) Y1w.nil)
theorem Y2g {l : Array Bool} {a : Act} {w : World} {n : Nat} (hr : (Region.ready md ops l == []) = true) (h : Q .normal a w) : Yw P md ops Q S ds n l a w := Y34 (by simpa using hr) h n
theorem Y1J {fuel : Nat} {l : Array Bool} {a a' : Act} {w : World} (ha : a = a') (h : Yw P md ops Q S ds fuel l a' w) : Yw P md ops Q S ds fuel l a w := by
 subst ha
 exact h
theorem call_ {oi : Oper} {N : Option Tmp} {a : Act} {w : World} {K : Act → World → Prop} (f : FuncId) (args : Array Value) (hw : Region.wanted oi (yielded ops a.tmps) = true) (hN : oi.dst = N) (hrun : (execOp a.eval oi).run P w = .ok (.enter f args) w)
  (h : Calls P f args w fun e w' => ∃ v, e = .returned v ∧ K (a.put N v) w') : if Region.wanted oi (yielded ops a.tmps) = true then Oper.wp P oi a w K Q else K (a.put N undef) w := by
 rw [if_pos hw]
 subst hN
 unfold Oper.wp
 rw [hrun, Oper.upon_enter]
 refine h.mono fun e w'' hh => ?_
 obtain ⟨v, rfl, hk⟩ := hh
 exact hk
theorem enters_ {f : FuncId} {fn : Func} (hf : P.funcs[f]? = some fn) (hname : (fn.name == "runtime.NumGoroutine") = false) (hb : fn.body.isSome = true) (args : Array Value) (w : World) : (callFunc f args).run P w = .ok (.enter f args) w := by
 have h1 : fn.name ≠ "runtime.NumGoroutine" := by simpa using hname
 obtain ⟨c, hc⟩ := Option.isSome_iff_exists.1 hb
 simp [callFunc, hf, h1, hc]
theorem Y1G {oi : Oper} {N : Option Tmp} {a : Act} {w : World} {K : Act → World → Prop} {f : FuncId} {fn : Func} {as_ : Array Operand} {ts : Array TypeId} (hf : P.funcs[f]? = some fn) (hname : (fn.name == "runtime.NumGoroutine") = false) (hb : fn.body.isSome = true) (args : Array Value)
  (hw : Region.wanted oi (yielded ops a.tmps) = true) (hN : oi.dst = N) (hop : oi.op = .call { callee := .value (.func f), args := as_, argTypes := ts }) (hargs : as_.map a.eval = args)
  (h : Calls P f args w fun e w' => ∃ v, e = .returned v ∧ K (a.put N v) w') : if Region.wanted oi (yielded ops a.tmps) = true then Oper.wp P oi a w K Q else K (a.put N undef) w := by
 refine call_ f args hw hN ?_ h
 have he := enters_ hf hname hb args w
 unfold execOp
 simp [hop, resolve, Deferred.ofValue, invoke, Act.eval, hargs, he]
theorem Yu {rest : List Oper} {oi : Oper} {a : Act} {w : World} (N : Option Tmp) (hd : oi.dst = N) (hg : oi.guard = none) {f : FuncId} {fn : Func} {as_ : Array Operand} {ts : Array TypeId} (hf : P.funcs[f]? = some fn) (hname : (fn.name == "runtime.NumGoroutine") = false) (hb : fn.body.isSome = true) (args : Array Value)
  (hop : oi.op = .call { callee := .value (.func f), args := as_, argTypes := ts }) (hargs : as_.map a.eval = args)
  (h : Calls P f args w fun e w' => ∃ v, e = .returned v ∧ wpList P ops Q rest (a.put N v) w') : wpList P ops Q (oi :: rest) a w := by
 refine wpList_plain hg fun K hK => ?_
 have he := enters_ hf hname hb args w
 have hrun : (execOp a.eval oi).run P w = .ok (.enter f args) w := by
  unfold execOp
  simp [hop, resolve, Deferred.ofValue, invoke, Act.eval, hargs, he]
 unfold Oper.wp
 rw [hrun, Oper.upon_enter]
 refine h.mono fun e w'' hh => ?_
 obtain ⟨v, rfl, hk⟩ := hh
 subst hd
 exact hK _ _ hk
theorem YI (n : Int) : IntKind.i64.wrap n = Go.RowKit.wrap64 n := by unfold Go.RowKit.wrap64; exact IntKind.wrap_i64 n
theorem YJ (n : Int) : IntKind.i32.wrap n = Go.RowKit.wrap32 n := by unfold Go.RowKit.wrap32; exact IntKind.wrap_i32 n
end
end Go.Proofs.YtbpbfboaofkpaaaDoorW.PrintLast
end
section
namespace Go.Proofs.YtbpbfboaofkpaaaDoorW.PrintLast
open Go.Proofs.YtbpbfboaofkpaaaDoorW.PrintWords (Y0)
def Y2v (md : Region.Mode) (o : Oper) : List Nat := (o.after.toList.filter (fun e => Region.binds md e)).map (fun e => e.on)
def Y46 (md : Region.Mode) (ops : Array Oper) (i : Nat) (oi : Oper) : List Nat := (List.range ops.size).filter fun j => !(j == i) && match ops[j]? with
 | some oj => !(oj.after.any (fun e => Region.binds md e && e.on == i) || oi.apart ops oj)
 | none => false
def Y2T (md : Region.Mode) (ops : Array Oper) : Bool × List (List Nat × List Nat) := (Region.noSelect ops, (List.range ops.size).map fun i => match ops[i]? with
 | some o => (Y2v md o, Y46 md ops i o)
 | none => ([], []))
def Y27 (T : List (List Nat × List Nat)) (l : List Bool) (i : Nat) : Bool := !l.getD i true && match T[i]? with
 | some r => r.1.all (fun j => l.getD j false)
 | none => false
def Y3X (T : List (List Nat × List Nat)) (l : List Bool) : List Nat := (List.range T.length).filter (Y27 T l)
def freeT (T : List (List Nat × List Nat)) (l : List Bool) (i : Nat) : Bool := match T[i]? with
 | some r => r.2.all (fun j => l.getD j true)
 | none => false
def Y3s (T : List (List Nat × List Nat)) (l : List Bool) : Bool := (List.range T.length).all fun j => !l.getD j false || match T[j]? with
 | some r => r.1.all (fun k => l.getD k false)
 | none => true
def Y3j (T : List (List Nat × List Nat)) (i : Nat) : Nat → Nat → Bool
 | 0, _ => false
 | fuel + 1, d => match T[d]? with
  | some r => r.1.any fun j => j == i || Y3j T i fuel j
  | none => false
def lastT (T : List (List Nat × List Nat)) (l : List Bool) (ds : List Nat) (i : Nat) : Bool := ds.all fun d => l.getD d true || Y3j T i T.length d
section
variable {md : Region.Mode} {ops : Array Oper} {T : Bool × List (List Nat × List Nat)} {l l' li lj lk : Array Bool} {ds : List Nat} {i j k : Nat}
theorem gd (l : Array Bool) (j : Nat) (b : Bool) : l.getD j b = l.toList.getD j b := by simp [Array.getD_eq_getD_getElem?, List.getD_eq_getElem?_getD]
theorem Y3S (o : Oper) (p : Nat → Bool) : o.after.all (fun e => !Region.binds md e || p e.on) = (Y2v md o).all p := by
 unfold Y2v
 rw [← Array.all_toList]
 induction o.after.toList with
 | nil => rfl
 | cons e r ih =>
  rw [List.all_cons, ih, List.filter_cons]
  cases h : Region.binds md e <;> simp
theorem needs_any (o : Oper) (p : Nat → Bool) : o.after.any (fun e => Region.binds md e && p e.on) = (Y2v md o).any p := by
 unfold Y2v
 rw [← Array.any_toList]
 induction o.after.toList with
 | nil => rfl
 | cons e r ih =>
  rw [List.any_cons, ih, List.filter_cons]
  cases h : Region.binds md e <;> simp
theorem Y1U : (Y2T md ops).2.length = ops.size := by simp [Y2T]
theorem Y2o {o : Oper} (h : ops[i]? = some o) : (Y2T md ops).2[i]? = some (Y2v md o, Y46 md ops i o) := by
 have hi := (Array.getElem?_eq_some_iff.1 h).1
 unfold Y2T
 rw [List.getElem?_map, List.getElem?_range hi, Option.map_some, h]
theorem Y2n (h : ops[i]? = none) : (Y2T md ops).2[i]? = none := by
 have hi : ops.size ≤ i := Array.getElem?_eq_none_iff.1 h
 exact List.getElem?_eq_none (by rw [Y1U]; exact hi)
theorem Y4B : Y27 (Y2T md ops).2 l.toList i = (!l.getD i true && ((ops[i]?).map (·.after.all fun e => !Region.binds md e || l.getD e.on false)).getD false) := by
 unfold Y27
 rw [gd]
 cases h : ops[i]? with
 | none => rw [Y2n h]; rfl
 | some o =>
  rw [Y2o h]
  simp only [Option.map_some, Option.getD_some]
  rw [← Y3S]
  simp only [gd]
theorem Y3B : Region.ready md ops l = Y3X (Y2T md ops).2 l.toList := by
 unfold Region.ready Y3X
 rw [Y1U]
 refine List.filter_congr (fun i _ => ?_)
 rw [Y4B]
theorem free_eq : Region.free md ops l i = freeT (Y2T md ops).2 l.toList i := by
 unfold Region.free freeT
 cases h : ops[i]? with
 | none => rw [Y2n h]
 | some oi =>
  rw [Y2o h]
  simp only [Y46]
  rw [List.all_filter]
  congr 1
  funext j
  rw [gd]
  cases hj : ops[j]? with
  | none => cases (j == i) <;> cases (l.toList.getD j true) <;> simp
  | some oj =>
   cases (j == i) <;> cases (l.toList.getD j true) <;> cases (oj.after.any (fun e => Region.binds md e && e.on == i) || oi.apart ops oj) <;> simp_all
theorem closed_eq : Region.closedB md ops l = Y3s (Y2T md ops).2 l.toList := by
 unfold Region.closedB Y3s
 rw [Y1U]
 congr 1
 funext j
 rw [gd]
 cases h : ops[j]? with
 | none => rw [Y2n h]
 | some o =>
  rw [Y2o h]
  simp only
  rw [← Y3S]
  simp only [gd]
theorem Y4p : ∀ (fuel d : Nat), Region.reachB md ops i fuel d = Y3j (Y2T md ops).2 i fuel d
 | 0, _ => rfl
 | fuel + 1, d => by
  unfold Region.reachB Y3j
  cases h : ops[d]? with
  | none => rw [Y2n h]
  | some o =>
   rw [Y2o h]
   simp only
   rw [← needs_any]
   congr 1
   funext e
   rw [Y4p fuel]
theorem last_eq : Region.lastB md ops l ds i = lastT (Y2T md ops).2 l.toList ds i := by
 unfold Region.lastB lastT
 rw [Y1U]
 congr 1
 funext d
 rw [gd, Y4p]
theorem Y2S (h : Y27 T.2 l.toList i = true) (hT : Y2T md ops = T) : (Region.ready md ops l).contains i = true := by
 subst hT
 rw [Y3B]
 unfold Y3X
 rw [List.contains_iff_mem, List.mem_filter, List.mem_range]
 refine ⟨?_, h⟩
 unfold Y27 at h
 rw [Bool.and_eq_true] at h
 cases hq : (Y2T md ops).2[i]? with
 | none => rw [hq] at h; simp at h
 | some r => exact (List.getElem?_eq_some_iff.1 hq).1
theorem set_of (h : (l.toList.set i true == l'.toList) = true) : (l.setIfInBounds i true == l') = true := by
 rw [beq_iff_eq] at h ⊢
 apply Array.ext'
 rw [Array.toList_setIfInBounds]
 exact h
def anyT (T : Bool × List (List Nat × List Nat)) (l l' : List Bool) (i : Nat) : Bool := T.1 && freeT T.2 l i && Y27 T.2 l i && (l.set i true == l')
theorem any_of (hT : Y2T md ops = T) (h : anyT T l.toList l'.toList i = true) : anyB md ops l l' i = true := by
 simp only [anyT, Bool.and_eq_true] at h
 obtain ⟨⟨⟨h1, h2⟩, h3⟩, h4⟩ := h
 have h5 := Y2S h3 hT
 have h6 := set_of h4
 subst hT
 simp only [anyB, Bool.and_eq_true]
 exact ⟨⟨⟨h1, by rw [free_eq]; exact h2⟩, h5⟩, h6⟩
def takeT (T : Bool × List (List Nat × List Nat)) (ds : List Nat) (l l' : List Bool) (i : Nat) : Bool := T.1 && freeT T.2 l i && Y27 T.2 l i && Y3s T.2 l && lastT T.2 l ds i && (l.set i true == l')
theorem take_of (hT : Y2T md ops = T) (h : takeT T ds l.toList l'.toList i = true) : Y4D md ops ds l l' i = true := by
 simp only [takeT, Bool.and_eq_true] at h
 obtain ⟨⟨⟨⟨⟨h1, h2⟩, h3⟩, h4⟩, h5⟩, h6⟩ := h
 have h7 := Y2S h3 hT
 have h8 := set_of h6
 subst hT
 simp only [Y4D, Bool.and_eq_true]
 exact ⟨⟨⟨⟨⟨h1, by rw [free_eq]; exact h2⟩, h7⟩, by rw [closed_eq]; exact h4⟩, by rw [last_eq]; exact h5⟩, h8⟩
theorem Y2B (hT : Y2T md ops = T) (h : (Y3X T.2 l.toList == [i] && l.toList.set i true == l'.toList) = true) : Y4q md ops l l' i = true := by
 simp only [Bool.and_eq_true] at h
 obtain ⟨h1, h2⟩ := h
 subst hT
 simp only [Y4q, Bool.and_eq_true]
 exact ⟨by rw [Y3B]; exact h1, set_of h2⟩
theorem Y23 (hT : Y2T md ops = T) (h : (Y3X T.2 l.toList == []) = true) : (Region.ready md ops l == []) = true := by
 subst hT
 rw [Y3B]
 exact h
def upM (B : List Nat) (d : Nat) : List Nat → Nat
 | [] => 0
 | n :: r => (2 ^ n ||| (if n < d then B.getD n 0 else 0)) ||| upM B d r
def Y2i (T : List (List Nat × List Nat)) (B : List Nat) : Bool := (List.range T.length).all fun d => match T[d]? with
 | some r => (B.getD d 0 ||| upM B d r.1) == upM B d r.1
 | none => false
theorem upM_bit {B : List Nat} {d i : Nat} : ∀ {ns : List Nat}, (upM B d ns).testBit i = true → ∃ n ∈ ns, n = i ∨ (n < d ∧ (B.getD n 0).testBit i = true)
 | [], h => by simp [upM] at h
 | n :: r, h => by
  unfold upM at h
  rw [Nat.testBit_or, Nat.testBit_or, Bool.or_eq_true, Bool.or_eq_true] at h
  rcases h with (h | h) | h
  ·rw [Nat.testBit_two_pow] at h
   exact ⟨n, List.mem_cons_self, .inl (by simpa using h)⟩
  ·by_cases hn : n < d
   ·rw [if_pos hn] at h
    exact ⟨n, List.mem_cons_self, .inr ⟨hn, h⟩⟩
   ·rw [if_neg hn] at h
    simp at h
  ·obtain ⟨m, hm, h2⟩ := upM_bit h
   exact ⟨m, List.mem_cons_of_mem _ hm, h2⟩
theorem Y3W {T : List (List Nat × List Nat)} {B : List Nat} (hB : Y2i T B = true) : ∀ (fuel d : Nat), d < fuel → d < T.length → (B.getD d 0).testBit i = true → Y3j T i fuel d = true
 | 0, d, h, _, _ => by omega
 | fuel + 1, d, h, hd, hb => by
  have h1 := List.all_eq_true.1 hB d (List.mem_range.2 hd)
  cases hr : T[d]? with
  | none => rw [hr] at h1; simp at h1
  | some r =>
   rw [hr] at h1
   simp only [beq_iff_eq] at h1
   have h2 : (upM B d r.1).testBit i = true := by rw [← h1, Nat.testBit_or, hb, Bool.true_or]
   obtain ⟨n, hn, h3⟩ := upM_bit h2
   unfold Y3j
   rw [hr]
   simp only
   rw [List.any_eq_true]
   refine ⟨n, hn, ?_⟩
   rcases h3 with rfl | ⟨h4, h5⟩
   ·simp
   ·rw [Y3W hB fuel n (by omega) (by omega) h5, Bool.or_true]
def lastW (T : List (List Nat × List Nat)) (B : List Nat) (l : List Bool) (ds : List Nat) (i : Nat) : Bool := ds.all fun d => l.getD d true || (decide (d < T.length) && (B.getD d 0).testBit i)
def takeW (T : Bool × List (List Nat × List Nat)) (B : List Nat) (ds : List Nat) (l l' : List Bool) (i : Nat) : Bool := T.1 && freeT T.2 l i && Y27 T.2 l i && Y3s T.2 l && lastW T.2 B l ds i && (l.set i true == l')
theorem take_ofW {B : List Nat} (hT : Y2T md ops = T) (hB : Y2i T.2 B = true) (h : takeW T B ds l.toList l'.toList i = true) : Y4D md ops ds l l' i = true := by
 refine take_of hT ?_
 simp only [takeW, takeT, Bool.and_eq_true] at h ⊢
 obtain ⟨⟨⟨⟨⟨h1, h2⟩, h3⟩, h4⟩, h5⟩, h6⟩ := h
 refine ⟨⟨⟨⟨⟨h1, h2⟩, h3⟩, h4⟩, ?_⟩, h6⟩
 unfold lastW at h5
 unfold lastT
 rw [List.all_eq_true] at h5 ⊢
 intro d hd
 have h7 := h5 d hd
 rw [Bool.or_eq_true, Bool.and_eq_true, decide_eq_true_eq] at h7
 rcases h7 with h7 | ⟨h8, h9⟩
 ·rw [h7, Bool.true_or]
 ·rw [Y3W hB _ d h8 h8 h9, Bool.or_true]
theorem Y1A {P : Program} {Q : Exit → Act → World → Prop} {S : World → Prop} {n : Nat} {a : Act} {w : World} {B : List Nat} (hT : Y2T md ops = T) (hB : Y2i T.2 B = true) (h : Y0 (Y2T md ops = T) → Y0 (Y2i T.2 B = true) → Yw P md ops Q S ds n l a w) : Yw P md ops Q S ds n l a w := h ⟨hT⟩ ⟨hB⟩
end
end Go.Proofs.YtbpbfboaofkpaaaDoorW.PrintLast
end
section
namespace Go.Proofs.YtbpbfboaofkpaaaDoorW.PrintLast
open Go.Proofs.YtbpbfboaofkpaaaDoorW.PrintWords (Y0)
def Y32 : Code → Nat → Option (Array Oper)
 | .region id ops _, k => if id == k then some ops else none
 | .seq a b, k => match Y32 a k with
  | some o => some o
  | none => Y32 b k
 | .cond _ a b, k => match Y32 a k with
  | some o => some o
  | none => Y32 b k
 | .block _ c, k => Y32 c k
 | .loop c, k => Y32 c k
 | .scope c, k => Y32 c k
 | .rangeFunc _ _ a b, k => match Y32 a k with
  | some o => some o
  | none => Y32 b k
 | _, _ => none
def opsOf (f : Func) (k : Nat) : Array Oper := ((f.body.bind fun c => Y32 c k)).getD #[]
end Go.Proofs.YtbpbfboaofkpaaaDoorW.PrintLast
end
section
namespace Go.Proofs.YtbpbfboaofkpaaaDoorW.PrintWords
open Go.RowKit
namespace Kd
def tag {α : Type} (f : Nat → Nat) (d : Kd α) : Kd (α × Nat) where
 sz := d.sz
 E := d.E
 K := fun w x cs => d.K w x.1 cs
 M := fun w base ok x cs => d.M w base (fun k => ok k ∧ f k = x.2) x.1 cs
 K_len := fun h => d.K_len h
 K_one := fun h => d.K_one h
 K_below := fun hb h => d.K_below hb h
 K_of_M := fun h => d.K_of_M h
 M_mono := fun hok h => d.M_mono (fun k hk => ⟨hok k hk.1, hk.2⟩) h
 M_bound := fun h => d.M_mono (fun _ hk => ⟨⟨hk.1.1, hk.2⟩, hk.1.2⟩) (d.M_bound h)
 M_move := fun hm h => d.M_move (fun k hk => hm k hk.1) h
 M_lower := fun hb h => d.M_lower hb h
def raw (sz : Nat) : Kd (List Value) where
 sz := sz
 E := []
 K := fun _ x cs => cs = x ∧ cs.length = sz ∧ ∀ u ∈ cs, u.oneCell' = true
 M := fun _ _ _ x cs => cs = x ∧ cs.length = sz ∧ ∀ u ∈ cs, u.oneCell' = true
 K_len := fun h => h.2.1
 K_one := fun h => h.2.2
 K_below := fun _ h => h
 K_of_M := fun h => h
 M_mono := fun _ h => h
 M_bound := fun h => h
 M_move := fun _ h => h
 M_lower := fun _ h => h
def S {α : Type} (d : Kd α) (e : Nat) (w : World) (base : Nat) (ok : Nat → Prop) (v : Value) (xs : List α) : Prop := ∃ f, (tag f d).R e w base ok v xs.zipIdx
def gap {α : Type} (f : Nat → Nat) (d : Kd α) (i : Nat) (c : List Value) : Kd (α × Nat) where
 sz := d.sz
 E := d.E
 K := fun w x cs => (x.2 = i → cs = c ∧ cs.length = d.sz ∧ ∀ u ∈ cs, u.oneCell' = true) ∧ (x.2 ≠ i → d.K w x.1 cs)
 M := fun w base ok x cs => (x.2 = i → cs = c ∧ cs.length = d.sz ∧ ∀ u ∈ cs, u.oneCell' = true) ∧ (x.2 ≠ i → d.M w base (fun k => ok k ∧ f k = x.2) x.1 cs)
 K_len := fun {w x cs} h => by
  by_cases hx : x.2 = i
  ·exact (h.1 hx).2.1
  ·exact d.K_len (h.2 hx)
 K_one := fun {w x cs} h => by
  by_cases hx : x.2 = i
  ·exact (h.1 hx).2.2
  ·exact d.K_one (h.2 hx)
 K_below := fun hb h => ⟨h.1, fun hx => d.K_below hb (h.2 hx)⟩
 K_of_M := fun h => ⟨h.1, fun hx => d.K_of_M (h.2 hx)⟩
 M_mono := fun hok h => ⟨h.1, fun hx => d.M_mono (fun k hk => ⟨hok k hk.1, hk.2⟩) (h.2 hx)⟩
 M_bound := fun h => ⟨h.1, fun hx => d.M_mono (fun _ hk => ⟨⟨hk.1.1, hk.2⟩, hk.1.2⟩) (d.M_bound (h.2 hx))⟩
 M_move := fun hm h => ⟨h.1, fun hx => d.M_move (fun k hk => hm k hk.1) (h.2 hx)⟩
 M_lower := fun hb h => ⟨h.1, fun hx => d.M_lower hb (h.2 hx)⟩
def H {α : Type} (d : Kd α) (e : Nat) (w : World) (base : Nat) (ok : Nat → Prop) (v : Value) (xs : List α) (i : Int) (oki : Nat → Prop) (c : List Value) : Prop :=
 (∀ k, oki k → ok k) ∧ ∃ f, (gap f d i.toNat c).R e w base (fun k => ok k ∧ ¬ oki k) v xs.zipIdx
structure Heap {α : Type} (d : Kd α) : Prop where
 K : ∀ {w w1 : World} {x : α} {cs : List Value}, (∀ k, k < w.heap.size → w1.heap[k]? = w.heap[k]?) → d.K w x cs → d.K w1 x cs
theorem cell_heap {w w1 : World} (hb : ∀ k, k < w.heap.size → w1.heap[k]? = w.heap[k]?) {a : Addr} {v : Value} (h : w.cell? a = some v) : w1.cell? a = some v := by
 have := hb a.block (World.block_lt_of_cell? w a h)
 simpa [World.cell?, this] using h
theorem Heap.C {α : Type} {d : Kd α} (hd : Heap d) {w w1 : World} {A : Option Addr} {n : Nat} {xs : List α} (hb : ∀ k, k < w.heap.size → w1.heap[k]? = w.heap[k]?) (h : d.C w A n xs) : d.C w1 A n xs :=
 ⟨h.1, h.2.1, fun hn => by
  obtain ⟨ad, e, hc⟩ := h.2.2 hn
  refine ⟨ad, e, fun j p hj => ?_⟩
  obtain ⟨c, hs, hr, hcell⟩ := hc j p hj
  exact ⟨c, hs, hd.K hb hr, fun i u hu => cell_heap hb (hcell i u hu)⟩⟩
end Kd
end Go.Proofs.YtbpbfboaofkpaaaDoorW.PrintWords
end
section
namespace Go.Proofs.YtbpbfboaofkpaaaDoorW.PrintWords
open Go.RowKit
def Y2e (w W : World) (S : Nat → Prop) : Prop := w.heap.size ≤ W.heap.size ∧ ∀ i, i < w.heap.size → ¬ S i → W.heap[i]? = w.heap[i]?
section
variable {w W W2 : World} {S S2 S' : Nat → Prop}
theorem Y2e.refl (w : World) (S : Nat → Prop) : Y2e w w S := ⟨Nat.le_refl _, fun _ _ _ => rfl⟩
theorem Y2e.of_below (h : Below w.heap.size w W) (S : Nat → Prop) : Y2e w W S := ⟨h.size, fun i hi _ => h.block i hi⟩
theorem Y2e.then_ (h : Y2e w W S) (k : Y2e W W2 S2) (hs : ∀ k, S2 k → S k ∨ w.heap.size ≤ k) : Y2e w W2 S :=
 ⟨Nat.le_trans h.1 k.1, fun i hi hn => (k.2 i (Nat.lt_of_lt_of_le hi h.1) (fun h2 => (hs i h2).elim hn (fun h3 => by omega))).trans (h.2 i hi hn)⟩
theorem Y2e.of_grown {row : Option Nat} (hg : W.grownBy W2 row) (h : Y2e w W S) (hr : ∀ k, row = some k → S k ∨ w.heap.size ≤ k) : Y2e w W2 S :=
 h.then_ (S2 := fun k => row = some k) ⟨hg.size, fun i hi hn => hg.block i hi (fun he => hn he.symm)⟩ hr
theorem Y2e.below (h : Y2e w W S) (hb : Below W.heap.size W W2) : Y2e w W2 S := h.then_ (Y2e.of_below hb (fun _ => False)) (fun _ hk => hk.elim)
theorem Y2e.alloc (h : Y2e w W S) (o : Obj) : Y2e w (W.alloc o) S := h.below (YW (Below.refl _ _) o)
theorem Y2e.drew (h : Y2e w W S) : Y2e w W.drew S := h
theorem Y2e.drewN (h : Y2e w W S) (m : Nat) : Y2e w (W.drewN m) S := h
theorem Y2e.setCell (h : Y2e w W S) {p : Addr} (hp : S p.block ∨ w.heap.size ≤ p.block) (u : Value) : Y2e w (W.setCell p u) S :=
 h.then_ (S2 := fun k => k = p.block) ⟨by simp [World.setCell], fun i _ hn => Below.heap_setCell W p u i hn⟩ (fun k hk => by rw [hk]; exact hp)
theorem Y2e.keep {g : Nat} (h : Yb w W g none) (k : Y2e W W2 S2) (hs : ∀ k, S2 k → w.heap.size ≤ k) : Yb w W2 g none :=
 ⟨Nat.le_trans h.1 k.1, fun i hi hg hr => (k.2 i (Nat.lt_of_lt_of_le hi h.1) (fun h2 => by have := hs i h2; omega)).trans (h.2 i hi hg hr)⟩
theorem Y3p {g : Nat} {o : Obj} (hb : W.heap[g]? = some o) (hk : Y2e W W2 S) (hne : ¬ S g) : W2.heap[g]? = some o := (hk.2 g (Yy hb) hne).trans hb
end
end Go.Proofs.YtbpbfboaofkpaaaDoorW.PrintWords
end
section
namespace Go.Proofs.YtbpbfboaofkpaaaDoorW.PrintWords
open Go.RowKit
def Foot (P : World → Prop) (W : World) (ok : Nat → Prop) : Prop := ∀ W' : World, (∀ k, ok k → k < W.heap.size → W'.heap[k]? = W.heap[k]?) → P W'
theorem heap_lt {W W1 : World} {k : Nat} (h : W1.heap[k]? = W.heap[k]?) (hlt : k < W.heap.size) : k < W1.heap.size := by
 rw [Array.getElem?_eq_getElem hlt] at h
 exact (Array.getElem?_eq_some_iff.1 h).1
namespace Foot
variable {P Q : World → Prop} {W W1 : World} {ok ok' : Nat → Prop}
theorem now (h : Foot P W ok) : P W := h W (fun _ _ _ => rfl)
theorem mono (h : Foot P W ok) (hok : ∀ k, ok k → ok' k) : Foot P W ok' := fun W' hW => h W' (fun k hk hlt => hW k (hok k hk) hlt)
theorem step (h : Foot P W ok) (hm : ∀ k, ok k → k < W.heap.size → W1.heap[k]? = W.heap[k]?) : Foot P W1 ok := fun W' hW => h W' (fun k hk hlt => (hW k hk (heap_lt (hm k hk hlt) hlt)).trans (hm k hk hlt))
end Foot
end Go.Proofs.YtbpbfboaofkpaaaDoorW.PrintWords
end
section
namespace Go.Proofs.YtbpbfboaofkpaaaDoorW.PrintWords
open Go.RowKit
namespace Kd
def F {α : Type} (d : Kd α) (W : World) (ok : Nat → Prop) (A : Option Addr) (n : Nat) (xs : List α) : Prop := Foot (fun W => d.C W A n xs) W ok
def FK {α : Type} (d : Kd α) (W : World) (ok : Nat → Prop) (x : α) (c : List Value) : Prop := Foot (fun W => d.K W x c) W ok
section
variable {α : Type} {d : Kd α} {e base n cc g : Nat} {ok ok' okp S : Nat → Prop} {w w1 W W1 : World} {A : Option Addr} {u v v1 : Value} {xs : List α} {x : α} {c : List Value}
def N {α : Type} (d : Kd α) (e : Nat) (w : World) (base : Nat) (ok : Nat → Prop) (v : Value) (xs : List α) : Prop :=
 (∀ k, v.ownBlock = some k → ok k) ∧ ∃ rows : List (List Value), rows.length = xs.length ∧ (raw d.sz).R e w base (fun k => some k = v.ownBlock) v rows ∧ ∀ (j : Nat) (x : α) (c : List Value), xs[j]? = some x → rows[j]? = some c → FK d w (fun k => ok k ∧ some k ≠ v.ownBlock) x c
end
end Kd
end Go.Proofs.YtbpbfboaofkpaaaDoorW.PrintWords
end
section
namespace Go.Proofs.YtbpbfboaofkpaaaDoorW.PrintWords
open Go.RowKit
section
variable {P : Program} {d : Nat} {xs ys : Array Value} {f : Field} {fs : List Field} {a b : Value} {r s : Bool} {w : World}
theorem eqf_last (hn : (f.name == "_") = false) (ha : (part f.type xs f.offset).run P w = .ok a w) (hb : (part f.type ys f.offset).run P w = .ok b w) (he : (Op.equalIn d f.type a b).run P w = .ok r w) : (Op.eqFields d xs ys [f]).run P w = .ok r w := by
 have hn' : f.name ≠ "_" := by simpa using hn
 simp only [Op.eqFields, if_pos hn', Sem.run_bind, ha, hb, he, Result.andThen_ok]
 cases r <;> simp
theorem Y4j (hn : (f.name == "_") = false) (ha : (part f.type xs f.offset).run P w = .ok a w) (hb : (part f.type ys f.offset).run P w = .ok b w) (he : (Op.equalIn d f.type a b).run P w = .ok r w) (hr : (Op.eqFields d xs ys fs).run P w = .ok s w) : (Op.eqFields d xs ys (f :: fs)).run P w = .ok (r && s) w := by
 have hn' : f.name ≠ "_" := by simpa using hn
 rw [Op.eqFields]
 simp only [if_pos hn', Sem.run_bind, ha, hb, he, Result.andThen_ok]
 cases r
 ·simp
 ·simpa using hr
theorem eqA_of {t : TypeId} {fs : Array Field} (hu : P.underlying t = some (.struct fs)) (hp : P.stoodInHeld t = false) (h : (Op.eqFields d xs ys fs.toList).run P w = .ok r w) : (Op.equalIn (d + 1) t (.agg xs) (.agg ys)).run P w = .ok r w := by
 have hf : P.fieldsOf t = fs := by simp [Program.fieldsOf, hu]
 rw [run_equalIn_struct (P := P) w d t xs ys (by rw [hf]; exact hu) hp, hf]
 exact h
end
end Go.Proofs.YtbpbfboaofkpaaaDoorW.PrintWords
end
section
namespace Go.Proofs.YtbpbfboaofkpaaaDoorW.PrintWords
theorem Y1m.one {α : Type} {R : α → List Value → Prop} {ps : List α} {cs : List Value} {p : α} {v : Value} (hp : R p [v]) (h : Y1m R 1 ps cs) : Y1m R 1 (p :: ps) (v :: cs) := by
 refine ⟨by simp [h.1], fun j q hq => ?_⟩
 cases j with
 | zero =>
  simp only [List.getElem?_cons_zero, Option.some.injEq] at hq
  subst hq
  simpa using hp
 | succ j =>
  simp only [List.getElem?_cons_succ] at hq
  have h1 := h.2 j q hq
  simpa [Nat.mul_one] using h1
theorem Y1m.front {α : Type} {R : α → List Value → Prop} {size : Nat} {ps : List α} {cs c all : List Value} {p : α} (hp : R p c) (hc : c.length = size) (h : Y1m R size ps cs) (ha : c ++ cs = all) : Y1m R size (p :: ps) all := by
 subst ha
 refine ⟨by rw [List.length_append, hc, h.1, List.length_cons, Nat.succ_mul, Nat.add_comm], fun j q hq => ?_⟩
 cases j with
 | zero =>
  simp only [List.getElem?_cons_zero, Option.some.injEq] at hq
  subst hq
  rw [Nat.zero_mul, List.drop_zero, List.take_append_of_le_length (by omega), List.take_of_length_le (by omega)]
  exact hp
 | succ j =>
  simp only [List.getElem?_cons_succ] at hq
  have h1 := h.2 j q hq
  rw [Nat.succ_mul, List.drop_append, List.drop_of_length_le (by rw [hc]; exact Nat.le_add_left _ _), List.nil_append, hc, Nat.add_sub_cancel]
  exact h1
theorem Y1m.c2 {α : Type} {R : α → List Value → Prop} {ps : List α} {cs : List Value} {p : α} {va vb : Value} (hp : R p [va, vb]) (h : Y1m R 2 ps cs) : Y1m R 2 (p :: ps) (va :: vb :: cs) := Y1m.front hp rfl h rfl
theorem Y1m.c3 {α : Type} {R : α → List Value → Prop} {ps : List α} {cs : List Value} {p : α} {va vb vc : Value} (hp : R p [va, vb, vc]) (h : Y1m R 3 ps cs) : Y1m R 3 (p :: ps) (va :: vb :: vc :: cs) := Y1m.front hp rfl h rfl
theorem Y1m.c4 {α : Type} {R : α → List Value → Prop} {ps : List α} {cs : List Value} {p : α} {va vb vc vd : Value} (hp : R p [va, vb, vc, vd]) (h : Y1m R 4 ps cs) : Y1m R 4 (p :: ps) (va :: vb :: vc :: vd :: cs) := Y1m.front hp rfl h rfl
theorem Y1m.c5 {α : Type} {R : α → List Value → Prop} {ps : List α} {cs : List Value} {p : α} {va vb vc vd ve : Value} (hp : R p [va, vb, vc, vd, ve]) (h : Y1m R 5 ps cs) : Y1m R 5 (p :: ps) (va :: vb :: vc :: vd :: ve :: cs) := Y1m.front hp rfl h rfl
theorem Y1m.c6 {α : Type} {R : α → List Value → Prop} {ps : List α} {cs : List Value} {p : α} {va vb vc vd ve vf : Value} (hp : R p [va, vb, vc, vd, ve, vf]) (h : Y1m R 6 ps cs) : Y1m R 6 (p :: ps) (va :: vb :: vc :: vd :: ve :: vf :: cs) := Y1m.front hp rfl h rfl
theorem Y1m.c7 {α : Type} {R : α → List Value → Prop} {ps : List α} {cs : List Value} {p : α} {va vb vc vd ve vf vg : Value} (hp : R p [va, vb, vc, vd, ve, vf, vg]) (h : Y1m R 7 ps cs) : Y1m R 7 (p :: ps) (va :: vb :: vc :: vd :: ve :: vf :: vg :: cs) := Y1m.front hp rfl h rfl
theorem Y1m.c8 {α : Type} {R : α → List Value → Prop} {ps : List α} {cs : List Value} {p : α} {va vb vc vd ve vf vg vh : Value} (hp : R p [va, vb, vc, vd, ve, vf, vg, vh]) (h : Y1m R 8 ps cs) : Y1m R 8 (p :: ps) (va :: vb :: vc :: vd :: ve :: vf :: vg :: vh :: cs) := Y1m.front hp rfl h rfl
theorem Y1m.c9 {α : Type} {R : α → List Value → Prop} {ps : List α} {cs : List Value} {p : α} {va vb vc vd ve vf vg vh vi : Value} (hp : R p [va, vb, vc, vd, ve, vf, vg, vh, vi]) (h : Y1m R 9 ps cs) : Y1m R 9 (p :: ps) (va :: vb :: vc :: vd :: ve :: vf :: vg :: vh :: vi :: cs) := Y1m.front hp rfl h rfl
theorem Y1m.c10 {α : Type} {R : α → List Value → Prop} {ps : List α} {cs : List Value} {p : α} {va vb vc vd ve vf vg vh vi vj : Value} (hp : R p [va, vb, vc, vd, ve, vf, vg, vh, vi, vj]) (h : Y1m R 10 ps cs) : Y1m R 10 (p :: ps) (va :: vb :: vc :: vd :: ve :: vf :: vg :: vh :: vi :: vj :: cs) := Y1m.front hp rfl h rfl
end Go.Proofs.YtbpbfboaofkpaaaDoorW.PrintWords
end
section
namespace Go.Proofs.YtbpbfboaofkpaaaDoorW.PrintLast
def up (b : Nat → Bool) (i : Nat) : Nat → Bool := fun j => if j = i then true else b j
end Go.Proofs.YtbpbfboaofkpaaaDoorW.PrintLast
end
section
namespace Go.Proofs.YtbpbfboaofkpaaaDoorW.PrintWords
open Go.RowKit
section
variable {P : Program} {ops : Array Oper} {rest : List Oper} {o : Oper} {a : Act} {Q : Exit → Act → World → Prop} {W : World}
theorem YP (hw : Region.wanted o (yielded ops a.tmps) = true) (h : wpList P ops Q ({ o with guard := none } :: rest) a W) : wpList P ops Q (o :: rest) a W := by
 have h1 : Region.wanted { o with guard := none } (yielded ops a.tmps) = true := rfl
 unfold wpList at h ⊢
 rw [if_pos h1] at h
 rw [if_pos hw]
 exact h
end
end Go.Proofs.YtbpbfboaofkpaaaDoorW.PrintWords
end
section
namespace Go.Proofs.YtbpbfboaofkpaaaDoorW.PrintMore
open Go.RowKit Go.Proofs.YtbpbfboaofkpaaaDoorW.PrintWords
theorem max2_int (k k' : IntKind) (x y : Int) : Builtin.max2 (.int k x) (.int k' y) = pure (.int k (if x < y then y else x)) := by simp only [Builtin.max2, gt_iff_lt]
theorem min2_int (k k' : IntKind) (x y : Int) : Builtin.min2 (.int k x) (.int k' y) = pure (.int k (if y < x then y else x)) := by simp only [Builtin.min2]
theorem max_two (ats : Array TypeId) (ty : TypeId) (a b : Value) : Builtin.max_ ats ty #[a, b] = (Builtin.max2 a b >>= fun s => pure s) := by simp only [Builtin.max_, List.foldlM_cons, List.foldlM_nil]
theorem min_two (ats : Array TypeId) (ty : TypeId) (a b : Value) : Builtin.min_ ats ty #[a, b] = (Builtin.min2 a b >>= fun s => pure s) := by simp only [Builtin.min_, List.foldlM_cons, List.foldlM_nil]
theorem max_three (ats : Array TypeId) (ty : TypeId) (a b c : Value) : Builtin.max_ ats ty #[a, b, c] = (Builtin.max2 a b >>= fun s => Builtin.max2 s c >>= fun s => pure s) := by simp only [Builtin.max_, List.foldlM_cons, List.foldlM_nil]
theorem min_three (ats : Array TypeId) (ty : TypeId) (a b c : Value) : Builtin.min_ ats ty #[a, b, c] = (Builtin.min2 a b >>= fun s => Builtin.min2 s c >>= fun s => pure s) := by simp only [Builtin.min_, List.foldlM_cons, List.foldlM_nil]
theorem max_four (ats : Array TypeId) (ty : TypeId) (a b c d : Value) : Builtin.max_ ats ty #[a, b, c, d] = (Builtin.max2 a b >>= fun s => Builtin.max2 s c >>= fun s => Builtin.max2 s d >>= fun s => pure s) := by simp only [Builtin.max_, List.foldlM_cons, List.foldlM_nil]
theorem min_four (ats : Array TypeId) (ty : TypeId) (a b c d : Value) : Builtin.min_ ats ty #[a, b, c, d] = (Builtin.min2 a b >>= fun s => Builtin.min2 s c >>= fun s => Builtin.min2 s d >>= fun s => pure s) := by simp only [Builtin.min_, List.foldlM_cons, List.foldlM_nil]
end Go.Proofs.YtbpbfboaofkpaaaDoorW.PrintMore
end
section
namespace Go.Proofs.YtbpbfboaofkpaaaDoorW.PrintWords
open Go.RowKit
section
variable {P : Program} {ops : Array Oper} {rest : List Oper} {o : Oper} {a : Act} {Q : Exit → Act → World → Prop} {W : World}
theorem Ya {f : FuncId} {as_ : Array Operand} {ts : Array TypeId} (_ho : o.op = .call { callee := .value (.func f), args := as_, argTypes := ts }) (h : wpList P ops Q (o :: rest) a W) : wpList P ops Q (o :: rest) a W := h
end
end Go.Proofs.YtbpbfboaofkpaaaDoorW.PrintWords
end
section
namespace Go.Proofs.YtbpbfboaofkpaaaDoorW.PrintWords
open Go.RowKit
theorem Y3d (w : World) (n : Nat) : w.drewN n = w.drewN n := rfl
end Go.Proofs.YtbpbfboaofkpaaaDoorW.PrintWords
end
section
namespace Go.Proofs.YtbpbfboaofkpaaaDoorW.PrintLast
open Go.Proofs.YtbpbfboaofkpaaaDoorW.PrintWords Go.RowKit
section
variable {P : Program} {ops : Array Oper} {Q : Exit → Act → World → Prop} {md : Region.Mode} {S : World → Prop} {ds : List Nat} {oi : Oper} {v : Value} {fuel : Nat} {l : Array Bool} {a a' : Act} {w : World}
theorem pY (i n : Nat) (l' : Array Bool) (h : Yw P md ops Q S ds fuel l' a' w)
  (hi : ops[i]? = some oi := by rfl) (hN : oi.dst = some n := by rfl) (hc : anyB md ops l l' i = true := by exact any_of HT_.out Z7) (hQ : ∀ c a w, Q (.panic c) (a.put oi.dst v) w → Q (.panic c) a w := by exact fun _ _ _ h => h)
  (hy : Yields P ops oi v a := by exact Or.inl ⟨by rfl, by intro w'; go_simp; with_reducible rfl⟩)
  (ha : a.put (some n) v = a' := by simp only [Act.put, List.setIfInBounds_toArray, List.set_cons_zero, List.set_cons_succ, YI, YJ]; rfl) : Yw P md ops Q S ds (fuel + 1) l a w := Y2h l' hi hN hc hQ hy ha h
theorem pU (i n : Nat) (l' : Array Bool) (h : Yw P md ops Q S ds fuel l' a' w)
  (hi : ops[i]? = some oi := by rfl) (hN : oi.dst = some n := by rfl) (hc : anyB md ops l l' i = true := by exact any_of HT_.out Z7) (hQ : ∀ c a w, Q (.panic c) (a.put oi.dst undef) w → Q (.panic c) a w := by exact fun _ _ _ h => h)
  (hy : Yields P ops oi undef a := by exact Or.inr ⟨by rfl, rfl⟩)
  (ha : a.put (some n) undef = a' := by simp only [Act.put, List.setIfInBounds_toArray, List.set_cons_zero, List.set_cons_succ, YI, YJ]; rfl) : Yw P md ops Q S ds (fuel + 1) l a w := Y2h l' hi hN hc hQ hy ha h
theorem pT (i n : Nat) (l' : Array Bool) (h : Yw P md ops Q S ds fuel l' a' w)
  (hi : ops[i]? = some oi := by rfl) (hN : oi.dst = some n := by rfl) (hc : Y4D md ops ds l l' i = true := by exact take_ofW HT_.out HW_.out Z7) (hQ : ∀ c a w, Q (.panic c) (a.put oi.dst v) w → Q (.panic c) a w := by exact fun _ _ _ h => h)
  (hy : YieldsIf P ops S oi v a := by exact Or.inl ⟨by rfl, by first | (rintro w' ⟨s0, s1, s2, s3⟩; go_simp; with_reducible rfl) | (intro w' hs_; (repeat (cases hs_ with | intro a_ hs_ => skip)); go_simp; with_reducible rfl)⟩) (hS : S w := by exact hHeld)
  (ha : a.put (some n) v = a' := by simp only [Act.put, List.setIfInBounds_toArray, List.set_cons_zero, List.set_cons_succ, YI, YJ]; rfl) : Yw P md ops Q S ds (fuel + 1) l a w := Y29 l' hi hN hc hQ hy hS ha h
end
end Go.Proofs.YtbpbfboaofkpaaaDoorW.PrintLast
end
section
namespace Go.Proofs.YtbpbfboaofkpaaaDoorW.PrintLast
open Go.Proofs.YtbpbfboaofkpaaaDoorW.PrintWords Go.RowKit
theorem cells1 {w : World} {g : Nat} {a : Value} {t : TypeId} (h : w.heap[g]? = some (.cells #[a] t (0, 0))) : w.cell? ⟨g, 0, none⟩ = some a ∧ w.frozen? ⟨g, 0, none⟩ = false := ⟨Y1 h 0, Yv h 0⟩
theorem Y1e {w : World} {g : Nat} {a b : Value} {t : TypeId} (h : w.heap[g]? = some (.cells #[a, b] t (0, 0))) : w.cell? ⟨g, 0, none⟩ = some a ∧ w.cell? ⟨g, 1, none⟩ = some b ∧ w.frozen? ⟨g, 0, none⟩ = false ∧ w.frozen? ⟨g, 1, none⟩ = false := ⟨Y1 h 0, Y1 h 1, Yv h 0, Yv h 1⟩
theorem Yr {w : World} {g : Nat} {a b c : Value} {t : TypeId} (h : w.heap[g]? = some (.cells #[a, b, c] t (0, 0))) : w.cell? ⟨g, 0, none⟩ = some a ∧ w.cell? ⟨g, 1, none⟩ = some b ∧ w.cell? ⟨g, 2, none⟩ = some c ∧ w.frozen? ⟨g, 0, none⟩ = false ∧ w.frozen? ⟨g, 1, none⟩ = false ∧ w.frozen? ⟨g, 2, none⟩ = false := ⟨Y1 h 0, Y1 h 1, Y1 h 2, Yv h 0, Yv h 1, Yv h 2⟩
theorem cells4 {w : World} {g : Nat} {a b c d : Value} {t : TypeId} (h : w.heap[g]? = some (.cells #[a, b, c, d] t (0, 0))) : w.cell? ⟨g, 0, none⟩ = some a ∧ w.cell? ⟨g, 1, none⟩ = some b ∧ w.cell? ⟨g, 2, none⟩ = some c ∧ w.cell? ⟨g, 3, none⟩ = some d ∧ w.frozen? ⟨g, 0, none⟩ = false ∧ w.frozen? ⟨g, 1, none⟩ = false ∧ w.frozen? ⟨g, 2, none⟩ = false ∧ w.frozen? ⟨g, 3, none⟩ = false := ⟨Y1 h 0, Y1 h 1, Y1 h 2, Y1 h 3, Yv h 0, Yv h 1, Yv h 2, Yv h 3⟩
section
variable {a b c d e f g h i : Prop}
theorem Y2f (p : a) (q : b) : Y0 a ∧ Y0 b := ⟨⟨p⟩, ⟨q⟩⟩
theorem Y1X (p : a) (q : b) (r : c) : Y0 a ∧ Y0 b ∧ Y0 c := ⟨⟨p⟩, ⟨q⟩, ⟨r⟩⟩
theorem Y1L (p : a) (q : b) (r : c) (s : d) : Y0 a ∧ Y0 b ∧ Y0 c ∧ Y0 d := ⟨⟨p⟩, ⟨q⟩, ⟨r⟩, ⟨s⟩⟩
theorem Y2G (p : a) (q : b) (r : c) (s : d) (t : e) : Y0 a ∧ Y0 b ∧ Y0 c ∧ Y0 d ∧ Y0 e := ⟨⟨p⟩, ⟨q⟩, ⟨r⟩, ⟨s⟩, ⟨t⟩⟩
theorem put7 (p : a) (q : b) (r : c) (s : d) (t : e) (u : f) (v : g) : Y0 a ∧ Y0 b ∧ Y0 c ∧ Y0 d ∧ Y0 e ∧ Y0 f ∧ Y0 g := ⟨⟨p⟩, ⟨q⟩, ⟨r⟩, ⟨s⟩, ⟨t⟩, ⟨u⟩, ⟨v⟩⟩
theorem put8 (p : a) (q : b) (r : c) (s : d) (t : e) (u : f) (v : g) (w : h) : Y0 a ∧ Y0 b ∧ Y0 c ∧ Y0 d ∧ Y0 e ∧ Y0 f ∧ Y0 g ∧ Y0 h := ⟨⟨p⟩, ⟨q⟩, ⟨r⟩, ⟨s⟩, ⟨t⟩, ⟨u⟩, ⟨v⟩, ⟨w⟩⟩
end
end Go.Proofs.YtbpbfboaofkpaaaDoorW.PrintLast
end
section
namespace Go.Proofs.YtbpbfboaofkpaaaDoor.Print
open Go.RowKit Go.Proofs.YtbpbfboaofkpaaaDoorW.PrintWords Go.Proofs.YtbpbfboaofkpaaaDoorW.PrintLast Go.Proofs.YtbpbfboaofkpaaaDoorW.PrintMore
attribute [local go_sem] max2_int min2_int max_two min_two max_three min_three max_four min_four
set_option linter.unusedVariables false
set_option linter.unusedSimpArgs false
def errW : Option Int → Value
 | none => .nilIface
 | some c => .iface 0 (.int .i64 c)
theorem Y1x : errW none = .nilIface := rfl
theorem Y1y (c : Int) : errW (some c) = .iface 0 (.int .i64 c) := rfl
structure S24 where
 f0 : Int
 f1 : ByteArray
 f2 : ByteArray
def z24 : S24 := ⟨(0 : Int), (⟨#[]⟩ : ByteArray), (⟨#[]⟩ : ByteArray)⟩
def k24 : Kd S24 := Kd.iso (Kd.pair (Kd.int .i64) (Kd.pair Kd.string Kd.string)) (fun x : S24 => (x.f0, x.f1, x.f2))
theorem k24_open {w : World} {x : S24} {cs : List Value} (h : k24.K w x cs) : cs = [.int .i64 x.f0, .string x.f1, .string x.f2] := by
 obtain ⟨_, _, rfl, rfl, ⟨_, _, rfl, rfl, rfl⟩⟩ := h
 exact rfl
theorem k24_mkM (w : World) (base : Nat) (ok : Nat → Prop) (x : S24)  : k24.M w base ok x [.int .i64 x.f0, .string x.f1, .string x.f2] := ⟨[.int .i64 x.f0], [.string x.f1, .string x.f2], rfl, rfl, ⟨[.string x.f1], [.string x.f2], rfl, rfl, rfl⟩⟩
def Y1z (xs : List S24) (i : Int) : S24 := xs.getD i.toNat z24
theorem Y3I {w : World} {A : Option Addr} {n : Nat} {xs : List S24} (h : Kd.C k24 w A n xs) (i : Int) (h0 : 0 ≤ i) (h1 : i < n) : ∃ ad , A = some ad ∧ w.cell? (ad.add (i.toNat * 3)) = some (.int .i64 (Y1z xs i).f0) ∧ w.cell? ⟨(ad.add (i.toNat * 3)).block, (ad.add (i.toNat * 3)).off + 1, none⟩ = some (.string (Y1z xs i).f1) ∧ w.cell? ⟨(ad.add (i.toNat * 3)).block, (ad.add (i.toNat * 3)).off + 2, none⟩ = some (.string (Y1z xs i).f2) := by
 obtain ⟨ad, c, e, _, hK, hc0⟩ := Kd.C_get h z24 i h0 h1
 have hc : ∀ j u, c[j]? = some u → w.cell? (ad.add (i.toNat * 3 + j)) = some u := hc0
 obtain rfl := k24_open hK
 exact ⟨ad, e, hc 0 _ rfl, by rw [← Y3G _ _ 1 (by omega)]; exact hc 1 _ rfl, by rw [← Y3G _ _ 2 (by omega)]; exact hc 2 _ rfl⟩
structure S37 where
 f0 : Int
 f1 : ByteArray
 f2 : (List ByteArray)
 f3 : (List S37)
def z37 : S37 := ⟨(0 : Int), (⟨#[]⟩ : ByteArray), ([] : List ByteArray), ([] : List S37)⟩
end Go.Proofs.YtbpbfboaofkpaaaDoor.Print
end
section
set_option linter.unusedVariables false
namespace Go.Proofs.YtbpbfboaofkpaaaDoor
open Go.Joins Go.ChangeShapes Go.WideShapes Go.ChangeAt Go.RowKit Go.Shelf Go.Deep Go.Proofs.YtbpbfboaofkpaaaDoorW.PrintWords Go.Proofs.YtbpbfboaofkpaaaDoor.Print
theorem Y4m : laidOutB Tryd.prog = true := by kernel_rfl
section
variable {H : Type} {enc : TypeId × Value → H} {W : World}
set_option maxRecDepth 100000 in
theorem Y3T {r : Reach} {b0 : Nat} {v : Value} {d : DataW H} {ps : List MemPlace} (hv : Value.okWide Tryd.prog W r b0 24 v) (h : DataW.Trod enc Tryd.prog W 0 (fun _ => true) true 24 v d ps) :
  ∃ (p : S24), v = .agg #[.int .i64 p.f0, .string p.f1, .string p.f2] := by
 have c3 : Tryd.prog.cellsOf 24 = 3 := by kernel_rfl
 obtain ⟨v0, v1, v2, y0, y1, y2, n, rfl, _, _, e0, e1, e2⟩ := open_agg3 Tryd.underlying24 Z7 c3 hv h
 obtain ⟨k, hk, _, _⟩ := DataW.trod_int Tryd.underlying3 e0
 obtain ⟨s, hs, _, _⟩ := DataW.trod_string Tryd.underlying9 e1
 obtain ⟨t, ht, _, _⟩ := DataW.trod_string Tryd.underlying9 e2
 simp only [List.cons.injEq, and_true] at hk hs ht
 subst hk; subst hs; subst ht
 exact ⟨⟨k, s, t⟩, rfl⟩
end
end Go.Proofs.YtbpbfboaofkpaaaDoor
end
section
namespace Go.Proofs.YtbpbfboaofkpaaaDoor.Print
open Go.RowKit Go.Proofs.YtbpbfboaofkpaaaDoorW.PrintWords Go.Proofs.YtbpbfboaofkpaaaDoorW.PrintLast Go.Proofs.YtbpbfboaofkpaaaDoorW.PrintMore
attribute [local go_sem] max2_int min2_int max_two min_two max_three min_three max_four min_four
set_option linter.unusedVariables false
set_option linter.unusedSimpArgs false
theorem eqA24 (d : Nat) (w : World) (x0 y0 : Int) (x1 y1 : ByteArray) (x2 y2 : ByteArray) :
  (Op.equalIn (d + 2) 24 (.agg #[.int .i64 x0, .string x1, .string x2]) (.agg #[.int .i64 y0, .string y1, .string y2])).run Tryd.prog w = .ok (x0 == y0 && (x1.toList == y1.toList && (x2.toList == y2.toList))) w := by
 refine eqA_of Tryd.underlying24 Z7 ?_
 refine Y4j (by rfl) ZG ZG (by go_simp) ?_
 refine Y4j (by rfl) ZG ZG (by go_simp) ?_
 exact eqf_last (by rfl) ZG ZG (by go_simp)
def Yq.f (a0 : ByteArray) : Option (Bool) := some (a0.toList != a0.toList)
set_option maxHeartbeats 8000000 in
set_option maxRecDepth 100000 in
theorem Yq.calls (a0 : ByteArray) (r : Bool) (w : World) (h : Yq.f a0 = some r) :
  Calls Tryd.prog 91 #[.string a0] w fun e w' => e = .returned (.bool r) ∧ YO w w' := by
 have H : (some (a0.toList != a0.toList)) = some r := h
 clear h
 obtain rfl := Option.some.inj H
 go_enter Tryd.func91, Tryd.ntmps91
 go_wp2
 go_ret
 exact ZX
def YF.f (a0 : ByteArray) (a1 : ByteArray) : Option (Int) := (Yq.f a0).bind fun t101 => ((Yq.f a1).bind fun t102 => (if t101 = true then (if t102 = true then (some 0) else (some (-1))) else (if t102 = true then (some 1) else (if (Op.bytesLess a0.toList a1.toList) = true then (some (-1)) else (if a0.toList = a1.toList then (some 0) else (some 1))))))
set_option maxHeartbeats 8000000 in
set_option maxRecDepth 100000 in
theorem YF.calls (a0 : ByteArray) (a1 : ByteArray) (r : Int) (w : World) (h : YF.f a0 a1 = some r) :
  Calls Tryd.prog 48 #[.string a0, .string a1] w fun e w' => e = .returned (.int .i64 r) ∧ YO w w' := by
 have H : ((Yq.f a0).bind fun t101 => ((Yq.f a1).bind fun t102 => (if t101 = true then (if t102 = true then (some 0) else (some (-1))) else (if t102 = true then (some 1) else (if (Op.bytesLess a0.toList a1.toList) = true then (some (-1)) else (if a0.toList = a1.toList then (some 0) else (some 1))))))) = some r := h
 clear h
 replace H := Option.bind_eq_some_iff.mp H
 obtain ⟨t101, A30, H⟩ := H
 replace H : ((Yq.f a1).bind fun t102 => (if t101 = true then (if t102 = true then (some 0) else (some (-1))) else (if t102 = true then (some 1) else (if (Op.bytesLess a0.toList a1.toList) = true then (some (-1)) else (if a0.toList = a1.toList then (some 0) else (some 1)))))) = some r := H
 have A3 := Y0.mk A30
 clear A30
 replace H := Option.bind_eq_some_iff.mp H
 obtain ⟨t102, A40, H⟩ := H
 replace H : (if t101 = true then (if t102 = true then (some 0) else (some (-1))) else (if t102 = true then (some 1) else (if (Op.bytesLess a0.toList a1.toList) = true then (some (-1)) else (if a0.toList = a1.toList then (some 0) else (some 1))))) = some r := H
 have A4 := Y0.mk A40
 clear A40
 by_cases c5 : t101 = true
 ·subst c5
  have H1 : (if t102 = true then (some 0) else (some (-1))) = some r := by rw [if_pos rfl] at H; exact H
  clear H
  have H := H1
  clear H1
  by_cases c6 : t102 = true
  ·subst c6
   have H1 : (some 0) = some r := by rw [if_pos rfl] at H; exact H
   clear H
   have H := H1
   clear H1
   obtain rfl := Option.some.inj H
   go_enter Tryd.func48, Tryd.ntmps48
   go_wp2_with (first | ((with_reducible refine Ya (f := 91) rfl ?_); refine Yu (some 8) rfl rfl Tryd.func91 Z7 rfl #[.string a0] rfl Z0 ?_; (with_reducible refine (Yq.calls a0 true _ A3.out).mono ?_); rintro e w' ⟨rfl, ⟨nd, rfl⟩⟩; refine ⟨_, rfl, ?_⟩) | ((with_reducible refine Ya (f := 91) rfl ?_); refine Yu (some 10) rfl rfl Tryd.func91 Z7 rfl #[.string a1] rfl Z0 ?_; (with_reducible refine (Yq.calls a1 true _ A4.out).mono ?_); rintro e w' ⟨rfl, ⟨nd, rfl⟩⟩; refine ⟨_, rfl, ?_⟩))
   go_ret
   exact ZX
  ·replace c6 := Bool.eq_false_iff.mpr c6
   subst c6
   have H1 : (some (-1)) = some r := by rw [if_neg (show ¬ (false = true) by decide)] at H; exact H
   clear H
   have H := H1
   clear H1
   obtain rfl := Option.some.inj H
   go_enter Tryd.func48, Tryd.ntmps48
   go_wp2_with (first | ((with_reducible refine Ya (f := 91) rfl ?_); refine Yu (some 8) rfl rfl Tryd.func91 Z7 rfl #[.string a0] rfl Z0 ?_; (with_reducible refine (Yq.calls a0 true _ A3.out).mono ?_); rintro e w' ⟨rfl, ⟨nd, rfl⟩⟩; refine ⟨_, rfl, ?_⟩) | ((with_reducible refine Ya (f := 91) rfl ?_); refine Yu (some 10) rfl rfl Tryd.func91 Z7 rfl #[.string a1] rfl Z0 ?_; (with_reducible refine (Yq.calls a1 false _ A4.out).mono ?_); rintro e w' ⟨rfl, ⟨nd, rfl⟩⟩; refine ⟨_, rfl, ?_⟩))
   go_ret
   exact ZX
 ·replace c5 := Bool.eq_false_iff.mpr c5
  subst c5
  have H1 : (if t102 = true then (some 1) else (if (Op.bytesLess a0.toList a1.toList) = true then (some (-1)) else (if a0.toList = a1.toList then (some 0) else (some 1)))) = some r := by rw [if_neg (show ¬ (false = true) by decide)] at H; exact H
  clear H
  have H := H1
  clear H1
  by_cases c7 : t102 = true
  ·subst c7
   have H1 : (some 1) = some r := by rw [if_pos rfl] at H; exact H
   clear H
   have H := H1
   clear H1
   obtain rfl := Option.some.inj H
   go_enter Tryd.func48, Tryd.ntmps48
   go_wp2_with (first | ((with_reducible refine Ya (f := 91) rfl ?_); refine Yu (some 8) rfl rfl Tryd.func91 Z7 rfl #[.string a0] rfl Z0 ?_; (with_reducible refine (Yq.calls a0 false _ A3.out).mono ?_); rintro e w' ⟨rfl, ⟨nd, rfl⟩⟩; refine ⟨_, rfl, ?_⟩) | ((with_reducible refine Ya (f := 91) rfl ?_); refine Yu (some 10) rfl rfl Tryd.func91 Z7 rfl #[.string a1] rfl Z0 ?_; (with_reducible refine (Yq.calls a1 true _ A4.out).mono ?_); rintro e w' ⟨rfl, ⟨nd, rfl⟩⟩; refine ⟨_, rfl, ?_⟩))
   go_ret
   exact ZX
  ·replace c7 := Bool.eq_false_iff.mpr c7
   subst c7
   have H1 : (if (Op.bytesLess a0.toList a1.toList) = true then (some (-1)) else (if a0.toList = a1.toList then (some 0) else (some 1))) = some r := by rw [if_neg (show ¬ (false = true) by decide)] at H; exact H
   clear H
   have H := H1
   clear H1
   by_cases c8 : (Op.bytesLess a0.toList a1.toList) = true
   ·rw [if_pos c8] at H
    have c8b0 : (Op.bytesLess a0.toList a1.toList) = true := c8
    clear c8
    obtain rfl := Option.some.inj H
    go_enter Tryd.func48, Tryd.ntmps48
    go_wp2_with (first | ((with_reducible refine Ya (f := 91) rfl ?_); refine Yu (some 8) rfl rfl Tryd.func91 Z7 rfl #[.string a0] rfl Z0 ?_; (with_reducible refine (Yq.calls a0 false _ A3.out).mono ?_); rintro e w' ⟨rfl, ⟨nd, rfl⟩⟩; refine ⟨_, rfl, ?_⟩) | ((with_reducible refine Ya (f := 91) rfl ?_); refine Yu (some 10) rfl rfl Tryd.func91 Z7 rfl #[.string a1] rfl Z0 ?_; (with_reducible refine (Yq.calls a1 false _ A4.out).mono ?_); rintro e w' ⟨rfl, ⟨nd, rfl⟩⟩; refine ⟨_, rfl, ?_⟩))
    go_ret
    exact ZX
   ·rw [if_neg c8] at H
    have c8b0 : (Op.bytesLess a0.toList a1.toList) = false := by simpa using c8
    clear c8
    by_cases c9 : a0.toList = a1.toList
    ·rw [if_pos c9] at H
     have c9b0 : (a0.toList == a1.toList) = true := beq_iff_eq.mpr c9
     have c9b1 : (a0.toList != a1.toList) = false := bne_eq_false_iff_eq.mpr c9
     clear c9
     obtain rfl := Option.some.inj H
     go_enter Tryd.func48, Tryd.ntmps48
     go_wp2_with (first | ((with_reducible refine Ya (f := 91) rfl ?_); refine Yu (some 8) rfl rfl Tryd.func91 Z7 rfl #[.string a0] rfl Z0 ?_; (with_reducible refine (Yq.calls a0 false _ A3.out).mono ?_); rintro e w' ⟨rfl, ⟨nd, rfl⟩⟩; refine ⟨_, rfl, ?_⟩) | ((with_reducible refine Ya (f := 91) rfl ?_); refine Yu (some 10) rfl rfl Tryd.func91 Z7 rfl #[.string a1] rfl Z0 ?_; (with_reducible refine (Yq.calls a1 false _ A4.out).mono ?_); rintro e w' ⟨rfl, ⟨nd, rfl⟩⟩; refine ⟨_, rfl, ?_⟩))
     go_ret
     exact ZX
    ·rw [if_neg c9] at H
     have c9b0 : (a0.toList == a1.toList) = false := beq_eq_false_iff_ne.mpr c9
     have c9b1 : (a0.toList != a1.toList) = true := bne_iff_ne.mpr c9
     obtain rfl := Option.some.inj H
     go_enter Tryd.func48, Tryd.ntmps48
     go_wp2_with (first | ((with_reducible refine Ya (f := 91) rfl ?_); refine Yu (some 8) rfl rfl Tryd.func91 Z7 rfl #[.string a0] rfl Z0 ?_; (with_reducible refine (Yq.calls a0 false _ A3.out).mono ?_); rintro e w' ⟨rfl, ⟨nd, rfl⟩⟩; refine ⟨_, rfl, ?_⟩) | ((with_reducible refine Ya (f := 91) rfl ?_); refine Yu (some 10) rfl rfl Tryd.func91 Z7 rfl #[.string a1] rfl Z0 ?_; (with_reducible refine (Yq.calls a1 false _ A4.out).mono ?_); rintro e w' ⟨rfl, ⟨nd, rfl⟩⟩; refine ⟨_, rfl, ?_⟩))
     go_ret
     exact ZX
end Go.Proofs.YtbpbfboaofkpaaaDoor.Print
end
section
set_option linter.unusedVariables false
namespace Go.Proofs.YtbpbfboaofkpaaaDoor.Print
open Go.RowKit Go.Shelf Go.Lib
def YG (r : Nat) : Bool := (decide (33 ≤ r) && decide (r ≤ 126) && r != 34 && r != 60 && r != 62 && r != 92 && r != 94 && r != 96 && r != 123 && r != 124 && r != 125) || decide (160 ≤ r)
def Y2D (r : Nat) : Bool := decide (97 ≤ r) && decide (r ≤ 122)
def Y2z (r : Nat) : Bool := decide (48 ≤ r) && decide (r ≤ 57)
def Y1l (r : Nat) : Bool := Y2D r || (decide (65 ≤ r) && decide (r ≤ 90)) || Y2z r
theorem iri_mid : ∀ x : Fin 128, 33 ≤ x.val → x.val ≤ 126 → (!decide (0 ≤ Lib.indexByte [34, 60, 62, 92, 94, 96, 123, 124, 125] x.val.toUInt8)) = YG x.val := by decide +kernel
theorem iri_lo {x : Nat} (h : x ≤ 32) : YG x = false := by
 have a : ¬ 33 ≤ x := by omega
 have b : ¬ 160 ≤ x := by omega
 simp [YG, a, b]
theorem iri_hi {x : Nat} (h : 127 ≤ x) : YG x = decide (160 ≤ x) := by
 have b : ¬ x ≤ 126 := by omega
 simp [YG, b]
theorem Y4a (w : World) : PredGrows Tryd.prog 71 #[] YG w := by
 intro W x hx hb
 show Calls Tryd.prog 71 #[.int .i32 (x : Int)] W _
 rcases Nat.lt_or_ge 32 x with h1 | h1
 ·rcases Nat.lt_or_ge x 127 with h2 | h2
  ·have e1 := iri_mid ⟨x, by omega⟩ (by show 33 ≤ x; omega) (by show x ≤ 126; omega)
   have e1 : (!decide (0 ≤ Lib.indexByte [34, 60, 62, 92, 94, 96, 123, 124, 125] x.toUInt8)) = YG x := e1
   have h3 : (32 : Int) < (x : Int) := by omega
   have h4 : (x : Int) < 127 := by omega
   have h5 : decide ((160 : Int) ≤ (x : Int)) = false := decide_eq_false (by omega)
   generalize hv : Lib.indexByte [34, 60, 62, 92, 94, 96, 123, 124, 125] x.toUInt8 = v at e1
   have hc : ∀ w2 : World, Calls Tryd.prog 106 #[.string ⟨#[34, 60, 62, 92, 94, 96, 123, 124, 125]⟩, .int .i32 (x : Int)] w2 fun e w' => e = .returned (.bool (decide (0 ≤ v))) ∧ w2 = w' := by
    intro w2
    have := Tryd.strings_ContainsRune_ascii ⟨#[34, 60, 62, 92, 94, 96, 123, 124, 125]⟩ (x : Int) w2 (by omega) (by omega)
    rw [Int.toNat_natCast] at this
    exact this.mono fun e w' ⟨he, hw⟩ => ⟨by rw [he, ← hv], hw.symm⟩
   clear hv
   by_cases h6 : 0 ≤ v
   ·have e2 : YG x = false := by rw [← e1]; simp [h6]
    rw [e2]
    clear e1 e2
    have h7 : decide (0 ≤ v) = true := decide_eq_true h6
    rw [h7] at hc
    clear h7 h6
    have HC := Lib.hid hc
    clear hc
    go_enter Tryd.func71, Tryd.ntmps71
    go_wp2_with (go_at_call 106; refine (HC.out _).mono ?_; rintro e w' ⟨rfl, rfl⟩)
    go_ret
    exact Zq
   ·have e2 : YG x = true := by rw [← e1]; simp [h6]
    rw [e2]
    clear e1 e2
    have h7 : decide (0 ≤ v) = false := decide_eq_false h6
    rw [h7] at hc
    clear h7 h6
    have HC := Lib.hid hc
    clear hc
    go_enter Tryd.func71, Tryd.ntmps71
    go_wp2_with (go_at_call 106; refine (HC.out _).mono ?_; rintro e w' ⟨rfl, rfl⟩)
    go_ret
    exact Zq
  ·rw [iri_hi h2]
   have h3 : (32 : Int) < (x : Int) := by omega
   have h4 : ¬ (x : Int) < 127 := by omega
   by_cases h5 : 160 ≤ x
   ·have h6 : (160 : Int) ≤ (x : Int) := by omega
    rw [decide_eq_true h5]
    clear h5
    go_enter Tryd.func71, Tryd.ntmps71
    go_wp2
    go_ret
    exact Zq
   ·have h6 : ¬ (160 : Int) ≤ (x : Int) := by omega
    rw [decide_eq_false h5]
    clear h5
    go_enter Tryd.func71, Tryd.ntmps71
    go_wp2
    go_ret
    exact Zq
 ·rw [iri_lo h1]
  have h3 : ¬ (32 : Int) < (x : Int) := by omega
  have h5 : ¬ (160 : Int) ≤ (x : Int) := by omega
  go_enter Tryd.func71, Tryd.ntmps71
  go_wp2
  go_ret
  exact Zq
theorem Y2l (x : Int) (w : World) : Calls Tryd.prog 77 #[.int .i32 x] w fun e w' => e = .returned (.bool (decide (97 ≤ x) && decide (x ≤ 122))) ∧ w = w' := by
 by_cases h1 : 97 ≤ x
 ·by_cases h2 : x ≤ 122
  all_goals
   simp only [h1, h2, decide_true, decide_false, Bool.and_true, Bool.and_false]
   go_enter Tryd.func77, Tryd.ntmps77
   go_wp2
   go_ret
   exact ZE
 ·simp only [h1, decide_false, Bool.false_and]
  go_enter Tryd.func77, Tryd.ntmps77
  go_wp2
  go_ret
  exact ZE
theorem Y2k (x : Int) (w : World) : Calls Tryd.prog 74 #[.int .i32 x] w fun e w' => e = .returned (.bool (decide (48 ≤ x) && decide (x ≤ 57))) ∧ w = w' := by
 by_cases h1 : 48 ≤ x
 ·by_cases h2 : x ≤ 57
  all_goals
   simp only [h1, h2, decide_true, decide_false, Bool.and_true, Bool.and_false]
   go_enter Tryd.func74, Tryd.ntmps74
   go_wp2
   go_ret
   exact ZE
 ·simp only [h1, decide_false, Bool.false_and]
  go_enter Tryd.func74, Tryd.ntmps74
  go_wp2
  go_ret
  exact ZE
theorem Y30 (x : Int) (w : World) : Calls Tryd.prog 73 #[.int .i32 x] w fun e w' => e = .returned (.bool ((decide (97 ≤ x) && decide (x ≤ 122)) || (decide (65 ≤ x) && decide (x ≤ 90)))) ∧ w = w' := by
 obtain ⟨b, hb⟩ : ∃ b, (decide (97 ≤ x) && decide (x ≤ 122)) = b := ⟨_, rfl⟩
 have hs := fun w => Y2l x w
 rw [hb] at hs ⊢
 clear hb
 cases b
 ·by_cases h1 : 65 ≤ x
  ·obtain ⟨c, hc⟩ : ∃ c, decide (x ≤ 90) = c := ⟨_, rfl⟩
   have h1' : decide (65 ≤ x) = true := decide_eq_true h1
   rw [hc, h1']
   clear h1
   cases c
   all_goals
    simp only [Bool.and_true, Bool.and_false, Bool.false_or, Bool.or_self, Bool.and_self]
    have HC := Lib.hid hs
    clear hs
    go_enter Tryd.func73, Tryd.ntmps73
    go_wp2_with (go_at_call 77; refine (HC.out _).mono ?_; rintro e w' ⟨rfl, rfl⟩)
    go_ret
    exact ZE
  ·simp only [h1, decide_false, Bool.false_and, Bool.or_self]
   have HC := Lib.hid hs
   clear hs
   go_enter Tryd.func73, Tryd.ntmps73
   go_wp2_with (go_at_call 77; refine (HC.out _).mono ?_; rintro e w' ⟨rfl, rfl⟩)
   go_ret
   exact ZE
 ·simp only [Bool.true_or]
  have HC := Lib.hid hs
  clear hs
  go_enter Tryd.func73, Tryd.ntmps73
  go_wp2_with (go_at_call 77; refine (HC.out _).mono ?_; rintro e w' ⟨rfl, rfl⟩)
  go_ret
  exact ZE
theorem alnum_int (x : Nat) : Y1l x = (((decide (97 ≤ (x : Int)) && decide ((x : Int) ≤ 122)) || (decide (65 ≤ (x : Int)) && decide ((x : Int) ≤ 90))) || (decide (48 ≤ (x : Int)) && decide ((x : Int) ≤ 57))) := by
 unfold Y1l Y2D Y2z
 congr 1
 ·congr 1
  ·congr 1 <;> exact decide_eq_decide.2 (by omega)
  ·congr 1 <;> exact decide_eq_decide.2 (by omega)
 ·congr 1 <;> exact decide_eq_decide.2 (by omega)
theorem Y4b (w : World) : PredGrows Tryd.prog 72 #[] Y1l w := by
 intro W x hx hb
 show Calls Tryd.prog 72 #[.int .i32 (x : Int)] W _
 rw [alnum_int]
 have h1 := fun w => Y30 (x : Int) w
 have h2 := fun w => Y2k (x : Int) w
 generalize ((decide (97 ≤ (x : Int)) && decide ((x : Int) ≤ 122)) || (decide (65 ≤ (x : Int)) && decide ((x : Int) ≤ 90))) = a at h1 ⊢
 generalize (decide (48 ≤ (x : Int)) && decide ((x : Int) ≤ 57)) = b at h2 ⊢
 have H1 := Lib.hid h1
 have H2 := Lib.hid h2
 clear h1 h2
 cases a
 ·cases b
  all_goals
   go_enter Tryd.func72, Tryd.ntmps72
   go_wp2_with (first | (go_at_call 73; refine (H1.out _).mono ?_; rintro e w' ⟨rfl, rfl⟩) | (go_at_call 74; refine (H2.out _).mono ?_; rintro e w' ⟨rfl, rfl⟩))
   go_ret
   exact Zq
 ·go_enter Tryd.func72, Tryd.ntmps72
  go_wp2_with (first | (go_at_call 73; refine (H1.out _).mono ?_; rintro e w' ⟨rfl, rfl⟩) | (go_at_call 74; refine (H2.out _).mono ?_; rintro e w' ⟨rfl, rfl⟩))
  go_ret
  exact Zq
def YU (p : Nat → Bool) (s : ByteArray) : Bool := !decide (0 ≤ Lib.idxFunc (fun r => !p r) true s)
theorem all1_pays (g : Nat) (lb : Array Value) (eg : ∀ args w, (callFunc g args).run Tryd.prog w = .ok (.enter g args) w) (p : Nat → Bool) (w : World) (B : Nat) (hB : B < w.heap.size) (hp : PredGrows Tryd.prog g lb p w) (hc : w.cell? ⟨B, 0, none⟩ = some (.func (.func g) #[] lb)) :
  PredGrows Tryd.prog 105 #[.pointer (some ⟨B, 0, none⟩)] (fun r => !p r) w := by
 intro W x hx hb
 have hc' := (hb.cell (p := ⟨B, 0, none⟩) hB).trans hc
 have hq := fun W' (h : Below w.heap.size w W') => hp W' x hx h
 have HQ := Lib.hid hq
 have HB := Lib.hid hb
 clear hq hc hp hb
 show Calls Tryd.prog 105 #[.int .i32 (x : Int), .pointer (some ⟨B, 0, none⟩)] W fun e w' => e = .returned (.bool (!p x)) ∧ Below W.heap.size W w'
 generalize p x = b at HQ ⊢
 go_enter Tryd.func105, Tryd.ntmps105
 go_wp2_with (go_at_fn g; refine (HQ.out _ HB.out).mono ?_; rintro e w' ⟨rfl, hb2⟩)
 go_ret
 exact ⟨rfl, hb2⟩
end Go.Proofs.YtbpbfboaofkpaaaDoor.Print
end
section
set_option linter.unusedVariables false
set_option linter.unusedSimpArgs false
namespace Go.Proofs.YtbpbfboaofkpaaaDoor.Print
open Go.RowKit Go.Shelf Go.Lib
def Y1j (s : ByteArray) : Nat → Nat → List Nat
 | 0, _ => []
 | b + 1, i => if i < s.size then (Utf8.decode s i).1 :: Y1j s b (i + (Utf8.decode s i).2) else []
theorem Y1V (s : ByteArray) : ∀ b i, (Y1j s b i).length ≤ b
 | 0, _ => Nat.le_refl _
 | b + 1, i => by
  unfold Y1j
  split
  ·have := Y1V s b (i + (Utf8.decode s i).2); simp; omega
  ·simp
theorem Y2C (s : ByteArray) : ∀ b i (acc : Array Value), (Conv.runesFrom s b i acc).toList = acc.toList ++ (Y1j s b i).map fun n : Nat => Value.int .i32 (Int.ofNat n)
 | 0, _, acc => by simp [Conv.runesFrom, Y1j]
 | b + 1, i, acc => by
  unfold Conv.runesFrom Y1j
  split
  ·rw [Y2C s b]; simp
  ·simp
theorem idx_all (p : Nat → Bool) (s : ByteArray) : ∀ f pos, decide (0 ≤ Lib.idxFuncFrom (fun r => !p r) true s f pos) = !(Y1j s f pos).all p
 | 0, pos => by simp [Lib.idxFuncFrom, Y1j]
 | f + 1, pos => by
  unfold Lib.idxFuncFrom Y1j
  by_cases h : pos < s.size
  ·simp only [h, if_true]
   by_cases hp : p (Utf8.decode s pos).1 = true
   ·simp only [hp, Bool.not_true, Bool.false_eq_true, if_false, List.all_cons, Bool.true_and]
    exact idx_all p s f _
   ·have hp' : p (Utf8.decode s pos).1 = false := by simpa using hp
    simp [hp']
  ·simp [h]
theorem Y2J (p : Nat → Bool) (s : ByteArray) : YU p s = (Y1j s s.size 0).all p := by
 unfold YU Lib.idxFunc
 rw [idx_all]; simp
theorem cell_blk {W : World} {g : Nat} {cs : Array Value} {t : TypeId} {fr : Nat × Nat} (h : W.heap[g]? = some (.cells cs t fr)) (j : Nat) : W.cell? ⟨g, j, none⟩ = cs[j]? := by simp [World.cell?, h]
theorem Y4C (s : ByteArray) (h : s.size ≤ 1000000) : ∃ (RW : World → World) (CAP : World → Nat),
  (∀ W : World, (convert 9 113 (.string s)).run Tryd.prog W = .ok (.slice (some ⟨W.heap.size, 0, none⟩) (Y1j s s.size 0).length (CAP W)) (RW W)) ∧
  (∀ (W : World) (j : Nat), j < (Y1j s s.size 0).length → (RW W).cell? ⟨W.heap.size, j, none⟩ = some (.int .i32 ((Y1j s s.size 0).getD j 0 : Nat))) ∧
  (∀ W : World, Below W.heap.size W (RW W)) ∧ (∀ W : World, W.heap.size < (RW W).heap.size) := by
 have hl := Y1V s s.size 0
 have e1 := Y2C s s.size 0 #[]
 have e2 : (Conv.runesFrom s s.size 0 #[]).size = (Y1j s s.size 0).length := by rw [← Array.length_toList, e1]; simp
 refine ⟨fun W => W.drew.alloc (.cells (Conv.runesFrom s s.size 0 #[] ++ Array.replicate (grownCap W (Conv.runesFrom s s.size 0 #[]).size 0 21 - (Conv.runesFrom s s.size 0 #[]).size) (.int .i32 0)) 21), fun W => grownCap W (Conv.runesFrom s s.size 0 #[]).size 0 21, fun W => ?_, fun W j hj => ?_, fun W => ?_, fun W => by simp⟩
 ·rw [run_runes_of_string W 9 113 21 s Tryd.underlying9 Tryd.underlying113 Tryd.underlying21 (by omega), e2]
 ·refine (cell_blk (heap_alloc_new W.drew _) j).trans ?_
  have e3 : (Conv.runesFrom s s.size 0 #[])[j]? = some (.int .i32 ((Y1j s s.size 0).getD j 0 : Nat)) := by
   rw [← Array.getElem?_toList, e1]
   simp [List.getElem?_map, List.getElem?_eq_getElem hj]
  have e4 : (Conv.runesFrom s s.size 0 #[] ++ Array.replicate (grownCap W (Conv.runesFrom s s.size 0 #[]).size 0 21 - (Conv.runesFrom s s.size 0 #[]).size) (.int .i32 0))[j]? = some (.int .i32 ((Y1j s s.size 0).getD j 0 : Nat)) := by
   rw [Array.getElem?_append_left (by rw [e2]; exact hj)]; exact e3
  exact e4
 ·exact ((Below.refl _ _).drew).alloc (by simp) _
theorem Y3x (x : Nat) (w : World) : Calls Tryd.prog 89 #[.int .i32 (x : Int)] w fun e w' => e = .returned (.bool (YG x)) ∧ w = w' := by
 by_cases hq : x = 34 ∨ x = 60 ∨ x = 62 ∨ x = 92 ∨ x = 94 ∨ x = 96 ∨ x = 123 ∨ x = 124 ∨ x = 125
 ·rcases hq with rfl | rfl | rfl | rfl | rfl | rfl | rfl | rfl | rfl
  all_goals
   show Calls _ _ _ w fun e w' => e = .returned (.bool false) ∧ _
   go_enter Tryd.func89, Tryd.ntmps89
   go_wp2
   go_ret
   exact ZE
 ·have q : ¬ x = 34 ∧ ¬ x = 60 ∧ ¬ x = 62 ∧ ¬ x = 92 ∧ ¬ x = 94 ∧ ¬ x = 96 ∧ ¬ x = 123 ∧ ¬ x = 124 ∧ ¬ x = 125 := by omega
  have v : YG x = ((decide (33 ≤ x) && decide (x ≤ 126)) || decide (160 ≤ x)) := by
   unfold YG
   have f : ∀ n : Nat, ¬ x = n → (x != n) = true := fun n h => bne_iff_ne.mpr h
   rw [f 34 (by omega), f 60 (by omega), f 62 (by omega), f 92 (by omega), f 94 (by omega), f 96 (by omega), f 123 (by omega), f 124 (by omega), f 125 (by omega)]
   simp
  have f : ∀ n : Int, ¬ (x : Int) = n → ((x : Int) == n) = false := fun n h => beq_eq_false_iff_ne.mpr h
  have f1 := f 34 (by omega)
  have f2 := f 60 (by omega)
  have f3 := f 62 (by omega)
  have f4 := f 92 (by omega)
  have f5 := f 94 (by omega)
  have f6 := f 96 (by omega)
  have f7 := f 123 (by omega)
  have f8 := f 124 (by omega)
  have f9 := f 125 (by omega)
  clear f hq q
  rw [v]
  clear v
  by_cases a1 : 33 ≤ x
  ·rw [decide_eq_true a1]
   have b1 : decide ((33 : Int) ≤ (x : Int)) = true := decide_eq_true (by omega)
   by_cases a2 : x ≤ 126
   ·rw [decide_eq_true a2]
    have b2 : decide ((x : Int) ≤ 126) = true := decide_eq_true (by omega)
    clear a1 a2
    show Calls _ _ _ w fun e w' => e = .returned (.bool true) ∧ _
    go_enter Tryd.func89, Tryd.ntmps89
    go_wp2
    go_ret
    exact ZE
   ·rw [decide_eq_false a2]
    have b2 : decide ((x : Int) ≤ 126) = false := decide_eq_false (by omega)
    obtain ⟨c, hc⟩ : ∃ c, decide (160 ≤ x) = c := ⟨_, rfl⟩
    have b3 : decide ((160 : Int) ≤ (x : Int)) = c := by rw [← hc]; exact decide_eq_decide.2 (by omega)
    rw [hc]
    clear hc a1 a2
    cases c
    all_goals
     go_enter Tryd.func89, Tryd.ntmps89
     go_wp2
     go_ret
     exact ZE
  ·rw [decide_eq_false a1]
   have b1 : decide ((33 : Int) ≤ (x : Int)) = false := decide_eq_false (by omega)
   have b3 : decide ((160 : Int) ≤ (x : Int)) = false := decide_eq_false (by omega)
   rw [decide_eq_false (show ¬ 160 ≤ x by omega)]
   clear a1
   show Calls _ _ _ w fun e w' => e = .returned (.bool false) ∧ _
   go_enter Tryd.func89, Tryd.ntmps89
   go_wp2
   go_ret
   exact ZE
def Y2H (a0 : ByteArray) : Bool := !(!Lib.validD a0.data.toList || decide (a0.size < 1) || decide (60 < a0.size)) && YU YG a0
theorem Y3Y (a0 : ByteArray) (w : World) (hT : Tabs w) (hz : a0.size ≤ 9223372036854775807) :
  Calls Tryd.prog 45 #[.string a0] w fun e w' => e = .returned (.bool (Y2H a0)) ∧ Below w.heap.size w w' := by
 have c1 := fun W (hb : Below w.heap.size w W) => Any.utf8_ValidString Tryd.lays196 a0 W hz (Y1n hT hb).u8
 unfold Y2H
 generalize Lib.validD a0.data.toList = b1 at c1 ⊢
 have C1 := Lib.hid c1
 clear c1 hT
 cases b1
 ·show Calls _ _ _ w fun e w' => e = .returned (.bool false) ∧ _
  go_enter Tryd.func45, Tryd.ntmps45
  go_wp2_with (go_at_call 38; refine (C1.out _ (Below.refl _ _)).mono ?_; rintro e w1 ⟨rfl, hb1⟩)
  go_ret
  exact ⟨rfl, hb1⟩
 ·by_cases h1 : a0.size < 1
  ·have m1 : decide ((a0.size : Int) < 1) = true := decide_eq_true (by omega)
   have m2 : decide (a0.size < 1) = true := decide_eq_true h1
   have v : (!(!true || decide (a0.size < 1) || decide (60 < a0.size)) && YU YG a0) = false := by rw [m2]; simp
   rw [v]
   clear v h1
   go_enter Tryd.func45, Tryd.ntmps45
   go_wp2_with (go_at_call 38; refine (C1.out _ (Below.refl _ _)).mono ?_; rintro e w1 ⟨rfl, hb1⟩)
   go_ret
   exact ⟨rfl, hb1⟩
  ·by_cases h2 : 60 < a0.size
   ·have m1 : decide ((a0.size : Int) < 1) = false := decide_eq_false (by omega)
    have m2 : decide (a0.size < 1) = false := decide_eq_false h1
    have m3 : decide ((60 : Int) < (a0.size : Int)) = true := decide_eq_true (by omega)
    have m4 : decide (60 < a0.size) = true := decide_eq_true h2
    have v : (!(!true || decide (a0.size < 1) || decide (60 < a0.size)) && YU YG a0) = false := by rw [m2, m4]; simp
    rw [v]
    clear v h1 h2
    go_enter Tryd.func45, Tryd.ntmps45
    go_wp2_with (go_at_call 38; refine (C1.out _ (Below.refl _ _)).mono ?_; rintro e w1 ⟨rfl, hb1⟩)
    go_ret
    exact ⟨rfl, hb1⟩
   ·have m1 : decide ((a0.size : Int) < 1) = false := decide_eq_false (by omega)
    have m2 : decide (a0.size < 1) = false := decide_eq_false h1
    have m3 : decide ((60 : Int) < (a0.size : Int)) = false := decide_eq_false (by omega)
    have m4 : decide (60 < a0.size) = false := decide_eq_false h2
    have v : (!(!true || decide (a0.size < 1) || decide (60 < a0.size)) && YU YG a0) = YU YG a0 := by rw [m2, m4]; simp
    rw [v, Y2J]
    obtain ⟨RW, CAP, kc, hcell, hbel, hlt⟩ := Y4C a0 (by omega)
    have hl : (Y1j a0 a0.size 0).length ≤ 60 := Nat.le_trans (Y1V a0 a0.size 0) (by omega)
    clear v h1 h2
    generalize Y1j a0 a0.size 0 = ns at kc hcell hl ⊢
    have HC := Lib.hid hcell
    have HB := Lib.hid hbel
    clear hcell hbel
    go_enter Tryd.func45, Tryd.ntmps45
    go_wp2_with (go_at_call 38; refine (C1.out _ (Below.refl _ _)).mono ?_; rintro e w1 ⟨rfl, hb1⟩)
    have hbb : Below w.heap.size w (RW w1) := hb1.trans ((HB.out w1).mono hb1.size)
    have HBB := Lib.hid hbb
    clear kc hbb hb1 m1 m2 m3 m4
    go_loop [4] (fun i => ∃ k : Nat, k ≤ ns.length ∧ i = .int .i64 k ∧ (ns.take k).all YG = true) (fun i => ns.length - (intOf i).toNat)
    case atStart => exact ⟨0, Nat.zero_le _, rfl, rfl⟩
    case round =>
     obtain ⟨k, hk, rfl, hall⟩ := hrel
     have HALL := Lib.hid hall
     clear hall
     by_cases hlt2 : k < ns.length
     ·have hc1 := HC.out w1 k hlt2
      have ht : ns.take (k + 1) = ns.take k ++ [ns.getD k 0] := by rw [List.take_succ_eq_append_getElem hlt2]; simp [List.getD_eq_getElem?_getD, List.getElem?_eq_getElem hlt2]
      obtain ⟨x, hx⟩ : ∃ x, ns.getD k 0 = x := ⟨_, rfl⟩
      rw [hx] at hc1 ht
      have hns : YG x = false → ns.all YG = false := by
       intro hf
       rw [List.all_eq_false]
       refine ⟨x, ?_, by simp [hf]⟩
       rw [← hx]
       simp [List.getD_eq_getElem?_getD, List.getElem?_eq_getElem hlt2]
      have HNS := Lib.hid hns
      have HTK := Lib.hid ht
      clear hns ht hx
      have hr := fun W => Y3x x W
      obtain ⟨b, hb⟩ : ∃ b, YG x = b := ⟨_, rfl⟩
      rw [hb] at hr
      have HRB := Lib.hid hb
      have HR := Lib.hid hr
      clear hr hb
      cases b
      ·go_wp2_with (go_at_call 89; refine (HR.out _).mono ?_; rintro e w' ⟨rfl, rfl⟩)
       go_ret
       exact ⟨by rw [HNS.out HRB.out]; rfl, HBB.out⟩
      ·go_wp2_with (go_at_call 89; refine (HR.out _).mono ?_; rintro e w' ⟨rfl, rfl⟩)
       go_round
       case rel => exact ⟨k + 1, by omega, by go_num, by rw [HTK.out, List.all_append, HALL.out]; simp [HRB.out]⟩
       case measure => simp [intOf]; omega
     ·obtain rfl : k = ns.length := by omega
      go_wp2
      go_ret
      exact ⟨by rw [← HALL.out, List.take_length]; rfl, HBB.out⟩
theorem Y1u (s : ByteArray) : s.data.toList.length = s.size := by rw [Array.length_toList]; rfl
theorem Y2M (s : ByteArray) (w : World) : ∃ (W1 : World) (cap : Nat),
  (convert 9 22 (.string s)).run Tryd.prog w = .ok (.slice (some ⟨w.heap.size, 0, none⟩) s.size cap) W1 ∧
  (∀ (j : Nat) (c : UInt8), s.data.toList[j]? = some c → W1.cell? ⟨w.heap.size, j, none⟩ = some (.int .u8 (c.toNat : Int))) ∧
  (∀ (j : Nat), j < s.size → W1.frozen? ⟨w.heap.size, j, none⟩ = false) ∧ Below w.heap.size w W1 ∧ w.heap.size < W1.heap.size := by
 refine ⟨Lib.bytesWorld w 5 s, grownCap w s.size 0 5, Lib.run_convert_string_bytes w 9 22 5 s Tryd.underlying9 Tryd.underlying22 Tryd.underlying5, fun j c hc => ?_, fun j hj => ?_, ⟨rfl, rfl, rfl, by rw [Lib.bytesWorld_size]; omega, fun i hi => Lib.bytesWorld_at_old w 5 s i (by omega)⟩, by rw [Lib.bytesWorld_size]; omega⟩
 ·have hj : j < s.data.toList.length := by
   rcases Nat.lt_or_ge j s.data.toList.length with h | h
   ·exact h
   ·rw [List.getElem?_eq_none h] at hc; cases hc
  rw [Y1u] at hj
  rw [Lib.bytesWorld_cell w 5 s j hj]
  have h' : j < s.data.toList.length := by rw [Y1u]; exact hj
  rw [List.getElem?_eq_getElem h'] at hc
  injection hc with hc
  rw [← hc]
  have e : s.data.toList.getD j 0 = s.data.toList[j] := by rw [List.getD_eq_getElem?_getD, List.getElem?_eq_getElem h']; rfl
  rw [e]
 ·have h1 : s.size ≤ (Lib.bytesCells w 5 s).size := by simp [Lib.bytesCells] <;> (have : s.data.size = s.size := rfl; omega)
  have h2 := Lib.bytesWorld_at_new w 5 s
  simp [World.frozen?, h2]
  omega
def Y31 (c : UInt8) : UInt8 := if 65 ≤ c.toNat ∧ c.toNat ≤ 90 then c + 32 else c
theorem Y4g (cs : List UInt8) : strOfNums (cs.map fun c => (c.toNat : Int)) = ⟨cs.toArray⟩ := by
 unfold strOfNums
 first
  | (congr 1; simp [Function.comp_def]; done)
  | simp [Function.comp_def]
theorem low_big {c : UInt8} (h1 : 65 ≤ c.toNat) (h2 : c.toNat ≤ 90) : ((Y31 c).toNat : Int) = (c.toNat : Int) + 32 := by
 have e : Y31 c = c + 32 := if_pos ⟨h1, h2⟩
 rw [e, UInt8.toNat_add]
 show (((c.toNat + 32) % 256 : Nat) : Int) = _
 omega
theorem Y3R {c : UInt8} (h : ¬ (65 ≤ c.toNat ∧ c.toNat ≤ 90)) : Y31 c = c := if_neg h
structure Y2I (B n : Nat) (w0 : World) (l : List UInt8) (k : Nat) (wr : World) : Prop where
 cell : ∀ j c, ((l.take k).map Y31 ++ l.drop k)[j]? = some c → wr.cell? ⟨B, j, none⟩ = some (.int .u8 (c.toNat : Int))
 froz : ∀ j, j < n → wr.frozen? ⟨B, j, none⟩ = false
 bel : Below B w0 wr
theorem Y25 (l : List UInt8) (k : Nat) (c : UInt8) (h : l[k]? = some c) : (l.take k).map Y31 ++ l.drop k = (l.take k).map Y31 ++ c :: l.drop (k + 1) ∧ (l.take (k + 1)).map Y31 ++ l.drop (k + 1) = (l.take k).map Y31 ++ Y31 c :: l.drop (k + 1) := by
 have hk : k < l.length := by
  rcases Nat.lt_or_ge k l.length with h1 | h1
  ·exact h1
  ·rw [List.getElem?_eq_none h1] at h; cases h
 have hc : l[k] = c := by rw [List.getElem?_eq_getElem hk] at h; injection h
 constructor
 ·rw [← hc, List.drop_eq_getElem_cons hk]
 ·rw [List.take_succ_eq_append_getElem hk, hc]; simp
theorem Y2I.here {B n k : Nat} {w0 wr : World} {l : List UInt8} {c : UInt8} (h : Y2I B n w0 l k wr) (hc : l[k]? = some c) (hk : k ≤ l.length) : wr.cell? ⟨B, k, none⟩ = some (.int .u8 (c.toNat : Int)) := by
 apply h.cell
 rw [(Y25 l k c hc).1]
 have : ((l.take k).map Y31).length = k := by simp; omega
 rw [List.getElem?_append_right (by omega), this]; simp
theorem Y2I.keep {B n k : Nat} {w0 wr : World} {l : List UInt8} {c : UInt8} (h : Y2I B n w0 l k wr) (hc : l[k]? = some c) (hl : Y31 c = c) : Y2I B n w0 l (k + 1) wr :=
 ⟨fun j d hd => h.cell j d (by rw [(Y25 l k c hc).1]; rw [(Y25 l k c hc).2, hl] at hd; exact hd), h.froz, h.bel⟩
theorem Y2I.set {B n k : Nat} {w0 wr : World} {l : List UInt8} {c : UInt8} (h : Y2I B n w0 l k wr) (hc : l[k]? = some c) (hk : k ≤ l.length) (v : Int) (hv : ((Y31 c).toNat : Int) = v) : Y2I B n w0 l (k + 1) (wr.setCell ⟨B, k, none⟩ (.int .u8 v)) := by
 have hl : ((l.take k).map Y31).length = k := by simp; omega
 refine ⟨fun j d hd => ?_, fun j hj => by rw [World.frozen?_setCell]; exact h.froz j hj, h.bel.setCell (Nat.le_refl _) _⟩
 rw [(Y25 l k c hc).2] at hd
 by_cases hj : j = k
 ·subst hj
  rw [World.cell?_setCell_same _ _ _ (h.here hc hk)]
  rw [List.getElem?_append_right (by omega), hl] at hd
  simp at hd
  rw [← hd, hv]
 ·rw [World.cell?_setCell_other _ _ _ _ (fun e => hj (by injection e with _ e2; exact e2.symm))]
  apply h.cell
  rw [(Y25 l k c hc).1]
  rcases Nat.lt_or_ge j k with h1 | h1
  ·rw [List.getElem?_append_left (by omega)] at hd ⊢; exact hd
  ·rw [List.getElem?_append_right (by omega), hl] at hd ⊢
   obtain ⟨m, hm⟩ : ∃ m, j - k = m + 1 := ⟨j - k - 1, by omega⟩
   rw [hm] at hd ⊢
   exact hd
theorem Y4f (a0 : ByteArray) (w : World) (hz : a0.size ≤ 1000000) :
  Calls Tryd.prog 110 #[.string a0] w fun e w' => e = .returned (.string ⟨(a0.data.toList.map Y31).toArray⟩) ∧ Below w.heap.size w w' := by
 obtain ⟨W1, cap, kb, hcell, hfr, hbel, hlt⟩ := Y2M a0 w
 have hl := Y1u a0
 generalize a0.data.toList = l at hcell hl ⊢
 have h0 : Y2I w.heap.size a0.size w l 0 W1 := ⟨by simpa using hcell, hfr, hbel⟩
 have H0 := Lib.hid h0
 have HL := Lib.hid hl
 have hconv := fun (wr : World) (hh : Y2I w.heap.size a0.size w l a0.size wr) => run_convert_bytes_arg (P := Tryd.prog) wr 22 5 Tryd.underlying22 Tryd.underlying5 w.heap.size 0 a0.size cap ((l.map Y31).map fun c => (c.toNat : Int)) (by simp [hl]) (fun i hi => by
  have hi' : i < (l.map Y31).length := by simp [hl, hi]
  have := hh.cell i (l.map Y31)[i] (by rw [← hl, List.take_length, List.drop_length, List.append_nil]; exact List.getElem?_eq_getElem hi')
  rw [Nat.zero_add, this]
  simp [List.getD_eq_getElem?_getD, List.getElem?_eq_getElem (show i < l.length by omega)]) 9 Tryd.underlying9
 rw [Y4g] at hconv
 have HCV := Lib.hid hconv
 clear h0 hcell hfr hbel hl hconv
 obtain ⟨R, hR⟩ : ∃ R : ByteArray, (⟨(l.map Y31).toArray⟩ : ByteArray) = R := ⟨_, rfl⟩
 rw [hR] at HCV ⊢
 clear hR
 go_enter Tryd.func110, Tryd.ntmps110
 go_wp2
 go_loopw [4] (fun i wr => ∃ k : Nat, k ≤ a0.size ∧ i = .int .i64 k ∧ Y2I w.heap.size a0.size w l k wr) (fun i _ => a0.size - (intOf i).toNat)
 case atStart => exact ⟨0, Nat.zero_le _, rfl, H0.out⟩
 case round =>
  obtain ⟨k, hk, rfl, hlow⟩ := hrel
  by_cases hlt2 : k < a0.size
  ·have hkl : k < l.length := by rw [HL.out]; exact hlt2
   obtain ⟨c, hcc⟩ : ∃ c, l[k]? = some c := ⟨_, List.getElem?_eq_getElem hkl⟩
   have hc1 := hlow.here hcc (Nat.le_of_lt hkl)
   have hf1 := hlow.froz k hlt2
   have HLOW := Lib.hid hlow
   have HCC := Lib.hid hcc
   have hb := c.toNat_lt
   clear hlow hcc
   by_cases h1 : 65 ≤ c.toNat
   ·have d1 : decide ((65 : Int) ≤ (c.toNat : Int)) = true := decide_eq_true (by omega)
    by_cases h2 : c.toNat ≤ 90
    ·have d2 : decide ((c.toNat : Int) ≤ 90) = true := decide_eq_true (by omega)
     have i1 : (65 : Int) ≤ (c.toNat : Int) := by omega
     have i2 : (c.toNat : Int) ≤ 90 := by omega
     have HV := Lib.hid (low_big h1 h2)
     go_wp2
     go_roundw
     case rel => exact ⟨k + 1, by omega, by go_num, HLOW.out.set HCC.out (Nat.le_of_lt hkl) _ HV.out⟩
     case measure => simp [intOf]; omega
    ·have d2 : decide ((c.toNat : Int) ≤ 90) = false := decide_eq_false (by omega)
     have HV := Lib.hid (Y3R (c := c) (by omega))
     go_wp2
     go_roundw
     case rel => exact ⟨k + 1, by omega, by go_num, HLOW.out.keep HCC.out HV.out⟩
     case measure => simp [intOf]; omega
   ·have d1 : decide ((65 : Int) ≤ (c.toNat : Int)) = false := decide_eq_false (by omega)
    have HV := Lib.hid (Y3R (c := c) (by omega))
    go_wp2
    go_roundw
    case rel => exact ⟨k + 1, by omega, by go_num, HLOW.out.keep HCC.out HV.out⟩
    case measure => simp [intOf]; omega
  ·obtain rfl : k = a0.size := by omega
   have hc2 := HCV.out _ hlow
   have HBB := Lib.hid hlow.bel
   clear hlow
   go_wp2
   go_ret
   exact ⟨rfl, HBB.out⟩
theorem sizeBuilder : (Tryd.prog.info? 103).map (·.size) = some 2 := by kernel_rfl
theorem liesBuilder : liesAt Tryd.prog Tryd.prog.depth 103 (2 / Tryd.prog.cellsOf 103) 0 103 1 = true := by kernel_rfl
theorem infoByte : (Tryd.prog.info? 5).map (fun i => (i.zero, i.size, i.bytes)) = some (some (.int .u8 0), 1, 1) := by kernel_rfl
set_option maxRecDepth 100000 in
theorem Y2Z (b : Nat) (w : World) (h0 : w.cell? ⟨b, 0, none⟩ = some (.pointer (some ⟨b, 0, none⟩))) :
  Calls Tryd.prog 108 #[.pointer (some ⟨b, 0, none⟩)] w fun e w' => e = .returned (.tuple #[]) ∧ w' = w := by
 obtain ⟨j, hj, _⟩ := Option.map_eq_some_iff.1 sizeBuilder
 go_enter Tryd.func108, Tryd.ntmps108
 go_wp2
 rw [Lib.run_neq_ptr_same w _ Tryd.underlying101 hj]
 go_wp2
 go_end0
 exact ZE
set_option maxRecDepth 100000 in
theorem Y2N (b : Nat) (w : World) (h0 : w.cell? ⟨b, 0, none⟩ = some (.pointer none)) (hsh : w.shape? b = some (103, 2)) (hfz : w.frozen? ⟨b, 0, none⟩ = false) :
  Calls Tryd.prog 108 #[.pointer (some ⟨b, 0, none⟩)] w fun e w' => e = .returned (.tuple #[]) ∧ w' = w.setCell ⟨b, 0, none⟩ (.pointer (some ⟨b, 0, none⟩)) := by
 obtain ⟨j, hj, hjs⟩ := Option.map_eq_some_iff.1 sizeBuilder
 go_enter Tryd.func108, Tryd.ntmps108
 go_wp2
 rw [Lib.run_to_unsafe w ⟨b, 0, none⟩ Tryd.underlying101 Tryd.underlying127 hj (by rw [hjs]; decide) hsh (Nat.zero_lt_succ 1)]
 simp only [Result.andThen]
 rw [Oper.upon_value]
 go_wp2
 rw [run_callFunc_extern Tryd.func120 Z7 Z7 Z7 (e := Extern.AbiNoEscape.same) Z7]
 rw [Lib.run_noEscape]
 simp only [Result.andThen]
 rw [Oper.upon_value]
 go_wp2
 rw [Lib.run_from_unsafe w ⟨b, 0, none⟩ Tryd.underlying127 Tryd.underlying101 hj hsh liesBuilder]
 simp only [Result.andThen]
 rw [Oper.upon_value]
 go_wp2
 go_end0
 exact ZE
structure Bq (B b q : Nat) (p : Value) (bs : List Value) (w : World) : Prop where
 low : B ≤ b
 lt : b < q
 room : q ≤ w.heap.size
 held : ∃ v, w.heap[b]? = some (.cells #[p, v] 103 (0, 0)) ∧ w.ownsRow q 5 1 v bs.length bs
structure Kq (b q : Nat) (w w' : World) : Prop where
 os : w'.os = w.os
 tape : w'.tape = w.tape
 output : w'.output = w.output
 size : w.heap.size ≤ w'.heap.size
 block : ∀ k, k < q → k ≠ b → w'.heap[k]? = w.heap[k]?
theorem Kq.refl (b q : Nat) (w : World) : Kq b q w w := ⟨rfl, rfl, rfl, Nat.le_refl _, fun _ _ _ => rfl⟩
theorem Kq.trans {b q : Nat} {u v w : World} (h : Kq b q u v) (k : Kq b q v w) : Kq b q u w :=
 ⟨k.os.trans h.os, k.tape.trans h.tape, k.output.trans h.output, Nat.le_trans h.size k.size, fun i hi hb => (k.block i hi hb).trans (h.block i hi hb)⟩
theorem Kq.below {b q B : Nat} {w w' : World} (h : Kq b q w w') (hB : B ≤ b) (hq : B ≤ q) : Below B w w' :=
 ⟨h.os, h.tape, h.output, h.size, fun k hk => h.block k (by omega) (by omega)⟩
theorem Bq.ne {q b n : Nat} {e : TypeId} {v : Value} {xs : List Value} {w : World} (h : w.ownsRow q e 1 v n xs) (hb : b < q) : v.ownBlock ≠ some b := by
 rcases h.2 with ⟨rfl, _⟩ | ⟨g, cap, cur, rfl, hg, _⟩
 ·simp [Value.ownBlock]
 ·simp only [Value.ownBlock]; intro e; injection e with e; omega
theorem Y4c {q b n j : Nat} {e : TypeId} {v y : Value} {xs : List Value} {w : World} (h : w.ownsRow q e 1 v n xs) (hb : b < q) : (w.setCell ⟨b, j, none⟩ y).ownsRow q e 1 v n xs :=
 h.kept (row := some b) ⟨rfl, rfl, rfl, by simp [World.setCell], fun k _ hk => Below.heap_setCell _ _ _ _ (fun e => hk (by simp [e]))⟩ (Or.inr (Bq.ne h hb))
theorem Bq.at {B b q : Nat} {p : Value} {bs : List Value} {w : World} (h : Bq B b q p bs w) : Lib.BuilderAt 103 5 B b p bs w := by
 obtain ⟨v, h1, h2, h3⟩ := h.held
 refine ⟨h.low, v, h1, ⟨h2, ?_⟩, Bq.ne ⟨h2, h3⟩ h.lt⟩
 rcases h3 with h3 | ⟨g, cap, cur, e1, hg, e2⟩
 ·exact .inl h3
 ·exact .inr ⟨g, cap, cur, e1, by have := h.low; have := h.lt; omega, e2⟩
theorem Kq.set {b q : Nat} {u w : World} (h : Kq b q u w) (j : Nat) (y : Value) : Kq b q u (w.setCell ⟨b, j, none⟩ y) :=
 ⟨h.os, h.tape, h.output, by simp [World.setCell]; exact h.size, fun k hk hb => (Below.heap_setCell _ _ _ _ (fun e => hb (by simp [e]))).trans (h.block k hk hb)⟩
theorem Bq.used {B b q : Nat} {p : Value} {bs : List Value} {w : World} (h : Bq B b q p bs w) (y : Value) : Bq B b q y bs (w.setCell ⟨b, 0, none⟩ y) := by
 obtain ⟨v, h1, h2⟩ := h.held
 exact ⟨h.low, h.lt, by simp [World.setCell]; exact h.room, v, by simp [World.setCell, Array.getElem?_modify, h1], Y4c h2 h.lt⟩
theorem Bq.put {B b q : Nat} {p v v' : Value} {bs : List Value} {w : World} (hB : B ≤ b) (hl : b < q) (hr : q ≤ w.heap.size) (h1 : w.heap[b]? = some (.cells #[p, v] 103 (0, 0))) (h2 : w.ownsRow q 5 1 v' bs.length bs) : Bq B b q p bs (w.setCell ⟨b, 1, none⟩ v') :=
 ⟨hB, hl, by simp [World.setCell]; exact hr, v', by simp [World.setCell, Array.getElem?_modify, h1], Y4c h2 hl⟩
def IsBq (B b q : Nat) (bs : List Value) (w : World) : Prop := Bq B b q (.pointer none) bs w ∨ Bq B b q (.pointer (some ⟨b, 0, none⟩)) bs w
theorem Y22 (B b q : Nat) (bs : List Value) (w : World) (h : IsBq B b q bs w) :
  Calls Tryd.prog 108 #[.pointer (some ⟨b, 0, none⟩)] w fun e w' => e = .returned (.tuple #[]) ∧ (Bq B b q (.pointer (some ⟨b, 0, none⟩)) bs w' ∧ Kq b q w w') := by
 rcases h with h | h
 ·refine (Y2N b w h.at.cell0 h.at.shape h.at.frozen0).mono ?_
  rintro e w' ⟨rfl, rfl⟩
  exact ⟨rfl, h.used _, (Kq.refl b q w).set 0 _⟩
 ·refine (Y2Z b w h.at.cell0).mono ?_
  rintro e w' ⟨rfl, rfl⟩
  exact ⟨rfl, h, Kq.refl b q _⟩
set_option maxHeartbeats 2000000 in
theorem Y2X (B b q : Nat) (bs : List Value) (c : Int) (w : World) (h : IsBq B b q bs w) (hlen : bs.length + 1 ≤ 140737488355328) :
  Calls Tryd.prog 80 #[.pointer (some ⟨b, 0, none⟩), .int .u8 c] w fun e w' => e = .returned .nilIface ∧ (IsBq B b q (bs ++ [.int .u8 c]) w' ∧ Kq b q w w') := by
 obtain ⟨i0, hi, hz0, hz1, hz2⟩ := info_parts infoByte
 go_enter Tryd.func80, Tryd.ntmps80
 go_wp2_with (go_at_call 108; refine (Y22 B b q bs _ h).mono ?_)
 rintro e w1 ⟨rfl, h1, hb1⟩
 obtain ⟨hB, hbq, hroom, v, hbk, hown⟩ := h1
 have c0 : w1.cell? ⟨b, 0, none⟩ = some (.pointer (some ⟨b, 0, none⟩)) := by rw [Lib.cell_of_heap hbk]; rfl
 have c1 : w1.cell? ⟨b, 1, none⟩ = some v := by rw [Lib.cell_of_heap hbk]; rfl
 go_wp2_with (at_builtin; refine wpList_append_own _ rfl _ _ 22 rfl q 5 i0 (.int .u8 0) 1 1 Tryd.underlying22 hi hz0 hz1 hz2 rfl (by decide) _ _ _ rfl (hown.alloc _) ⟨w1.heap.size, 0, none⟩ 1 1 [.int .u8 c] rfl rfl ?c1 ?c2 ?c3 ?c4 ?c5 ?_)
 case c1 =>
  intro j u hj
  match j, hj with
  | 0, hj => simp at hj; subst hj; simp [Addr.add]
 case c2 => intro u hu; simp at hu; subst hu; rfl
 case c3 => unfold maxLen; omega
 case c4 => omega
 case c5 => simp; omega
 intro v' w2 hown' hgrow _
 have hlt : b < w1.heap.size := by omega
 have hk2 : Kq b q w1 w2 := ⟨hgrow.os, hgrow.tape, hgrow.output, Nat.le_trans (by simp) hgrow.size, fun k hk _ => (hgrow.block k (by simp; omega) (fun e => Bq.ne hown hk e.symm)).trans (Lib.alloc_old w1 _ k (by omega))⟩
 have hb2 : w2.heap[b]? = some (.cells #[.pointer (some ⟨b, 0, none⟩), v] 103 (0, 0)) := by
  rw [hgrow.block b (by simp; omega) (fun e => Bq.ne hown hbq e.symm), Lib.alloc_old w1 _ b hlt]
  exact hbk
 have d0 : w2.cell? ⟨b, 0, none⟩ = some (.pointer (some ⟨b, 0, none⟩)) := by rw [Lib.cell_of_heap hb2]; rfl
 have d1 : w2.cell? ⟨b, 1, none⟩ = some v := by rw [Lib.cell_of_heap hb2]; rfl
 have f1 : w2.frozen? ⟨b, 1, none⟩ = false := Lib.frozen_of_heap hb2 1
 obtain ⟨g, cap, rfl⟩ : ∃ g cap, v' = .slice (some ⟨g, 0, none⟩) (bs.length + 1) cap := by
  rcases hown'.2 with ⟨_, h0⟩ | ⟨g, cap, cur, hv, _⟩
  ·omega
  ·exact ⟨g, cap, hv⟩
 go_wp2
 go_ret
 exact ⟨rfl, .inr (Bq.put hB hbq (Nat.le_trans hroom hk2.size) hb2 (bs := bs ++ [.int .u8 c]) (by simpa using hown')), (hb1.trans hk2).set 1 _⟩
set_option maxHeartbeats 2000000 in
theorem Y2y (B b q : Nat) (bs : List Value) (s : ByteArray) (w : World) (h : IsBq B b q bs w) (hlen : bs.length + s.size ≤ 140737488355328) :
  Calls Tryd.prog 78 #[.pointer (some ⟨b, 0, none⟩), .string s] w fun e w' => e = .returned (.tuple #[.int .i64 s.size, .nilIface]) ∧ (IsBq B b q (bs ++ Lib.strCells s) w' ∧ Kq b q w w') := by
 obtain ⟨i0, hi, hz0, hz1, hz2⟩ := info_parts infoByte
 go_enter Tryd.func78, Tryd.ntmps78
 go_wp2_with (go_at_call 108; refine (Y22 B b q bs _ h).mono ?_)
 rintro e w1 ⟨rfl, h1, hb1⟩
 obtain ⟨hB, hbq, hroom, v, hbk, hown⟩ := h1
 have c0 : w1.cell? ⟨b, 0, none⟩ = some (.pointer (some ⟨b, 0, none⟩)) := by rw [Lib.cell_of_heap hbk]; rfl
 have c1 : w1.cell? ⟨b, 1, none⟩ = some v := by rw [Lib.cell_of_heap hbk]; rfl
 go_wp2_with (at_builtin; refine Lib.wpList_append_own_string _ rfl _ _ 22 9 rfl q 5 i0 Tryd.underlying22 Tryd.underlying9 hi hz0 hz1 hz2 _ _ _ rfl hown s rfl ?c3 ?c4 ?c5 ?_)
 case c3 => unfold maxLen; omega
 case c4 => omega
 case c5 => omega
 intro v' w2 hown' hgrow _
 have hlt : b < w1.heap.size := by omega
 have hk2 : Kq b q w1 w2 := ⟨hgrow.os, hgrow.tape, hgrow.output, hgrow.size, fun k hk _ => hgrow.block k (by omega) (fun e => Bq.ne hown hk e.symm)⟩
 have hb2 : w2.heap[b]? = some (.cells #[.pointer (some ⟨b, 0, none⟩), v] 103 (0, 0)) := by
  rw [hgrow.block b hlt (fun e => Bq.ne hown hbq e.symm)]
  exact hbk
 have d0 : w2.cell? ⟨b, 0, none⟩ = some (.pointer (some ⟨b, 0, none⟩)) := by rw [Lib.cell_of_heap hb2]; rfl
 have d1 : w2.cell? ⟨b, 1, none⟩ = some v := by rw [Lib.cell_of_heap hb2]; rfl
 have f1 : w2.frozen? ⟨b, 1, none⟩ = false := Lib.frozen_of_heap hb2 1
 obtain ⟨ao, n', cap, rfl⟩ : ∃ ao n' cap, v' = .slice ao n' cap := by
  rcases hown'.2 with ⟨hv, _⟩ | ⟨g, cap, cur, hv, _⟩
  ·exact ⟨_, _, _, hv⟩
  ·exact ⟨_, _, _, hv⟩
 go_wp2
 go_ret2
 exact ⟨rfl, .inr (Bq.put hB hbq (Nat.le_trans hroom hk2.size) hb2 (bs := bs ++ Lib.strCells s) (by simpa [Lib.strCells_length] using hown')), (hb1.trans hk2).set 1 _⟩
def Y2Y (n : Nat) : UInt8 := if n < 10 then (48 + n).toUInt8 else (55 + n).toUInt8
def Y24 (c : UInt8) : List UInt8 :=
 if c = 34 then [92, 34] else if c = 92 then [92, 92] else if c = 10 then [92, 110] else if c = 13 then [92, 114] else if c = 9 then [92, 116] else if c = 8 then [92, 98] else if c = 12 then [92, 102]
 else if c.toNat < 32 ∨ c.toNat = 127 then [92, 117, 48, 48, Y2Y (c.toNat / 16), Y2Y (c.toNat % 16)] else [c]
def Y15 (l : List UInt8) : List UInt8 := l.flatMap Y24
theorem Y3w (c : UInt8) (hc : c.toNat < 32 ∨ c.toNat = 127 ∨ c.toNat = 34 ∨ c.toNat = 92) (w : World) :
  Calls Tryd.prog 79 #[.int .u8 (c.toNat : Int)] w fun e w' => e = .returned (.string ⟨(Y24 c).toArray⟩) ∧ Below w.heap.size w w' := by
 obtain ⟨n, hn⟩ : ∃ n, c.toNat = n := ⟨_, rfl⟩
 have hcc : c = UInt8.ofNat n := by rw [← hn]; simp
 subst hcc
 rw [hn] at hc
 have hl : n < 32 ∨ n = 127 ∨ n = 34 ∨ n = 92 := hc
 clear hc hn
 have hm : n ∈ [0,1,2,3,4,5,6,7,8,9,10,11,12,13,14,15,16,17,18,19,20,21,22,23,24,25,26,27,28,29,30,31,127,34,92] := by
  simp only [List.mem_cons, List.not_mem_nil, or_false]; omega
 clear hl
 simp only [List.mem_cons, List.not_mem_nil, or_false] at hm
 rcases hm with rfl | rfl | rfl | rfl | rfl | rfl | rfl | rfl | rfl | rfl | rfl | rfl | rfl | rfl | rfl | rfl | rfl | rfl | rfl | rfl | rfl | rfl | rfl | rfl | rfl | rfl | rfl | rfl | rfl | rfl | rfl | rfl | rfl | rfl | rfl
 all_goals
  simp only [UInt8.reduceOfNat, UInt8.reduceToNat, Int.cast_ofNat_Int, Nat.reduceMod]
  go_enter Tryd.func79, Tryd.ntmps79
  go_wp2
  repeat (go_quiet (fail); try go_wp2)
  go_ret
  exact ⟨by rfl, Zu⟩
theorem own_below {q n : Nat} {e : TypeId} {v : Value} {xs : List Value} {w W : World} (h : w.ownsRow q e 1 v n xs) (hb : Below w.heap.size w W) : W.ownsRow q e 1 v n xs := by
 refine ⟨h.1, ?_⟩
 rcases h.2 with h3 | ⟨g, cap, cur, e1, hg, e2, e3⟩
 ·exact .inl h3
 ·refine .inr ⟨g, cap, cur, e1, hg, ?_, e3⟩
  rcases Nat.lt_or_ge g w.heap.size with h' | h'
  ·rw [hb.block g h', e2]
  ·simp [Array.getElem?_eq_none h'] at e2
theorem Bq.below {B b q : Nat} {p : Value} {bs : List Value} {w W : World} (h : Bq B b q p bs w) (hb : Below w.heap.size w W) : Bq B b q p bs W := by
 obtain ⟨v, h1, h2⟩ := h.held
 exact ⟨h.low, h.lt, Nat.le_trans h.room hb.size, v, by rw [hb.block b (by have := h.lt; have := h.room; omega), h1], own_below h2 hb⟩
structure QAt (B q : Nat) (W1 : World) (l : List UInt8) (k : Nat) (wr : World) : Prop where
 bq : IsBq B B q (byteCells (Y15 (l.take k))) wr
 kq : Kq B q W1 wr
theorem QAt.below {B q k : Nat} {W1 wr W : World} {l : List UInt8} (h : QAt B q W1 l k wr) (hb : Below wr.heap.size wr W) : QAt B q W1 l k W := by
 have hr : q ≤ wr.heap.size := by rcases h.bq with x | x <;> exact x.room
 refine ⟨?_, h.kq.trans ⟨hb.os, hb.tape, hb.output, hb.size, fun i hi _ => hb.block i (by omega)⟩⟩
 rcases h.bq with x | x
 ·exact .inl (x.below hb)
 ·exact .inr (x.below hb)
theorem Y3t (c : UInt8) : (Y24 c).length ≤ 6 := by
 unfold Y24
 repeat' (split; · simp)
 simp
theorem Y2c (l : List UInt8) : (Y15 l).length ≤ 6 * l.length := by
 induction l with
 | nil => simp [Y15]
 | cons c l ih =>
  have := Y3t c
  have e : Y15 (c :: l) = Y24 c ++ Y15 l := by simp [Y15]
  rw [e, List.length_append, List.length_cons]; omega
theorem Y3M (l : List UInt8) (k : Nat) (c : UInt8) (h : l[k]? = some c) : byteCells (Y15 (l.take (k + 1))) = byteCells (Y15 (l.take k)) ++ byteCells (Y24 c) := by
 have hk : k < l.length := by
  rcases Nat.lt_or_ge k l.length with h1 | h1
  ·exact h1
  ·rw [List.getElem?_eq_none h1] at h; cases h
 have hc : l[k] = c := by rw [List.getElem?_eq_getElem hk] at h; injection h
 rw [List.take_succ_eq_append_getElem hk, hc]
 simp [Y15, byteCells]
theorem escL_room (l : List UInt8) (k n : Nat) (hl : l.length = n) (hn : n ≤ 1000000) : (byteCells (Y15 (l.take k))).length ≤ 6000000 := by
 have h1 := Y2c (l.take k)
 have h2 : (l.take k).length ≤ l.length := by rw [List.length_take]; omega
 simp only [byteCells, List.length_map]
 omega
theorem Y4v {c : UInt8} (h : ¬(c.toNat < 32 ∨ c.toNat = 127 ∨ c.toNat = 34 ∨ c.toNat = 92)) : Y24 c = [c] := by
 have n1 : c ≠ 34 := by rintro rfl; simp at h
 have n2 : c ≠ 92 := by rintro rfl; simp at h
 have n3 : c ≠ 10 := by rintro rfl; simp at h
 have n4 : c ≠ 13 := by rintro rfl; simp at h
 have n5 : c ≠ 9 := by rintro rfl; simp at h
 have n6 : c ≠ 8 := by rintro rfl; simp at h
 have n7 : c ≠ 12 := by rintro rfl; simp at h
 unfold Y24
 rw [if_neg n1, if_neg n2, if_neg n3, if_neg n4, if_neg n5, if_neg n6, if_neg n7, if_neg (by omega)]
theorem QAt.str {B q k : Nat} {W1 wr W : World} {l : List UInt8} {c : UInt8} (h : QAt B q W1 l k wr) (hc : l[k]? = some c) {E : ByteArray} (hE : (⟨(Y24 c).toArray⟩ : ByteArray) = E) (h2 : IsBq B B q (byteCells (Y15 (l.take k)) ++ strCells E) W) (h3 : Kq B q wr W) : QAt B q W1 l (k + 1) W :=
 ⟨by rw [Y3M l k c hc]; rw [← hE] at h2; exact h2, h.kq.trans h3⟩
theorem QAt.byte {B q k : Nat} {W1 wr W : World} {l : List UInt8} {c : UInt8} (h : QAt B q W1 l k wr) (hc : l[k]? = some c) (hp : Y24 c = [c]) (h2 : IsBq B B q (byteCells (Y15 (l.take k)) ++ [.int .u8 (c.toNat : Int)]) W) (h3 : Kq B q wr W) : QAt B q W1 l (k + 1) W :=
 ⟨by rw [Y3M l k c hc, hp]; exact h2, h.kq.trans h3⟩
theorem Y3r {w W : World} {a : Addr} (h : W.heap[a.block]? = w.heap[a.block]?) : W.cell? a = w.cell? a := by unfold World.cell?; rw [h]
set_option maxRecDepth 100000 in
set_option maxHeartbeats 2000000 in
theorem Y3V (a0 : ByteArray) (w : World) (hz : a0.size ≤ 1000000) :
  Calls Tryd.prog 42 #[.string a0] w fun e w' => e = .returned (.string ⟨(34 :: Y15 a0.data.toList ++ [34]).toArray⟩) ∧ Below w.heap.size w w' := by
 obtain ⟨W1, cap, kb, hcell, hfr, hbel, hlt⟩ := Y2M a0 (w.alloc (Obj.cells #[Value.pointer none, Value.slice none 0 0] 103))
 have hs : (w.alloc (Obj.cells #[Value.pointer none, Value.slice none 0 0] 103)).heap.size = w.heap.size + 1 := by simp
 rw [hs] at kb hcell hfr hbel hlt
 have hl := Y1u a0
 generalize a0.data.toList = l at hcell hl ⊢
 have hq0 : QAt w.heap.size W1.heap.size W1 l 0 W1 := by
  refine ⟨.inl ⟨Nat.le_refl _, by omega, Nat.le_refl _, .slice none 0 0, ?_, World.ownsRow_nil _ _ _ _⟩, Kq.refl _ _ _⟩
  rw [hbel.block _ (by omega)]
  exact heap_alloc_new w _
 have hbw : Below w.heap.size w W1 := ((Below.refl _ _).alloc (Nat.le_refl _) _).trans (hbel.mono (by omega))
 have H0 := Lib.hid hq0
 have HW := Lib.hid hbw
 have HL := Lib.hid hl
 have HC := Lib.hid hcell
 have HT := Lib.hid hlt
 have HZ := Lib.hid hz
 clear hq0 hbw hl hcell hfr hbel
 generalize hQ : W1.heap.size = q at H0 HT
 have HQ := Lib.hid hQ
 clear hQ hlt
 go_enter Tryd.func42, Tryd.ntmps42
 go_wp2
 go_loopw [9] (fun i wr => ∃ k : Nat, k ≤ a0.size ∧ i = .int .i64 k ∧ QAt w.heap.size q W1 l k wr) (fun i _ => a0.size - (intOf i).toNat)
 case atStart => exact ⟨0, Nat.zero_le _, rfl, H0.out⟩
 case round =>
  obtain ⟨k, hk, rfl, hat⟩ := hrel
  by_cases hlt2 : k < a0.size
  ·have hkl : k < l.length := by rw [HL.out]; exact hlt2
   obtain ⟨c, hcc⟩ : ∃ c, l[k]? = some c := ⟨_, List.getElem?_eq_getElem hkl⟩
   have hc1 := (Y3r (a := ⟨w.heap.size + 1, k, none⟩) (hat.kq.block (w.heap.size + 1) (by have := HT.out; omega) (by omega))).trans (HC.out k c hcc)
   have HAT := Lib.hid hat
   have HCC := Lib.hid hcc
   have HR := Lib.hid (escL_room l k a0.size HL.out HZ.out)
   have hb := c.toNat_lt
   clear hat hcc
   by_cases sp : c.toNat < 32 ∨ c.toNat = 127 ∨ c.toNat = 34 ∨ c.toNat = 92
   ·obtain ⟨E, hE⟩ : ∃ E : ByteArray, (⟨(Y24 c).toArray⟩ : ByteArray) = E := ⟨_, rfl⟩
    have hes := fun W => Y3w c (by omega) W
    rw [hE] at hes
    have HES := Lib.hid hes
    have hsz : E.size ≤ 6 := by rw [← hE]; show (Y24 c).toArray.size ≤ 6; rw [List.size_toArray]; exact Y3t c
    have HSZ := Lib.hid hsz
    have HE := Lib.hid hE
    clear hes hsz hE
    rcases (show c.toNat < 32 ∨ (¬ c.toNat < 32 ∧ c.toNat = 127) ∨ (¬ c.toNat < 32 ∧ ¬ c.toNat = 127 ∧ c.toNat = 34) ∨ (¬ c.toNat < 32 ∧ ¬ c.toNat = 127 ∧ ¬ c.toNat = 34 ∧ c.toNat = 92) by omega) with h1 | ⟨h1, h2⟩ | ⟨h1, h2, h3⟩ | ⟨h1, h2, h3, h4⟩
    all_goals
     try have g1 : decide ((c.toNat : Int) < 32) = false := decide_eq_false (by omega)
     try have g1 : decide ((c.toNat : Int) < 32) = true := decide_eq_true (by omega)
     try have g2 : ((c.toNat : Int) == 127) = false := beq_eq_false_iff_ne.mpr (by omega)
     try have g2 : ((c.toNat : Int) == 127) = true := beq_iff_eq.mpr (by omega)
     try have g3 : ((c.toNat : Int) == 34) = false := beq_eq_false_iff_ne.mpr (by omega)
     try have g3 : ((c.toNat : Int) == 34) = true := beq_iff_eq.mpr (by omega)
     try have g4 : ((c.toNat : Int) == 92) = false := beq_eq_false_iff_ne.mpr (by omega)
     try have g4 : ((c.toNat : Int) == 92) = true := beq_iff_eq.mpr (by omega)
     clear sp h1
     try clear h2
     try clear h3
     try clear h4
     go_wp2_with (first
      | (go_at_call 78; refine (Y2y w.heap.size w.heap.size q _ _ _ HAT2.out.bq (by have := HR.out; have := HSZ.out; omega)).mono ?_; rintro e w3 ⟨rfl, hb3, hk3⟩; have HB3 := Lib.hid (HAT2.out.str HCC.out HE.out hb3 hk3); clear hb3 hk3)
      | (go_at_call 79; refine (HES.out _).mono ?_; rintro e w2 ⟨rfl, hb2⟩; have HAT2 := Lib.hid (HAT.out.below hb2); clear hb2))
     go_roundw
     case rel => exact ⟨k + 1, by omega, by go_num, HB3.out⟩
     case measure => simp [intOf]; omega
   ·have HPL := Lib.hid (Y4v sp)
    have g1 : decide ((c.toNat : Int) < 32) = false := decide_eq_false (by omega)
    have g2 : ((c.toNat : Int) == 127) = false := beq_eq_false_iff_ne.mpr (by omega)
    have g3 : ((c.toNat : Int) == 34) = false := beq_eq_false_iff_ne.mpr (by omega)
    have g4 : ((c.toNat : Int) == 92) = false := beq_eq_false_iff_ne.mpr (by omega)
    clear sp
    go_wp2_with (go_at_call 80; refine (Y2X w.heap.size w.heap.size q _ _ _ HAT.out.bq (by have := HR.out; omega)).mono ?_; rintro e w3 ⟨rfl, hb3, hk3⟩; have HB3 := Lib.hid (HAT.out.byte HCC.out HPL.out hb3 hk3); clear hb3 hk3)
    go_roundw
    case rel => exact ⟨k + 1, by omega, by go_num, HB3.out⟩
    case measure => simp [intOf]; omega
  ·obtain rfl : k = a0.size := by omega
   have hat' : QAt w.heap.size q W1 l l.length wr := by rw [HL.out]; exact hat
   have hbb : Below w.heap.size w wr := HW.out.trans (hat.kq.below (Nat.le_refl _) (by have := HT.out; omega))
   have hib : Lib.IsBuilder 103 5 w.heap.size w.heap.size (byteCells (Y15 l)) wr := by
    have h := hat'.bq
    rw [List.take_length] at h
    exact h.elim (fun x => .inl x.at) (fun x => .inr x.at)
   have el : (Y15 l).length ≤ 6000000 := by have := Y2c l; have := HL.out; have := HZ.out; omega
   obtain ⟨E, hE⟩ : ∃ E : ByteArray, (⟨(Y15 l).toArray⟩ : ByteArray) = E := ⟨_, rfl⟩
   have e1 : ¬ (9223372036854775807 < 1 + E.size) := by rw [← hE]; show ¬ (_ < 1 + (Y15 l).toArray.size); rw [List.size_toArray]; omega
   have e2 : ¬ (9223372036854775807 < 1 + E.size + 1) := by rw [← hE]; show ¬ (_ < 1 + (Y15 l).toArray.size + 1); rw [List.size_toArray]; omega
   have e3 : (⟨(34 :: (Y15 l ++ [34])).toArray⟩ : ByteArray) = ⟨#[34]⟩ ++ E ++ ⟨#[34]⟩ := by rw [← hE]; apply ByteArray.ext; simp
   have hst := fun W h1 h2 => Tryd.Builder_String_any w.heap.size w.heap.size (Y15 l) W h1 h2
   rw [hE] at hst
   have HST := Lib.hid hst
   have HE3 := Lib.hid e3
   clear e3 hst el hE
   have HBB := Lib.hid hbb
   have HIB := Lib.hid hib
   clear hat hat' hbb hib
   go_wp2_with (go_at_call 81; refine (HST.out _ HIB.out HBB.out.size).mono ?_; rintro e w3 ⟨rfl, hb3⟩; have HB3 := Lib.hid (HBB.out.trans hb3); clear hb3)
   go_ret
   exact ⟨by first | (rw [← HE3.out]; rfl) | rw [HE3.out], HB3.out⟩
end Go.Proofs.YtbpbfboaofkpaaaDoor.Print
end
section
namespace Go.Proofs.YtbpbfboaofkpaaaDoor.Print
open Go.RowKit Go.Proofs.YtbpbfboaofkpaaaDoorW.PrintWords Go.Proofs.YtbpbfboaofkpaaaDoorW.PrintLast Go.Proofs.YtbpbfboaofkpaaaDoorW.PrintMore
attribute [local go_sem] max2_int min2_int max_two min_two max_three min_three max_four min_four
set_option linter.unusedVariables false
set_option linter.unusedSimpArgs false
mutual
def Y4.l0 : Nat → ByteArray → Int → Int → Int → Option (Int)
 | 0, _, _, _, _ => none
 | k + 1, x0, x1, x5, x6 => if x6 < x1 then (if 0 ≤ x6 then (if x6 < (x0.size : Int) then (if (bt x0 x6) ≥ 48 then (Y4.j1 k x0 x1 x5 x6 (bt x0 x6) (decide ((bt x0 x6) ≤ 57))) else (Y4.j1 k x0 x1 x5 x6 (bt x0 x6) false)) else (none)) else (none)) else (if x5 > 1114111 then (some (-1)) else (if x5 ≥ 55296 then (if x5 ≤ 57343 then (some (-1)) else (some (wrap32 (x5)))) else (some (wrap32 (x5)))))
def Y4.j1 : Nat → ByteArray → Int → Int → Int → Int → Bool → Option (Int)
 | 0, _, _, _, _, _, _ => none
 | k + 1, x0, x1, x5, x6, x7, x20 => if x20 = true then (Y4.l0 k x0 x1 (wrap64 ((wrap64 (x5 * 16)) + ((x7 - 48) % 256))) (wrap64 (x6 + 1))) else (if x7 ≥ 97 then (Y4.j2 k x0 x1 x5 x6 x7 (decide (x7 ≤ 102))) else (Y4.j2 k x0 x1 x5 x6 x7 false))
def Y4.j2 : Nat → ByteArray → Int → Int → Int → Int → Bool → Option (Int)
 | 0, _, _, _, _, _, _ => none
 | k + 1, x0, x1, x5, x6, x7, x33 => if x33 = true then (Y4.l0 k x0 x1 (wrap64 ((wrap64 ((wrap64 (x5 * 16)) + ((x7 - 97) % 256))) + 10)) (wrap64 (x6 + 1))) else (if x7 ≥ 65 then (if x7 ≤ 70 then (Y4.l0 k x0 x1 (wrap64 ((wrap64 ((wrap64 (x5 * 16)) + ((x7 - 65) % 256))) + 10)) (wrap64 (x6 + 1))) else (some (-1))) else (some (-1)))
end
def Y4.f (k : Nat) (a0 : ByteArray) (a1 : Int) : Option (Int) := if (a0.size : Int) < a1 then (some (-1)) else (Y4.l0 k a0 a1 0 0)
theorem Y4.mono_l : ∀ k, (∀ y0 y1 y2 y3, LeO (Y4.l0 k y0 y1 y2 y3) (Y4.l0 (k + 1) y0 y1 y2 y3)) ∧ (∀ y0 y1 y2 y3 y4 y5, LeO (Y4.j1 k y0 y1 y2 y3 y4 y5) (Y4.j1 (k + 1) y0 y1 y2 y3 y4 y5)) ∧ (∀ y0 y1 y2 y3 y4 y5, LeO (Y4.j2 k y0 y1 y2 y3 y4 y5) (Y4.j2 (k + 1) y0 y1 y2 y3 y4 y5))
 | 0 => ⟨fun _ _ _ _ r h => by simp [Y4.l0] at h, fun _ _ _ _ _ _ r h => by simp [Y4.j1] at h, fun _ _ _ _ _ _ r h => by simp [Y4.j2] at h⟩
 | k + 1 => by
  obtain ⟨ih0, ih1, ih2⟩ := Y4.mono_l k
  refine ⟨?_, ?_, ?_⟩
  ·intro y0 y1 y2 y3
   unfold Y4.l0
   exact QM
  ·intro y0 y1 y2 y3 y4 y5
   unfold Y4.j1
   exact QM
  ·intro y0 y1 y2 y3 y4 y5
   unfold Y4.j2
   exact QM
theorem Y4.mono : ∀ a0 a1 k, LeO (Y4.f k a0 a1) (Y4.f (k + 1) a0 a1) := by
 intro a0 a1 k
 obtain ⟨ih0, ih1, ih2⟩ := Y4.mono_l k
 unfold Y4.f
 exact QM
set_option maxHeartbeats 8000000 in
set_option maxRecDepth 100000 in
theorem Y4.calls (k : Nat) (a0 : ByteArray) (a1 : Int) (r : Int) (w : World) (h : Y4.f k a0 a1 = some r) :
  Calls Tryd.prog 121 #[.string a0, .int .i64 a1] w fun e w' => e = .returned (.int .i32 r) ∧ YO w w' := by
 have H : (if (a0.size : Int) < a1 then (some (-1)) else (Y4.l0 k a0 a1 0 0)) = some r := h
 clear h
 by_cases c3 : (a0.size : Int) < a1
 ·rw [if_pos c3] at H
  have c3b0 : decide ((a0.size : Int) < a1) = true := decide_eq_true c3
  clear c3
  obtain rfl := Option.some.inj H
  go_enter Tryd.func121, Tryd.ntmps121
  go_wp2
  go_ret
  exact ZX
 ·rw [if_neg c3] at H
  have c3b0 : decide ((a0.size : Int) < a1) = false := decide_eq_false c3
  clear c3
  have H' := Y0.mk H
  clear H
  go_enter Tryd.func121, Tryd.ntmps121
  go_wp2
  go_loopg [5, 6] k (fun kq v5 v6 w' => ∃ (x5_1 : Int) (x6_1 : Int), v5 = .int .i64 x5_1 ∧ v6 = .int .i64 x6_1 ∧ Y0 (Y4.l0 kq a0 a1 x5_1 x6_1 = some r) ∧ Y0 (kq ≤ k) ∧ YO w w')
  case atStart => exact ⟨(0), (0), Z4, Z4, H', ⟨Nat.le_refl _⟩, Z6⟩
  case round =>
   clear H'
   try clear c1
   try clear p2
   try clear c3
   try clear c3b0
   obtain ⟨x5_1, x6_1, rfl, rfl, HA, HK1, ⟨m1, rfl⟩⟩ := hrel
   cases gk with
   | zero => exact absurd HA.out (by simp [Y4.l0])
   | succ k1 =>
    have H := HA.out
    clear HA
    simp only [Y4.l0] at H
    by_cases c4 : x6_1 < a1
    ·rw [if_pos c4] at H
     have c4b0 : decide (x6_1 < a1) = true := decide_eq_true c4
     clear c4
     by_cases c5 : 0 ≤ x6_1
     ·rw [if_pos c5] at H
      have c5b0 : decide (0 ≤ x6_1) = true := decide_eq_true c5
      clear c5
      by_cases c6 : x6_1 < (a0.size : Int)
      ·rw [if_pos c6] at H
       have c6b0 : decide (x6_1 < (a0.size : Int)) = true := decide_eq_true c6
       clear c6
       have HC8 := Y0.mk H
       clear H
       have p7 : 0 ≤ (x6_1 : Int) := of_decide_eq_true Z5
       have q7 : x6_1 < (a0.size : Int) := of_decide_eq_true Z5
       have hx7 := YV a0 x6_1
       replace p7 := eq_true p7
       replace q7 := eq_true q7
       go_upto_region 9 with (fail)
       go_cut [20] (fun v20 wc => ∃ (kq : Nat) (x20_7 : Bool), v20 = .bool x20_7 ∧ Y0 (Y4.j1 kq a0 a1 x5_1 x6_1 (bt a0 x6_1) x20_7 = some r) ∧ Y0 (kq ≤ k1) ∧ YO w wc)
       case first =>
        have H := HC8.out
        clear HC8
        by_cases c9 : (bt a0 x6_1) ≥ 48
        ·rw [if_pos c9] at H
         have c9b0 : decide (48 ≤ (bt a0 x6_1)) = true := decide_eq_true c9
         clear c9
         (first | rw [c9b0] | (simp only [YI, YJ]; rw [c9b0]) | skip)
         have H' := Y0.mk H
         clear H
         go_wp2
         go_meet
         case rel => exact ⟨_, (decide ((bt a0 x6_1) ≤ 57)), Z4, H', ⟨Zo⟩, Z6⟩
        ·rw [if_neg c9] at H
         have c9b0 : decide (48 ≤ (bt a0 x6_1)) = false := decide_eq_false c9
         clear c9
         (first | rw [c9b0] | (simp only [YI, YJ]; rw [c9b0]) | skip)
         have H' := Y0.mk H
         clear H
         go_wp2
         go_meet
         case rel => exact ⟨_, (false), Z4, H', ⟨Zo⟩, Z6⟩
       case rest =>
        clear HC8
        try clear c1
        try clear p2
        try clear c3
        try clear c3b0
        try clear c4
        try clear c4b0
        try clear c5
        try clear c5b0
        try clear c6
        try clear c6b0
        try clear p7
        try clear q7
        try clear hx7
        try clear c9
        try clear c9b0
        try clear p2
        try clear p7
        try clear q7
        obtain ⟨kq, x20_7, rfl, HA, HJ7, ⟨mc7, rfl⟩⟩ := hcut
        cases kq with
        | zero => exact absurd HA.out (by simp [Y4.j1])
        | succ kj7 =>
         have H := HA.out
         clear HA
         simp only [Y4.j1] at H
         by_cases c10 : x20_7 = true
         ·subst c10
          have H1 : (Y4.l0 kj7 a0 a1 (wrap64 ((wrap64 (x5_1 * 16)) + (((bt a0 x6_1) - 48) % 256))) (wrap64 (x6_1 + 1))) = some r := by rw [if_pos rfl] at H; exact H
          clear H
          have H := H1
          clear H1
          have H' := Y0.mk H
          clear H
          go_wp2
          go_roundg kj7
          case measure => have := HK1.out; have := HJ7.out; omega
          case rel => exact ⟨(wrap64 ((wrap64 (x5_1 * 16)) + (((bt a0 x6_1) - 48) % 256))), (wrap64 (x6_1 + 1)), Z4, Z4, H', ⟨by have := HK1.out; have := HJ7.out; omega⟩, Z6⟩
         ·replace c10 := Bool.eq_false_iff.mpr c10
          subst c10
          have H1 : (if (bt a0 x6_1) ≥ 97 then (Y4.j2 kj7 a0 a1 x5_1 x6_1 (bt a0 x6_1) (decide ((bt a0 x6_1) ≤ 102))) else (Y4.j2 kj7 a0 a1 x5_1 x6_1 (bt a0 x6_1) false)) = some r := by rw [if_neg (show ¬ (false = true) by decide)] at H; exact H
          clear H
          have H := H1
          clear H1
          have HC11 := Y0.mk H
          clear H
          go_upto_region 11 with (fail)
          go_cut [33] (fun v33 wc => ∃ (kq : Nat) (x33_10 : Bool), v33 = .bool x33_10 ∧ Y0 (Y4.j2 kq a0 a1 x5_1 x6_1 (bt a0 x6_1) x33_10 = some r) ∧ Y0 (kq ≤ kj7) ∧ YO w wc)
          case first =>
           have H := HC11.out
           clear HC11
           by_cases c12 : (bt a0 x6_1) ≥ 97
           ·rw [if_pos c12] at H
            have c12b0 : decide (97 ≤ (bt a0 x6_1)) = true := decide_eq_true c12
            clear c12
            (first | rw [c12b0] | (simp only [YI, YJ]; rw [c12b0]) | skip)
            have H' := Y0.mk H
            clear H
            go_wp2
            go_meet
            case rel => exact ⟨_, (decide ((bt a0 x6_1) ≤ 102)), Z4, H', ⟨ZJ⟩, Z6⟩
           ·rw [if_neg c12] at H
            have c12b0 : decide (97 ≤ (bt a0 x6_1)) = false := decide_eq_false c12
            clear c12
            (first | rw [c12b0] | (simp only [YI, YJ]; rw [c12b0]) | skip)
            have H' := Y0.mk H
            clear H
            go_wp2
            go_meet
            case rel => exact ⟨_, (false), Z4, H', ⟨ZJ⟩, Z6⟩
          case rest =>
           clear HC11
           try clear c1
           try clear p2
           try clear c3
           try clear c3b0
           try clear c4
           try clear c4b0
           try clear c5
           try clear c5b0
           try clear c6
           try clear c6b0
           try clear p6
           try clear c7
           try clear p7
           try clear q7
           try clear hx7
           try clear c9
           try clear c9b0
           try clear c10
           try clear c12
           try clear c12b0
           try clear p2
           try clear p7
           try clear q7
           obtain ⟨kq, x33_10, rfl, HA, HJ10, ⟨mc10, rfl⟩⟩ := hcut
           cases kq with
           | zero => exact absurd HA.out (by simp [Y4.j2])
           | succ kj10 =>
            have H := HA.out
            clear HA
            simp only [Y4.j2] at H
            by_cases c13 : x33_10 = true
            ·subst c13
             have H1 : (Y4.l0 kj10 a0 a1 (wrap64 ((wrap64 ((wrap64 (x5_1 * 16)) + (((bt a0 x6_1) - 97) % 256))) + 10)) (wrap64 (x6_1 + 1))) = some r := by rw [if_pos rfl] at H; exact H
             clear H
             have H := H1
             clear H1
             have H' := Y0.mk H
             clear H
             go_wp2
             go_roundg kj10
             case measure => have := HK1.out; have := HJ7.out; have := HJ10.out; omega
             case rel => exact ⟨(wrap64 ((wrap64 ((wrap64 (x5_1 * 16)) + (((bt a0 x6_1) - 97) % 256))) + 10)), (wrap64 (x6_1 + 1)), Z4, Z4, H', ⟨by have := HK1.out; have := HJ7.out; have := HJ10.out; omega⟩, Z6⟩
            ·replace c13 := Bool.eq_false_iff.mpr c13
             subst c13
             have H1 : (if (bt a0 x6_1) ≥ 65 then (if (bt a0 x6_1) ≤ 70 then (Y4.l0 kj10 a0 a1 (wrap64 ((wrap64 ((wrap64 (x5_1 * 16)) + (((bt a0 x6_1) - 65) % 256))) + 10)) (wrap64 (x6_1 + 1))) else (some (-1))) else (some (-1))) = some r := by rw [if_neg (show ¬ (false = true) by decide)] at H; exact H
             clear H
             have H := H1
             clear H1
             by_cases c14 : (bt a0 x6_1) ≥ 65
             ·rw [if_pos c14] at H
              have c14b0 : decide (65 ≤ (bt a0 x6_1)) = true := decide_eq_true c14
              clear c14
              by_cases c15 : (bt a0 x6_1) ≤ 70
              ·rw [if_pos c15] at H
               have c15b0 : decide ((bt a0 x6_1) ≤ 70) = true := decide_eq_true c15
               clear c15
               have H' := Y0.mk H
               clear H
               go_wp2
               go_roundg kj10
               case measure => have := HK1.out; have := HJ7.out; have := HJ10.out; omega
               case rel => exact ⟨(wrap64 ((wrap64 ((wrap64 (x5_1 * 16)) + (((bt a0 x6_1) - 65) % 256))) + 10)), (wrap64 (x6_1 + 1)), Z4, Z4, H', ⟨by have := HK1.out; have := HJ7.out; have := HJ10.out; omega⟩, Z6⟩
              ·rw [if_neg c15] at H
               have c15b0 : decide ((bt a0 x6_1) ≤ 70) = false := decide_eq_false c15
               clear c15
               obtain rfl := Option.some.inj H
               go_wp2
               go_ret
               exact ZX
             ·rw [if_neg c14] at H
              have c14b0 : decide (65 ≤ (bt a0 x6_1)) = false := decide_eq_false c14
              clear c14
              obtain rfl := Option.some.inj H
              go_wp2
              go_ret
              exact ZX
      ·rw [if_neg c6] at H
       exact Zd
     ·rw [if_neg c5] at H
      exact Zd
    ·rw [if_neg c4] at H
     have c4b0 : decide (x6_1 < a1) = false := decide_eq_false c4
     clear c4
     by_cases c16 : x5_1 > 1114111
     ·rw [if_pos c16] at H
      have c16b0 : decide (1114111 < x5_1) = true := decide_eq_true c16
      clear c16
      obtain rfl := Option.some.inj H
      go_wp2
      go_ret
      exact ZX
     ·rw [if_neg c16] at H
      have c16b0 : decide (1114111 < x5_1) = false := decide_eq_false c16
      clear c16
      by_cases c17 : x5_1 ≥ 55296
      ·rw [if_pos c17] at H
       have c17b0 : decide (55296 ≤ x5_1) = true := decide_eq_true c17
       clear c17
       by_cases c18 : x5_1 ≤ 57343
       ·rw [if_pos c18] at H
        have c18b0 : decide (x5_1 ≤ 57343) = true := decide_eq_true c18
        clear c18
        obtain rfl := Option.some.inj H
        go_wp2
        go_ret
        exact ZX
       ·rw [if_neg c18] at H
        have c18b0 : decide (x5_1 ≤ 57343) = false := decide_eq_false c18
        clear c18
        obtain rfl := Option.some.inj H
        go_wp2
        go_ret
        exact ZX
      ·rw [if_neg c17] at H
       have c17b0 : decide (55296 ≤ x5_1) = false := decide_eq_false c17
       clear c17
       obtain rfl := Option.some.inj H
       go_wp2
       go_ret
       exact ZX
end Go.Proofs.YtbpbfboaofkpaaaDoor.Print
end
section
set_option linter.unusedVariables false
set_option linter.unusedSimpArgs false
namespace Go.Proofs.YtbpbfboaofkpaaaDoor.Print
open Go.RowKit Go.Shelf Go.Lib Go.Proofs.YtbpbfboaofkpaaaDoorW.PrintWords Go.Proofs.YtbpbfboaofkpaaaDoorW.PrintLast Go.Proofs.YtbpbfboaofkpaaaDoorW.PrintMore
def Y2A : List (Int × UInt8) := [(34, 34), (92, 92), (110, 10), (114, 13), (116, 9), (98, 8), (102, 12), (39, 39)]
def Y3u : List (Int × UInt8) → Int → ByteArray × Int
 | [], _ => (⟨#[]⟩, 0)
 | (a, b) :: l, c => if c = a then (⟨#[b]⟩, 1) else Y3u l c
def Y3L (a0 : ByteArray) (n : Int) : Option (ByteArray × Int) :=
 (Y4.f 40 (a0.extract 1 a0.size) n).bind fun x => if x < 0 then some (⟨#[]⟩, 0) else some (runesBytes [x], 1 + n)
def YB.f (a0 : ByteArray) (a1 : Bool) : Option (ByteArray × Int) :=
 if a0.size = 0 then some (⟨#[]⟩, 0)
 else if a0.size ≤ 9223372036854775807 then
  if bt a0 0 = 117 then Y3L a0 4 else if bt a0 0 = 85 then Y3L a0 8
  else if a1 = true then some (Y3u Y2A (bt a0 0)) else some (⟨#[]⟩, 0)
 else none
theorem escFrom0 : (((⟨#[34, 92, 110, 114, 116, 98, 102, 39]⟩ : ByteArray)[0]'(by decide)).toNat : Int) = 34 := rfl
theorem escFrom1 : (((⟨#[34, 92, 110, 114, 116, 98, 102, 39]⟩ : ByteArray)[1]'(by decide)).toNat : Int) = 92 := rfl
theorem escFrom2 : (((⟨#[34, 92, 110, 114, 116, 98, 102, 39]⟩ : ByteArray)[2]'(by decide)).toNat : Int) = 110 := rfl
theorem escFrom3 : (((⟨#[34, 92, 110, 114, 116, 98, 102, 39]⟩ : ByteArray)[3]'(by decide)).toNat : Int) = 114 := rfl
theorem escFrom4 : (((⟨#[34, 92, 110, 114, 116, 98, 102, 39]⟩ : ByteArray)[4]'(by decide)).toNat : Int) = 116 := rfl
theorem escFrom5 : (((⟨#[34, 92, 110, 114, 116, 98, 102, 39]⟩ : ByteArray)[5]'(by decide)).toNat : Int) = 98 := rfl
theorem escFrom6 : (((⟨#[34, 92, 110, 114, 116, 98, 102, 39]⟩ : ByteArray)[6]'(by decide)).toNat : Int) = 102 := rfl
theorem escFrom7 : (((⟨#[34, 92, 110, 114, 116, 98, 102, 39]⟩ : ByteArray)[7]'(by decide)).toNat : Int) = 39 := rfl
theorem escTo0 : (⟨#[34, 92, 10, 13, 9, 8, 12, 39]⟩ : ByteArray).extract 0 1 = ⟨#[34]⟩ := by apply ByteArray.ext; rfl
theorem escTo1 : (⟨#[34, 92, 10, 13, 9, 8, 12, 39]⟩ : ByteArray).extract 1 2 = ⟨#[92]⟩ := by apply ByteArray.ext; rfl
theorem escTo2 : (⟨#[34, 92, 10, 13, 9, 8, 12, 39]⟩ : ByteArray).extract 2 3 = ⟨#[10]⟩ := by apply ByteArray.ext; rfl
theorem escTo3 : (⟨#[34, 92, 10, 13, 9, 8, 12, 39]⟩ : ByteArray).extract 3 4 = ⟨#[13]⟩ := by apply ByteArray.ext; rfl
theorem escTo4 : (⟨#[34, 92, 10, 13, 9, 8, 12, 39]⟩ : ByteArray).extract 4 5 = ⟨#[9]⟩ := by apply ByteArray.ext; rfl
theorem escTo5 : (⟨#[34, 92, 10, 13, 9, 8, 12, 39]⟩ : ByteArray).extract 5 6 = ⟨#[8]⟩ := by apply ByteArray.ext; rfl
theorem escTo6 : (⟨#[34, 92, 10, 13, 9, 8, 12, 39]⟩ : ByteArray).extract 6 7 = ⟨#[12]⟩ := by apply ByteArray.ext; rfl
theorem escTo7 : (⟨#[34, 92, 10, 13, 9, 8, 12, 39]⟩ : ByteArray).extract 7 8 = ⟨#[39]⟩ := by apply ByteArray.ext; rfl
set_option maxRecDepth 100000 in
set_option maxHeartbeats 2000000 in
theorem Y4w (a0 : ByteArray) (w : World) (h0 : 0 < a0.size) (n1 : bt a0 0 ≠ 117) (n2 : bt a0 0 ≠ 85) (hz : a0.size ≤ 9223372036854775807) :
  Calls Tryd.prog 109 #[.string a0, .bool true] w fun e w' => e = .returned (.tuple #[.string (Y3u Y2A (bt a0 0)).1, .int .i64 (Y3u Y2A (bt a0 0)).2]) ∧ Below w.heap.size w w' := by
 have hx : ((a0[0]'h0).toNat : Int) = bt a0 0 := YV a0 0 h0
 obtain ⟨c, hc⟩ : ∃ c, bt a0 0 = c := ⟨_, rfl⟩
 rw [hc] at hx n1 n2 ⊢
 have g1 : (c == 117) = false := beq_eq_false_iff_ne.mpr n1
 have g2 : (c == 85) = false := beq_eq_false_iff_ne.mpr n2
 have hn : (a0.toList == []) = false := by
  rw [Lib.toList_data, beq_eq_false_iff_ne]; intro e
  have := Y1u a0; rw [e] at this; simp at this; omega
 have q0 : (0 : Int) < (a0.size : Int) := by omega
 obtain ⟨R, hR⟩ : ∃ R, Y3u Y2A c = R := ⟨_, rfl⟩
 rw [hR]
 have HR := Lib.hid hR
 clear n1 n2 hc hR
 go_enter Tryd.func109, Tryd.ntmps109
 go_wp2
 repeat (go_quiet (fail); try go_wp2)
 have f0 := escFrom0
 have f1 := escFrom1
 have f2 := escFrom2
 have f3 := escFrom3
 have f4 := escFrom4
 have f5 := escFrom5
 have f6 := escFrom6
 have f7 := escFrom7
 have bel0 := Below.refl w.heap.size w
 go_loopw [10] (fun i wr => ∃ k : Nat, k ≤ 8 ∧ i = .int .i64 k ∧ Y3u (Y2A.drop k) c = R ∧ Below w.heap.size w wr) (fun i _ => 8 - (intOf i).toNat)
 case atStart => exact ⟨0, by omega, rfl, HR.out, Zu⟩
 case round =>
  obtain ⟨k, hk, rfl, hg, hb⟩ := hrel
  have HB := Lib.hid hb
  clear hb
  rcases (by omega : k = 8 ∨ k = 0 ∨ k = 1 ∨ k = 2 ∨ k = 3 ∨ k = 4 ∨ k = 5 ∨ k = 6 ∨ k = 7) with rfl | rfl | rfl | rfl | rfl | rfl | rfl | rfl | rfl
  ·have HG := Lib.hid hg
   clear hg
   go_wp2
   go_ret2
   exact ⟨by rw [← HG.out]; rfl, HB.out⟩
  all_goals
   simp only [Y2A, List.drop, Y3u] at hg
   split at hg
   ·next hc =>
    have g3 := beq_iff_eq.mpr hc
    have HG := Lib.hid hg
    clear hg hc HR
    go_wp2
    repeat (go_quiet (fail); try go_wp2)
    go_ret2
    exact ⟨by rw [← HG.out]; simp [escTo0, escTo1, escTo2, escTo3, escTo4, escTo5, escTo6, escTo7], HB.out.trans Zu⟩
   ·next hc =>
    have g3 := beq_eq_false_iff_ne.mpr hc
    have HG := Lib.hid hg
    clear hg hc
    go_wp2
    repeat (go_quiet (fail); try go_wp2)
    go_roundw
    case rel =>
     first
      | exact ⟨1, by decide, rfl, Zl, Zk⟩
      | exact ⟨2, by decide, rfl, Zl, Zk⟩
      | exact ⟨3, by decide, rfl, Zl, Zk⟩
      | exact ⟨4, by decide, rfl, Zl, Zk⟩
      | exact ⟨5, by decide, rfl, Zl, Zk⟩
      | exact ⟨6, by decide, rfl, Zl, Zk⟩
      | exact ⟨7, by decide, rfl, Zl, Zk⟩
      | exact ⟨8, by decide, rfl, Zl, Zk⟩
    case measure => simp [intOf]
set_option maxRecDepth 100000 in
theorem Y48 (a0 : ByteArray) (w : World) (h0 : 0 < a0.size) (n1 : bt a0 0 ≠ 117) (n2 : bt a0 0 ≠ 85) (hz : a0.size ≤ 9223372036854775807) :
  Calls Tryd.prog 109 #[.string a0, .bool false] w fun e w' => e = .returned (.tuple #[.string ⟨#[]⟩, .int .i64 0]) ∧ Below w.heap.size w w' := by
 have hx : ((a0[0]'h0).toNat : Int) = bt a0 0 := YV a0 0 h0
 obtain ⟨c, hc⟩ : ∃ c, bt a0 0 = c := ⟨_, rfl⟩
 rw [hc] at hx n1 n2
 have g1 : (c == 117) = false := beq_eq_false_iff_ne.mpr n1
 have g2 : (c == 85) = false := beq_eq_false_iff_ne.mpr n2
 have hn : (a0.toList == []) = false := by
  rw [Lib.toList_data, beq_eq_false_iff_ne]; intro e
  have := Y1u a0; rw [e] at this; simp at this; omega
 have q0 : (0 : Int) < (a0.size : Int) := by omega
 have bel0 := Below.refl w.heap.size w
 clear n1 n2 hc
 go_enter Tryd.func109, Tryd.ntmps109
 go_wp2
 repeat (go_quiet (fail); try go_wp2)
 go_loopw [10] (fun i wr => i = .int .i64 0 ∧ Below w.heap.size w wr) (fun i _ => 0)
 case atStart => exact ⟨rfl, by first | exact bel0 | exact Y16 bel0 _⟩
 case round =>
  obtain ⟨rfl, hb⟩ := hrel
  go_wp2
  repeat (go_quiet (fail); try go_wp2)
  go_ret2
  exact ⟨rfl, by first | exact hb | exact Y16 hb _⟩
theorem Y3N (a0 : ByteArray) (b : Bool) (w : World) (h0 : a0.size = 0) :
  Calls Tryd.prog 109 #[.string a0, .bool b] w fun e w' => e = .returned (.tuple #[.string ⟨#[]⟩, .int .i64 0]) ∧ Below w.heap.size w w' := by
 have hn : (a0.toList == []) = true := by
  rw [Lib.toList_data, beq_iff_eq]
  have := Y1u a0; rw [h0] at this; exact List.length_eq_zero_iff.1 this
 have bel0 := Below.refl w.heap.size w
 go_enter Tryd.func109, Tryd.ntmps109
 go_wp2
 go_ret2
 exact ⟨rfl, bel0⟩
theorem Y40 (w : World) (x : Int) (m : Nat) :
  (convert 113 9 (.slice (some ⟨w.heap.size, 0, none⟩) 1 1)).run Tryd.prog ((w.drewN m).alloc (Obj.cells #[.int .i32 x] 21)) = .ok (.string (runesBytes [x])) ((w.drewN m).alloc (Obj.cells #[.int .i32 x] 21)) := by
 refine run_convert_runes _ _ _ 21 ⟨w.heap.size, 0, none⟩ 1 1 [x] (by simp) Tryd.underlying113 Tryd.underlying21 Tryd.underlying9 ?_
 intro j hj
 have hj0 : j = 0 := by simp at hj; omega
 subst hj0
 have hh : ((w.drewN m).alloc (Obj.cells #[Value.int .i32 x] 21)).heap[w.heap.size]? = some (.cells #[.int .i32 x] 21) := heap_alloc_new (w.drewN m) _
 show World.cell? _ ⟨w.heap.size, 0, none⟩ = some (.int .i32 x)
 unfold World.cell?
 rw [hh]
 rfl
set_option maxRecDepth 100000 in
theorem Y3e (a0 : ByteArray) (b : Bool) (n : Int) (hn4 : (n = 4 ∧ bt a0 0 = 117) ∨ (n = 8 ∧ bt a0 0 = 85)) (x : Int) (w : World) (h0 : 0 < a0.size) (hz : a0.size ≤ 9223372036854775807) (hh : Y4.f 40 (a0.extract 1 a0.size) n = some x) (R : ByteArray × Int) (hR : (if x < 0 then (⟨#[]⟩, 0) else (runesBytes [x], 1 + n) : ByteArray × Int) = R) :
  Calls Tryd.prog 109 #[.string a0, .bool b] w fun e w' => e = .returned (.tuple #[.string R.1, .int .i64 R.2]) ∧ Below w.heap.size w w' := by
 have hx : ((a0[0]'h0).toNat : Int) = bt a0 0 := YV a0 0 h0
 have hn : (a0.toList == []) = false := by
  rw [Lib.toList_data, beq_eq_false_iff_ne]; intro e
  have := Y1u a0; rw [e] at this; simp at this; omega
 have q0 : (0 : Int) < (a0.size : Int) := by omega
 have q1 : (1 : Int) ≤ (a0.size : Int) := by omega
 have bel0 := Below.refl w.heap.size w
 have hcall := fun W => Y4.calls 40 (a0.extract 1 a0.size) n x W hh
 have HC := Lib.hid hcall
 clear hcall hh
 rcases hn4 with ⟨rfl, e1⟩ | ⟨rfl, e1⟩
 ·rw [e1] at hx
  clear e1
  have HR := Lib.hid hR
  clear hR
  have HX := Lib.hid hx
  by_cases hneg : x < 0
  ·have d1 : decide (x < 0) = true := decide_eq_true hneg
   have HD := Lib.hid hneg
   clear hneg
   go_enter Tryd.func109, Tryd.ntmps109
   go_wp2_with (go_at_call 121; refine (HC.out _).mono ?_; rintro e w2 ⟨rfl, ⟨m, rfl⟩⟩)
   go_ret2
   exact ⟨by rw [← HR.out, if_pos HD.out]; rfl, Y16 bel0 _⟩
  ·have d1 : decide (x < 0) = false := decide_eq_false hneg
   have HD := Lib.hid hneg
   have KB := Lib.hid (Y40 w x)
   clear hneg
   go_enter Tryd.func109, Tryd.ntmps109
   go_wp2_with (go_at_call 121; refine (HC.out _).mono ?_; rintro e w2 ⟨rfl, ⟨m, rfl⟩⟩; have kb := KB.out m)
   go_ret2
   exact Zz
 ·rw [e1] at hx
  clear e1
  have HR := Lib.hid hR
  clear hR
  have HX := Lib.hid hx
  by_cases hneg : x < 0
  ·have d1 : decide (x < 0) = true := decide_eq_true hneg
   have HD := Lib.hid hneg
   clear hneg
   go_enter Tryd.func109, Tryd.ntmps109
   go_wp2_with (go_at_call 121; refine (HC.out _).mono ?_; rintro e w2 ⟨rfl, ⟨m, rfl⟩⟩)
   go_ret2
   exact ⟨by rw [← HR.out, if_pos HD.out]; rfl, Y16 bel0 _⟩
  ·have d1 : decide (x < 0) = false := decide_eq_false hneg
   have HD := Lib.hid hneg
   have KB := Lib.hid (Y40 w x)
   clear hneg
   go_enter Tryd.func109, Tryd.ntmps109
   go_wp2_with (go_at_call 121; refine (HC.out _).mono ?_; rintro e w2 ⟨rfl, ⟨m, rfl⟩⟩; have kb := KB.out m)
   go_ret2
   exact Zz
theorem Y2O {a0 : ByteArray} {n r2 : Int} {r1 : ByteArray} (h : Y3L a0 n = some (r1, r2)) : ∃ x, Y4.f 40 (a0.extract 1 a0.size) n = some x ∧ (if x < 0 then (⟨#[]⟩, 0) else (runesBytes [x], 1 + n) : ByteArray × Int) = (r1, r2) := by
 unfold Y3L at h
 obtain ⟨x, h1, h2⟩ := Option.bind_eq_some_iff.1 h
 refine ⟨x, h1, ?_⟩
 split at h2
 ·next hx => rw [if_pos hx]; exact Option.some.inj h2
 ·next hx => rw [if_neg hx]; exact Option.some.inj h2
theorem YB.calls (a0 : ByteArray) (a1 : Bool) (r1 : ByteArray) (r2 : Int) (w : World) (h : YB.f a0 a1 = some (r1, r2)) :
  Calls Tryd.prog 109 #[.string a0, .bool a1] w fun e w' => e = .returned (.tuple #[.string r1, .int .i64 r2]) ∧ Below w.heap.size w w' := by
 unfold YB.f at h
 split at h
 ·next h0 => cases h; exact Y3N a0 a1 w h0
 next h0 =>
 split at h
 case isFalse => cases h
 next hz =>
 split at h
 ·next h1 =>
  obtain ⟨x, hx, hr⟩ := Y2O h
  exact Y3e a0 a1 4 (.inl ⟨rfl, h1⟩) x w (by omega) hz hx (r1, r2) hr
 next h1 =>
 split at h
 ·next h2 =>
  obtain ⟨x, hx, hr⟩ := Y2O h
  exact Y3e a0 a1 8 (.inr ⟨rfl, h2⟩) x w (by omega) hz hx (r1, r2) hr
 next h2 =>
 split at h
 ·next h3 =>
  subst h3
  have e := Option.some.inj h
  have hh := Y4w a0 w (by omega) h1 h2 hz
  rw [e] at hh
  exact hh
 ·next h3 =>
  cases h
  obtain rfl : a1 = false := by simpa using h3
  exact Y48 a0 w (by omega) h1 h2 hz
end Go.Proofs.YtbpbfboaofkpaaaDoor.Print
end
section
set_option linter.unusedVariables false
set_option linter.unusedSimpArgs false
namespace Go.Proofs.YtbpbfboaofkpaaaDoor.Print
open Go.RowKit Go.Shelf Go.Lib
theorem Y1N (g : Nat) (eg : ∀ args w, (callFunc g args).run Tryd.prog w = .ok (.enter g args) w) (lb : Array Value) (p : Nat → Bool) (s : ByteArray) (w : World) (hp : PredGrows Tryd.prog g lb p w) :
  Calls Tryd.prog 70 #[.string s, .func (.func g) #[] lb] w fun e w' => e = .returned (.bool (YU p s)) ∧ Below w.heap.size w w' := by
 unfold YU
 have hc : ∀ W : World, Below w.heap.size w W → w.heap.size < W.heap.size → W.cell? ⟨w.heap.size, 0, none⟩ = some (.func (.func g) #[] lb) →
   Calls Tryd.prog 104 #[.string s, .func (.func 105) #[] #[.pointer (some ⟨w.heap.size, 0, none⟩)]] W fun e w' => e = .returned (.bool (decide (0 ≤ Lib.idxFunc (fun r => !p r) true s))) ∧ Below W.heap.size W w' := fun W hb hl hc =>
  Tryd.strings_ContainsFunc_grows 105 _ (enters_of Tryd.func105 Z7 rfl) _ s W (all1_pays g lb eg p W w.heap.size hl (hp.later hb) hc)
 generalize decide (0 ≤ Lib.idxFunc (fun r => !p r) true s) = b at hc ⊢
 have HC := Lib.hid hc
 clear hc
 go_enter Tryd.func70, Tryd.ntmps70
 go_wp2_with (go_at_call 104; refine (HC.out _ ?_ ?_ ?_).mono ?_; exact ((Below.refl _ _).alloc (Nat.le_refl _) _); simp; simp; rintro e w' ⟨rfl, hb⟩)
 go_ret
 exact ⟨rfl, ((Below.refl _ _).alloc (Nat.le_refl _) _).trans (hb.mono (by simp))⟩
def Y3K : ByteArray := ⟨#[45]⟩
def Y1I (i : Nat) (r : Nat) : Bool := Y2D r || (decide (0 < i) && Y2z r)
def Y2m (i : Nat) (x : ByteArray) : Bool := decide (0 < x.size) && decide (x.size ≤ 8) && YU (Y1I i) x
def Y1H : Nat → List ByteArray → Bool
 | _, [] => true
 | i, x :: l => Y2m i x && Y1H (i + 1) l
def langL (s : ByteArray) : List ByteArray := splitB Y3K 0 (countB s Y3K) s
def langB (s : ByteArray) : Bool := Y1H 0 (langL s) && decide (s.size ≤ 16)
theorem langL_len (s : ByteArray) : (langL s).length = countB s Y3K + 1 := splitB_all Y3K (by decide) 0 _ s rfl
theorem Y4z (i B : Nat) (w : World) (hB : B < w.heap.size) (hc : w.cell? ⟨B, 0, none⟩ = some (.int .i64 (i : Int))) :
  PredGrows Tryd.prog 76 #[.pointer (some ⟨B, 0, none⟩)] (Y1I i) w := by
 intro W x hx hb
 have hc' := (hb.cell (p := ⟨B, 0, none⟩) hB).trans hc
 show Calls Tryd.prog 76 #[.int .i32 (x : Int), .pointer (some ⟨B, 0, none⟩)] W _
 have h1 := fun w => Y2l (x : Int) w
 have h2 := fun w => Y2k (x : Int) w
 have e1 : Y1I i x = ((decide (97 ≤ (x : Int)) && decide ((x : Int) ≤ 122)) || (decide ((0 : Int) < (i : Int)) && (decide (48 ≤ (x : Int)) && decide ((x : Int) ≤ 57)))) := by
  unfold Y1I Y2D Y2z
  have a1 : decide (97 ≤ (x : Int)) = decide (97 ≤ x) := decide_eq_decide.2 (by omega)
  have a2 : decide ((x : Int) ≤ 122) = decide (x ≤ 122) := decide_eq_decide.2 (by omega)
  have a3 : decide (48 ≤ (x : Int)) = decide (48 ≤ x) := decide_eq_decide.2 (by omega)
  have a4 : decide ((x : Int) ≤ 57) = decide (x ≤ 57) := decide_eq_decide.2 (by omega)
  have a5 : decide ((0 : Int) < (i : Int)) = decide (0 < i) := decide_eq_decide.2 (by omega)
  rw [a1, a2, a3, a4, a5]
 rw [e1]
 generalize (decide (97 ≤ (x : Int)) && decide ((x : Int) ≤ 122)) = a at h1 ⊢
 generalize (decide (48 ≤ (x : Int)) && decide ((x : Int) ≤ 57)) = b at h2 ⊢
 obtain ⟨c, hcc⟩ : ∃ c, decide ((0 : Int) < (i : Int)) = c := ⟨_, rfl⟩
 rw [hcc]
 have hcd : decide (0 < i) = c := by rw [← hcc]; exact decide_eq_decide.2 (by omega)
 have H1 := Lib.hid h1
 have H2 := Lib.hid h2
 clear h1 h2 hc e1
 cases a <;> cases b <;> cases c
 all_goals
  go_enter Tryd.func76, Tryd.ntmps76
  go_wp2_with (first | (go_at_call 77; refine (H1.out _).mono ?_; rintro e w1 ⟨rfl, rfl⟩) | (go_at_call 74; refine (H2.out _).mono ?_; rintro e w2 ⟨rfl, rfl⟩))
  go_ret
  exact ⟨by rfl, Below.refl _ _⟩
set_option maxRecDepth 100000 in
set_option maxHeartbeats 1000000 in
theorem Y2x (a0 : ByteArray) (w : World) (hT : Tabs w) (hs : a0.size < 4294967281) :
  Calls Tryd.prog 41 #[.string a0] w fun e w' => e = .returned (.bool (langB a0)) ∧ Below w.heap.size w w' := by
 obtain ⟨m, hm⟩ := hT.ml
 have hsp := Tryd.strings_Split a0 Y3K m w hs hm (by decide)
 have hlen := langL_len a0
 have hcb := countB_le Y3K (by decide) a0.size a0 (Nat.le_refl _)
 have hbd : (langL a0).length < 4294967290 := by rw [hlen]; omega
 obtain ⟨c16, hc16⟩ : ∃ b, decide (a0.size ≤ 16) = b := ⟨_, rfl⟩
 have hd16 : decide ((a0.size : Int) ≤ 16) = c16 := by rw [← hc16]; exact decide_eq_decide.2 (by omega)
 unfold langB
 rw [hc16]
 have hl2 : splitB Y3K 0 (countB a0 Y3K) a0 = langL a0 := rfl
 rw [hl2] at hsp
 generalize langL a0 = l at hsp hlen hbd ⊢
 rw [← hlen] at hsp
 obtain ⟨R, hR⟩ : ∃ R, (Y1H 0 l && c16) = R := ⟨_, rfl⟩
 rw [hR]
 have HR := Lib.hid hR
 have HSP := Lib.hid hsp
 clear hR hsp hlen hl2 hT hm hcb
 go_enter Tryd.func41, Tryd.ntmps41
 go_wp2_with (go_at_call 75; refine HSP.out.mono ?_; rintro e w1 ⟨rfl, rfl⟩)
 have hw0 : (w.alloc (.cells (l.map Value.string).toArray 9)).heap[w.heap.size]? = some (.cells (l.map Value.string).toArray 9) := heap_alloc_new w _
 have hsz : (w.alloc (.cells (l.map Value.string).toArray 9)).heap.size = w.heap.size + 1 := by simp
 have hbl : Below w.heap.size w (w.alloc (.cells (l.map Value.string).toArray 9)) := (Below.refl _ _).alloc (Nat.le_refl _) _
 generalize w.alloc (.cells (l.map Value.string).toArray 9) = W1 at hw0 hsz hbl ⊢
 have HB0 := Lib.hid hbl
 have HW0 := Lib.hid hw0
 have HSZ := Lib.hid hsz
 clear hbl hw0 hsz
 go_loopw [8] (fun i wr => ∃ k : Nat, k ≤ l.length ∧ i = .int .i64 k ∧ (Y1H k (l.drop k) && c16) = R ∧ Below (w.heap.size + 1) W1 wr) (fun i _ => l.length - (intOf i).toNat)
 case atStart => exact ⟨0, Nat.zero_le _, rfl, HR.out, Below.refl _ _⟩
 case round =>
  obtain ⟨k, hk, rfl, hr, hb⟩ := hrel
  by_cases hlt : k < l.length
  ·obtain ⟨x, hx⟩ : ∃ x, l[k] = x := ⟨_, rfl⟩
   have hd : l.drop k = x :: l.drop (k + 1) := by rw [List.drop_eq_getElem_cons hlt, hx]
   rw [hd] at hr
   have hc1 : wr.cell? ⟨w.heap.size, k, none⟩ = some (.string x) := by
    have e := (hb.block w.heap.size (by omega)).trans HW0.out
    unfold World.cell?
    simp only [e]
    simp [List.getElem?_eq_getElem hlt, hx]
   have hszw : w.heap.size < wr.heap.size := by have := HSZ.out; have := hb.size; omega
   have hlp : Y1H k (x :: l.drop (k + 1)) = (Y2m k x && Y1H (k + 1) (l.drop (k + 1))) := rfl
   rw [hlp] at hr
   have HRR := Lib.hid hr
   have HB := Lib.hid hb
   have HX := Lib.hid hszw
   clear hr hb hd hx hlp
   by_cases h0 : x.size = 0
   ·have n2 : (x.toList == []) = true := by
     rw [Lib.toList_data, beq_iff_eq]
     have := Y1u x; rw [h0] at this; exact List.length_eq_zero_iff.1 this
    have HRF := Lib.hid (show R = false by rw [← HRR.out]; simp [Y2m, h0])
    clear h0
    go_wp2
    go_ret
    exact Zx
   ·have n2 : (x.toList == []) = false := by
     rw [Lib.toList_data, beq_eq_false_iff_ne]; intro e
     have := Y1u x; rw [e] at this; simp at this; omega
    by_cases h8 : x.size ≤ 8
    ·have m1 : decide ((8 : Int) < (x.size : Int)) = false := decide_eq_false (by omega)
     have hall := fun (W : World) (h1 : wr.heap.size < W.heap.size) (h2 : W.cell? ⟨wr.heap.size, 0, none⟩ = some (.int .i64 (k : Int))) => Y1N 76 (enters_of Tryd.func76 Z7 rfl) #[.pointer (some ⟨wr.heap.size, 0, none⟩)] (Y1I k) x W (Y4z k wr.heap.size W h1 h2)
     have hre : (YU (Y1I k) x && (Y1H (k + 1) (l.drop (k + 1)) && c16)) = R := by
      rw [← HRR.out, Y2m, decide_eq_true (by omega : 0 < x.size), decide_eq_true h8]; simp [Bool.and_assoc]
     generalize YU (Y1I k) x = b at hall hre
     have HA := Lib.hid hall
     have HRE := Lib.hid hre
     clear hall hre h0 h8
     cases b
     ·go_wp2_with (go_at_call 70; refine (HA.out _ ?_ ?_).mono ?_; simp; simp; rintro e w2 ⟨rfl, hb2⟩)
      go_ret
      exact ⟨by rw [← HRE.out]; rfl, HB0.out.trans ((HB.out.mono (Nat.le_succ _)).trans (((Below.refl _ _).alloc (by have := HX.out; omega) _).trans (hb2.mono (by simp; have := HX.out; omega))))⟩
     ·go_wp2_with (go_at_call 70; refine (HA.out _ ?_ ?_).mono ?_; simp; simp; rintro e w2 ⟨rfl, hb2⟩)
      go_roundw
      case rel => exact ⟨k + 1, by omega, by go_num, by rw [← HRE.out]; rfl, HB.out.trans (((Below.refl _ _).alloc (by have := HX.out; omega) _).trans (hb2.mono (by simp; have := HX.out; omega)))⟩
      case measure => simp [intOf]; omega
    ·have m1 : decide ((8 : Int) < (x.size : Int)) = true := decide_eq_true (by omega)
     have HRF := Lib.hid (show R = false by rw [← HRR.out]; simp [Y2m, h8])
     clear h0 h8
     go_wp2
     go_ret
     exact Zx
  ·obtain rfl : k = l.length := by omega
   rw [List.drop_length] at hr
   have HRR := Lib.hid hr
   have HB := Lib.hid hb
   clear hr hb
   go_wp2
   go_ret
   exact ⟨by rw [← HRR.out]; rfl, HB0.out.trans (HB.out.mono (Nat.le_succ _))⟩
def langOk (s : ByteArray) : Bool := decide (s.size < 4294967281)
def Y1s.f (a0 : ByteArray) : Option Bool := if langOk a0 then some (langB a0) else none
theorem Y1s.calls (a0 : ByteArray) (r : Bool) (w : World) (hT : Tabs w) (h : Y1s.f a0 = some r) :
  Calls Tryd.prog 41 #[.string a0] w fun e w' => e = .returned (.bool r) ∧ Below w.heap.size w w' := by
 unfold Y1s.f at h
 by_cases hs : langOk a0 = true
 ·rw [if_pos hs] at h
  obtain rfl := Option.some.inj h
  exact Y2x a0 w hT (of_decide_eq_true hs)
 ·rw [if_neg hs] at h; cases h
end Go.Proofs.YtbpbfboaofkpaaaDoor.Print
end
section
namespace Go.Proofs.YtbpbfboaofkpaaaDoor.Print
open Go.RowKit Go.Shelf Go.Proofs.YtbpbfboaofkpaaaDoorW.PrintWords
set_option linter.unusedVariables false
set_option linter.unusedSimpArgs false
def Y28 (s : ByteArray) : Bool := decide (s.size ≤ 9223372036854775807)
def Y3f (s : ByteArray) : Bool := decide (0 < s.size) && decide (s.size ≤ 60) && Lib.validD s.data.toList && YU YG s
def utf8_ValidString.f (a0 : ByteArray) : Option Bool := if Y28 a0 then some (Lib.validD a0.data.toList) else none
theorem utf8_ValidString.calls (a0 : ByteArray) (r : Bool) (w : World) (hT : Tabs w) (h : utf8_ValidString.f a0 = some r) :
  Calls Tryd.prog 38 #[.string a0] w fun e w' => e = .returned (.bool r) ∧ Below w.heap.size w w' := by
 unfold utf8_ValidString.f at h
 by_cases hs : Y28 a0 = true
 ·rw [if_pos hs] at h
  obtain rfl := Option.some.inj h
  exact Any.utf8_ValidString Tryd.lays196 a0 w (of_decide_eq_true hs) hT.u8
 ·rw [if_neg hs] at h; cases h
theorem ba_toList (a : ByteArray) : a.toList = a.data.toList := Lib.toList_data a
theorem ba_ne {a : ByteArray} (h : 0 < a.size) : a.toList ≠ [] := by
 intro e
 rw [ba_toList] at e
 have : a.data.toList.length = 0 := by rw [e]; rfl
 rw [Array.length_toList] at this
 have h2 : a.size = a.data.size := rfl
 omega
theorem Y4i {a : ByteArray} (h : a.size = 0) : a = ⟨#[]⟩ := by
 cases a with | mk d =>
 have : d.size = 0 := h
 congr
 exact Array.eq_empty_of_size_eq_zero this
def YC.f (a0 : ByteArray) : Option Bool := if Y28 a0 then some (Y3f a0) else none
theorem YC.calls (a0 : ByteArray) (r : Bool) (w : World) (hT : Tabs w) (h : YC.f a0 = some r) :
  Calls Tryd.prog 39 #[.string a0] w fun e w' => e = .returned (.bool r) ∧ Below w.heap.size w w' := by
 unfold YC.f at h
 by_cases hs : Y28 a0 = true
 ·rw [if_pos hs] at h
  obtain rfl := Option.some.inj h
  have hz : a0.size ≤ 9223372036854775807 := of_decide_eq_true hs
  clear h hs
  unfold Y3f
  rcases Nat.eq_zero_or_pos a0.size with h0 | h0
  ·obtain rfl := Y4i h0
   clear h0 hT
   show Calls _ _ _ w fun e w' => e = .returned (.bool false) ∧ _
   go_enter Tryd.func39, Tryd.ntmps39
   go_wp2
   go_ret
   exact Zq
  ·have n1 := ba_ne h0
   have n2 : (a0.toList == []) = false := beq_eq_false_iff_ne.mpr n1
   have n3 : (a0.toList != []) = true := bne_iff_ne.mpr n1
   have n4 : a0.toList.isEmpty = false := by cases e : a0.toList <;> simp_all
   rw [decide_eq_true h0, Bool.true_and]
   by_cases h60 : a0.size ≤ 60
   ·have m1 : decide ((a0.size : Int) ≤ 60) = true := decide_eq_true (by omega)
    have m2 : decide (a0.size ≤ 60) = true := decide_eq_true h60
    rw [decide_eq_true h60, Bool.true_and]
    have c1 := fun W (hb : Below w.heap.size w W) => Any.utf8_ValidString Tryd.lays196 a0 W hz (Y1n hT hb).u8
    have c2 := fun W => Y1N 71 (enters_of Tryd.func71 Z7 rfl) #[] YG a0 W (Y4a W)
    generalize Lib.validD a0.data.toList = b1 at c1 ⊢
    generalize YU YG a0 = b2 at c2 ⊢
    have C1 := Lib.hid c1
    have C2 := Lib.hid c2
    clear c1 c2 hT h0 h60 n1
    cases b1
    ·show Calls _ _ _ w fun e w' => e = .returned (.bool false) ∧ _
     go_enter Tryd.func39, Tryd.ntmps39
     go_wp2_with (go_at_call 38; refine (C1.out _ (Below.refl _ _)).mono ?_; rintro e w1 ⟨rfl, hb1⟩)
     go_ret
     exact ⟨rfl, hb1⟩
    ·show Calls _ _ _ w fun e w' => e = .returned (.bool b2) ∧ _
     go_enter Tryd.func39, Tryd.ntmps39
     go_wp2_with (first | (go_at_call 38; refine (C1.out _ (Below.refl _ _)).mono ?_; rintro e w1 ⟨rfl, hb1⟩) | (go_at_call 70; refine (C2.out _).mono ?_; rintro e w2 ⟨rfl, hb2⟩))
     go_ret
     exact ⟨rfl, hb1.trans (hb2.mono hb1.size)⟩
   ·have m1 : decide ((a0.size : Int) ≤ 60) = false := decide_eq_false (by omega)
    have m2 : decide (a0.size ≤ 60) = false := decide_eq_false h60
    rw [decide_eq_false h60, Bool.false_and]
    rw [Bool.false_and]
    clear hT h0 h60 n1
    go_enter Tryd.func39, Tryd.ntmps39
    go_wp2
    go_ret
    exact Zq
 ·rw [if_neg hs] at h; cases h
def YE.f (a0 : ByteArray) : Option Bool := if Y28 a0 then some (Y3f a0) else none
theorem YE.calls (a0 : ByteArray) (r : Bool) (w : World) (hT : Tabs w) (h : YE.f a0 = some r) :
  Calls Tryd.prog 45 #[.string a0] w fun e w' => e = .returned (.bool r) ∧ Below w.heap.size w w' := by
 unfold YE.f at h
 by_cases hs : Y28 a0 = true
 ·rw [if_pos hs] at h
  obtain rfl := Option.some.inj h
  have e : Y2H a0 = Y3f a0 := by
   unfold Y2H Y3f
   by_cases h1 : a0.size < 1
   ·rw [decide_eq_true h1, decide_eq_false (by omega : ¬ 0 < a0.size)]; simp
   ·by_cases h2 : 60 < a0.size
    ·rw [decide_eq_true h2, decide_eq_false (by omega : ¬ a0.size ≤ 60)]; simp
    ·rw [decide_eq_false h1, decide_eq_false h2, decide_eq_true (by omega : 0 < a0.size), decide_eq_true (by omega : a0.size ≤ 60)]; simp
  rw [← e]
  exact Y3Y a0 w hT (of_decide_eq_true hs)
 ·rw [if_neg hs] at h; cases h
def labelB (s : ByteArray) : Bool := decide (0 < s.size) && decide (s.size ≤ 8) && YU Y1l s
def Y1k.f (a0 : ByteArray) : Option Bool := if Y28 a0 then some (labelB a0) else none
theorem Y1k.calls (a0 : ByteArray) (r : Bool) (w : World) (h : Y1k.f a0 = some r) :
  Calls Tryd.prog 40 #[.string a0] w fun e w' => e = .returned (.bool r) ∧ Below w.heap.size w w' := by
 unfold Y1k.f at h
 by_cases hs : Y28 a0 = true
 ·rw [if_pos hs] at h
  obtain rfl := Option.some.inj h
  have hz : a0.size ≤ 9223372036854775807 := of_decide_eq_true hs
  clear h hs
  unfold labelB
  rcases Nat.eq_zero_or_pos a0.size with h0 | h0
  ·obtain rfl := Y4i h0
   clear h0
   show Calls _ _ _ w fun e w' => e = .returned (.bool false) ∧ _
   go_enter Tryd.func40, Tryd.ntmps40
   go_wp2
   go_ret
   exact Zq
  ·have n1 := ba_ne h0
   have n2 : (a0.toList == []) = false := beq_eq_false_iff_ne.mpr n1
   have n3 : (a0.toList != []) = true := bne_iff_ne.mpr n1
   have n4 : a0.toList.isEmpty = false := by cases e : a0.toList <;> simp_all
   rw [decide_eq_true h0, Bool.true_and]
   by_cases h60 : a0.size ≤ 8
   ·have m1 : decide ((a0.size : Int) ≤ 8) = true := decide_eq_true (by omega)
    have m2 : decide (a0.size ≤ 8) = true := decide_eq_true h60
    rw [decide_eq_true h60, Bool.true_and]
    have c2 := fun W => Y1N 72 (enters_of Tryd.func72 Z7 rfl) #[] Y1l a0 W (Y4b W)
    generalize YU Y1l a0 = b2 at c2 ⊢
    have C2 := Lib.hid c2
    clear c2 h0 h60 n1
    go_enter Tryd.func40, Tryd.ntmps40
    go_wp2_with (go_at_call 70; refine (C2.out _).mono ?_; rintro e w2 ⟨rfl, hb2⟩)
    go_ret
    exact ⟨rfl, hb2⟩
   ·have m1 : decide ((a0.size : Int) ≤ 8) = false := decide_eq_false (by omega)
    have m2 : decide (a0.size ≤ 8) = false := decide_eq_false h60
    rw [decide_eq_false h60, Bool.false_and]
    clear h0 h60 n1
    go_enter Tryd.func40, Tryd.ntmps40
    go_wp2
    go_ret
    exact Zq
 ·rw [if_neg hs] at h; cases h
def quotOk (s : ByteArray) : Bool := decide (s.size ≤ 1000000)
def Y2R (s : ByteArray) : ByteArray := ⟨(34 :: Y15 s.data.toList ++ [34]).toArray⟩
def YL.f (a0 : ByteArray) : Option ByteArray := if quotOk a0 then some (Y2R a0) else none
theorem YL.calls (a0 : ByteArray) (r : ByteArray) (w : World) (h : YL.f a0 = some r) :
  Calls Tryd.prog 42 #[.string a0] w fun e w' => e = .returned (.string r) ∧ Below w.heap.size w w' := by
 unfold YL.f at h
 by_cases hs : quotOk a0 = true
 ·rw [if_pos hs] at h
  obtain rfl := Option.some.inj h
  exact Y3V a0 w (of_decide_eq_true hs)
 ·rw [if_neg hs] at h; cases h
def smallL (s : ByteArray) : ByteArray := ⟨(s.data.toList.map Y31).toArray⟩
def Y4e (s : ByteArray) : Bool := decide (s.size ≤ 1000000)
def YA.f (a0 : ByteArray) : Option ByteArray := if Y4e a0 then some (smallL a0) else none
theorem YA.calls (a0 : ByteArray) (r : ByteArray) (w : World) (h : YA.f a0 = some r) :
  Calls Tryd.prog 110 #[.string a0] w fun e w' => e = .returned (.string r) ∧ Below w.heap.size w w' := by
 unfold YA.f at h
 by_cases hs : Y4e a0 = true
 ·rw [if_pos hs] at h
  obtain rfl := Option.some.inj h
  exact Y4f a0 w (of_decide_eq_true hs)
 ·rw [if_neg hs] at h; cases h
end Go.Proofs.YtbpbfboaofkpaaaDoor.Print
end
section
namespace Go.Proofs.YtbpbfboaofkpaaaDoor.Print
open Go.RowKit Go.Proofs.YtbpbfboaofkpaaaDoorW.PrintWords Go.Proofs.YtbpbfboaofkpaaaDoorW.PrintLast Go.Proofs.YtbpbfboaofkpaaaDoorW.PrintMore
attribute [local go_sem] max2_int min2_int max_two min_two max_three min_three max_four min_four
set_option linter.unusedVariables false
set_option linter.unusedSimpArgs false
def Yj.f (a0_0 : Int) (a0_1 : ByteArray) (a0_2 : ByteArray) : Option (ByteArray) := if a0_0 = 1 then (if 1 + a0_1.size ≤ 9223372036854775807 then (if 1 + a0_1.size + 1 ≤ 9223372036854775807 then (some (((⟨#[60]⟩ : ByteArray) ++ a0_1) ++ (⟨#[62]⟩ : ByteArray))) else (none)) else (none)) else (if a0_0 = 2 then (if 2 + a0_1.size ≤ 9223372036854775807 then (some ((⟨#[95, 58]⟩ : ByteArray) ++ a0_1)) else (none)) else (if a0_0 = 4 then ((YL.f a0_1).bind fun t102 => (if t102.size + 1 ≤ 9223372036854775807 then (if t102.size + 1 + a0_2.size ≤ 9223372036854775807 then (some ((t102 ++ (⟨#[64]⟩ : ByteArray)) ++ a0_2)) else (none)) else (none))) else (if a0_0 = 5 then ((YL.f a0_1).bind fun t103 => (if t103.size + 3 ≤ 9223372036854775807 then (if t103.size + 3 + a0_2.size ≤ 9223372036854775807 then (if t103.size + 3 + a0_2.size + 1 ≤ 9223372036854775807 then (some (((t103 ++ (⟨#[94, 94, 60]⟩ : ByteArray)) ++ a0_2) ++ (⟨#[62]⟩ : ByteArray))) else (none)) else (none)) else (none))) else ((YL.f a0_1).bind fun t104 => (some t104)))))
def Yj.T7 : Bool × List (List Nat × List Nat) := (true, [([], []), ([0], [0]), ([1], [1]), ([2], [2]), ([], []), ([4], [4]), ([3, 5], [3, 5]), ([6, 2, 0, 1, 2, 3, 4, 5, 6], [6])])
def Yj.B7 : List Nat := [0, 1, 3, 7, 0, 16, 63, 127]
theorem Yj.tab7 : Y2T .any (opsOf Tryd.f17 7) = Yj.T7 := by kernel_rfl
theorem Yj.bits7 : Y2i Yj.T7.2 Yj.B7 = true := by kernel_rfl
def Yj.T9 : Bool × List (List Nat × List Nat) := (true, [([], []), ([0], [0]), ([1], [1]), ([2], [2]), ([], []), ([4], [4]), ([3, 5], [3, 5]), ([6], [6]), ([7, 2, 0, 1, 2, 3, 4, 5, 6, 7], [7])])
def Yj.B9 : List Nat := [0, 1, 3, 7, 0, 16, 63, 127, 255]
theorem Yj.tab9 : Y2T .any (opsOf Tryd.f17 9) = Yj.T9 := by kernel_rfl
theorem Yj.bits9 : Y2i Yj.T9.2 Yj.B9 = true := by kernel_rfl
end Go.Proofs.YtbpbfboaofkpaaaDoor.Print
end
