/- What the program's text reads of the library's tables: utf8.first, utf8.acceptRanges as their initialisers lay them; bytealg.MaxLen holds some number. Handed down from world to world. -/
import Derived.Test.YtbpbfboaofkpaaaDoorProg
import Derived.Below
import Derived.Deep.Draws
import Derived.Shelf.Unicode.DecodeSlow
namespace Go.Proofs.YtbpbfboaofkpaaaDoor.Print
open Go.RowKit

structure Tabs (w : World) : Prop where
  u8 : Lib.Utf8Tabs 0 1 w
  ml : ∃ m : Int, w.cell? ⟨2, 0, none⟩ = some (.int .i64 m)

theorem XTabs_below {w w' : World} (h : Tabs w) (hb : Below w.heap.size w w') : Tabs w' := by
  refine ⟨Utf8Tabs_below h.u8 hb, ?_⟩
  obtain ⟨m, hm⟩ := h.ml
  exact ⟨m, (hb.cell (World.block_lt_of_cell? w _ hm)).trans hm⟩
theorem XTabs_alloc {w : World} (h : Tabs w) (o : Obj) : Tabs (w.alloc o) := XTabs_below h ((Below.refl _ _).alloc (Nat.le_refl _) o)
theorem xbelow_drewN {B : Nat} {w W : World} (h : Below B w W) (n : Nat) : Below B w (W.drewN n) := ⟨h.os, h.tape, h.output, h.size, h.block⟩
theorem XTabs_drewN {w : World} (h : Tabs w) (n : Nat) : Tabs (w.drewN n) := XTabs_below h (xbelow_drewN (Below.refl _ _) n)
theorem XTabs_drew {w : World} (h : Tabs w) : Tabs w.drew := XTabs_below h ((Below.refl _ _).drew)
end Go.Proofs.YtbpbfboaofkpaaaDoor.Print
