/- What the library's own variables hold that the walks read, and that it stays where nothing older is turned. No condition. -/
import Derived.Test.YtljlkpfiebcoeaaGreatDoorShelf
import Derived.Test.YtljlkpfiebcoeaaGreatDoorMine
import Derived.Deep.WholeRow
namespace Go.Proofs.YtljlkpfiebcoeaaGreatDoor
open Go Go.RowKit Go.Proofs
structure Tabs (w : World) : Prop where
  u8 : Lib.Utf8Tabs 1 2 w
  mx : ∃ m, w.cell? ⟨0, 0, none⟩ = some (.int .i64 m)
theorem Tabs.below {w w' : World} (h : Tabs w) (hb : Below w.heap.size w w') : Tabs w' := ⟨Utf8Tabs_below h.u8 hb, (let ⟨m, hm⟩ := h.mx; ⟨m, (hb.cell (World.block_lt_of_cell? w _ hm)).trans hm⟩)⟩
end Go.Proofs.YtljlkpfiebcoeaaGreatDoor
