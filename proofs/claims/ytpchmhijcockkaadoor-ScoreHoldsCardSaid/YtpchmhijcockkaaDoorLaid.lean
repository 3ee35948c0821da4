/- What the listed package-level variable of this seat (score.worths) holds, as a walk asks it. -/
import Derived.Test.YtpchmhijcockkaaDoorPrint0
namespace Go.Proofs.YtpchmhijcockkaaDoor.Print
open Go.RowKit

def Laid (w : World) : Prop :=
  w.cell? ⟨0, 0, none⟩ = some (.int .i64 0) ∧ w.cell? ⟨0, 1, none⟩ = some (.int .i64 250) ∧
  w.cell? ⟨0, 2, none⟩ = some (.int .i64 600) ∧ w.cell? ⟨0, 3, none⟩ = some (.int .i64 1000)

theorem laid_below {w w1 : World} (h : Laid w) (hb : Below w.heap.size w w1) : Laid w1 := by
  obtain ⟨h0, h1, h2, h3⟩ := h
  exact ⟨(hb.cell (World.block_lt_of_cell? w _ h0)).trans h0, (hb.cell (World.block_lt_of_cell? w _ h1)).trans h1,
    (hb.cell (World.block_lt_of_cell? w _ h2)).trans h2, (hb.cell (World.block_lt_of_cell? w _ h3)).trans h3⟩

end Go.Proofs.YtpchmhijcockkaaDoor.Print
