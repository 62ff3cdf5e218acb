/- A world in which the package variables read as the rows list them. -/
import Derived.Test.YtpogefeioedgeaaGreatDoorRows
import Derived.ProofKit
import Derived.LaidLaws
namespace Go.Proofs.YtpogefeioedgeaaGreatDoor
open Go Go.Proofs
noncomputable def low : Nat := (World.holding Tryz.prog default ⟨#[], #[], []⟩).heap.size
noncomputable def laidWorld (os : Os) (args : Array Value) : World :=
  let w0 := World.holding Tryz.prog os ⟨#[.cells #[.slice (some ⟨low + 1, 0, none⟩) 7 7, .slice none 0 0, .int .i64 2] 317, .cells #[.int .u16 9, .int .u16 13, .int .u16 1, .int .u16 32, .int .u16 133, .int .u16 101, .int .u16 160, .int .u16 5760, .int .u16 5600, .int .u16 8192, .int .u16 8202, .int .u16 1, .int .u16 8232, .int .u16 8233, .int .u16 1, .int .u16 8239, .int .u16 8287, .int .u16 48, .int .u16 12288, .int .u16 12288, .int .u16 1] 320], args, []⟩
  { w0 with heap := ((w0.heap.modify 1 fun
      | .cells _ t frozen => .cells #[.pointer (some ⟨low + 0, 0, none⟩)] t frozen
      | o => o).modify 0 fun
      | .cells _ t frozen => .cells #[.int .u8 0, .int .u8 0, .int .u8 0, .int .u8 0, .int .u8 0, .int .u8 0, .int .u8 0, .int .u8 0, .int .u8 0, .int .u8 1, .int .u8 1, .int .u8 1, .int .u8 1, .int .u8 1, .int .u8 0, .int .u8 0, .int .u8 0, .int .u8 0, .int .u8 0, .int .u8 0, .int .u8 0, .int .u8 0, .int .u8 0, .int .u8 0, .int .u8 0, .int .u8 0, .int .u8 0, .int .u8 0, .int .u8 0, .int .u8 0, .int .u8 0, .int .u8 0, .int .u8 1, .int .u8 0, .int .u8 0, .int .u8 0, .int .u8 0, .int .u8 0, .int .u8 0, .int .u8 0, .int .u8 0, .int .u8 0, .int .u8 0, .int .u8 0, .int .u8 0, .int .u8 0, .int .u8 0, .int .u8 0, .int .u8 0, .int .u8 0, .int .u8 0, .int .u8 0, .int .u8 0, .int .u8 0, .int .u8 0, .int .u8 0, .int .u8 0, .int .u8 0, .int .u8 0, .int .u8 0, .int .u8 0, .int .u8 0, .int .u8 0, .int .u8 0, .int .u8 0, .int .u8 0, .int .u8 0, .int .u8 0, .int .u8 0, .int .u8 0, .int .u8 0, .int .u8 0, .int .u8 0, .int .u8 0, .int .u8 0, .int .u8 0, .int .u8 0, .int .u8 0, .int .u8 0, .int .u8 0, .int .u8 0, .int .u8 0, .int .u8 0, .int .u8 0, .int .u8 0, .int .u8 0, .int .u8 0, .int .u8 0, .int .u8 0, .int .u8 0, .int .u8 0, .int .u8 0, .int .u8 0, .int .u8 0, .int .u8 0, .int .u8 0, .int .u8 0, .int .u8 0, .int .u8 0, .int .u8 0, .int .u8 0, .int .u8 0, .int .u8 0, .int .u8 0, .int .u8 0, .int .u8 0, .int .u8 0, .int .u8 0, .int .u8 0, .int .u8 0, .int .u8 0, .int .u8 0, .int .u8 0, .int .u8 0, .int .u8 0, .int .u8 0, .int .u8 0, .int .u8 0, .int .u8 0, .int .u8 0, .int .u8 0, .int .u8 0, .int .u8 0, .int .u8 0, .int .u8 0, .int .u8 0, .int .u8 0, .int .u8 0, .int .u8 0, .int .u8 0, .int .u8 0, .int .u8 0, .int .u8 0, .int .u8 0, .int .u8 0, .int .u8 0, .int .u8 0, .int .u8 0, .int .u8 0, .int .u8 0, .int .u8 0, .int .u8 0, .int .u8 0, .int .u8 0, .int .u8 0, .int .u8 0, .int .u8 0, .int .u8 0, .int .u8 0, .int .u8 0, .int .u8 0, .int .u8 0, .int .u8 0, .int .u8 0, .int .u8 0, .int .u8 0, .int .u8 0, .int .u8 0, .int .u8 0, .int .u8 0, .int .u8 0, .int .u8 0, .int .u8 0, .int .u8 0, .int .u8 0, .int .u8 0, .int .u8 0, .int .u8 0, .int .u8 0, .int .u8 0, .int .u8 0, .int .u8 0, .int .u8 0, .int .u8 0, .int .u8 0, .int .u8 0, .int .u8 0, .int .u8 0, .int .u8 0, .int .u8 0, .int .u8 0, .int .u8 0, .int .u8 0, .int .u8 0, .int .u8 0, .int .u8 0, .int .u8 0, .int .u8 0, .int .u8 0, .int .u8 0, .int .u8 0, .int .u8 0, .int .u8 0, .int .u8 0, .int .u8 0, .int .u8 0, .int .u8 0, .int .u8 0, .int .u8 0, .int .u8 0, .int .u8 0, .int .u8 0, .int .u8 0, .int .u8 0, .int .u8 0, .int .u8 0, .int .u8 0, .int .u8 0, .int .u8 0, .int .u8 0, .int .u8 0, .int .u8 0, .int .u8 0, .int .u8 0, .int .u8 0, .int .u8 0, .int .u8 0, .int .u8 0, .int .u8 0, .int .u8 0, .int .u8 0, .int .u8 0, .int .u8 0, .int .u8 0, .int .u8 0, .int .u8 0, .int .u8 0, .int .u8 0, .int .u8 0, .int .u8 0, .int .u8 0, .int .u8 0, .int .u8 0, .int .u8 0, .int .u8 0, .int .u8 0, .int .u8 0, .int .u8 0, .int .u8 0, .int .u8 0, .int .u8 0, .int .u8 0, .int .u8 0, .int .u8 0, .int .u8 0, .int .u8 0, .int .u8 0, .int .u8 0, .int .u8 0, .int .u8 0, .int .u8 0, .int .u8 0, .int .u8 0, .int .u8 0, .int .u8 0, .int .u8 0] t frozen
      | o => o) }
theorem laid_met_modelFinals (os : Os) (args args' : Array Value) : laidMet Tryz.prog Rows.modelFinalsRow.laid ((laidWorld os args).forCall (fun _ _ => 0) ⟨#[], args', []⟩).memory :=
  laidMet_of_run' 100 (by kernel_rfl) (by kernel_rfl)
theorem laid_met_modelWeaks (os : Os) (args args' : Array Value) : laidMet Tryz.prog Rows.modelWeaksRow.laid ((laidWorld os args).forCall (fun _ _ => 0) ⟨#[], args', []⟩).memory :=
  laid_met_modelFinals os args args'
theorem laid_met_modelShort (os : Os) (args args' : Array Value) : laidMet Tryz.prog Rows.modelShortRow.laid ((laidWorld os args).forCall (fun _ _ => 0) ⟨#[], args', []⟩).memory :=
  laid_met_modelFinals os args args'
theorem laid_met_modelStarts (os : Os) (args args' : Array Value) : laidMet Tryz.prog Rows.modelStartsRow.laid ((laidWorld os args).forCall (fun _ _ => 0) ⟨#[], args', []⟩).memory :=
  laid_met_modelFinals os args args'
theorem laid_met_modelMonitors (os : Os) (args args' : Array Value) : laidMet Tryz.prog Rows.modelMonitorsRow.laid ((laidWorld os args).forCall (fun _ _ => 0) ⟨#[], args', []⟩).memory :=
  laid_met_modelFinals os args args'
theorem laid_met_modelHandlers (os : Os) (args args' : Array Value) : laidMet Tryz.prog Rows.modelHandlersRow.laid ((laidWorld os args).forCall (fun _ _ => 0) ⟨#[], args', []⟩).memory :=
  laid_met_modelFinals os args args'
theorem laid_met_modelCallers (os : Os) (args args' : Array Value) : laidMet Tryz.prog Rows.modelCallersRow.laid ((laidWorld os args).forCall (fun _ _ => 0) ⟨#[], args', []⟩).memory :=
  laid_met_modelFinals os args args'
theorem laid_met_modelReads (os : Os) (args args' : Array Value) : laidMet Tryz.prog Rows.modelReadsRow.laid ((laidWorld os args).forCall (fun _ _ => 0) ⟨#[], args', []⟩).memory :=
  laid_met_modelFinals os args args'
end Go.Proofs.YtpogefeioedgeaaGreatDoor
