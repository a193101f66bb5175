/- The world of the row's witness, and what the row's list gives. -/
import Derived.Test.YtgkpbpcebgegbaaDoorEvO
import Derived.Lay
import Derived.Lib.LaidTab
import Derived.Stop.LaidErr
import Derived.Deep.DeepHandedRow
namespace Go.Proofs.YtgkpbpcebgegbaaDoor
open Go.ChangeShapes Go.WideShapes Go.ChangeAt Go.RowKit
set_option linter.unusedVariables false
set_option linter.unusedSimpArgs false
set_option maxRecDepth 100000
theorem own : ownKnob Tryd.prog.godebug = none := by kernel_rfl
theorem laidOut : laidOutB Tryd.prog = true := by kernel_rfl
noncomputable def argE : Value := .agg #[.int .u8 0, .int .i64 0, .int .i64 0, .int .i64 0, .int .i64 0, .string ⟨#[]⟩, .int .u8 0, .string ⟨#[]⟩, .int .i64 0]
theorem laid_shaped (os : Os) : ((World.laidAll Tryd.prog os Rows.eventTextsRow.laid).forCall (fun _ _ => 0) ⟨#[], #[argE, .string ⟨#[]⟩], []⟩).Shaped Tryd.prog :=
  World.shaped_of_ZipB (by kernel_rfl) (by kernel_rfl)
theorem laid_met (os : Os) : laidMet Tryd.prog Rows.eventTextsRow.laid ((World.laidAll Tryd.prog os Rows.eventTextsRow.laid).forCall (fun _ _ => 0) ⟨#[], #[argE, .string ⟨#[]⟩], []⟩).memory :=
  laidMet_laidAll _ (by kernel_rfl) (by kernel_rfl)
end Go.Proofs.YtgkpbpcebgegbaaDoor
