import Derived.Test.YtceelkmedfoefaaDoorL13
import Derived.KernelRfl
/-! The example's two answers. -/
set_option linter.unusedVariables false
set_option linter.unusedSimpArgs false
namespace Go.Proofs.YtceelkmedfoefaaDoor
open Go.RowKit

def exA : Bytes := [97, 100, 100, 105, 32, 120, 49, 44, 32, 120, 48, 44, 32, 49, 48]
def exB : Bytes := [108, 111, 111, 112, 58, 32, 97, 100, 100, 105, 32, 120, 49, 44, 32, 120, 49, 44, 32, 45, 49, 10, 98, 110, 101, 32, 120, 49, 44, 32, 120, 48, 44, 32, 108, 111, 111, 112, 10]
theorem exA_line : lineR exA = (⟨19, 1, 0, 0, 10, 0⟩, 0) := by kernel_rfl
theorem exB_prog : programR exB = ([4293951635, 4261453539], 0, 0) := by kernel_rfl
end Go.Proofs.YtceelkmedfoefaaDoor
