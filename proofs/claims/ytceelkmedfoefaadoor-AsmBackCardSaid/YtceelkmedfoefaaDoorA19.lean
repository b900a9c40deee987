import Derived.Test.YtceelkmedfoefaaDoorA20
import Derived.Test.YtceelkmedfoefaaDoorA19c
import Derived.Test.YtceelkmedfoefaaDoorA19d
import Derived.Test.YtceelkmedfoefaaDoorA19e
import Derived.Test.YtceelkmedfoefaaDoorA19f
import Derived.Test.YtceelkmedfoefaaDoorA19g
import Derived.Test.YtceelkmedfoefaaDoorA19h
set_option linter.unusedVariables false
set_option linter.unusedSimpArgs false
namespace Go.Proofs.YtceelkmedfoefaaDoor
open Go.RowKit

/-- inst.Right, of whatever instruction. -/
theorem right_any : RightSaid := by
  intro x w hE h0 h1
  by_cases hop : 0 ≤ x.op ∧ x.op < 58
  · by_cases heq : onlyX x (formP x.op) = x
    · cases r1 : regB x.rd
      · exact right_rd x w hE h0 h1 hop heq r1
      · cases r2 : regB x.rs1
        · exact right_rs1 x w hE h0 h1 hop heq r1 r2
        · cases r3 : regB x.rs2
          · exact right_rs2 x w hE h0 h1 hop heq r1 r2 r3
          · exact right_eq x w hE h0 h1 hop heq r1 r2 r3
    · exact right_ne x w hE h0 h1 hop heq
  · exact right_op x w hE h0 h1 hop

end Go.Proofs.YtceelkmedfoefaaDoor
