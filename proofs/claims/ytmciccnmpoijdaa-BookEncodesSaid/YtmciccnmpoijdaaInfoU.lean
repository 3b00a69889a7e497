/- the size of a word -/
import Derived.Test.YtmciccnmpoijdaaSlice
namespace Go.Proofs.Ytmciccnmpoijdaa
open Go.RowKit
set_option maxRecDepth 20000
theorem infoU32 : (Try.prog.info? 75).map (fun i => (i.zero, i.size, i.bytes)) = some (some (.int .u32 0), 1, 4) := by kernel_rfl
end Go.Proofs.Ytmciccnmpoijdaa
