/- The readers of the wire: Blob. -/
import Derived.Test.YtbbeoojlgfegjaaDoorWireR
namespace Go.Proofs.YtbbeoojlgfegjaaDoor
set_option linter.all false
open Go.RowKit
end Go.Proofs.YtbbeoojlgfegjaaDoor
