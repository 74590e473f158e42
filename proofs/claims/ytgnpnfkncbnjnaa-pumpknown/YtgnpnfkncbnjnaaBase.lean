/- The statement PumpKnown holds for every input, without further conditions: a part of its proof. -/
import Derived.Test.YtgnpnfkncbnjnaaAmD
import Derived.Test.YtgnpnfkncbnjnaaAmC
set_option maxRecDepth 100000
namespace Go.Proofs.Ytgnpnfkncbnjnaa
open Go Go.Am
/-- awake, at fuel K + 1: true. -/
theorem awake_all (s : St) : acall cfg 300 39 [] s = .ret (.bool true, s) := by kernel_rfl
end Go.Proofs.Ytgnpnfkncbnjnaa
