/- The statement PumpKnown holds for every input, without further conditions: a part of its proof. -/
import Derived.Test.YtgnpnfkncbnjnaaBase
set_option maxRecDepth 100000
namespace Go.Proofs.Ytgnpnfkncbnjnaa
open Go Go.Am
theorem ticks_all (s : St) : acall cfg 300 82 [] s = .ret (.bool true, s) := by kernel_rfl
end Go.Proofs.Ytgnpnfkncbnjnaa
