/- The statement PumpKnown holds for every input, without further conditions: a part of its proof. -/
import Derived.Test.YtgnpnfkncbnjnaaKnown1
set_option maxRecDepth 100000
namespace Go.Proofs.Ytgnpnfkncbnjnaa
open Go Go.Am
/-- The calls, two of them foreknown. -/
noncomputable def callK (f : Nat) (args : List AV) : M AV := match Nat.beq f 39, Nat.beq f 82, args with
  | true, false, [] => M.ret (.bool true)
  | false, true, [] => M.ret (.bool true)
  | _, _, _ => acall cfg 300 f args
theorem callK_eq : callK = acall cfg 300 := by
  funext f args s
  unfold callK
  cases h1 : Nat.beq f 39 with
  | true =>
    have := Nat.eq_of_beq_eq_true h1
    subst this
    cases args with
    | nil => exact (awake_all s).symm
    | cons a l => rfl
  | false =>
    cases h2 : Nat.beq f 82 with
    | true =>
      have := Nat.eq_of_beq_eq_true h2
      subst this
      cases args with
      | nil => exact (ticks_all s).symm
      | cons a l => rfl
    | false => rfl
theorem known_rest : isTrue (enterA cfg callK (around cfg 300) 301 19 [] ⟨[], 0, [], false, []⟩) = true := by kernel_rfl
end Go.Proofs.Ytgnpnfkncbnjnaa
