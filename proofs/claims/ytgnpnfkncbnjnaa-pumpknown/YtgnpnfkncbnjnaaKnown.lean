/- The statement PumpKnown holds for every input, without further conditions. -/
import Derived.Test.YtgnpnfkncbnjnaaKnown2
import Derived.Test.YtgnpnfkncbnjnaaAmD
import Derived.Test.YtgnpnfkncbnjnaaRows
import Derived.ProofKit
set_option maxRecDepth 100000
namespace Go.Proofs.Ytgnpnfkncbnjnaa
open Go Go.Am Go.ChangeShapes Go.WideShapes Go.ChangeAt Go.RowKit
theorem known_run : Yes (acall cfg 301 19 [] ⟨[], 0, [], false, []⟩) := by
  have h : acall cfg 301 = enterA cfg callK (around cfg 300) 301 := by rw [callK_eq]; exact acall_succ cfg 300
  rw [h]
  exact yes_of known_rest
theorem known_walk (W : World) : Calls Try.prog 19 #[] W fun e W' => e = .returned (.bool true) ∧ Below W.heap.size W W' :=
  calls_of_nothing cfgOk codesOk known_run W
set_option maxRecDepth 100000 in
theorem known_lifted (os : Os) (started : os.Started) (H : Type) (enc : TypeId × Value → H) :
    ReturnsInHanded {} Try.checked os 19 .any (Rows.pumpKnownSpec.pre6 enc Try.prog Try.f19 Rows.pumpKnownRow.domain false) (Rows.pumpKnownSpec.post enc Try.prog Try.f19 false true false false) := by
  refine returnsInHanded_of_change (C := Try.checked) Try.own started (by kernel_rfl) Try.func19
    (ChangeSpec.witness6 (enc := enc) (C := Try.checked) false ⟨#[], #[], []⟩ 8 (by kernel_rfl) (by kernel_rfl) (by kernel_rfl) (by kernel_rfl)) ?_
  intro W base args ds gs before hval0 hW hcnd _
  have hW' := hW
  obtain ⟨p, q, hA0, hV, rfl, hfz, hnd⟩ := hW
  have hA : DataW.TrodAll enc Try.prog W 0 (fun _ => true) true Try.f19.params.toList args.toList ds p := hA0
  rw [Try.params19] at hA
  obtain ⟨hargs, rfl, rfl⟩ : args.toList = [] ∧ ds = [] ∧ p = [] := by
    cases ha : args.toList with
    | nil => rw [ha] at hA; cases ds with
      | nil => exact ⟨rfl, rfl, hA⟩
      | cons d ds => exact hA.elim
    | cons a l => rw [ha] at hA; cases ds <;> exact hA.elim
  obtain rfl : args = #[] := by apply Array.ext'; simpa using hargs
  obtain ⟨rfl, rfl⟩ := trodVars_none hV
  clear hA0 hval0
  simp only [List.append_nil] at hW'
  refine (known_walk W).mono fun e W' ⟨he, hb⟩ => ?_
  subst he
  exact ⟨_, rfl, law_post Try.laidOut (by simp [Try.params19]) rfl rfl Try.underlying4 hW' rfl hb⟩
set_option maxHeartbeats 4000000 in
theorem known_closed : joinedFacts Try.prog 19 Try.f19 Rows.pumpKnownSpec Rows.pumpKnownRow = true := by
  refine joined_of Try.laidOut Try.rowed Try.noStops Try.noKnobs Try.plain Try.heard Try.enters Try.lifts Try.makes (by as_aux_lemma => kernel_rfl) (by as_aux_lemma => kernel_rfl) (by as_aux_lemma => kernel_rfl) (by as_aux_lemma => kernel_rfl) (by as_aux_lemma => kernel_rfl)
    (by as_aux_lemma => kernel_rfl) (by as_aux_lemma => kernel_rfl) (by as_aux_lemma => kernel_rfl) (by as_aux_lemma => kernel_rfl) ?_
  kernel_rfl
theorem known_holds : Rows.PumpKnownSaid :=
  OpenClaim.holds_of_wide 19 Try.f19 rfl rfl rfl rfl rfl rfl rfl ⟨rfl, rfl, rfl, rfl, rfl⟩ rfl rfl rfl rfl rfl (by as_aux_lemma => kernel_rfl) Try.func19 known_closed
    (of_decide_eq_true (by as_aux_lemma => kernel_rfl)) (by as_aux_lemma => unfold Func.isWrapper; first | (rw [if_pos (by decide +kernel)]; kernel_rfl) | (rw [if_neg (by decide +kernel)]; exact ⟨rfl, rfl⟩))
    (fun os started H enc _ => known_lifted os started H enc)
end Go.Proofs.Ytgnpnfkncbnjnaa
