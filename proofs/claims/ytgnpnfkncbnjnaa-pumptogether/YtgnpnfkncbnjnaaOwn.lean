/- The statement PumpTogether holds for every input, without further conditions. -/
import Derived.Test.YtgnpnfkncbnjnaaP4
import Derived.Test.YtgnpnfkncbnjnaaRows
import Derived.ProofKit
set_option maxRecDepth 100000
namespace Go.Proofs.Ytgnpnfkncbnjnaa
open Go Go.Am Go.ChangeShapes Go.WideShapes Go.ChangeAt Go.RowKit
set_option maxRecDepth 100000 in
theorem Z4a (os : Os) (started : os.Started) (H : Type) (enc : TypeId × Value -> H) :
  ReturnsInHanded {} Try.checked os 16 .any (Rows.pumpTogetherSpec.pre6 enc Try.prog Try.f16 Rows.pumpTogetherRow.domain false) (Rows.pumpTogetherSpec.post enc Try.prog Try.f16 false true false false) := by
 refine returnsInHanded_of_change (C := Try.checked) Try.own started (by kernel_rfl) Try.func16
  (ChangeSpec.witness6 (enc := enc) (C := Try.checked) false ⟨#[], #[.slice none 0 0], []⟩ 8 (by kernel_rfl) (by kernel_rfl) (by kernel_rfl) (by kernel_rfl)) ?_
 intro W base args ds gs before hval0 hW hcnd _
 have hW' := hW
 obtain ⟨p, q, hA0, hV, rfl, hfz, hnd⟩ := hW
 have hA : DataW.TrodAll enc Try.prog W 0 (fun _ => true) true Try.f16.params.toList args.toList ds p := hA0
 rw [Try.params16] at hA
 obtain ⟨rfl, rfl⟩ := trodVars_none hV
 simp only [List.append_nil] at hW'
 have hlen : ds.length = 1 := Zao _ _ _ _ hA
 have hsup : (([22] : List TypeId).all fun t => suppB Try.prog 12 t) = true := by as_aux_lemma => kernel_rfl
 have hpar : (([22] : List TypeId).all fun t => Try.prog.readableRec t && Nat.blt t Try.prog.types.size) = true := by as_aux_lemma => kernel_rfl
 refine (Z63 (d := 12) Zsc Zje hA (fun t ht => List.all_eq_true.1 hsup t ht) (fun j t v e1 e2 => hval0 j t v (by rw [Try.params16]; simpa using e1) (by simpa using e2)) fun L hl hc => Z8e L hl hc).mono fun e W' ⟨he, hb⟩ => ?_
 subst he
 exact ⟨_, rfl, Zeg Try.laidOut (fun t ht => by rw [Try.params16] at ht; have := List.all_eq_true.1 hpar t ht; rw [Bool.and_eq_true, Nat.blt_eq] at this; exact this) rfl rfl Try.underlying4 hW' (by match ds, hlen with | [_], _ => rfl) hb⟩
set_option maxHeartbeats 4000000 in
theorem Z4b : joinedFacts Try.prog 16 Try.f16 Rows.pumpTogetherSpec Rows.pumpTogetherRow = true := by
 refine Zcs Try.laidOut Try.rowed Try.noStops Try.noKnobs Try.plain Try.heard Try.enters Try.lifts Try.makes (by as_aux_lemma => kernel_rfl) (by as_aux_lemma => kernel_rfl) (by as_aux_lemma => kernel_rfl) (by as_aux_lemma => kernel_rfl) (by as_aux_lemma => kernel_rfl)
  (by as_aux_lemma => kernel_rfl) (by as_aux_lemma => kernel_rfl) (by as_aux_lemma => kernel_rfl) (by as_aux_lemma => kernel_rfl) ?_
 kernel_rfl
theorem together_holds : Rows.PumpTogetherSaid :=
 OpenClaim.holds_of_wide 16 Try.f16 rfl rfl rfl rfl rfl rfl rfl ⟨rfl, rfl, rfl, rfl, rfl⟩ rfl rfl rfl rfl rfl (by as_aux_lemma => kernel_rfl) Try.func16 Z4b
  (of_decide_eq_true (by as_aux_lemma => kernel_rfl)) (by as_aux_lemma => unfold Func.isWrapper; first | (rw [if_pos (by decide +kernel)]; kernel_rfl) | (rw [if_neg (by decide +kernel)]; exact ⟨rfl, rfl⟩))
  (fun os started H enc _ => Z4a os started H enc)
end Go.Proofs.Ytgnpnfkncbnjnaa
