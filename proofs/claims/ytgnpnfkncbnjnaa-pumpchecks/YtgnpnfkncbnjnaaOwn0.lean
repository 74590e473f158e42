/- The statement PumpChecks holds for every input, without further conditions. -/
import Derived.Test.YtgnpnfkncbnjnaaVaE
import Derived.Test.YtgnpnfkncbnjnaaAmF
import Derived.Test.YtgnpnfkncbnjnaaAmE
import Derived.Test.YtgnpnfkncbnjnaaAmC
import Derived.Test.YtgnpnfkncbnjnaaRows
import Derived.ProofKit
set_option linter.unusedSimpArgs false
set_option linter.unusedVariables false
set_option maxRecDepth 100000
namespace Go.Proofs.Ytgnpnfkncbnjnaa
open Go Go.Am
attribute [local congr] tr_congr does_congr all_congr
attribute [local go_sem] Go.Am.frozen Go.Am.freezeG Go.Am.freezeGs Go.Am.minmax
theorem VacG.lens {v : Vac} (h : VacG v) (K : Nat) (hK : 10 < K) : v.Lens K :=
  ⟨⟨by have := h.n4; omega, by have := h.n4; omega⟩, ⟨by have := h.np; omega, by have := h.np; omega⟩, ⟨by have := h.nm; omega, by have := h.nm; omega⟩, ⟨by have := h.nl; omega, by have := h.nl; omega⟩, ⟨by have := h.ng; omega, by have := h.ng; omega⟩, fun x hx => by have := (h.ves x hx).len; omega⟩
theorem Vac.I.lens {v : Vac} (h : v.I) (K : Nat) (h1 : v.vessels.length < K) (h2 : v.pipes.length < K) (h3 : v.pumps.length < K) (h4 : v.leaks.length < K) (h5 : v.getters.length < K) : v.Lens K :=
  ⟨⟨h1, h.1.1⟩, ⟨h2, h.2.1.1⟩, ⟨h3, h.2.2.1.1⟩, ⟨h4, h.2.2.2.1.1⟩, ⟨h5, h.2.2.2.2.1⟩, fun x hx => (h.1.2 x hx).2.2.2.1⟩
theorem beginG_len (v : Vac) : (beginG v).free.length = v.vessels.length ∧ (beginG v).bound.length = v.vessels.length ∧ (beginG v).room.length = v.getters.length := by
  simp [beginG]
theorem checks_walk (v : Vac) (b : Bk) (nums : List Int) (K : Nat) (hK : 1000 < K) (hv : v.Lens K) (hb : Len b.shut) (hk2 : nums.length < K) (hn : Len nums) :
    (acall cfg (K + 320) 9 [vacV v, bkV b, .lst (nums.map iV)] s0).Does fun x => x.1 = .bool true := by
  rw [call0 mget9 fget9]
  refine body_does rfl fun T hT' hA => ?_
  have a0 := hA 0 _ rfl
  have a1 := hA 1 _ rfl
  have a2 := hA 2 _ rfl
  have hT : T.length = 87 := hT'
  clear hA hT'
  have hla := fun s => large_call v (K + 318) s (hv.more 318)
  simp only [vacV] at hla
  have haw := fun s => awake_all (K + 19) s
  simp -implicitDefEqProofs only [redoH, redo1, go_sem, Int.reduceEq, Int.reduceNeg, Nat.reduceEqDiff, Nat.reduceLT, Nat.reduceAdd, Nat.reduceSub, Nat.reduceMul, Int.reduceLE, Int.reduceLT, Int.reduceToNat, Int.toNat_natCast, Nat.reduceLeDiff, Bool.not_true, Bool.not_false, a0, a1, a2, hT, hla]
  cases hlb : largeB v with
  | true => simp -implicitDefEqProofs only [redoH, redo1, go_sem, Int.reduceEq, Int.reduceNeg, Nat.reduceEqDiff, Nat.reduceLT, Nat.reduceAdd, Nat.reduceSub, Nat.reduceMul, Int.reduceLE, Int.reduceLT, Int.reduceToNat, Int.toNat_natCast, Nat.reduceLeDiff, Bool.not_true, Bool.not_false, a0, a1, a2, hT, hla, hlb, haw, Try.results9]
  | false =>
    by_cases hsh : (40 : Int) < (b.shut.length : Int)
    · simp -implicitDefEqProofs only [redoH, redo1, go_sem, Int.reduceEq, Int.reduceNeg, Nat.reduceEqDiff, Nat.reduceLT, Nat.reduceAdd, Nat.reduceSub, Nat.reduceMul, Int.reduceLE, Int.reduceLT, Int.reduceToNat, Int.toNat_natCast, Nat.reduceLeDiff, Bool.not_true, Bool.not_false, a0, a1, a2, hT, hla, hlb, hsh, haw, Try.results9]
    · simp -implicitDefEqProofs only [redoH, redo1, go_sem, Int.reduceEq, Int.reduceNeg, Nat.reduceEqDiff, Nat.reduceLT, Nat.reduceAdd, Nat.reduceSub, Nat.reduceMul, Int.reduceLE, Int.reduceLT, Int.reduceToNat, Int.toNat_natCast, Nat.reduceLeDiff, Bool.not_true, Bool.not_false, a0, a1, a2, hT, hla, hlb, hsh]
      have hnd := fun s => newDice_call nums (K + 317) s (by omega) hn
      generalize newDice nums = w0 at *
      obtain ⟨own, w1, hg, hof⟩ := vacuumOf_call w0 [2, 2, 0] 0 (K + 309) ⟨redoH [([1], .cells [.int .i64 b.ticks, .int .i64 b.heat, .lst (b.shut.map iV), .bool b.flash] true 0), ([0], .cells [.lst (v.vessels.map vesV), .lst (v.pipes.map pipV), .lst (v.pumps.map pmpV), .lst (v.leaks.map inlV), .lst (v.getters.map gtrV)] true 0)] [([2, 2, 0], some (.cells [.int .u64 w0] true 0))], 0, [2, 3], true, []⟩ (by rw [hget_redoH, lk_same]; rfl) (by omega)
      have hbs : ∀ s, buildSliceA (cfg.at 9) true 91 2 [(0, vacV v), (1, vacV own)] s = .ret (.lst ([v, own].map vacV), s) := fun s => by
        simp -implicitDefEqProofs only [redoH, redo1, go_sem, Int.reduceEq, Int.reduceNeg, Nat.reduceEqDiff, Nat.reduceLT, Nat.reduceAdd, Nat.reduceSub, Nat.reduceMul, Int.reduceLE, Int.reduceLT, Int.reduceToNat, Int.toNat_natCast, Nat.reduceLeDiff, Bool.not_true, Bool.not_false, Go.Am.buildSliceA, List.map_cons, List.map_nil]
      simp only [vacV] at hof hbs
      try simp only [does_bind]
      refine draw_machX [[], [], [1], [2, 1], [0, 3, 2, 1], [4, 0, 3, 2, 1]] [[], [], [], [[2, 2, 0]], [], []] (by kernel_rfl) rfl rfl ?_
      simp -implicitDefEqProofs only [go_sem, Int.reduceEq, Int.reduceNeg, Nat.reduceEqDiff, Nat.reduceLT, Nat.reduceAdd, Nat.reduceSub, Nat.reduceMul, Int.reduceLE, Int.reduceLT, Int.reduceToNat, Int.toNat_natCast, Nat.reduceLeDiff, Bool.not_true, Bool.not_false, hget_redoH, lkn, lk_same, lk11, lk13, lk31, lk33, lk33k, Option.getD_some, Option.getD_none, a0, a1, a2, hT, hnd, hof, hbs, sameW_self]
      have hL : ∀ x ∈ [v, own], x.Lens K := by
        intro x hx
        rcases List.mem_cons.1 hx with rfl | hx
        · exact hv
        · rw [List.mem_singleton] at hx; rw [hx]; exact hg.lens K (by omega)
      have hl2 : [v, own].length = 2 := rfl
      generalize [v, own] = L at *
      clear hof hbs hnd hla hg
      simp only [does_bind]
      refine xl_does (fun k T s' => T.length = 87 ∧ nth T 4 = some (.ptr [1] 0) ∧ nth T 7 = some (.lst (L.map vacV)) ∧ ∃ (i n : Nat) (H : Heap), nth T 8 = some (.int .i64 i) ∧ i ≤ 2 ∧ k = 2 - i ∧ s' = ⟨H, n + 2, [], false, []⟩ ∧ hget H [1] = some (.cells [.int .i64 b.ticks, .int .i64 b.heat, .lst (b.shut.map iV), .bool b.flash] true 0)) (k := 2) (by omega) ?_ ?_
      · exact ⟨by simp -implicitDefEqProofs only [redoH, redo1, go_sem, Int.reduceEq, Int.reduceNeg, Nat.reduceEqDiff, Nat.reduceLT, Nat.reduceAdd, Nat.reduceSub, Nat.reduceMul, Int.reduceLE, Int.reduceLT, Int.reduceToNat, Int.toNat_natCast, Nat.reduceLeDiff, Bool.not_true, Bool.not_false, hT], by simp -implicitDefEqProofs only [redoH, redo1, go_sem, Int.reduceEq, Int.reduceNeg, Nat.reduceEqDiff, Nat.reduceLT, Nat.reduceAdd, Nat.reduceSub, Nat.reduceMul, Int.reduceLE, Int.reduceLT, Int.reduceToNat, Int.toNat_natCast, Nat.reduceLeDiff, Bool.not_true, Bool.not_false, hT], by simp -implicitDefEqProofs only [redoH, redo1, go_sem, Int.reduceEq, Int.reduceNeg, Nat.reduceEqDiff, Nat.reduceLT, Nat.reduceAdd, Nat.reduceSub, Nat.reduceMul, Int.reduceLE, Int.reduceLT, Int.reduceToNat, Int.toNat_natCast, Nat.reduceLeDiff, Bool.not_true, Bool.not_false, hT], 0, 1, _, by simp -implicitDefEqProofs only [redoH, redo1, go_sem, Int.reduceEq, Int.reduceNeg, Nat.reduceEqDiff, Nat.reduceLT, Nat.reduceAdd, Nat.reduceSub, Nat.reduceMul, Int.reduceLE, Int.reduceLT, Int.reduceToNat, Int.toNat_natCast, Nat.reduceLeDiff, Bool.not_true, Bool.not_false, hT] <;> rfl, by omega, rfl, rfl, by rw [hget_redoH, lk31, lk31]; rfl⟩
      clear a0 a1 a2 hT T
      rintro k T s' ⟨hT, a4, a7, i, n, H, a8, hi, rfl, rfl, g1⟩
      simp -implicitDefEqProofs only [go_sem, Int.reduceEq, Int.reduceNeg, Nat.reduceEqDiff, Nat.reduceLT, Nat.reduceAdd, Nat.reduceSub, Nat.reduceMul, Int.reduceLE, Int.reduceLT, Int.reduceToNat, Int.toNat_natCast, Nat.reduceLeDiff, Bool.not_true, Bool.not_false, a4, a7, a8, hT, hl2]
      by_cases hlo : (i : Int) < ((2 : Nat) : Int)
      · have hi' : i < L.length := by omega
        have hel := elemAt_map (f := vacV) (l := L) (i := i) (z := 5) hi' rfl
        have hx := hL L[i] (List.getElem_mem hi')
        generalize L[i] = x at *
        have c1 := fun s => begin_call x (K + 309) s (by omega) (hx.more 309)
        have c2 := fun s => rbegin_call x (K + 313) s (by omega) (hx.more 313)
        have hGl : (if checkE x = 0 then beginG x else zeroG).free.length < K + 317 ∧ (if checkE x = 0 then beginG x else zeroG).bound.length < K + 317 ∧ (if checkE x = 0 then beginG x else zeroG).room.length < K + 317 := by
          obtain ⟨l1, l2, l3⟩ := beginG_len x
          have := hx.ves.1
          have := hx.gtr.1
          split
          · omega
          · refine ⟨?_, ?_, ?_⟩ <;> show 0 < _ <;> omega
        have hGl2 : (if checkE x = 0 then beginG x else zeroG).free.length ≤ 9223372036854775807 ∧ (if checkE x = 0 then beginG x else zeroG).bound.length ≤ 9223372036854775807 ∧ (if checkE x = 0 then beginG x else zeroG).room.length ≤ 9223372036854775807 := by
          obtain ⟨l1, l2, l3⟩ := beginG_len x
          have := hx.ves.2
          have := hx.gtr.2
          split
          · omega
          · refine ⟨?_, ?_, ?_⟩ <;> show 0 ≤ _ <;> omega
        simp only [gasE] at c1 c2
        generalize (if checkE x = 0 then beginG x else zeroG) = G at *
        have c3 := fun s => check_call x (K + 310) s (by omega) (hx.more 310)
        have c4 := fun s => rcheck_call x (K + 315) s (by omega) (hx.more 315)
        have c5 := fun s => sameGas_self G (K + 317) s hGl hGl2.1 hGl2.2.1 hGl2.2.2
        have c6 := fun s => cstage_call x b (K + 309) s (by omega) (hx.more 309) (by omega) (by omega)
        have c7 := fun s => rcheckStage_call x b (K + 314) s (by omega) (hx.more 314) (by omega) (by omega)
        simp only [vacV, bkV, gsV] at hel c1 c2 c3 c4 c5 c6 c7
        simp -implicitDefEqProofs only [go_sem, Int.reduceEq, Int.reduceNeg, Nat.reduceEqDiff, Nat.reduceLT, Nat.reduceAdd, Nat.reduceSub, Nat.reduceMul, Int.reduceLE, Int.reduceLT, Int.reduceToNat, Int.toNat_natCast, Nat.reduceLeDiff, Bool.not_true, Bool.not_false, a4, a7, a8, hT, hlo, hl2, hel, c1, c2]
        have q1 : ∀ X Y, hget (([n + 3], X) :: ([n + 2], Y) :: H) [1] = hget H [1] := fun X Y => by rw [hc11 (by omega), hc11 (by omega)]
        have hne : (n + 1 = n) = False := by simp
        have hkk : 2 - (i + 1) < 2 - i := by omega
        have hi2 : i + 1 ≤ 2 := by omega
        have hw1 : wrapF .i64 ((i : Int) + 1) = ((i + 1 : Nat) : Int) := wrap_i64 (by omega) (by omega)
        simp only [does_bind]
        refine draw_mach [] [] (by kernel_rfl) ?_
        simp -implicitDefEqProofs only [go_sem, Int.reduceEq, Int.reduceNeg, Nat.reduceEqDiff, Nat.reduceLT, Nat.reduceAdd, Nat.reduceSub, Nat.reduceMul, Int.reduceLE, Int.reduceLT, Int.reduceToNat, Int.toNat_natCast, Nat.reduceLeDiff, Bool.not_true, Bool.not_false, hget_redoH, lkn, lk_same, lk11, lk13, lk31, lk33, lk33k, Option.getD_some, Option.getD_none, a4, a7, a8, hT, hlo, hl2, hel, c3, c4, c5, c6, c7, g1, q1, hne, hw1]
        exact ⟨2 - (i + 1), hkk, trivial, trivial, trivial, i + 1, n + 3, _, rfl, hi2, rfl, rfl, by rw [hget_redoH, lkn, Option.getD_none, q1]; exact g1⟩
      · simp -implicitDefEqProofs only [go_sem, Int.reduceEq, Int.reduceNeg, Nat.reduceEqDiff, Nat.reduceLT, Nat.reduceAdd, Nat.reduceSub, Nat.reduceMul, Int.reduceLE, Int.reduceLT, Int.reduceToNat, Int.toNat_natCast, Nat.reduceLeDiff, Bool.not_true, Bool.not_false, a4, a7, a8, hT, hlo, hl2, haw, Try.results9]
theorem checks_yes (L : List (List AV)) (hl : L.length = [39, 42, 22].length) (hc : ∀ (i : Nat) t acs, [39, 42, 22][i]? = some t → L[i]? = some acs → Content Try.prog 12 t acs) :
    ∃ K, Yes (acall cfg K 9 (([39, 42, 22].zip L).map fun x => argOf Try.prog x.1 x.2) s0) := by
  match L, hl with
  | [c0, c1, c2], _ =>
    obtain ⟨v, rfl, hI⟩ := arg_vac 5 c0 (hc 0 39 c0 rfl rfl)
    obtain ⟨b, rfl, hb⟩ := arg_bk 9 c1 (hc 1 42 c1 rfl rfl)
    obtain ⟨nums, rfl, hn⟩ := arg_ints 10 c2 (hc 2 22 c2 rfl rfl)
    refine ⟨(1001 + v.vessels.length + v.pipes.length + v.pumps.length + v.leaks.length + v.getters.length + nums.length) + 320, ⟨?_⟩⟩
    exact (checks_walk v b nums _ (by omega) (hI.lens _ (by omega) (by omega) (by omega) (by omega) (by omega)) hb.2.2.1 (by omega) hn.1).all
end Go.Proofs.Ytgnpnfkncbnjnaa
namespace Go.Proofs.Ytgnpnfkncbnjnaa
open Go Go.Am Go.ChangeShapes Go.WideShapes Go.ChangeAt Go.RowKit
set_option maxRecDepth 100000 in
theorem checks_lifted (os : Os) (started : os.Started) (H : Type) (enc : TypeId × Value → H) :
    ReturnsInHanded {} Try.checked os 9 .any (Rows.pumpChecksSpec.pre6 enc Try.prog Try.f9 Rows.pumpChecksRow.domain false) (Rows.pumpChecksSpec.post enc Try.prog Try.f9 false true false false) := by
  refine returnsInHanded_of_change (C := Try.checked) Try.own started (by kernel_rfl) Try.func9
    (ChangeSpec.witness6 (enc := enc) (C := Try.checked) false ⟨#[], #[.agg #[.slice none 0 0, .slice none 0 0, .slice none 0 0, .slice none 0 0, .slice none 0 0], .agg #[.int .i64 0, .int .i64 0, .slice none 0 0, .bool false], .slice none 0 0], []⟩ 8 (by kernel_rfl) (by kernel_rfl) (by kernel_rfl) (by kernel_rfl)) ?_
  intro W base args ds gs before hval0 hW hcnd _
  have hW' := hW
  obtain ⟨p, q, hA0, hV, rfl, hfz, hnd⟩ := hW
  have hA : DataW.TrodAll enc Try.prog W 0 (fun _ => true) true Try.f9.params.toList args.toList ds p := hA0
  rw [Try.params9] at hA
  obtain ⟨rfl, rfl⟩ := trodVars_none hV
  simp only [List.append_nil] at hW'
  have hlen : ds.length = 3 := trod_len _ _ _ _ hA
  have hsup : (([39, 42, 22] : List TypeId).all fun t => suppB Try.prog 12 t) = true := by as_aux_lemma => kernel_rfl
  have hpar : (([39, 42, 22] : List TypeId).all fun t => Try.prog.readableRec t && Nat.blt t Try.prog.types.size) = true := by as_aux_lemma => kernel_rfl
  refine (calls_of_args (d := 12) cfgOk codesOk hA (fun t ht => List.all_eq_true.1 hsup t ht) (fun j t v e1 e2 => hval0 j t v (by rw [Try.params9]; simpa using e1) (by simpa using e2)) fun L hl hc => checks_yes L hl hc).mono fun e W' ⟨he, hb⟩ => ?_
  subst he
  exact ⟨_, rfl, law_post Try.laidOut (fun t ht => by rw [Try.params9] at ht; have := List.all_eq_true.1 hpar t ht; rw [Bool.and_eq_true, Nat.blt_eq] at this; exact this) rfl rfl Try.underlying4 hW' (by match ds, hlen with | [_, _, _], _ => rfl) hb⟩
set_option maxHeartbeats 4000000 in
theorem checks_closed : joinedFacts Try.prog 9 Try.f9 Rows.pumpChecksSpec Rows.pumpChecksRow = true := by
  refine joined_of Try.laidOut Try.rowed Try.noStops Try.noKnobs Try.plain Try.heard Try.enters Try.lifts Try.makes (by as_aux_lemma => kernel_rfl) (by as_aux_lemma => kernel_rfl) (by as_aux_lemma => kernel_rfl) (by as_aux_lemma => kernel_rfl) (by as_aux_lemma => kernel_rfl)
    (by as_aux_lemma => kernel_rfl) (by as_aux_lemma => kernel_rfl) (by as_aux_lemma => kernel_rfl) (by as_aux_lemma => kernel_rfl) ?_
  kernel_rfl
theorem checks_holds : Rows.PumpChecksSaid :=
  OpenClaim.holds_of_wide 9 Try.f9 rfl rfl rfl rfl rfl rfl rfl ⟨rfl, rfl, rfl, rfl, rfl⟩ rfl rfl rfl rfl rfl (by as_aux_lemma => kernel_rfl) Try.func9 checks_closed
    (of_decide_eq_true (by as_aux_lemma => kernel_rfl)) (by as_aux_lemma => unfold Func.isWrapper; first | (rw [if_pos (by decide +kernel)]; kernel_rfl) | (rw [if_neg (by decide +kernel)]; exact ⟨rfl, rfl⟩))
    (fun os started H enc _ => checks_lifted os started H enc)
end Go.Proofs.Ytgnpnfkncbnjnaa
