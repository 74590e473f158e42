/- The statement PumpHunts holds for every input, without further conditions. -/
import Derived.Test.YtgnpnfkncbnjnaaHuB
import Derived.Test.YtgnpnfkncbnjnaaHuC
import Derived.Test.YtgnpnfkncbnjnaaAmE
import Derived.Test.YtgnpnfkncbnjnaaAmF
import Derived.Test.YtgnpnfkncbnjnaaAmC
import Derived.Test.YtgnpnfkncbnjnaaRows
import Derived.ProofKit
set_option linter.unusedSimpArgs false
set_option linter.unusedVariables false
set_option maxRecDepth 100000
namespace Go.Proofs.Ytgnpnfkncbnjnaa
open Go Go.Am
attribute [local congr] tr_congr does_congr all_congr
/-! ### Hunts too large to speak of; lists of tests that were made -/
def vastB (h : Hnt) : Bool := decide (20 < h.trials.length) || h.trials.any fun t => decide (20 < t.of.length)
theorem vast_call (h : Hnt) (K : Nat) (s : St) (hK : h.trials.length < K) (hl : h.trials.length ≤ 9223372036854775807) (hl2 : ∀ t ∈ h.trials, t.of.length ≤ 9223372036854775807) : acall cfg (K + 1) 54 [hntV h] s = .ret (.bool (vastB h), s) := by
  refine call1 mget54 fget54 (by first | rfl | simp -implicitDefEqProofs only [redoH, redo1, go_sem, Int.reduceEq, Int.reduceNeg, Nat.reduceEqDiff, Nat.reduceLT, Nat.reduceAdd, Nat.reduceSub, Nat.reduceMul, Int.reduceLE, Int.reduceLT, Int.reduceToNat, Int.toNat_natCast, Nat.reduceLeDiff, Bool.not_true, Bool.not_false]) (by first | rfl | simp -implicitDefEqProofs only [redoH, redo1, go_sem, Int.reduceEq, Int.reduceNeg, Nat.reduceEqDiff, Nat.reduceLT, Nat.reduceAdd, Nat.reduceSub, Nat.reduceMul, Int.reduceLE, Int.reduceLT, Int.reduceToNat, Int.toNat_natCast, Nat.reduceLeDiff, Bool.not_true, Bool.not_false]) (by first | rfl | simp -implicitDefEqProofs only [redoH, redo1, go_sem, Int.reduceEq, Int.reduceNeg, Nat.reduceEqDiff, Nat.reduceLT, Nat.reduceAdd, Nat.reduceSub, Nat.reduceMul, Int.reduceLE, Int.reduceLT, Int.reduceToNat, Int.toNat_natCast, Nat.reduceLeDiff, Bool.not_true, Bool.not_false]) ?_
  refine body_does rfl fun T hT' hA => ?_
  have a0 := hA 0 _ rfl
  have hT : T.length = 23 := hT'
  clear hA hT'
  simp -implicitDefEqProofs only [redoH, redo1, go_sem, Int.reduceEq, Int.reduceNeg, Nat.reduceEqDiff, Nat.reduceLT, Nat.reduceAdd, Nat.reduceSub, Nat.reduceMul, Int.reduceLE, Int.reduceLT, Int.reduceToNat, Int.toNat_natCast, Nat.reduceLeDiff, Bool.not_true, Bool.not_false, a0, hT]
  unfold vastB
  by_cases c1 : 20 < h.trials.length
  · have c1' : (20 : Int) < (h.trials.length : Int) := by omega
    simp -implicitDefEqProofs only [redoH, redo1, go_sem, Int.reduceEq, Int.reduceNeg, Nat.reduceEqDiff, Nat.reduceLT, Nat.reduceAdd, Nat.reduceSub, Nat.reduceMul, Int.reduceLE, Int.reduceLT, Int.reduceToNat, Int.toNat_natCast, Nat.reduceLeDiff, Bool.not_true, Bool.not_false, a0, hT, c1', c1, Bool.true_or, Try.results54]
  · have c1' : ¬ (20 : Int) < (h.trials.length : Int) := by omega
    simp -implicitDefEqProofs only [redoH, redo1, go_sem, Int.reduceEq, Int.reduceNeg, Nat.reduceEqDiff, Nat.reduceLT, Nat.reduceAdd, Nat.reduceSub, Nat.reduceMul, Int.reduceLE, Int.reduceLT, Int.reduceToNat, Int.toNat_natCast, Nat.reduceLeDiff, Bool.not_true, Bool.not_false, a0, hT, c1', c1, Bool.false_or]
    simp only [does_bind]
    refine xl_does (fun k T s' => T.length = 23 ∧ nth T 1 = some (.ptr [0] 0) ∧ s' = ⟨[([0], .cells [.int .i64 h.suspects, .lst (h.trials.map triV)] true 0)], 1, [], false, []⟩ ∧ ∃ i : Nat, nth T 3 = some (.int .i64 i) ∧ i ≤ h.trials.length ∧ k = h.trials.length - i ∧ (h.trials.any fun t => decide (20 < t.of.length)) = ((h.trials.drop i).any fun t => decide (20 < t.of.length))) (k := h.trials.length) (by omega) ?_ ?_
    · exact ⟨by simp -implicitDefEqProofs only [redoH, redo1, go_sem, Int.reduceEq, Int.reduceNeg, Nat.reduceEqDiff, Nat.reduceLT, Nat.reduceAdd, Nat.reduceSub, Nat.reduceMul, Int.reduceLE, Int.reduceLT, Int.reduceToNat, Int.toNat_natCast, Nat.reduceLeDiff, Bool.not_true, Bool.not_false, hT], by simp -implicitDefEqProofs only [redoH, redo1, go_sem, Int.reduceEq, Int.reduceNeg, Nat.reduceEqDiff, Nat.reduceLT, Nat.reduceAdd, Nat.reduceSub, Nat.reduceMul, Int.reduceLE, Int.reduceLT, Int.reduceToNat, Int.toNat_natCast, Nat.reduceLeDiff, Bool.not_true, Bool.not_false, hT], rfl, 0, by simp -implicitDefEqProofs only [redoH, redo1, go_sem, Int.reduceEq, Int.reduceNeg, Nat.reduceEqDiff, Nat.reduceLT, Nat.reduceAdd, Nat.reduceSub, Nat.reduceMul, Int.reduceLE, Int.reduceLT, Int.reduceToNat, Int.toNat_natCast, Nat.reduceLeDiff, Bool.not_true, Bool.not_false, hT]; rfl, by omega, rfl, rfl⟩
    clear a0 hT
    rintro k T s' ⟨hT, a1, rfl, i, a3, hi, rfl, hany⟩
    simp -implicitDefEqProofs only [redoH, redo1, go_sem, Int.reduceEq, Int.reduceNeg, Nat.reduceEqDiff, Nat.reduceLT, Nat.reduceAdd, Nat.reduceSub, Nat.reduceMul, Int.reduceLE, Int.reduceLT, Int.reduceToNat, Int.toNat_natCast, Nat.reduceLeDiff, Bool.not_true, Bool.not_false, a1, a3, hT]
    simp only [does_bind]
    refine does_if (fun hlo => ?_) (fun hlo => ?_)
    · have hi' : i < h.trials.length := by omega
      have hk2 : h.trials.length - (i + 1) < h.trials.length - i := by omega
      have hel := elemAt_map (f := triV) (z := 2) hi' rfl
      rw [List.drop_eq_getElem_cons hi', List.any_cons] at hany
      by_cases c2 : 20 < h.trials[i].of.length
      · have c2' : (20 : Int) < (h.trials[i].of.length : Int) := by omega
        rw [decide_eq_true c2, Bool.true_or] at hany
        simp -implicitDefEqProofs only [redoH, redo1, go_sem, Int.reduceEq, Int.reduceNeg, Nat.reduceEqDiff, Nat.reduceLT, Nat.reduceAdd, Nat.reduceSub, Nat.reduceMul, Int.reduceLE, Int.reduceLT, Int.reduceToNat, Int.toNat_natCast, Nat.reduceLeDiff, Bool.not_true, Bool.not_false, a1, a3, hT, hel, c2', hany, Try.results54]
      · have c2' : ¬ (20 : Int) < (h.trials[i].of.length : Int) := by omega
        have hw1 : wrapF .i64 ((i : Int) + 1) = ((i + 1 : Nat) : Int) := by rw [wrap_i64 (by omega) (by omega)]; simp
        rw [decide_eq_false c2, Bool.false_or] at hany
        simp -implicitDefEqProofs only [redoH, redo1, go_sem, Int.reduceEq, Int.reduceNeg, Nat.reduceEqDiff, Nat.reduceLT, Nat.reduceAdd, Nat.reduceSub, Nat.reduceMul, Int.reduceLE, Int.reduceLT, Int.reduceToNat, Int.toNat_natCast, Nat.reduceLeDiff, Bool.not_true, Bool.not_false, a1, a3, hT, hel, c2', hw1]
        exact ⟨h.trials.length - (i + 1), hk2, trivial, trivial, trivial, i + 1, rfl, hi', rfl, hany⟩
    · have hil : i = h.trials.length := by omega
      subst hil
      rw [List.drop_length] at hany
      simp only [List.any_nil] at hany
      simp -implicitDefEqProofs only [redoH, redo1, go_sem, Int.reduceEq, Int.reduceNeg, Nat.reduceEqDiff, Nat.reduceLT, Nat.reduceAdd, Nat.reduceSub, Nat.reduceMul, Int.reduceLE, Int.reduceLT, Int.reduceToNat, Int.toNat_natCast, Nat.reduceLeDiff, Bool.not_true, Bool.not_false, a1, a3, hT, hany, Try.results54]
theorem eq_try (a : Int) (p : Bool) : eqA (cfg.at 60) 20 105 (.agg [.int .i64 a, .bool p]) (.agg [.int .i64 a, .bool p]) = some true := by
  cases p <;> simp only [eqA, eqFields, redoH, redo1, go_sem, Int.reduceEq, Int.reduceNeg, Nat.reduceEqDiff, Nat.reduceLT, Nat.reduceAdd, Nat.reduceSub, Nat.reduceMul, Int.reduceLE, Int.reduceLT, Int.reduceToNat, Int.toNat_natCast, Nat.reduceLeDiff, Bool.not_true, Bool.not_false]
theorem same_tries_self (l : List Try') (K : Nat) (s : St) (hK : l.length < K) (hl : l.length ≤ 9223372036854775807) : acall cfg (K + 1) 60 [.lst (l.map tryV), .lst (l.map tryV)] s = .ret (.bool true, s) := by
  refine call1 mget60 fget60 (by first | rfl | simp -implicitDefEqProofs only [redoH, redo1, go_sem, Int.reduceEq, Int.reduceNeg, Nat.reduceEqDiff, Nat.reduceLT, Nat.reduceAdd, Nat.reduceSub, Nat.reduceMul, Int.reduceLE, Int.reduceLT, Int.reduceToNat, Int.toNat_natCast, Nat.reduceLeDiff, Bool.not_true, Bool.not_false]) (by first | rfl | simp -implicitDefEqProofs only [redoH, redo1, go_sem, Int.reduceEq, Int.reduceNeg, Nat.reduceEqDiff, Nat.reduceLT, Nat.reduceAdd, Nat.reduceSub, Nat.reduceMul, Int.reduceLE, Int.reduceLT, Int.reduceToNat, Int.toNat_natCast, Nat.reduceLeDiff, Bool.not_true, Bool.not_false]) (by first | rfl | simp -implicitDefEqProofs only [redoH, redo1, go_sem, Int.reduceEq, Int.reduceNeg, Nat.reduceEqDiff, Nat.reduceLT, Nat.reduceAdd, Nat.reduceSub, Nat.reduceMul, Int.reduceLE, Int.reduceLT, Int.reduceToNat, Int.toNat_natCast, Nat.reduceLeDiff, Bool.not_true, Bool.not_false]) ?_
  refine body_does rfl fun T hT' hA => ?_
  have a0 := hA 0 _ rfl
  have a1 := hA 1 _ rfl
  have hT : T.length = 26 := hT'
  clear hA hT'
  simp -implicitDefEqProofs only [redoH, redo1, go_sem, Int.reduceEq, Int.reduceNeg, Nat.reduceEqDiff, Nat.reduceLT, Nat.reduceAdd, Nat.reduceSub, Nat.reduceMul, Int.reduceLE, Int.reduceLT, Int.reduceToNat, Int.toNat_natCast, Nat.reduceLeDiff, Bool.not_true, Bool.not_false, a0, a1, hT]
  simp only [does_bind]
  refine xl_does (fun k T s' => T.length = 26 ∧ nth T 0 = some (.lst (l.map tryV)) ∧ nth T 1 = some (.lst (l.map tryV)) ∧ ∃ i n : Nat, s' = ⟨[], n, [], false, []⟩ ∧  nth T 5 = some (.int .i64 i) ∧ i ≤ l.length ∧ k = l.length - i) (k := l.length) (by omega) ?_ ?_
  · exact ⟨by simp -implicitDefEqProofs only [redoH, redo1, go_sem, Int.reduceEq, Int.reduceNeg, Nat.reduceEqDiff, Nat.reduceLT, Nat.reduceAdd, Nat.reduceSub, Nat.reduceMul, Int.reduceLE, Int.reduceLT, Int.reduceToNat, Int.toNat_natCast, Nat.reduceLeDiff, Bool.not_true, Bool.not_false, hT], by simp -implicitDefEqProofs only [redoH, redo1, go_sem, Int.reduceEq, Int.reduceNeg, Nat.reduceEqDiff, Nat.reduceLT, Nat.reduceAdd, Nat.reduceSub, Nat.reduceMul, Int.reduceLE, Int.reduceLT, Int.reduceToNat, Int.toNat_natCast, Nat.reduceLeDiff, Bool.not_true, Bool.not_false, a0], by simp -implicitDefEqProofs only [redoH, redo1, go_sem, Int.reduceEq, Int.reduceNeg, Nat.reduceEqDiff, Nat.reduceLT, Nat.reduceAdd, Nat.reduceSub, Nat.reduceMul, Int.reduceLE, Int.reduceLT, Int.reduceToNat, Int.toNat_natCast, Nat.reduceLeDiff, Bool.not_true, Bool.not_false, a1], 0, 0, rfl, by simp -implicitDefEqProofs only [redoH, redo1, go_sem, Int.reduceEq, Int.reduceNeg, Nat.reduceEqDiff, Nat.reduceLT, Nat.reduceAdd, Nat.reduceSub, Nat.reduceMul, Int.reduceLE, Int.reduceLT, Int.reduceToNat, Int.toNat_natCast, Nat.reduceLeDiff, Bool.not_true, Bool.not_false, hT]; rfl, by omega, rfl⟩
  clear a0 a1 hT
  rintro k T s' ⟨hT, a0, a1, i, n, rfl, a5, hi, rfl⟩
  simp -implicitDefEqProofs only [redoH, redo1, go_sem, Int.reduceEq, Int.reduceNeg, Nat.reduceEqDiff, Nat.reduceLT, Nat.reduceAdd, Nat.reduceSub, Nat.reduceMul, Int.reduceLE, Int.reduceLT, Int.reduceToNat, Int.toNat_natCast, Nat.reduceLeDiff, Bool.not_true, Bool.not_false, a0, a1, a5, hT]
  simp only [does_bind]
  refine does_if (fun hlo => ?_) (fun hlo => ?_)
  · have hi' : i < l.length := by omega
    have hk2 : l.length - (i + 1) < l.length - i := by omega
    have hel := elemAt_map (f := tryV) (z := 2) hi' rfl
    have hw1 : wrapF .i64 ((i : Int) + 1) = ((i + 1 : Nat) : Int) := by rw [wrap_i64 (by omega) (by omega)]; simp
    simp -implicitDefEqProofs only [redoH, redo1, go_sem, Int.reduceEq, Int.reduceNeg, Nat.reduceEqDiff, Nat.reduceLT, Nat.reduceAdd, Nat.reduceSub, Nat.reduceMul, Int.reduceLE, Int.reduceLT, Int.reduceToNat, Int.toNat_natCast, Nat.reduceLeDiff, Bool.not_true, Bool.not_false, a0, a1, a5, hT, hel]
    simp only [does_bind]
    refine draw_mach [] [] (by kernel_rfl) ?_
    simp -implicitDefEqProofs only [redoH, redo1, go_sem, Int.reduceEq, Int.reduceNeg, Nat.reduceEqDiff, Nat.reduceLT, Nat.reduceAdd, Nat.reduceSub, Nat.reduceMul, Int.reduceLE, Int.reduceLT, Int.reduceToNat, Int.toNat_natCast, Nat.reduceLeDiff, Bool.not_true, Bool.not_false, a0, a1, a5, hT, hel, hw1, eq_try]
    exact ⟨l.length - (i + 1), hk2, trivial, trivial, trivial, i + 1, n + 1, rfl, rfl, hi', rfl⟩
  · simp -implicitDefEqProofs only [redoH, redo1, go_sem, Int.reduceEq, Int.reduceNeg, Nat.reduceEqDiff, Nat.reduceLT, Nat.reduceAdd, Nat.reduceSub, Nat.reduceMul, Int.reduceLE, Int.reduceLT, Int.reduceToNat, Int.toNat_natCast, Nat.reduceLeDiff, Bool.not_true, Bool.not_false, a0, a1, a5, hT, Try.results60]
end Go.Proofs.Ytgnpnfkncbnjnaa
namespace Go.Proofs.Ytgnpnfkncbnjnaa
open Go Go.Am
attribute [local congr] tr_congr does_congr all_congr
def isV' (l : List Int) : AV := .lst (l.map iV)
theorem vast_no {h : Hnt} (hv : vastB h = false) (K : Nat) (hK : 20 < K) : h.Ok K := by
  unfold vastB at hv
  simp only [Bool.or_eq_false_iff, decide_eq_false_iff_not, List.any_eq_false, decide_eq_true_eq] at hv
  exact ⟨by omega, fun t ht => by have := hv.2 t ht; constructor <;> omega⟩
theorem findL_len (h : Hnt) (leak : Nat) : ∀ (f s : Nat), (findL h leak f s).1.length ≤ f
  | 0, s => Nat.le_refl 0
  | f + 1, s => by
    unfold findL
    split
    · simp
    · split
      · have := findL_len h leak f
        exact Nat.succ_le_succ (this _)
      · simp
theorem find_len (h : Hnt) (leak : Int) : (findT h leak).1.length ≤ 4096 := by
  unfold findT
  split
  · rename_i hh
    split
    · split
      · simp
      · have h1 := findL_len h leak.toNat (2 ^ h.suspects.toNat) (2 ^ h.suspects.toNat - 1)
        have h12 : (2 : Nat) ^ h.suspects.toNat ≤ 2 ^ 12 := Nat.pow_le_pow_right (by decide) (by have := (hunt_ok hh).2.1; omega)
        exact Nat.le_trans h1 h12
    · simp
  · simp
theorem hunts_walk (h : Hnt) (l : List Int) (leak : Int) (nums : List Int) (K : Nat) (hK : 6000 < K) (hk1 : h.trials.length < K) (hk2 : nums.length < K) (hI : h.I) (hl : Len l) (hn : Len nums) :
    (acall cfg (K + 320) 10 [hntV h, .lst (l.map iV), iV leak, .lst (nums.map iV)] s0).Does fun x => x.1 = .bool true := by
  rw [call0 mget10 fget10]
  refine body_does rfl fun T hT' hA => ?_
  have a0 := hA 0 _ rfl
  have a1 := hA 1 _ rfl
  have a2 := hA 2 _ rfl
  have a3 := hA 3 _ rfl
  have hT : T.length = 177 := hT'
  clear hA hT'
  have hva := fun s => vast_call h (K + 318) s (by omega) hI.2.1 (fun t ht => (hI.2.2 t ht).1.1)
  simp only [hntV] at hva
  have haw := fun s => awake_all (K + 19) s
  simp -implicitDefEqProofs only [redoH, redo1, go_sem, Int.reduceEq, Int.reduceNeg, Nat.reduceEqDiff, Nat.reduceLT, Nat.reduceAdd, Nat.reduceSub, Nat.reduceMul, Int.reduceLE, Int.reduceLT, Int.reduceToNat, Int.toNat_natCast, Nat.reduceLeDiff, Bool.not_true, Bool.not_false, a0, a1, a2, a3, hT, hva]
  cases hvb : vastB h with
  | true => simp -implicitDefEqProofs only [redoH, redo1, go_sem, Int.reduceEq, Int.reduceNeg, Nat.reduceEqDiff, Nat.reduceLT, Nat.reduceAdd, Nat.reduceSub, Nat.reduceMul, Int.reduceLE, Int.reduceLT, Int.reduceToNat, Int.toNat_natCast, Nat.reduceLeDiff, Bool.not_true, Bool.not_false, a0, a1, a2, a3, hT, hva, hvb, haw, Try.results10]
  | false =>
    by_cases hlen : 20 < l.length
    · have hlen' : (20 : Int) < (l.length : Int) := by omega
      simp -implicitDefEqProofs only [redoH, redo1, go_sem, Int.reduceEq, Int.reduceNeg, Nat.reduceEqDiff, Nat.reduceLT, Nat.reduceAdd, Nat.reduceSub, Nat.reduceMul, Int.reduceLE, Int.reduceLT, Int.reduceToNat, Int.toNat_natCast, Nat.reduceLeDiff, Bool.not_true, Bool.not_false, a0, a1, a2, a3, hT, hva, hvb, hlen', haw, Try.results10]
    · have hlen' : ¬ (20 : Int) < (l.length : Int) := by omega
      have hok := fun k (hk : 20 < k) => vast_no hvb k hk
      have hnd := fun s => newDice_call nums (K + 317) s (by omega) hn
      generalize newDice nums = w0 at *
      obtain ⟨own, w1, hg, hof⟩ := huntOf_call w0 8 9 [1] 0 (K + 309) ⟨[([1], .cells [.int .u64 w0] true 0), ([0], .cells [.int .i64 h.suspects, .lst (h.trials.map triV)] true 0)], 2, [], false, []⟩ rfl (by omega) (by omega) (by omega) (by omega) (by omega)
      simp only [hntV] at hof
      simp -implicitDefEqProofs only [redoH, redo1, go_sem, Int.reduceEq, Int.reduceNeg, Nat.reduceEqDiff, Nat.reduceLT, Nat.reduceAdd, Nat.reduceSub, Nat.reduceMul, Int.reduceLE, Int.reduceLT, Int.reduceToNat, Int.toNat_natCast, Nat.reduceLeDiff, Bool.not_true, Bool.not_false, a0, a1, a2, a3, hT, hva, hvb, hlen', hnd, hof]
      simp only [does_bind]
      refine xl_does (fun k T s' => T.length = 177 ∧ nth T 1 = some (.lst (l.map iV)) ∧ nth T 2 = some (.int .i64 leak) ∧ nth T 4 = some (.ptr [0] 0) ∧ nth T 9 = some (.ptr [1] 0) ∧ nth T 10 = some (.ptr [2] 0) ∧ ∃ (i n tb : Nat) (w : Int) (H : Heap) (row : List Int), nth T 12 = some (.int .i64 i) ∧ nth T 11 = some (ownV [tb + 3] (row.map iV)) ∧ (i : Int) ≤ own.suspects ∧ k = own.suspects.toNat - i ∧ s' = ⟨H, n + 3, [], false, []⟩ ∧
        hget H [0] = some (.cells [.int .i64 h.suspects, .lst (h.trials.map triV)] true 0) ∧ hget H [1] = some (.cells [.int .u64 w] true 0) ∧ hget H [2] = some (.cells [.int .i64 own.suspects, .lst (own.trials.map triV)] true 0) ∧ (row.map iV ≠ [] → tb < n ∧ hget H [tb + 3] = some (.tok row.length 1)) ∧ row.length ≤ i) (k := own.suspects.toNat) (by have := hg.2.1; omega) ?_ ?_
      · exact ⟨by simp -implicitDefEqProofs only [redoH, redo1, go_sem, Int.reduceEq, Int.reduceNeg, Nat.reduceEqDiff, Nat.reduceLT, Nat.reduceAdd, Nat.reduceSub, Nat.reduceMul, Int.reduceLE, Int.reduceLT, Int.reduceToNat, Int.toNat_natCast, Nat.reduceLeDiff, Bool.not_true, Bool.not_false, hT], by simp -implicitDefEqProofs only [redoH, redo1, go_sem, Int.reduceEq, Int.reduceNeg, Nat.reduceEqDiff, Nat.reduceLT, Nat.reduceAdd, Nat.reduceSub, Nat.reduceMul, Int.reduceLE, Int.reduceLT, Int.reduceToNat, Int.toNat_natCast, Nat.reduceLeDiff, Bool.not_true, Bool.not_false, a1], by simp -implicitDefEqProofs only [redoH, redo1, go_sem, Int.reduceEq, Int.reduceNeg, Nat.reduceEqDiff, Nat.reduceLT, Nat.reduceAdd, Nat.reduceSub, Nat.reduceMul, Int.reduceLE, Int.reduceLT, Int.reduceToNat, Int.toNat_natCast, Nat.reduceLeDiff, Bool.not_true, Bool.not_false, a2], by simp -implicitDefEqProofs only [redoH, redo1, go_sem, Int.reduceEq, Int.reduceNeg, Nat.reduceEqDiff, Nat.reduceLT, Nat.reduceAdd, Nat.reduceSub, Nat.reduceMul, Int.reduceLE, Int.reduceLT, Int.reduceToNat, Int.toNat_natCast, Nat.reduceLeDiff, Bool.not_true, Bool.not_false, hT], by simp -implicitDefEqProofs only [redoH, redo1, go_sem, Int.reduceEq, Int.reduceNeg, Nat.reduceEqDiff, Nat.reduceLT, Nat.reduceAdd, Nat.reduceSub, Nat.reduceMul, Int.reduceLE, Int.reduceLT, Int.reduceToNat, Int.toNat_natCast, Nat.reduceLeDiff, Bool.not_true, Bool.not_false, hT], by simp -implicitDefEqProofs only [redoH, redo1, go_sem, Int.reduceEq, Int.reduceNeg, Nat.reduceEqDiff, Nat.reduceLT, Nat.reduceAdd, Nat.reduceSub, Nat.reduceMul, Int.reduceLE, Int.reduceLT, Int.reduceToNat, Int.toNat_natCast, Nat.reduceLeDiff, Bool.not_true, Bool.not_false, hT], 0, 0, 0, w1, _, [], by simp -implicitDefEqProofs only [redoH, redo1, go_sem, Int.reduceEq, Int.reduceNeg, Nat.reduceEqDiff, Nat.reduceLT, Nat.reduceAdd, Nat.reduceSub, Nat.reduceMul, Int.reduceLE, Int.reduceLT, Int.reduceToNat, Int.toNat_natCast, Nat.reduceLeDiff, Bool.not_true, Bool.not_false, hT]; rfl, by simp -implicitDefEqProofs only [redoH, redo1, go_sem, Int.reduceEq, Int.reduceNeg, Nat.reduceEqDiff, Nat.reduceLT, Nat.reduceAdd, Nat.reduceSub, Nat.reduceMul, Int.reduceLE, Int.reduceLT, Int.reduceToNat, Int.toNat_natCast, Nat.reduceLeDiff, Bool.not_true, Bool.not_false, hT], by have := hg.1; omega, rfl, rfl, rfl, rfl, rfl, fun hx => absurd rfl hx, by simp⟩
      clear a0 a1 a2 a3 hT hof hnd w1 w0 hva
      rintro k T s' ⟨hT, a1, a2, a4, a9, a10, i, n, tb, w, H, row, a12, a11, hi, rfl, rfl, g0, g1, g2, gt, hrl⟩
      have hg1 := hg.1
      have hg2 := hg.2.1
      simp -implicitDefEqProofs only [redoH, redo1, go_sem, Int.reduceEq, Int.reduceNeg, Nat.reduceEqDiff, Nat.reduceLT, Nat.reduceAdd, Nat.reduceSub, Nat.reduceMul, Int.reduceLE, Int.reduceLT, Int.reduceToNat, Int.toNat_natCast, Nat.reduceLeDiff, Bool.not_true, Bool.not_false, a1, a2, a4, a9, a10, a11, a12, hT, g2]
      by_cases hin : (i : Int) < own.suspects
      · have hone := one_call w 2 [1] 0 (K + 316) ⟨H, n + 3, [], false, []⟩ g1 (by omega)
        obtain ⟨H1, hH1, r0, r1, r2, rt⟩ : ∃ H1, H1 = hset H [1] (.cells [.int .u64 (nextW w)] true 0) ∧ hget H1 [0] = some (.cells [.int .i64 h.suspects, .lst (h.trials.map triV)] true 0) ∧ hget H1 [1] = some (.cells [.int .u64 (nextW w)] true 0) ∧ hget H1 [2] = some (.cells [.int .i64 own.suspects, .lst (own.trials.map triV)] true 0) ∧ (row.map iV ≠ [] → tb < n ∧ hget H1 [tb + 3] = some (.tok row.length 1)) := by
          refine ⟨_, rfl, ?_, hget_hset_same _ g1, ?_, fun hx => ⟨(gt hx).1, ?_⟩⟩
          · rw [hget_hset_ne _ _ (by decide)]; exact g0
          · rw [hget_hset_ne _ _ (by decide)]; exact g2
          · rw [hget_hset_ne _ _ (nm_ne (by omega))]; exact (gt hx).2
        have hone' : acall cfg (K + 316 + 3) 44 [.ptr [1] 0, .int .i64 2] ⟨H, n + 3, [], false, []⟩ = .ret (.bool (oneB w 2), ⟨H1, n + 3, [], false, []⟩) := by
          rw [hone, hH1]; rfl
        clear hone hH1
        have hkk : own.suspects.toNat - (i + 1) < own.suspects.toNat - i := by omega
        have hi2 : ((i + 1 : Nat) : Int) ≤ own.suspects := by omega
        have hrl2 : row.length ≤ i + 1 := by omega
        simp -implicitDefEqProofs only [redoH, redo1, go_sem, Int.reduceEq, Int.reduceNeg, Nat.reduceEqDiff, Nat.reduceLT, Nat.reduceAdd, Nat.reduceSub, Nat.reduceMul, Int.reduceLE, Int.reduceLT, Int.reduceToNat, Int.toNat_natCast, Nat.reduceLeDiff, Bool.not_true, Bool.not_false, a1, a2, a4, a9, a10, a11, a12, hT, hin, hone']
        cases hob : oneB w 2 with
        | true =>
          have hap := append_abs (C := cfg.at 10) (sT := 22) (b := [tb + 3]) (l := row.map iV) (x := iV i) (H := H1) (n := n + 3) (p := []) (jr := false) (j := []) (z := 1) desc22 tget3 rfl rfl rfl rfl rfl rfl (by rw [List.length_map]; show (row.length + 1) * 8 ≤ _; omega) (fun hx => by rw [List.length_map]; exact (rt hx).2)
          have hrm : (row ++ [(i : Int)]).map iV = row.map iV ++ [iV i] := by simp
          obtain ⟨H2, hH2, s0', s1, s2⟩ : ∃ H2, H2 = dropTok (row.map iV) [tb + 3] H1 ∧ hget H2 [0] = some (.cells [.int .i64 h.suspects, .lst (h.trials.map triV)] true 0) ∧ hget H2 [1] = some (.cells [.int .u64 (nextW w)] true 0) ∧ hget H2 [2] = some (.cells [.int .i64 own.suspects, .lst (own.trials.map triV)] true 0) :=
            ⟨_, rfl, (hget_dropTok _ _ (nm_ne (by omega))).trans r0, (hget_dropTok _ _ (nm_ne (by omega))).trans r1, (hget_dropTok _ _ (nm_ne (by omega))).trans r2⟩
          rw [← hH2, ← hrm, List.length_map] at hap
          clear hH2
          have p0 := fun X => (hget_cons_ne (i := [n + 3]) (j := [0]) X H2 (nm_ne (by omega))).trans s0'
          have p1 := fun X => (hget_cons_ne (i := [n + 3]) (j := [1]) X H2 (nm_ne (by omega))).trans s1
          have p2 := fun X => (hget_cons_ne (i := [n + 3]) (j := [2]) X H2 (nm_ne (by omega))).trans s2
          have hln : (row ++ [(i : Int)]).length = row.length + 1 := by simp
          have hle : row.length + 1 ≤ i + 1 := by omega
          have hnn : n < n + 1 := by omega
          have hw1 : wrapF .i64 ((i : Int) + 1) = ((i + 1 : Nat) : Int) := wrap_i64 (by omega) (by omega)
          simp only [iV] at hap
          simp -implicitDefEqProofs only [redoH, redo1, go_sem, Int.reduceEq, Int.reduceNeg, Nat.reduceEqDiff, Nat.reduceLT, Nat.reduceAdd, Nat.reduceSub, Nat.reduceMul, Int.reduceLE, Int.reduceLT, Int.reduceToNat, Int.toNat_natCast, Nat.reduceLeDiff, Bool.not_true, Bool.not_false, a1, a2, a4, a9, a10, a11, a12, hT, hob, hap, desc22, hw1]
          exact ⟨own.suspects.toNat - (i + 1), hkk, trivial, trivial, trivial, trivial, trivial, trivial, i + 1, n + 1, n, nextW w, _, row ++ [(i : Int)], rfl, rfl, hi2, rfl, rfl, p0 _, p1 _, p2 _, fun _ => ⟨hnn, by rw [hln]; exact hget_cons_same ..⟩, by rw [hln]; exact hle⟩
        | false =>
          have hw1 : wrapF .i64 ((i : Int) + 1) = ((i + 1 : Nat) : Int) := wrap_i64 (by omega) (by omega)
          simp -implicitDefEqProofs only [redoH, redo1, go_sem, Int.reduceEq, Int.reduceNeg, Nat.reduceEqDiff, Nat.reduceLT, Nat.reduceAdd, Nat.reduceSub, Nat.reduceMul, Int.reduceLE, Int.reduceLT, Int.reduceToNat, Int.toNat_natCast, Nat.reduceLeDiff, Bool.not_true, Bool.not_false, a1, a2, a4, a9, a10, a11, a12, hT, hob, hw1]
          exact ⟨own.suspects.toNat - (i + 1), hkk, trivial, trivial, trivial, trivial, trivial, trivial, i + 1, n, tb, nextW w, H1, row, rfl, rfl, hi2, rfl, rfl, r0, r1, r2, rt, hrl2⟩
      · simp -implicitDefEqProofs only [redoH, redo1, go_sem, Int.reduceEq, Int.reduceNeg, Nat.reduceEqDiff, Nat.reduceLT, Nat.reduceAdd, Nat.reduceSub, Nat.reduceMul, Int.reduceLE, Int.reduceLT, Int.reduceToNat, Int.toNat_natCast, Nat.reduceLeDiff, Bool.not_true, Bool.not_false, a1, a2, a4, a9, a10, a11, a12, hT, hin]
        obtain ⟨S, hS⟩ : ∃ S : Nat, own.suspects = S := ⟨own.suspects.toNat, by omega⟩
        have hf := fun s => first_call S (K + 318) s (by omega) (by omega)
        have hu1 := fun (s : St) (w : Int) (hb : hget s.H [1] = some (.cells [.int .u64 w] true 0)) => upto_call w S [1] 0 (K + 317) s hb (by omega)
        have hd0 : hget (hdel H [1]) [0] = _ := (hget_hdel_ne H (by decide)).trans g0
        have hd2 : hget (hdel H [1]) [2] = _ := (hget_hdel_ne H (by decide)).trans g2
        have hd0' : hget (hdel (hdel H [1]) [1]) [0] = _ := (hget_hdel_ne _ (by decide)).trans hd0
        have hd2' : hget (hdel (hdel H [1]) [1]) [2] = _ := (hget_hdel_ne _ (by decide)).trans hd2
        have hs1 := fun X => hget_hset_same (H := H) (i := [1]) X g1
        have hur1 := upto_range w S (by omega)
        have hur2 := upto_range (nextW w) S (by omega)
        have hu2 := hu1 ⟨H, 0, [n + 3, 16], true, []⟩ w g1
        have hu3 := hu1 ⟨hset H [1] (.cells [.int .u64 (nextW w)] true 0), 0, [n + 3, 20], true, []⟩ (nextW w) (hs1 _)
        have hok2 := fun k (hk : 20 < k) => hntG_Ok (by omega) hg k (by omega)
        have hrl3 : row.length ≤ 12 := by omega
        clear gt hrl
        obtain ⟨v, hv, a11v⟩ : ∃ v, ((v = .nils ∧ row = []) ∨ ∃ b, v = .own b (row.map iV)) ∧ nth T 11 = some v := by
          refine ⟨_, ?_, a11⟩
          cases row with
          | nil => exact .inl ⟨rfl, rfl⟩
          | cons a r => exact .inr ⟨_, rfl⟩
        clear a11
        rcases hv with ⟨rfl, hrw⟩ | ⟨bb, rfl⟩
        all_goals
          simp only [does_bind]
          refine draw_machX [[], [], [], [], [0, 1, 2, 3], [], [], [], [7], [8, 7], [], [5, 6, 9, 8, 7, 10], [], [], [], [14], [13, 15, 14, 9, 8, 7], [], [], [18], [17, 19, 18, 16, 13, 15, 14, 9, 8, 7], [], [12, 20, 17, 19, 18, 16, 13, 15, 14, 9, 8, 7, 21], [20, 17, 19, 18, 16, 13, 15, 14, 9, 8, 7, 4, 0, 1, 2, 3], [11, 5, 6, 10, 23, 20, 17, 19, 18, 16, 13, 15, 14, 9, 8, 7, 4, 0, 1, 2, 3], [22, 12, 21, 24, 11, 5, 6, 10, 23, 20, 17, 19, 18, 16, 13, 15, 14, 9, 8, 7, 4, 0, 1, 2, 3]] [[], [], [], [], [], [], [], [], [], [], [], [], [], [], [], [], [[1]], [], [], [], [[1]], [], [], [], [], []] (by kernel_rfl) rfl rfl ?_
          simp -implicitDefEqProofs only [redoH, redo1, go_sem, Int.reduceEq, Int.reduceNeg, Nat.reduceEqDiff, Nat.reduceLT, Nat.reduceAdd, Nat.reduceSub, Nat.reduceMul, Int.reduceLE, Int.reduceLT, Int.reduceToNat, Int.toNat_natCast, Nat.reduceLeDiff, Bool.not_true, Bool.not_false, a1, a2, a4, a9, a10, a11v, a12, hT, g0, g1, g2, hd0, hd2, hd0', hd2', hS, hf, hu2, hu3, hs1]
          clear a1 a2 a4 a9 a10 a11v a12 hu1 hd0 hd2 hd0' hd2' hu2 hu3 hs1 hf
          generalize uptoN w S = u1 at *
          generalize uptoN (nextW w) S = u2 at *
          simp only [does_bind]
          refine xl_does (fun k T s' => T.length = 177 ∧ ∃ (i n : Nat) (H : Heap) (hs : List Hnt) (lists : List (List Int)) (leaks : List Int), nth T 13 = some (.lst (hs.map hntV)) ∧ nth T 14 = some (.lst (lists.map fun l => .lst (l.map iV))) ∧ nth T 15 = some (.lst (leaks.map iV)) ∧ nth T 16 = some (.int .i64 i) ∧ i ≤ 4 ∧ k = 4 - i ∧ s' = ⟨H, n, [], false, []⟩ ∧ hs.length = 4 ∧ (∀ x ∈ hs, ∀ k, 20 < k → x.Ok k) ∧ lists.length = 4 ∧ leaks.length = 4 ∧ (∀ l ∈ lists, l.length ≤ 20)) (k := 4) (by omega) ?_ ?_
          · have hl4 : ∀ r : List Int, r.length ≤ 12 → ∀ x ∈ [l, r, firstL S, l], x.length ≤ 20 := fun r hr x hx => by
              have hfl := firstL_length S
              have hS8 : S ≤ 8 := by omega
              rcases List.mem_cons.1 hx with rfl | hx
              · omega
              · rcases List.mem_cons.1 hx with rfl | hx
                · omega
                · rcases List.mem_cons.1 hx with rfl | hx
                  · omega
                  · rcases List.mem_cons.1 hx with rfl | hx
                    · omega
                    · cases hx
            have hhs : ∀ x ∈ [h, own, own, own], ∀ k, 20 < k → x.Ok k := fun x hx k hk => by
              rcases List.mem_cons.1 hx with rfl | hx
              · exact hok k hk
              · rcases List.mem_cons.1 hx with rfl | hx
                · exact hok2 k hk
                · rcases List.mem_cons.1 hx with rfl | hx
                  · exact hok2 k hk
                  · rcases List.mem_cons.1 hx with rfl | hx
                    · exact hok2 k hk
                    · cases hx
            first
            | exact ⟨by simp -implicitDefEqProofs only [redoH, redo1, go_sem, Int.reduceEq, Int.reduceNeg, Nat.reduceEqDiff, Nat.reduceLT, Nat.reduceAdd, Nat.reduceSub, Nat.reduceMul, Int.reduceLE, Int.reduceLT, Int.reduceToNat, Int.toNat_natCast, Nat.reduceLeDiff, Bool.not_true, Bool.not_false, hT], 0, _, _, [h, own, own, own], [l, row, firstL S, l], [leak, u1, u2, leak], by simp -implicitDefEqProofs only [redoH, redo1, go_sem, Int.reduceEq, Int.reduceNeg, Nat.reduceEqDiff, Nat.reduceLT, Nat.reduceAdd, Nat.reduceSub, Nat.reduceMul, Int.reduceLE, Int.reduceLT, Int.reduceToNat, Int.toNat_natCast, Nat.reduceLeDiff, Bool.not_true, Bool.not_false, hT, List.map_cons, hS], by simp -implicitDefEqProofs only [redoH, redo1, go_sem, Int.reduceEq, Int.reduceNeg, Nat.reduceEqDiff, Nat.reduceLT, Nat.reduceAdd, Nat.reduceSub, Nat.reduceMul, Int.reduceLE, Int.reduceLT, Int.reduceToNat, Int.toNat_natCast, Nat.reduceLeDiff, Bool.not_true, Bool.not_false, hT]; rfl, by simp -implicitDefEqProofs only [redoH, redo1, go_sem, Int.reduceEq, Int.reduceNeg, Nat.reduceEqDiff, Nat.reduceLT, Nat.reduceAdd, Nat.reduceSub, Nat.reduceMul, Int.reduceLE, Int.reduceLT, Int.reduceToNat, Int.toNat_natCast, Nat.reduceLeDiff, Bool.not_true, Bool.not_false, hT]; rfl, by simp -implicitDefEqProofs only [redoH, redo1, go_sem, Int.reduceEq, Int.reduceNeg, Nat.reduceEqDiff, Nat.reduceLT, Nat.reduceAdd, Nat.reduceSub, Nat.reduceMul, Int.reduceLE, Int.reduceLT, Int.reduceToNat, Int.toNat_natCast, Nat.reduceLeDiff, Bool.not_true, Bool.not_false, hT]; rfl, by omega, rfl, rfl, rfl, hhs, rfl, rfl, hl4 row hrl3⟩
            | exact ⟨by simp -implicitDefEqProofs only [redoH, redo1, go_sem, Int.reduceEq, Int.reduceNeg, Nat.reduceEqDiff, Nat.reduceLT, Nat.reduceAdd, Nat.reduceSub, Nat.reduceMul, Int.reduceLE, Int.reduceLT, Int.reduceToNat, Int.toNat_natCast, Nat.reduceLeDiff, Bool.not_true, Bool.not_false, hT], 0, _, _, [h, own, own, own], [l, [], firstL S, l], [leak, u1, u2, leak], by simp -implicitDefEqProofs only [redoH, redo1, go_sem, Int.reduceEq, Int.reduceNeg, Nat.reduceEqDiff, Nat.reduceLT, Nat.reduceAdd, Nat.reduceSub, Nat.reduceMul, Int.reduceLE, Int.reduceLT, Int.reduceToNat, Int.toNat_natCast, Nat.reduceLeDiff, Bool.not_true, Bool.not_false, hT, List.map_cons, hS], by simp -implicitDefEqProofs only [redoH, redo1, go_sem, Int.reduceEq, Int.reduceNeg, Nat.reduceEqDiff, Nat.reduceLT, Nat.reduceAdd, Nat.reduceSub, Nat.reduceMul, Int.reduceLE, Int.reduceLT, Int.reduceToNat, Int.toNat_natCast, Nat.reduceLeDiff, Bool.not_true, Bool.not_false, hT]; rfl, by simp -implicitDefEqProofs only [redoH, redo1, go_sem, Int.reduceEq, Int.reduceNeg, Nat.reduceEqDiff, Nat.reduceLT, Nat.reduceAdd, Nat.reduceSub, Nat.reduceMul, Int.reduceLE, Int.reduceLT, Int.reduceToNat, Int.toNat_natCast, Nat.reduceLeDiff, Bool.not_true, Bool.not_false, hT]; rfl, by simp -implicitDefEqProofs only [redoH, redo1, go_sem, Int.reduceEq, Int.reduceNeg, Nat.reduceEqDiff, Nat.reduceLT, Nat.reduceAdd, Nat.reduceSub, Nat.reduceMul, Int.reduceLE, Int.reduceLT, Int.reduceToNat, Int.toNat_natCast, Nat.reduceLeDiff, Bool.not_true, Bool.not_false, hT]; rfl, by omega, rfl, rfl, rfl, hhs, rfl, rfl, hl4 [] (by simp)⟩
          · clear g0 g1 g2 hT T H
            rintro k T s' ⟨hT, i, n, H, hs, lists, leaks, a13, a14, a15, a16, hi4, rfl, rfl, hl0, hl01, hl1, hl2, hl3⟩
            simp -implicitDefEqProofs only [redoH, redo1, go_sem, Int.reduceEq, Int.reduceNeg, Nat.reduceEqDiff, Nat.reduceLT, Nat.reduceAdd, Nat.reduceSub, Nat.reduceMul, Int.reduceLE, Int.reduceLT, Int.reduceToNat, Int.toNat_natCast, Nat.reduceLeDiff, Bool.not_true, Bool.not_false, a13, a14, a15, a16, hT, hl0]
            by_cases hi5 : i < 4
            · have hi5' : (i : Int) < ((4 : Nat) : Int) := by omega
              have ho := hl01 _ (List.getElem_mem (show i < hs.length by omega))
              have hls := hl3 _ (List.getElem_mem (show i < lists.length by omega))
              have e1 := elemAt_map (f := hntV) (l := hs) (i := i) (z := 2) (by omega) rfl
              have e2 := elemAt_map (f := fun l : List Int => AV.lst (l.map iV)) (l := lists) (i := i) (z := 1) (by omega) rfl
              have e3 := elemAt_map (f := iV) (l := leaks) (i := i) (z := 1) (by omega) rfl
              generalize hs[i] = x at *
              generalize lists[i] = lx at *
              generalize leaks[i] = kx at *
              have hc1 := fun s => worst_call x lx (K + 309) s (by omega) (ho _ (by omega)) (by omega) (by omega)
              have hc2 := fun s => rworst_call x lx (K + 309) s (by omega) (ho _ (by omega)) (by omega) (by omega)
              have hc3 := fun s => find_call x kx (K + 309) s (by omega) (ho _ (by omega))
              have hc4 := fun s => rfind_call x kx (K + 309) s (by omega) (ho _ (by omega))
              have hc5 := fun s => checkHunt_call x (K + 316) s (by omega) (ho _ (by omega))
              have hc6 := fun s => rcheckHunt_call x (K + 316) s (by omega) (ho _ (by omega))
              have hfl : (findT x kx).1.length ≤ 4096 := find_len x kx
              have hc7 := fun s => same_tries_self (findT x kx).1 (K + 318) s (by omega) (by omega)
              simp only [hntV, t3V, f3V] at hc1 hc2 hc3 hc4 hc5 hc6 e1
              generalize worstT x lx = wt at *
              generalize findT x kx = ft at *
              generalize huntE x = he at *
              have hkk : 4 - (i + 1) < 4 - i := by omega
              have hi6 : i + 1 ≤ 4 := by omega
              have hw1 : wrapF .i64 ((i : Int) + 1) = ((i + 1 : Nat) : Int) := wrap_i64 (by omega) (by omega)
              simp -implicitDefEqProofs only [redoH, redo1, go_sem, Int.reduceEq, Int.reduceNeg, Nat.reduceEqDiff, Nat.reduceLT, Nat.reduceAdd, Nat.reduceSub, Nat.reduceMul, Int.reduceLE, Int.reduceLT, Int.reduceToNat, Int.toNat_natCast, Nat.reduceLeDiff, Bool.not_true, Bool.not_false, a13, a14, a15, a16, hT, hl0, hi5']
              simp only [does_bind]
              refine draw_mach [] [] (by kernel_rfl) ?_
              simp -implicitDefEqProofs only [redoH, redo1, go_sem, Int.reduceEq, Int.reduceNeg, Nat.reduceEqDiff, Nat.reduceLT, Nat.reduceAdd, Nat.reduceSub, Nat.reduceMul, Int.reduceLE, Int.reduceLT, Int.reduceToNat, Int.toNat_natCast, Nat.reduceLeDiff, Bool.not_true, Bool.not_false, a13, a14, a15, a16, hT, e1, e2, e3, hc1]
              simp only [does_bind]
              refine draw_mach [] [] (by kernel_rfl) ?_
              simp -implicitDefEqProofs only [redoH, redo1, go_sem, Int.reduceEq, Int.reduceNeg, Nat.reduceEqDiff, Nat.reduceLT, Nat.reduceAdd, Nat.reduceSub, Nat.reduceMul, Int.reduceLE, Int.reduceLT, Int.reduceToNat, Int.toNat_natCast, Nat.reduceLeDiff, Bool.not_true, Bool.not_false, a13, a14, a15, a16, hT, e1, e2, e3, hc2]
              simp only [does_bind]
              refine draw_mach [] [] (by kernel_rfl) ?_
              simp -implicitDefEqProofs only [redoH, redo1, go_sem, Int.reduceEq, Int.reduceNeg, Nat.reduceEqDiff, Nat.reduceLT, Nat.reduceAdd, Nat.reduceSub, Nat.reduceMul, Int.reduceLE, Int.reduceLT, Int.reduceToNat, Int.toNat_natCast, Nat.reduceLeDiff, Bool.not_true, Bool.not_false, a13, a14, a15, a16, hT, e1, e2, e3, hc3]
              simp only [does_bind]
              refine draw_mach [] [] (by kernel_rfl) ?_
              simp -implicitDefEqProofs only [redoH, redo1, go_sem, Int.reduceEq, Int.reduceNeg, Nat.reduceEqDiff, Nat.reduceLT, Nat.reduceAdd, Nat.reduceSub, Nat.reduceMul, Int.reduceLE, Int.reduceLT, Int.reduceToNat, Int.toNat_natCast, Nat.reduceLeDiff, Bool.not_true, Bool.not_false, a13, a14, a15, a16, hT, e1, e2, e3, hc4]
              simp only [does_bind]
              refine draw_mach [] [] (by kernel_rfl) ?_
              simp -implicitDefEqProofs only [redoH, redo1, go_sem, Int.reduceEq, Int.reduceNeg, Nat.reduceEqDiff, Nat.reduceLT, Nat.reduceAdd, Nat.reduceSub, Nat.reduceMul, Int.reduceLE, Int.reduceLT, Int.reduceToNat, Int.toNat_natCast, Nat.reduceLeDiff, Bool.not_true, Bool.not_false, a13, a14, a15, a16, hT, e1, e2, e3, hc5, hc6, hc7, hw1]
              exact ⟨4 - (i + 1), hkk, trivial, i + 1, _, H, hs, lists, leaks, rfl, rfl, rfl, rfl, hi6, rfl, rfl, hl0, hl01, hl1, hl2, hl3⟩
            · have hi5' : ¬ (i : Int) < ((4 : Nat) : Int) := by omega
              simp -implicitDefEqProofs only [redoH, redo1, go_sem, Int.reduceEq, Int.reduceNeg, Nat.reduceEqDiff, Nat.reduceLT, Nat.reduceAdd, Nat.reduceSub, Nat.reduceMul, Int.reduceLE, Int.reduceLT, Int.reduceToNat, Int.toNat_natCast, Nat.reduceLeDiff, Bool.not_true, Bool.not_false, a13, a14, a15, a16, hT, hl0, hi5', haw, Try.results10]
theorem hunts_yes (L : List (List AV)) (hl : L.length = [77, 22, 3, 22].length) (hc : ∀ (i : Nat) t acs, [77, 22, 3, 22][i]? = some t → L[i]? = some acs → Content Try.prog 12 t acs) :
    ∃ K, Yes (acall cfg K 10 (([77, 22, 3, 22].zip L).map fun x => argOf Try.prog x.1 x.2) s0) := by
  match L, hl with
  | [c0, c1, c2, c3], _ =>
    obtain ⟨h, rfl, hI⟩ := arg_hnt 7 c0 (hc 0 77 c0 rfl rfl)
    obtain ⟨l, rfl, hl1⟩ := arg_ints 10 c1 (hc 1 22 c1 rfl rfl)
    obtain ⟨k, rfl, _⟩ := arg_int 11 c2 (hc 2 3 c2 rfl rfl)
    obtain ⟨nums, rfl, hn⟩ := arg_ints 10 c3 (hc 3 22 c3 rfl rfl)
    refine ⟨(6001 + h.trials.length + nums.length) + 320, ⟨?_⟩⟩
    exact (hunts_walk h l k nums _ (by omega) (by omega) (by omega) hI hl1.1 hn.1).all
end Go.Proofs.Ytgnpnfkncbnjnaa
namespace Go.Proofs.Ytgnpnfkncbnjnaa
open Go Go.Am Go.ChangeShapes Go.WideShapes Go.ChangeAt Go.RowKit
set_option maxRecDepth 100000 in
theorem hunts_lifted (os : Os) (started : os.Started) (H : Type) (enc : TypeId × Value → H) :
    ReturnsInHanded {} Try.checked os 10 .any (Rows.pumpHuntsSpec.pre6 enc Try.prog Try.f10 Rows.pumpHuntsRow.domain false) (Rows.pumpHuntsSpec.post enc Try.prog Try.f10 false true false false) := by
  refine returnsInHanded_of_change (C := Try.checked) Try.own started (by kernel_rfl) Try.func10
    (ChangeSpec.witness6 (enc := enc) (C := Try.checked) false ⟨#[], #[.agg #[.int .i64 0, .slice none 0 0], .slice none 0 0, .int .i64 0, .slice none 0 0], []⟩ 8 (by kernel_rfl) (by kernel_rfl) (by kernel_rfl) (by kernel_rfl)) ?_
  intro W base args ds gs before hval0 hW hcnd _
  have hW' := hW
  obtain ⟨p, q, hA0, hV, rfl, hfz, hnd⟩ := hW
  have hA : DataW.TrodAll enc Try.prog W 0 (fun _ => true) true Try.f10.params.toList args.toList ds p := hA0
  rw [Try.params10] at hA
  obtain ⟨rfl, rfl⟩ := trodVars_none hV
  simp only [List.append_nil] at hW'
  have hlen : ds.length = 4 := trod_len _ _ _ _ hA
  have hsup : (([77, 22, 3, 22] : List TypeId).all fun t => suppB Try.prog 12 t) = true := by as_aux_lemma => kernel_rfl
  have hpar : (([77, 22, 3, 22] : List TypeId).all fun t => Try.prog.readableRec t && Nat.blt t Try.prog.types.size) = true := by as_aux_lemma => kernel_rfl
  refine (calls_of_args (d := 12) cfgOk codesOk hA (fun t ht => List.all_eq_true.1 hsup t ht) (fun j t v e1 e2 => hval0 j t v (by rw [Try.params10]; simpa using e1) (by simpa using e2)) fun L hl hc => hunts_yes L hl hc).mono fun e W' ⟨he, hb⟩ => ?_
  subst he
  exact ⟨_, rfl, law_post Try.laidOut (fun t ht => by rw [Try.params10] at ht; have := List.all_eq_true.1 hpar t ht; rw [Bool.and_eq_true, Nat.blt_eq] at this; exact this) rfl rfl Try.underlying4 hW' (by match ds, hlen with | [_, _, _, _], _ => rfl) hb⟩
set_option maxHeartbeats 4000000 in
theorem hunts_closed : joinedFacts Try.prog 10 Try.f10 Rows.pumpHuntsSpec Rows.pumpHuntsRow = true := by
  refine joined_of Try.laidOut Try.rowed Try.noStops Try.noKnobs Try.plain Try.heard Try.enters Try.lifts Try.makes (by as_aux_lemma => kernel_rfl) (by as_aux_lemma => kernel_rfl) (by as_aux_lemma => kernel_rfl) (by as_aux_lemma => kernel_rfl) (by as_aux_lemma => kernel_rfl)
    (by as_aux_lemma => kernel_rfl) (by as_aux_lemma => kernel_rfl) (by as_aux_lemma => kernel_rfl) (by as_aux_lemma => kernel_rfl) ?_
  kernel_rfl
theorem hunts_holds : Rows.PumpHuntsSaid :=
  OpenClaim.holds_of_wide 10 Try.f10 rfl rfl rfl rfl rfl rfl rfl ⟨rfl, rfl, rfl, rfl, rfl⟩ rfl rfl rfl rfl rfl (by as_aux_lemma => kernel_rfl) Try.func10 hunts_closed
    (of_decide_eq_true (by as_aux_lemma => kernel_rfl)) (by as_aux_lemma => unfold Func.isWrapper; first | (rw [if_pos (by decide +kernel)]; kernel_rfl) | (rw [if_neg (by decide +kernel)]; exact ⟨rfl, rfl⟩))
    (fun os started H enc _ => hunts_lifted os started H enc)
end Go.Proofs.Ytgnpnfkncbnjnaa
