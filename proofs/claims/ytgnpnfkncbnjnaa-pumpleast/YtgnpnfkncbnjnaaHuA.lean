/- Hunts for leaks: sets of suspects, the best test of a set, the table of all sets. -/
import Derived.Test.YtgnpnfkncbnjnaaAmF
import Derived.Test.YtgnpnfkncbnjnaaAmA
import Derived.Test.YtgnpnfkncbnjnaaAmD
set_option linter.unusedSimpArgs false
set_option linter.unusedVariables false
set_option maxHeartbeats 2000000
set_option maxRecDepth 100000
namespace Go.Proofs.Ytgnpnfkncbnjnaa
open Go Go.Am
attribute [local congr] tr_congr does_congr all_congr
/-! ### Sets of suspects -/
theorem bitU (n : Int) (h1 : 0 ≤ n) (h2 : n ≤ 11) : wrapF .u64 (1 * ((Nat.pow 2 (min n.toNat (kbits .u64)) : Nat) : Int)) = ((2 ^ n.toNat : Nat) : Int) := by
  obtain ⟨k, rfl⟩ : ∃ k : Nat, n = k := ⟨n.toNat, by omega⟩
  have : k ≤ 11 := by omega
  have h : ∀ k : Fin 12, wrapF .u64 (1 * ((Nat.pow 2 (min (k.val : Int).toNat (kbits .u64)) : Nat) : Int)) = ((2 ^ (k.val : Int).toNat : Nat) : Int) := by decide
  exact h ⟨k, by omega⟩
theorem bitI (n : Int) (h1 : 0 ≤ n) (h2 : n ≤ 12) : wrapF .i64 (1 * ((Nat.pow 2 (min n.toNat (kbits .i64)) : Nat) : Int)) = ((2 ^ n.toNat : Nat) : Int) := by
  obtain ⟨k, rfl⟩ : ∃ k : Nat, n = k := ⟨n.toNat, by omega⟩
  have : k ≤ 12 := by omega
  have h : ∀ k : Fin 13, wrapF .i64 (1 * ((Nat.pow 2 (min (k.val : Int).toNat (kbits .i64)) : Nat) : Int)) = ((2 ^ (k.val : Int).toNat : Nat) : Int) := by decide
  exact h ⟨k, by omega⟩
theorem ib_u (a : Nat) (h : a < 4096) : ib .u64 (a : Int) = a := by
  simp only [ib]; omega
theorem ib_i (a : Nat) (h : a < 4096) : ib .i64 (a : Int) = a := by
  simp only [ib]; omega
theorem wr_u (a : Nat) (h : a < 4096) : wrapF .u64 (a : Int) = a := wrap_u64 (by omega) (by omega)
theorem wr_i (a : Nat) (h : a < 4096) : wrapF .i64 (a : Int) = a := wrap_i64 (by omega) (by omega)
theorem or_4096 (a b : Nat) (h1 : a < 4096) (h2 : b < 4096) : a ||| b < 4096 := Nat.or_lt_two_pow (n := 12) h1 h2
theorem and_4096 (a b : Nat) (h1 : a < 4096) : a &&& b < 4096 := Nat.lt_of_le_of_lt Nat.and_le_left h1
theorem pow_4096 (n : Int) (h : n ≤ 11) : 2 ^ n.toNat < 4096 := Nat.pow_lt_pow_right (n := 12) (by omega) (by omega)
theorem orU (a b : Nat) (h1 : a < 4096) (h2 : b < 4096) : wrapF .u64 ((Nat.lor (ib .u64 (a : Int)) (ib .u64 (b : Int)) : Nat) : Int) = ((a ||| b : Nat) : Int) := by
  rw [ib_u a h1, ib_u b h2]; exact wr_u _ (or_4096 a b h1 h2)
theorem orI (a b : Nat) (h1 : a < 4096) (h2 : b < 4096) : wrapF .i64 ((Nat.lor (ib .i64 (a : Int)) (ib .i64 (b : Int)) : Nat) : Int) = ((a ||| b : Nat) : Int) := by
  rw [ib_i a h1, ib_i b h2]; exact wr_i _ (or_4096 a b h1 h2)
/-- The error of a list of suspects, of which the one before the first was last. -/
def suspE (many last : Int) : List Int → Int
  | [] => 0
  | n :: l => if fromB n 0 (many - 1) then if n ≤ last then 11 else suspE many n l else 7
/-- The set of suspects. -/
def setN (s : Nat) (l : List Int) : Nat := l.foldl (fun s n => s ||| 2 ^ n.toNat) s
theorem suspects_call (many : Int) (l : List Int) (K : Nat) (s : St) (hK : l.length < K) (hl : l.length ≤ 1000000000000) (h1 : 1 ≤ many) (h2 : many ≤ 12) :
    acall cfg (K + 2) 101 [.int .i64 many, .lst (l.map iV)] s = (.ret (.tuple [.int .u64 (if suspE many (-1) l = 0 then ((setN 0 l : Nat) : Int) else 0), .int .i64 (suspE many (-1) l)], s)) := by
  refine call1 mget101 fget101 (by first | rfl | simp -implicitDefEqProofs only [redoH, redo1, go_sem, Int.reduceEq, Int.reduceNeg, Nat.reduceEqDiff, Nat.reduceLT, Nat.reduceAdd, Nat.reduceSub, Nat.reduceMul, Int.reduceLE, Int.reduceLT, Int.reduceToNat, Int.toNat_natCast, Nat.reduceLeDiff, Bool.not_true, Bool.not_false]) (by first | rfl | simp -implicitDefEqProofs only [redoH, redo1, go_sem, Int.reduceEq, Int.reduceNeg, Nat.reduceEqDiff, Nat.reduceLT, Nat.reduceAdd, Nat.reduceSub, Nat.reduceMul, Int.reduceLE, Int.reduceLT, Int.reduceToNat, Int.toNat_natCast, Nat.reduceLeDiff, Bool.not_true, Bool.not_false]) (by first | rfl | simp -implicitDefEqProofs only [redoH, redo1, go_sem, Int.reduceEq, Int.reduceNeg, Nat.reduceEqDiff, Nat.reduceLT, Nat.reduceAdd, Nat.reduceSub, Nat.reduceMul, Int.reduceLE, Int.reduceLT, Int.reduceToNat, Int.toNat_natCast, Nat.reduceLeDiff, Bool.not_true, Bool.not_false]) ?_
  refine body_does rfl fun T hT' hA => ?_
  have a0 := hA 0 _ rfl
  have a1 := hA 1 _ rfl
  have hT : T.length = 33 := hT'
  clear hA hT'
  have hw : wrapF .i64 (many - 1) = many - 1 := wrap_i64 (by omega) (by omega)
  simp -implicitDefEqProofs only [redoH, redo1, go_sem, Int.reduceEq, Int.reduceNeg, Nat.reduceEqDiff, Nat.reduceLT, Nat.reduceAdd, Nat.reduceSub, Nat.reduceMul, Int.reduceLE, Int.reduceLT, Int.reduceToNat, Int.toNat_natCast, Nat.reduceLeDiff, Bool.not_true, Bool.not_false, a0, a1, hT]
  simp only [does_bind]
  refine xl_does (fun k T s' => T.length = 33 ∧ nth T 0 = some (.int .i64 many) ∧ s' = s0 ∧ nth T 10 = some (.lst (l.map iV)) ∧ nth T 11 = some (.int .i64 l.length) ∧ ∃ (i m : Nat) (last : Int), nth T 12 = some (.int .i64 i) ∧ nth T 7 = some (.int .i64 last) ∧ nth T 6 = some (.int .u64 m) ∧ i ≤ l.length ∧ k = l.length - i ∧ m < 4096 ∧ suspE many (-1) l = suspE many last (l.drop i) ∧ setN 0 l = setN m (l.drop i)) (k := l.length) (by omega) ?_ ?_
  · exact ⟨by simp -implicitDefEqProofs only [redoH, redo1, go_sem, Int.reduceEq, Int.reduceNeg, Nat.reduceEqDiff, Nat.reduceLT, Nat.reduceAdd, Nat.reduceSub, Nat.reduceMul, Int.reduceLE, Int.reduceLT, Int.reduceToNat, Int.toNat_natCast, Nat.reduceLeDiff, Bool.not_true, Bool.not_false, hT], by simp -implicitDefEqProofs only [redoH, redo1, go_sem, Int.reduceEq, Int.reduceNeg, Nat.reduceEqDiff, Nat.reduceLT, Nat.reduceAdd, Nat.reduceSub, Nat.reduceMul, Int.reduceLE, Int.reduceLT, Int.reduceToNat, Int.toNat_natCast, Nat.reduceLeDiff, Bool.not_true, Bool.not_false, a0], rfl, by simp -implicitDefEqProofs only [redoH, redo1, go_sem, Int.reduceEq, Int.reduceNeg, Nat.reduceEqDiff, Nat.reduceLT, Nat.reduceAdd, Nat.reduceSub, Nat.reduceMul, Int.reduceLE, Int.reduceLT, Int.reduceToNat, Int.toNat_natCast, Nat.reduceLeDiff, Bool.not_true, Bool.not_false, hT], by simp -implicitDefEqProofs only [redoH, redo1, go_sem, Int.reduceEq, Int.reduceNeg, Nat.reduceEqDiff, Nat.reduceLT, Nat.reduceAdd, Nat.reduceSub, Nat.reduceMul, Int.reduceLE, Int.reduceLT, Int.reduceToNat, Int.toNat_natCast, Nat.reduceLeDiff, Bool.not_true, Bool.not_false, hT], 0, 0, -1, by simp -implicitDefEqProofs only [redoH, redo1, go_sem, Int.reduceEq, Int.reduceNeg, Nat.reduceEqDiff, Nat.reduceLT, Nat.reduceAdd, Nat.reduceSub, Nat.reduceMul, Int.reduceLE, Int.reduceLT, Int.reduceToNat, Int.toNat_natCast, Nat.reduceLeDiff, Bool.not_true, Bool.not_false, hT]; rfl, by simp -implicitDefEqProofs only [redoH, redo1, go_sem, Int.reduceEq, Int.reduceNeg, Nat.reduceEqDiff, Nat.reduceLT, Nat.reduceAdd, Nat.reduceSub, Nat.reduceMul, Int.reduceLE, Int.reduceLT, Int.reduceToNat, Int.toNat_natCast, Nat.reduceLeDiff, Bool.not_true, Bool.not_false, hT], by simp -implicitDefEqProofs only [redoH, redo1, go_sem, Int.reduceEq, Int.reduceNeg, Nat.reduceEqDiff, Nat.reduceLT, Nat.reduceAdd, Nat.reduceSub, Nat.reduceMul, Int.reduceLE, Int.reduceLT, Int.reduceToNat, Int.toNat_natCast, Nat.reduceLeDiff, Bool.not_true, Bool.not_false, hT]; rfl, by omega, by omega, by omega, rfl, rfl⟩
  clear a0 a1 hT
  rintro k T s' ⟨hT, a0, rfl, a10, a11, i, m, last, a12, a7, a6, hi, rfl, hm, he, hs⟩
  simp -implicitDefEqProofs only [redoH, redo1, go_sem, Int.reduceEq, Int.reduceNeg, Nat.reduceEqDiff, Nat.reduceLT, Nat.reduceAdd, Nat.reduceSub, Nat.reduceMul, Int.reduceLE, Int.reduceLT, Int.reduceToNat, Int.toNat_natCast, Nat.reduceLeDiff, Bool.not_true, Bool.not_false, a0, a10, a11, a12, a6, a7, hT]
  simp only [does_bind]
  refine does_if (fun h => ?_) (fun h => ?_)
  · have hlt : i < l.length := by omega
    have hw1 : wrapF .i64 ((i : Int) + 1) = ((i + 1 : Nat) : Int) := by rw [wrap_i64 (by omega) (by omega)]; simp
    have hel := elemAt_map (f := iV) (z := 1) hlt rfl
    have hc := from_call l[i] 0 (many - 1) K ⟨[], 0, [], false, []⟩
    rw [List.drop_eq_getElem_cons hlt] at he hs
    simp only [suspE] at he
    simp only [setN, List.foldl_cons] at hs
    simp -implicitDefEqProofs only [redoH, redo1, go_sem, Int.reduceEq, Int.reduceNeg, Nat.reduceEqDiff, Nat.reduceLT, Nat.reduceAdd, Nat.reduceSub, Nat.reduceMul, Int.reduceLE, Int.reduceLT, Int.reduceToNat, Int.toNat_natCast, Nat.reduceLeDiff, Bool.not_true, Bool.not_false, a0, a10, a11, a12, a6, a7, hT, hel, hw, hc]
    by_cases c1 : fromB l[i] 0 (many - 1) = true
    · have c1' : 0 ≤ l[i] ∧ l[i] ≤ many - 1 := by unfold fromB at c1; exact of_decide_eq_true c1
      rw [if_pos c1] at he
      have c3 := c1'.1
      simp -implicitDefEqProofs only [redoH, redo1, go_sem, Int.reduceEq, Int.reduceNeg, Nat.reduceEqDiff, Nat.reduceLT, Nat.reduceAdd, Nat.reduceSub, Nat.reduceMul, Int.reduceLE, Int.reduceLT, Int.reduceToNat, Int.toNat_natCast, Nat.reduceLeDiff, Bool.not_true, Bool.not_false, a0, a10, a11, a12, a6, a7, hT, hel, hw, hc, c1]
      by_cases c2 : l[i] ≤ last
      · simp only [c2, if_true] at he
        simp -implicitDefEqProofs only [redoH, redo1, go_sem, Int.reduceEq, Int.reduceNeg, Nat.reduceEqDiff, Nat.reduceLT, Nat.reduceAdd, Nat.reduceSub, Nat.reduceMul, Int.reduceLE, Int.reduceLT, Int.reduceToNat, Int.toNat_natCast, Nat.reduceLeDiff, Bool.not_true, Bool.not_false, a0, a10, a11, a12, a6, a7, hT, hel, hw, hc, c1, c2, he, Try.results101]
      · simp only [c2, if_false] at he
        have hb := bitU l[i] (by omega) (by omega)
        simp -implicitDefEqProofs only [redoH, redo1, go_sem, Int.reduceEq, Int.reduceNeg, Nat.reduceEqDiff, Nat.reduceLT, Nat.reduceAdd, Nat.reduceSub, Nat.reduceMul, Int.reduceLE, Int.reduceLT, Int.reduceToNat, Int.toNat_natCast, Nat.reduceLeDiff, Bool.not_true, Bool.not_false, a0, a10, a11, a12, a6, a7, hT, hel, hw, hc, c1, c2, c3, hb, hw1]
        have hp := pow_4096 l[i] (by omega)
        exact ⟨l.length - (i + 1), by omega, trivial, trivial, trivial, trivial, trivial, i + 1, m ||| 2 ^ l[i].toNat, l[i], rfl, rfl, by rw [orU _ _ hm hp], by omega, rfl, or_4096 _ _ hm hp, he, hs⟩
    · simp only [c1, if_false] at he
      simp -implicitDefEqProofs only [redoH, redo1, go_sem, Int.reduceEq, Int.reduceNeg, Nat.reduceEqDiff, Nat.reduceLT, Nat.reduceAdd, Nat.reduceSub, Nat.reduceMul, Int.reduceLE, Int.reduceLT, Int.reduceToNat, Int.toNat_natCast, Nat.reduceLeDiff, Bool.not_true, Bool.not_false, a0, a10, a11, a12, a6, a7, hT, hel, hw, hc, c1, he, Try.results101]
  · have hil : i = l.length := by omega
    subst hil
    rw [List.drop_length] at he hs
    simp only [suspE] at he
    simp only [setN, List.foldl_nil] at hs
    simp -implicitDefEqProofs only [redoH, redo1, go_sem, Int.reduceEq, Int.reduceNeg, Nat.reduceEqDiff, Nat.reduceLT, Nat.reduceAdd, Nat.reduceSub, Nat.reduceMul, Int.reduceLE, Int.reduceLT, Int.reduceToNat, Int.toNat_natCast, Nat.reduceLeDiff, Bool.not_true, Bool.not_false, a0, a10, a11, a12, a6, a7, hT, he, hs, setN, Try.results101]
theorem checkSuspects_call (h : Hnt) (l : List Int) (K : Nat) (s : St) (hK : l.length < K) (hl : l.length ≤ 1000000000000) (h1 : 1 ≤ h.suspects) (h2 : h.suspects ≤ 12) :
    acall cfg (K + 2) 123 [hntV h, .lst (l.map iV)] s = .ret (.int .i64 (suspE h.suspects (-1) l), s) := by
  refine call1 mget123 fget123 (by first | rfl | simp -implicitDefEqProofs only [redoH, redo1, go_sem, Int.reduceEq, Int.reduceNeg, Nat.reduceEqDiff, Nat.reduceLT, Nat.reduceAdd, Nat.reduceSub, Nat.reduceMul, Int.reduceLE, Int.reduceLT, Int.reduceToNat, Int.toNat_natCast, Nat.reduceLeDiff, Bool.not_true, Bool.not_false]) (by first | rfl | simp -implicitDefEqProofs only [redoH, redo1, go_sem, Int.reduceEq, Int.reduceNeg, Nat.reduceEqDiff, Nat.reduceLT, Nat.reduceAdd, Nat.reduceSub, Nat.reduceMul, Int.reduceLE, Int.reduceLT, Int.reduceToNat, Int.toNat_natCast, Nat.reduceLeDiff, Bool.not_true, Bool.not_false]) (by first | rfl | simp -implicitDefEqProofs only [redoH, redo1, go_sem, Int.reduceEq, Int.reduceNeg, Nat.reduceEqDiff, Nat.reduceLT, Nat.reduceAdd, Nat.reduceSub, Nat.reduceMul, Int.reduceLE, Int.reduceLT, Int.reduceToNat, Int.toNat_natCast, Nat.reduceLeDiff, Bool.not_true, Bool.not_false]) ?_
  refine body_does rfl fun T hT' hA => ?_
  have a0 := hA 0 _ rfl
  have a1 := hA 1 _ rfl
  have hT : T.length = 35 := hT'
  clear hA hT'
  have hw : wrapF .i64 (h.suspects - 1) = h.suspects - 1 := wrap_i64 (by omega) (by omega)
  simp -implicitDefEqProofs only [redoH, redo1, go_sem, Int.reduceEq, Int.reduceNeg, Nat.reduceEqDiff, Nat.reduceLT, Nat.reduceAdd, Nat.reduceSub, Nat.reduceMul, Int.reduceLE, Int.reduceLT, Int.reduceToNat, Int.toNat_natCast, Nat.reduceLeDiff, Bool.not_true, Bool.not_false, a0, a1, hT]
  simp only [does_bind]
  refine xl_does (fun k T s' => T.length = 35 ∧ nth T 1 = some (.lst (l.map iV)) ∧ nth T 2 = some (.ptr [0] 0) ∧ ∃ (i m : Nat) (last : Int), s' = ⟨[([0], .cells [.int .i64 h.suspects, .lst (h.trials.map triV)] true 0)], m, [], false, []⟩ ∧ nth T 5 = some (.int .i64 i) ∧ i ≤ l.length ∧ k = l.length - i ∧ (i = 0 ∧ last = -1 ∨ ∃ hi : i - 1 < l.length, 0 < i ∧ last = l[i - 1]) ∧ suspE h.suspects (-1) l = suspE h.suspects last (l.drop i)) (k := l.length) (by omega) ?_ ?_
  · exact ⟨by simp -implicitDefEqProofs only [redoH, redo1, go_sem, Int.reduceEq, Int.reduceNeg, Nat.reduceEqDiff, Nat.reduceLT, Nat.reduceAdd, Nat.reduceSub, Nat.reduceMul, Int.reduceLE, Int.reduceLT, Int.reduceToNat, Int.toNat_natCast, Nat.reduceLeDiff, Bool.not_true, Bool.not_false, hT], by simp -implicitDefEqProofs only [redoH, redo1, go_sem, Int.reduceEq, Int.reduceNeg, Nat.reduceEqDiff, Nat.reduceLT, Nat.reduceAdd, Nat.reduceSub, Nat.reduceMul, Int.reduceLE, Int.reduceLT, Int.reduceToNat, Int.toNat_natCast, Nat.reduceLeDiff, Bool.not_true, Bool.not_false, a1], by simp -implicitDefEqProofs only [redoH, redo1, go_sem, Int.reduceEq, Int.reduceNeg, Nat.reduceEqDiff, Nat.reduceLT, Nat.reduceAdd, Nat.reduceSub, Nat.reduceMul, Int.reduceLE, Int.reduceLT, Int.reduceToNat, Int.toNat_natCast, Nat.reduceLeDiff, Bool.not_true, Bool.not_false, hT], 0, 1, -1, rfl, by simp -implicitDefEqProofs only [redoH, redo1, go_sem, Int.reduceEq, Int.reduceNeg, Nat.reduceEqDiff, Nat.reduceLT, Nat.reduceAdd, Nat.reduceSub, Nat.reduceMul, Int.reduceLE, Int.reduceLT, Int.reduceToNat, Int.toNat_natCast, Nat.reduceLeDiff, Bool.not_true, Bool.not_false, hT]; rfl, by omega, by omega, .inl ⟨rfl, rfl⟩, rfl⟩
  clear a0 a1 hT
  rintro k T s' ⟨hT, a1, a2, i, m, last, rfl, a5, hi, rfl, hlast, he⟩
  simp -implicitDefEqProofs only [redoH, redo1, go_sem, Int.reduceEq, Int.reduceNeg, Nat.reduceEqDiff, Nat.reduceLT, Nat.reduceAdd, Nat.reduceSub, Nat.reduceMul, Int.reduceLE, Int.reduceLT, Int.reduceToNat, Int.toNat_natCast, Nat.reduceLeDiff, Bool.not_true, Bool.not_false, a1, a2, a5, hT]
  simp only [does_bind]
  refine does_if (fun hh => ?_) (fun hh => ?_)
  · have hlt : i < l.length := by omega
    have hw1 : wrapF .i64 ((i : Int) + 1) = ((i + 1 : Nat) : Int) := by rw [wrap_i64 (by omega) (by omega)]; simp
    have hel := elemAt_map (f := iV) (z := 1) hlt rfl
    have hc := fun s => within_call l[i] 0 (h.suspects - 1) K s
    rw [List.drop_eq_getElem_cons hlt] at he
    simp only [suspE] at he
    simp -implicitDefEqProofs only [redoH, redo1, go_sem, Int.reduceEq, Int.reduceNeg, Nat.reduceEqDiff, Nat.reduceLT, Nat.reduceAdd, Nat.reduceSub, Nat.reduceMul, Int.reduceLE, Int.reduceLT, Int.reduceToNat, Int.toNat_natCast, Nat.reduceLeDiff, Bool.not_true, Bool.not_false, a1, a2, a5, hT, hel, hw, hc]
    simp only [does_bind]
    refine draw_mach [] [] (by kernel_rfl) ?_
    simp -implicitDefEqProofs only [redoH, redo1, go_sem, Int.reduceEq, Int.reduceNeg, Nat.reduceEqDiff, Nat.reduceLT, Nat.reduceAdd, Nat.reduceSub, Nat.reduceMul, Int.reduceLE, Int.reduceLT, Int.reduceToNat, Int.toNat_natCast, Nat.reduceLeDiff, Bool.not_true, Bool.not_false, a1, a2, a5, hT, hel, hw, hc]
    by_cases c1 : fromB l[i] 0 (h.suspects - 1) = true
    · have c1' : 0 ≤ l[i] ∧ l[i] ≤ h.suspects - 1 := by unfold fromB at c1; exact of_decide_eq_true c1
      rw [if_pos c1] at he
      simp -implicitDefEqProofs only [redoH, redo1, go_sem, Int.reduceEq, Int.reduceNeg, Nat.reduceEqDiff, Nat.reduceLT, Nat.reduceAdd, Nat.reduceSub, Nat.reduceMul, Int.reduceLE, Int.reduceLT, Int.reduceToNat, Int.toNat_natCast, Nat.reduceLeDiff, Bool.not_true, Bool.not_false, a1, a2, a5, hT, hel, hw, hc, c1]
      obtain ⟨rfl, rfl⟩ | ⟨hi1, h0, rfl⟩ := hlast
      · rw [if_neg (by omega)] at he
        simp only [does_bind]
        refine draw_mach [] [] (by kernel_rfl) ?_
        simp -implicitDefEqProofs only [redoH, redo1, go_sem, Int.reduceEq, Int.reduceNeg, Nat.reduceEqDiff, Nat.reduceLT, Nat.reduceAdd, Nat.reduceSub, Nat.reduceMul, Int.reduceLE, Int.reduceLT, Int.reduceToNat, Int.toNat_natCast, Nat.reduceLeDiff, Bool.not_true, Bool.not_false, a1, a2, a5, hT, hel, hw, hc, c1, hw1, Int.natCast_zero]
        exact ⟨l.length - 1, by omega, trivial, trivial, trivial, 1, _, l[0], rfl, rfl, by omega, rfl, .inr ⟨by omega, by omega, by simp⟩, he⟩
      · have h0' : (0 : Int) < i := by omega
        have hwm : wrapF .i64 ((i : Int) - 1) = ((i - 1 : Nat) : Int) := by rw [wrap_i64 (by omega) (by omega)]; omega
        have hel1 := elemAt_map (f := iV) (z := 1) hi1 rfl
        simp only [does_bind]
        refine draw_mach [] [] (by kernel_rfl) ?_
        by_cases c2 : l[i] ≤ l[i - 1]
        · rw [if_pos c2] at he
          simp -implicitDefEqProofs only [redoH, redo1, go_sem, Int.reduceEq, Int.reduceNeg, Nat.reduceEqDiff, Nat.reduceLT, Nat.reduceAdd, Nat.reduceSub, Nat.reduceMul, Int.reduceLE, Int.reduceLT, Int.reduceToNat, Int.toNat_natCast, Nat.reduceLeDiff, Bool.not_true, Bool.not_false, a1, a2, a5, hT, hel, hw, hc, c1, hw1, hwm, hel1, h0', c2, he, Try.results123]
        · rw [if_neg c2] at he
          simp -implicitDefEqProofs only [redoH, redo1, go_sem, Int.reduceEq, Int.reduceNeg, Nat.reduceEqDiff, Nat.reduceLT, Nat.reduceAdd, Nat.reduceSub, Nat.reduceMul, Int.reduceLE, Int.reduceLT, Int.reduceToNat, Int.toNat_natCast, Nat.reduceLeDiff, Bool.not_true, Bool.not_false, a1, a2, a5, hT, hel, hw, hc, c1, hw1, hwm, hel1, h0', c2]
          exact ⟨l.length - (i + 1), by omega, trivial, trivial, trivial, i + 1, _, l[i], rfl, rfl, by omega, rfl, .inr ⟨by omega, by omega, by simp⟩, he⟩
    · rw [if_neg c1] at he
      simp -implicitDefEqProofs only [redoH, redo1, go_sem, Int.reduceEq, Int.reduceNeg, Nat.reduceEqDiff, Nat.reduceLT, Nat.reduceAdd, Nat.reduceSub, Nat.reduceMul, Int.reduceLE, Int.reduceLT, Int.reduceToNat, Int.toNat_natCast, Nat.reduceLeDiff, Bool.not_true, Bool.not_false, a1, a2, a5, hT, hel, hw, hc, c1, he, Try.results123]
  · have hil : i = l.length := by omega
    subst hil
    rw [List.drop_length] at he
    simp only [suspE] at he
    simp -implicitDefEqProofs only [redoH, redo1, go_sem, Int.reduceEq, Int.reduceNeg, Nat.reduceEqDiff, Nat.reduceLT, Nat.reduceAdd, Nat.reduceSub, Nat.reduceMul, Int.reduceLE, Int.reduceLT, Int.reduceToNat, Int.toNat_natCast, Nat.reduceLeDiff, Bool.not_true, Bool.not_false, a1, a2, a5, hT, he, Try.results123]
end Go.Proofs.Ytgnpnfkncbnjnaa
namespace Go.Proofs.Ytgnpnfkncbnjnaa
open Go Go.Am
attribute [local congr] tr_congr does_congr all_congr
/-- The error of a hunt's tests. -/
def trialsE (many : Int) : List Tri → Int
  | [] => 0
  | t :: l => if suspE many (-1) t.of = 0 then (if fromB t.cost 0 1000 = true then trialsE many l else 2) else suspE many (-1) t.of
def huntE (h : Hnt) : Int := if fromB h.suspects 1 12 = true then (if 12 < h.trials.length then 8 else trialsE h.suspects h.trials) else 2
/-- The lists are short enough for the machine. -/
def Hnt.Ok (h : Hnt) (m : Nat) : Prop := h.trials.length ≤ 1000000000000 ∧ ∀ t ∈ h.trials, t.of.length < m ∧ t.of.length ≤ 1000000000000
theorem checkHunt_call (h : Hnt) (K : Nat) (s : St) (hK : 13 < K) (ho : h.Ok K) : acall cfg (K + 3) 58 [hntV h] s = .ret (.int .i64 (huntE h), s) := by
  refine call1 mget58 fget58 (by first | rfl | simp -implicitDefEqProofs only [redoH, redo1, go_sem, Int.reduceEq, Int.reduceNeg, Nat.reduceEqDiff, Nat.reduceLT, Nat.reduceAdd, Nat.reduceSub, Nat.reduceMul, Int.reduceLE, Int.reduceLT, Int.reduceToNat, Int.toNat_natCast, Nat.reduceLeDiff, Bool.not_true, Bool.not_false]) (by first | rfl | simp -implicitDefEqProofs only [redoH, redo1, go_sem, Int.reduceEq, Int.reduceNeg, Nat.reduceEqDiff, Nat.reduceLT, Nat.reduceAdd, Nat.reduceSub, Nat.reduceMul, Int.reduceLE, Int.reduceLT, Int.reduceToNat, Int.toNat_natCast, Nat.reduceLeDiff, Bool.not_true, Bool.not_false]) (by first | rfl | simp -implicitDefEqProofs only [redoH, redo1, go_sem, Int.reduceEq, Int.reduceNeg, Nat.reduceEqDiff, Nat.reduceLT, Nat.reduceAdd, Nat.reduceSub, Nat.reduceMul, Int.reduceLE, Int.reduceLT, Int.reduceToNat, Int.toNat_natCast, Nat.reduceLeDiff, Bool.not_true, Bool.not_false]) ?_
  refine body_does rfl fun T hT' hA => ?_
  have a0 := hA 0 _ rfl
  have hT : T.length = 40 := hT'
  clear hA hT'
  have hc := fun s => from_call h.suspects 1 12 (K + 1) s
  have hl := ho.1
  simp -implicitDefEqProofs only [redoH, redo1, go_sem, Int.reduceEq, Int.reduceNeg, Nat.reduceEqDiff, Nat.reduceLT, Nat.reduceAdd, Nat.reduceSub, Nat.reduceMul, Int.reduceLE, Int.reduceLT, Int.reduceToNat, Int.toNat_natCast, Nat.reduceLeDiff, Bool.not_true, Bool.not_false, a0, hT, hc]
  unfold huntE
  by_cases c1 : fromB h.suspects 1 12 = true
  · have c1' : 1 ≤ h.suspects ∧ h.suspects ≤ 12 := by unfold fromB at c1; exact of_decide_eq_true c1
    simp -implicitDefEqProofs only [redoH, redo1, go_sem, Int.reduceEq, Int.reduceNeg, Nat.reduceEqDiff, Nat.reduceLT, Nat.reduceAdd, Nat.reduceSub, Nat.reduceMul, Int.reduceLE, Int.reduceLT, Int.reduceToNat, Int.toNat_natCast, Nat.reduceLeDiff, Bool.not_true, Bool.not_false, a0, hT, hc, c1]
    by_cases c2 : 12 < h.trials.length
    · have c2' : (12 : Int) < (h.trials.length : Int) := by omega
      simp -implicitDefEqProofs only [redoH, redo1, go_sem, Int.reduceEq, Int.reduceNeg, Nat.reduceEqDiff, Nat.reduceLT, Nat.reduceAdd, Nat.reduceSub, Nat.reduceMul, Int.reduceLE, Int.reduceLT, Int.reduceToNat, Int.toNat_natCast, Nat.reduceLeDiff, Bool.not_true, Bool.not_false, a0, hT, hc, c1, c2, c2', Try.results58]
    · have c2' : ¬ (12 : Int) < (h.trials.length : Int) := by omega
      simp -implicitDefEqProofs only [redoH, redo1, go_sem, Int.reduceEq, Int.reduceNeg, Nat.reduceEqDiff, Nat.reduceLT, Nat.reduceAdd, Nat.reduceSub, Nat.reduceMul, Int.reduceLE, Int.reduceLT, Int.reduceToNat, Int.toNat_natCast, Nat.reduceLeDiff, Bool.not_true, Bool.not_false, a0, hT, hc, c1, c2, c2']
      simp only [does_bind]
      refine xl_does (fun k T s' => T.length = 40 ∧ nth T 1 = some (.ptr [0] 0) ∧ nth T 18 = some (.lst (h.trials.map triV)) ∧ nth T 19 = some (.int .i64 h.trials.length) ∧ ∃ (i m : Nat) (H : Heap), s' = ⟨H, m, [], false, []⟩ ∧ 0 < m ∧ hget H [0] = some (.cells [.int .i64 h.suspects, .lst (h.trials.map triV)] true 0) ∧ nth T 20 = some (.int .i64 i) ∧ i ≤ h.trials.length ∧ k = h.trials.length - i ∧ trialsE h.suspects h.trials = trialsE h.suspects (h.trials.drop i)) (k := h.trials.length) (by omega) ?_ ?_
      · exact ⟨by simp -implicitDefEqProofs only [redoH, redo1, go_sem, Int.reduceEq, Int.reduceNeg, Nat.reduceEqDiff, Nat.reduceLT, Nat.reduceAdd, Nat.reduceSub, Nat.reduceMul, Int.reduceLE, Int.reduceLT, Int.reduceToNat, Int.toNat_natCast, Nat.reduceLeDiff, Bool.not_true, Bool.not_false, hT], by simp -implicitDefEqProofs only [redoH, redo1, go_sem, Int.reduceEq, Int.reduceNeg, Nat.reduceEqDiff, Nat.reduceLT, Nat.reduceAdd, Nat.reduceSub, Nat.reduceMul, Int.reduceLE, Int.reduceLT, Int.reduceToNat, Int.toNat_natCast, Nat.reduceLeDiff, Bool.not_true, Bool.not_false, hT], by simp -implicitDefEqProofs only [redoH, redo1, go_sem, Int.reduceEq, Int.reduceNeg, Nat.reduceEqDiff, Nat.reduceLT, Nat.reduceAdd, Nat.reduceSub, Nat.reduceMul, Int.reduceLE, Int.reduceLT, Int.reduceToNat, Int.toNat_natCast, Nat.reduceLeDiff, Bool.not_true, Bool.not_false, hT], by simp -implicitDefEqProofs only [redoH, redo1, go_sem, Int.reduceEq, Int.reduceNeg, Nat.reduceEqDiff, Nat.reduceLT, Nat.reduceAdd, Nat.reduceSub, Nat.reduceMul, Int.reduceLE, Int.reduceLT, Int.reduceToNat, Int.toNat_natCast, Nat.reduceLeDiff, Bool.not_true, Bool.not_false, hT], 0, _, _, rfl, by omega, rfl, by simp -implicitDefEqProofs only [redoH, redo1, go_sem, Int.reduceEq, Int.reduceNeg, Nat.reduceEqDiff, Nat.reduceLT, Nat.reduceAdd, Nat.reduceSub, Nat.reduceMul, Int.reduceLE, Int.reduceLT, Int.reduceToNat, Int.toNat_natCast, Nat.reduceLeDiff, Bool.not_true, Bool.not_false, hT]; rfl, by omega, by omega, rfl⟩
      clear a0 hT
      rintro k T s' ⟨hT, a1, a18, a19, i, m, H, rfl, hm, hH, a20, hi, rfl, he⟩
      simp -implicitDefEqProofs only [redoH, redo1, go_sem, Int.reduceEq, Int.reduceNeg, Nat.reduceEqDiff, Nat.reduceLT, Nat.reduceAdd, Nat.reduceSub, Nat.reduceMul, Int.reduceLE, Int.reduceLT, Int.reduceToNat, Int.toNat_natCast, Nat.reduceLeDiff, Bool.not_true, Bool.not_false, a1, a18, a19, a20, hT]
      simp only [does_bind]
      refine does_if (fun hh => ?_) (fun hh => ?_)
      · have hlt : i < h.trials.length := by omega
        have hw1 : wrapF .i64 ((i : Int) + 1) = ((i + 1 : Nat) : Int) := by rw [wrap_i64 (by omega) (by omega)]; simp
        have hel := elemAt_map (f := triV) (z := 2) hlt rfl
        have hx := ho.2 _ (List.getElem_mem hlt)
        have hs := fun s => suspects_call h.suspects h.trials[i].of K s (by omega) (by omega) c1'.1 c1'.2
        have hc2 := fun s => from_call h.trials[i].cost 0 1000 (K + 1) s
        rw [List.drop_eq_getElem_cons hlt] at he
        simp only [trialsE] at he
        have hm0 : ¬ m = 0 := by omega
        simp -implicitDefEqProofs only [redoH, redo1, go_sem, Int.reduceEq, Int.reduceNeg, Nat.reduceEqDiff, Nat.reduceLT, Nat.reduceAdd, Nat.reduceSub, Nat.reduceMul, Int.reduceLE, Int.reduceLT, Int.reduceToNat, Int.toNat_natCast, Nat.reduceLeDiff, Bool.not_true, Bool.not_false, a1, a18, a19, a20, hT, hel, hH, hs, hc2, hm0]
        by_cases c3 : suspE h.suspects (-1) h.trials[i].of = 0
        · rw [if_pos c3] at he
          simp -implicitDefEqProofs only [redoH, redo1, go_sem, Int.reduceEq, Int.reduceNeg, Nat.reduceEqDiff, Nat.reduceLT, Nat.reduceAdd, Nat.reduceSub, Nat.reduceMul, Int.reduceLE, Int.reduceLT, Int.reduceToNat, Int.toNat_natCast, Nat.reduceLeDiff, Bool.not_true, Bool.not_false, a1, a18, a19, a20, hT, hel, hH, hs, hc2, hm0, c3]
          by_cases c4 : fromB h.trials[i].cost 0 1000 = true
          · rw [if_pos c4] at he
            simp -implicitDefEqProofs only [redoH, redo1, go_sem, Int.reduceEq, Int.reduceNeg, Nat.reduceEqDiff, Nat.reduceLT, Nat.reduceAdd, Nat.reduceSub, Nat.reduceMul, Int.reduceLE, Int.reduceLT, Int.reduceToNat, Int.toNat_natCast, Nat.reduceLeDiff, Bool.not_true, Bool.not_false, a1, a18, a19, a20, hT, hel, hH, hs, hc2, hm0, c3, c4, hw1]
            exact ⟨h.trials.length - (i + 1), by omega, trivial, trivial, trivial, trivial, i + 1, _, _, rfl, by omega, (by simp -implicitDefEqProofs only [redoH, redo1, go_sem, Int.reduceEq, Int.reduceNeg, Nat.reduceEqDiff, Nat.reduceLT, Nat.reduceAdd, Nat.reduceSub, Nat.reduceMul, Int.reduceLE, Int.reduceLT, Int.reduceToNat, Int.toNat_natCast, Nat.reduceLeDiff, Bool.not_true, Bool.not_false, hm0, hH]), rfl, by omega, rfl, he⟩
          · rw [if_neg c4] at he
            simp -implicitDefEqProofs only [redoH, redo1, go_sem, Int.reduceEq, Int.reduceNeg, Nat.reduceEqDiff, Nat.reduceLT, Nat.reduceAdd, Nat.reduceSub, Nat.reduceMul, Int.reduceLE, Int.reduceLT, Int.reduceToNat, Int.toNat_natCast, Nat.reduceLeDiff, Bool.not_true, Bool.not_false, a1, a18, a19, a20, hT, hel, hH, hs, hc2, hm0, c3, c4, he, Try.results58]
        · rw [if_neg c3] at he
          have hd3 : decide (suspE h.suspects (-1) h.trials[i].of = 0) = false := decide_eq_false c3
          simp -implicitDefEqProofs only [redoH, redo1, go_sem, Int.reduceEq, Int.reduceNeg, Nat.reduceEqDiff, Nat.reduceLT, Nat.reduceAdd, Nat.reduceSub, Nat.reduceMul, Int.reduceLE, Int.reduceLT, Int.reduceToNat, Int.toNat_natCast, Nat.reduceLeDiff, Bool.not_true, Bool.not_false, a1, a18, a19, a20, hT, hel, hH, hs, hc2, hm0, c3, hd3, he, Try.results58]
      · have hil : i = h.trials.length := by omega
        subst hil
        rw [List.drop_length] at he
        simp only [trialsE] at he
        simp -implicitDefEqProofs only [redoH, redo1, go_sem, Int.reduceEq, Int.reduceNeg, Nat.reduceEqDiff, Nat.reduceLT, Nat.reduceAdd, Nat.reduceSub, Nat.reduceMul, Int.reduceLE, Int.reduceLT, Int.reduceToNat, Int.toNat_natCast, Nat.reduceLeDiff, Bool.not_true, Bool.not_false, a1, a18, a19, a20, hT, he, Try.results58]
  · simp -implicitDefEqProofs only [redoH, redo1, go_sem, Int.reduceEq, Int.reduceNeg, Nat.reduceEqDiff, Nat.reduceLT, Nat.reduceAdd, Nat.reduceSub, Nat.reduceMul, Int.reduceLE, Int.reduceLT, Int.reduceToNat, Int.toNat_natCast, Nat.reduceLeDiff, Bool.not_true, Bool.not_false, a0, hT, hc, c1, Try.results58]
theorem rcheckHunt_call (h : Hnt) (K : Nat) (s : St) (hK : 13 < K) (ho : h.Ok K) : acall cfg (K + 3) 59 [hntV h] s = .ret (.int .i64 (huntE h), s) := by
  refine call1 mget59 fget59 (by first | rfl | simp -implicitDefEqProofs only [redoH, redo1, go_sem, Int.reduceEq, Int.reduceNeg, Nat.reduceEqDiff, Nat.reduceLT, Nat.reduceAdd, Nat.reduceSub, Nat.reduceMul, Int.reduceLE, Int.reduceLT, Int.reduceToNat, Int.toNat_natCast, Nat.reduceLeDiff, Bool.not_true, Bool.not_false]) (by first | rfl | simp -implicitDefEqProofs only [redoH, redo1, go_sem, Int.reduceEq, Int.reduceNeg, Nat.reduceEqDiff, Nat.reduceLT, Nat.reduceAdd, Nat.reduceSub, Nat.reduceMul, Int.reduceLE, Int.reduceLT, Int.reduceToNat, Int.toNat_natCast, Nat.reduceLeDiff, Bool.not_true, Bool.not_false]) (by first | rfl | simp -implicitDefEqProofs only [redoH, redo1, go_sem, Int.reduceEq, Int.reduceNeg, Nat.reduceEqDiff, Nat.reduceLT, Nat.reduceAdd, Nat.reduceSub, Nat.reduceMul, Int.reduceLE, Int.reduceLT, Int.reduceToNat, Int.toNat_natCast, Nat.reduceLeDiff, Bool.not_true, Bool.not_false]) ?_
  refine body_does rfl fun T hT' hA => ?_
  have a0 := hA 0 _ rfl
  have hT : T.length = 41 := hT'
  clear hA hT'
  have hc := fun s => within_call h.suspects 1 12 (K + 1) s
  have hl := ho.1
  simp -implicitDefEqProofs only [redoH, redo1, go_sem, Int.reduceEq, Int.reduceNeg, Nat.reduceEqDiff, Nat.reduceLT, Nat.reduceAdd, Nat.reduceSub, Nat.reduceMul, Int.reduceLE, Int.reduceLT, Int.reduceToNat, Int.toNat_natCast, Nat.reduceLeDiff, Bool.not_true, Bool.not_false, a0, hT, hc]
  unfold huntE
  by_cases c1 : fromB h.suspects 1 12 = true
  · have c1' : 1 ≤ h.suspects ∧ h.suspects ≤ 12 := by unfold fromB at c1; exact of_decide_eq_true c1
    simp -implicitDefEqProofs only [redoH, redo1, go_sem, Int.reduceEq, Int.reduceNeg, Nat.reduceEqDiff, Nat.reduceLT, Nat.reduceAdd, Nat.reduceSub, Nat.reduceMul, Int.reduceLE, Int.reduceLT, Int.reduceToNat, Int.toNat_natCast, Nat.reduceLeDiff, Bool.not_true, Bool.not_false, a0, hT, hc, c1]
    by_cases c2 : 12 < h.trials.length
    · have c2' : (12 : Int) < (h.trials.length : Int) := by omega
      simp -implicitDefEqProofs only [redoH, redo1, go_sem, Int.reduceEq, Int.reduceNeg, Nat.reduceEqDiff, Nat.reduceLT, Nat.reduceAdd, Nat.reduceSub, Nat.reduceMul, Int.reduceLE, Int.reduceLT, Int.reduceToNat, Int.toNat_natCast, Nat.reduceLeDiff, Bool.not_true, Bool.not_false, a0, hT, hc, c1, c2, c2', Try.results59]
    · have c2' : ¬ (12 : Int) < (h.trials.length : Int) := by omega
      simp -implicitDefEqProofs only [redoH, redo1, go_sem, Int.reduceEq, Int.reduceNeg, Nat.reduceEqDiff, Nat.reduceLT, Nat.reduceAdd, Nat.reduceSub, Nat.reduceMul, Int.reduceLE, Int.reduceLT, Int.reduceToNat, Int.toNat_natCast, Nat.reduceLeDiff, Bool.not_true, Bool.not_false, a0, hT, hc, c1, c2, c2']
      simp only [does_bind]
      refine xl_does (fun k T s' => T.length = 41 ∧ nth T 1 = some (.ptr [0] 0) ∧ ∃ (i m : Nat) (H : Heap), s' = ⟨H, m, [], false, []⟩ ∧ 0 < m ∧ hget H [0] = some (.cells [.int .i64 h.suspects, .lst (h.trials.map triV)] true 0) ∧ nth T 3 = some (.int .i64 i) ∧ i ≤ h.trials.length ∧ k = h.trials.length - i ∧ trialsE h.suspects h.trials = trialsE h.suspects (h.trials.drop i)) (k := h.trials.length) (by omega) ?_ ?_
      · exact ⟨by simp -implicitDefEqProofs only [redoH, redo1, go_sem, Int.reduceEq, Int.reduceNeg, Nat.reduceEqDiff, Nat.reduceLT, Nat.reduceAdd, Nat.reduceSub, Nat.reduceMul, Int.reduceLE, Int.reduceLT, Int.reduceToNat, Int.toNat_natCast, Nat.reduceLeDiff, Bool.not_true, Bool.not_false, hT], by simp -implicitDefEqProofs only [redoH, redo1, go_sem, Int.reduceEq, Int.reduceNeg, Nat.reduceEqDiff, Nat.reduceLT, Nat.reduceAdd, Nat.reduceSub, Nat.reduceMul, Int.reduceLE, Int.reduceLT, Int.reduceToNat, Int.toNat_natCast, Nat.reduceLeDiff, Bool.not_true, Bool.not_false, hT], 0, _, _, rfl, by omega, rfl, by simp -implicitDefEqProofs only [redoH, redo1, go_sem, Int.reduceEq, Int.reduceNeg, Nat.reduceEqDiff, Nat.reduceLT, Nat.reduceAdd, Nat.reduceSub, Nat.reduceMul, Int.reduceLE, Int.reduceLT, Int.reduceToNat, Int.toNat_natCast, Nat.reduceLeDiff, Bool.not_true, Bool.not_false, hT]; rfl, by omega, by omega, rfl⟩
      clear a0 hT
      rintro k T s' ⟨hT, a1, i, m, H, rfl, hm, hH, a3, hi, rfl, he⟩
      simp -implicitDefEqProofs only [redoH, redo1, go_sem, Int.reduceEq, Int.reduceNeg, Nat.reduceEqDiff, Nat.reduceLT, Nat.reduceAdd, Nat.reduceSub, Nat.reduceMul, Int.reduceLE, Int.reduceLT, Int.reduceToNat, Int.toNat_natCast, Nat.reduceLeDiff, Bool.not_true, Bool.not_false, a1, a3, hT, hH]
      simp only [does_bind]
      refine does_if (fun hh => ?_) (fun hh => ?_)
      · have hlt : i < h.trials.length := by omega
        have hw1 : wrapF .i64 ((i : Int) + 1) = ((i + 1 : Nat) : Int) := by rw [wrap_i64 (by omega) (by omega)]; simp
        have hel := elemAt_map (f := triV) (z := 2) hlt rfl
        have hx := ho.2 _ (List.getElem_mem hlt)
        have hs := fun s => checkSuspects_call h h.trials[i].of K s (by omega) (by omega) c1'.1 c1'.2
        have hc2 := fun s => within_call h.trials[i].cost 0 1000 (K + 1) s
        rw [List.drop_eq_getElem_cons hlt] at he
        simp only [trialsE] at he
        simp only [hntV] at hs
        simp -implicitDefEqProofs only [redoH, redo1, go_sem, Int.reduceEq, Int.reduceNeg, Nat.reduceEqDiff, Nat.reduceLT, Nat.reduceAdd, Nat.reduceSub, Nat.reduceMul, Int.reduceLE, Int.reduceLT, Int.reduceToNat, Int.toNat_natCast, Nat.reduceLeDiff, Bool.not_true, Bool.not_false, a1, a3, hT, hel, hH, hs, hc2]
        by_cases c3 : suspE h.suspects (-1) h.trials[i].of = 0
        · rw [if_pos c3] at he
          simp -implicitDefEqProofs only [redoH, redo1, go_sem, Int.reduceEq, Int.reduceNeg, Nat.reduceEqDiff, Nat.reduceLT, Nat.reduceAdd, Nat.reduceSub, Nat.reduceMul, Int.reduceLE, Int.reduceLT, Int.reduceToNat, Int.toNat_natCast, Nat.reduceLeDiff, Bool.not_true, Bool.not_false, a1, a3, hT, hel, hH, hs, hc2, c3]
          by_cases c4 : fromB h.trials[i].cost 0 1000 = true
          · rw [if_pos c4] at he
            simp -implicitDefEqProofs only [redoH, redo1, go_sem, Int.reduceEq, Int.reduceNeg, Nat.reduceEqDiff, Nat.reduceLT, Nat.reduceAdd, Nat.reduceSub, Nat.reduceMul, Int.reduceLE, Int.reduceLT, Int.reduceToNat, Int.toNat_natCast, Nat.reduceLeDiff, Bool.not_true, Bool.not_false, a1, a3, hT, hel, hH, hs, hc2, c3, c4, hw1]
            exact ⟨h.trials.length - (i + 1), by omega, trivial, trivial, i + 1, _, _, rfl, by omega, hH, rfl, by omega, rfl, he⟩
          · rw [if_neg c4] at he
            simp -implicitDefEqProofs only [redoH, redo1, go_sem, Int.reduceEq, Int.reduceNeg, Nat.reduceEqDiff, Nat.reduceLT, Nat.reduceAdd, Nat.reduceSub, Nat.reduceMul, Int.reduceLE, Int.reduceLT, Int.reduceToNat, Int.toNat_natCast, Nat.reduceLeDiff, Bool.not_true, Bool.not_false, a1, a3, hT, hel, hH, hs, hc2, c3, c4, he, Try.results59]
        · rw [if_neg c3] at he
          have hd3 : decide (suspE h.suspects (-1) h.trials[i].of = 0) = false := decide_eq_false c3
          simp -implicitDefEqProofs only [redoH, redo1, go_sem, Int.reduceEq, Int.reduceNeg, Nat.reduceEqDiff, Nat.reduceLT, Nat.reduceAdd, Nat.reduceSub, Nat.reduceMul, Int.reduceLE, Int.reduceLT, Int.reduceToNat, Int.toNat_natCast, Nat.reduceLeDiff, Bool.not_true, Bool.not_false, a1, a3, hT, hel, hH, hs, hc2, c3, hd3, he, Try.results59]
      · have hil : i = h.trials.length := by omega
        subst hil
        rw [List.drop_length] at he
        simp only [trialsE] at he
        simp -implicitDefEqProofs only [redoH, redo1, go_sem, Int.reduceEq, Int.reduceNeg, Nat.reduceEqDiff, Nat.reduceLT, Nat.reduceAdd, Nat.reduceSub, Nat.reduceMul, Int.reduceLE, Int.reduceLT, Int.reduceToNat, Int.toNat_natCast, Nat.reduceLeDiff, Bool.not_true, Bool.not_false, a1, a3, hT, he, Try.results59]
  · simp -implicitDefEqProofs only [redoH, redo1, go_sem, Int.reduceEq, Int.reduceNeg, Nat.reduceEqDiff, Nat.reduceLT, Nat.reduceAdd, Nat.reduceSub, Nat.reduceMul, Int.reduceLE, Int.reduceLT, Int.reduceToNat, Int.toNat_natCast, Nat.reduceLeDiff, Bool.not_true, Bool.not_false, a0, hT, hc, c1, Try.results59]
end Go.Proofs.Ytgnpnfkncbnjnaa
namespace Go.Proofs.Ytgnpnfkncbnjnaa
open Go Go.Am
attribute [local congr] tr_congr does_congr all_congr
def andU (a b : Int) : Int := wrapF .u64 ((Nat.land (ib .u64 a) (ib .u64 b) : Nat) : Int)
def andI (a b : Int) : Int := wrapF .i64 ((Nat.land (ib .i64 a) (ib .i64 b) : Nat) : Int)
def on1 (x : Int) : Int := wrapF .u64 (andU (shrU x 1) 6148914691236517205 + andU x 6148914691236517205)
def on2 (x : Int) : Int := wrapF .u64 (andU (shrU x 2) 3689348814741910323 + andU x 3689348814741910323)
def on3 (x : Int) : Int := andU (wrapF .u64 (shrU x 4 + x)) 1085102592571150095
def on4 (x : Int) : Int := wrapF .u64 (x + shrU x 8)
def on5 (x : Int) : Int := wrapF .u64 (x + shrU x 16)
def on6 (x : Int) : Int := wrapF .u64 (x + shrU x 32)
def onesN (x : Int) : Int := andI (wrapF .i64 (on6 (on5 (on4 (on3 (on2 (on1 x))))))) 127
theorem ones64_call (x : Int) (K : Nat) (s : St) : acall cfg (K + 1) 165 [.int .u64 x] s = .ret (.int .i64 (onesN x), s) := by
  refine call1 mget165 fget165 (by first | rfl | simp -implicitDefEqProofs only [redoH, redo1, go_sem, Int.reduceEq, Int.reduceNeg, Nat.reduceEqDiff, Nat.reduceLT, Nat.reduceAdd, Nat.reduceSub, Nat.reduceMul, Int.reduceLE, Int.reduceLT, Int.reduceToNat, Int.toNat_natCast, Nat.reduceLeDiff, Bool.not_true, Bool.not_false]) (by first | rfl | simp -implicitDefEqProofs only [redoH, redo1, go_sem, Int.reduceEq, Int.reduceNeg, Nat.reduceEqDiff, Nat.reduceLT, Nat.reduceAdd, Nat.reduceSub, Nat.reduceMul, Int.reduceLE, Int.reduceLT, Int.reduceToNat, Int.toNat_natCast, Nat.reduceLeDiff, Bool.not_true, Bool.not_false]) (by first | rfl | simp -implicitDefEqProofs only [redoH, redo1, go_sem, Int.reduceEq, Int.reduceNeg, Nat.reduceEqDiff, Nat.reduceLT, Nat.reduceAdd, Nat.reduceSub, Nat.reduceMul, Int.reduceLE, Int.reduceLT, Int.reduceToNat, Int.toNat_natCast, Nat.reduceLeDiff, Bool.not_true, Bool.not_false]) ?_
  refine body_does rfl fun T hT' hA => ?_
  have a0 := hA 0 _ rfl
  have hT : T.length = 35 := hT'
  clear hA hT'
  simp -implicitDefEqProofs only [redoH, redo1, go_sem, Int.reduceEq, Int.reduceNeg, Nat.reduceEqDiff, Nat.reduceLT, Nat.reduceAdd, Nat.reduceSub, Nat.reduceMul, Int.reduceLE, Int.reduceLT, Int.reduceToNat, Int.toNat_natCast, Nat.reduceLeDiff, Bool.not_true, Bool.not_false, a0, hT, Try.results165]
  rfl
theorem ones_call (x : Int) (K : Nat) (s : St) : acall cfg (K + 2) 126 [.int .u64 x] s = .ret (.int .i64 (onesN x), s) := by
  refine call1 mget126 fget126 (by first | rfl | simp -implicitDefEqProofs only [redoH, redo1, go_sem, Int.reduceEq, Int.reduceNeg, Nat.reduceEqDiff, Nat.reduceLT, Nat.reduceAdd, Nat.reduceSub, Nat.reduceMul, Int.reduceLE, Int.reduceLT, Int.reduceToNat, Int.toNat_natCast, Nat.reduceLeDiff, Bool.not_true, Bool.not_false]) (by first | rfl | simp -implicitDefEqProofs only [redoH, redo1, go_sem, Int.reduceEq, Int.reduceNeg, Nat.reduceEqDiff, Nat.reduceLT, Nat.reduceAdd, Nat.reduceSub, Nat.reduceMul, Int.reduceLE, Int.reduceLT, Int.reduceToNat, Int.toNat_natCast, Nat.reduceLeDiff, Bool.not_true, Bool.not_false]) (by first | rfl | simp -implicitDefEqProofs only [redoH, redo1, go_sem, Int.reduceEq, Int.reduceNeg, Nat.reduceEqDiff, Nat.reduceLT, Nat.reduceAdd, Nat.reduceSub, Nat.reduceMul, Int.reduceLE, Int.reduceLT, Int.reduceToNat, Int.toNat_natCast, Nat.reduceLeDiff, Bool.not_true, Bool.not_false]) ?_
  refine body_does rfl fun T hT' hA => ?_
  have a0 := hA 0 _ rfl
  have hT : T.length = 8 := hT'
  clear hA hT'
  have hc := fun s => ones64_call x K s
  simp -implicitDefEqProofs only [redoH, redo1, go_sem, Int.reduceEq, Int.reduceNeg, Nat.reduceEqDiff, Nat.reduceLT, Nat.reduceAdd, Nat.reduceSub, Nat.reduceMul, Int.reduceLE, Int.reduceLT, Int.reduceToNat, Int.toNat_natCast, Nat.reduceLeDiff, Bool.not_true, Bool.not_false, a0, hT, hc, Try.results126]
theorem alone_call (x : Int) (K : Nat) (s : St) : acall cfg (K + 1) 128 [.int .i64 x] s = .ret (.bool (decide (andI x (wrapF .i64 (x - 1)) = 0)), s) := by
  refine call1 mget128 fget128 (by first | rfl | simp -implicitDefEqProofs only [redoH, redo1, go_sem, Int.reduceEq, Int.reduceNeg, Nat.reduceEqDiff, Nat.reduceLT, Nat.reduceAdd, Nat.reduceSub, Nat.reduceMul, Int.reduceLE, Int.reduceLT, Int.reduceToNat, Int.toNat_natCast, Nat.reduceLeDiff, Bool.not_true, Bool.not_false]) (by first | rfl | simp -implicitDefEqProofs only [redoH, redo1, go_sem, Int.reduceEq, Int.reduceNeg, Nat.reduceEqDiff, Nat.reduceLT, Nat.reduceAdd, Nat.reduceSub, Nat.reduceMul, Int.reduceLE, Int.reduceLT, Int.reduceToNat, Int.toNat_natCast, Nat.reduceLeDiff, Bool.not_true, Bool.not_false]) (by first | rfl | simp -implicitDefEqProofs only [redoH, redo1, go_sem, Int.reduceEq, Int.reduceNeg, Nat.reduceEqDiff, Nat.reduceLT, Nat.reduceAdd, Nat.reduceSub, Nat.reduceMul, Int.reduceLE, Int.reduceLT, Int.reduceToNat, Int.toNat_natCast, Nat.reduceLeDiff, Bool.not_true, Bool.not_false]) ?_
  refine body_does rfl fun T hT' hA => ?_
  have a0 := hA 0 _ rfl
  have hT : T.length = 8 := hT'
  clear hA hT'
  simp -implicitDefEqProofs only [redoH, redo1, go_sem, Int.reduceEq, Int.reduceNeg, Nat.reduceEqDiff, Nat.reduceLT, Nat.reduceAdd, Nat.reduceSub, Nat.reduceMul, Int.reduceLE, Int.reduceLT, Int.reduceToNat, Int.toNat_natCast, Nat.reduceLeDiff, Bool.not_true, Bool.not_false, a0, hT, Try.results128]
  rfl
/-- Each set of one to twelve has one suspect just if it is alone; and no set of suspects is without any. -/
noncomputable def oneOk (m : Nat) : Bool := (onesN m).beq' 1 == Nat.beq (Nat.land m (m - 1)) 0
noncomputable def allOk (p : Nat → Bool) : Nat → Bool := Nat.rec true fun k r => match p (k + 1) with
  | true => r
  | false => false
theorem allOk_spec (p : Nat → Bool) : ∀ n, allOk p n = true → ∀ m, 1 ≤ m → m ≤ n → p m = true := by
  intro n
  induction n with
  | zero => intro _ m h1 h2; omega
  | succ n ih =>
    intro h m h1 h2
    have hu : allOk p (n + 1) = (match p (n + 1) with | true => allOk p n | false => false) := rfl
    rw [hu] at h
    cases ho : p (n + 1) with
    | false => rw [ho] at h; cases h
    | true =>
      rw [ho] at h
      rcases Nat.lt_or_eq_of_le h2 with h3 | h3
      · exact ih h m h1 (by omega)
      · rw [h3]; exact ho
theorem onesOk_all : allOk oneOk 4095 = true := by kernel_rfl
theorem oneOk_all {m : Nat} (h1 : 1 ≤ m) (h2 : m < 4096) : oneOk m = true := allOk_spec oneOk 4095 onesOk_all m h1 (by omega)
end Go.Proofs.Ytgnpnfkncbnjnaa
namespace Go.Am
/-! ### Sets as numbers below 4096 -/
theorem bit_lt {x i : Nat} (h : x < 4096) (hb : x.testBit i = true) : i < 12 := by
  by_cases hi : i < 12
  · exact hi
  · have h2 : 2 ^ 12 ≤ 2 ^ i := Nat.pow_le_pow_right (by decide) (by omega)
    rw [Nat.testBit_lt_two_pow (show x < 2 ^ i from Nat.lt_of_lt_of_le h h2)] at hb
    cases hb
/-- What of s is not in o. -/
def restN (s o : Nat) : Nat := s &&& (o ^^^ 4095)
theorem rest_bit (s o i : Nat) (h : s < 4096) : (restN s o).testBit i = (s.testBit i && !(o.testBit i)) := by
  unfold restN
  rw [Nat.testBit_and, Nat.testBit_xor, show (4095 : Nat) = 2 ^ 12 - 1 from rfl, Nat.testBit_two_pow_sub_one]
  cases hs : s.testBit i with
  | false => simp
  | true => simp [bit_lt h hs]
theorem rest_64 (s o : Nat) (h : s < 4096) : s &&& (o ^^^ 18446744073709551615) = restN s o := by
  apply Nat.eq_of_testBit_eq
  intro i
  rw [rest_bit s o i h, Nat.testBit_and, Nat.testBit_xor, show (18446744073709551615 : Nat) = 2 ^ 64 - 1 from rfl, Nat.testBit_two_pow_sub_one]
  cases hs : s.testBit i with
  | false => simp
  | true => have h2 := bit_lt h hs; have h3 : i < 64 := by omega
            rw [decide_eq_true h3]; simp
theorem rest_in (s o : Nat) (h : s < 4096) : restN s (s &&& o) = restN s o := by
  apply Nat.eq_of_testBit_eq
  intro i
  rw [rest_bit s _ i h, rest_bit s o i h, Nat.testBit_and]
  cases s.testBit i <;> simp
theorem rest_le (s o : Nat) : restN s o ≤ s := Nat.and_le_left
theorem rest_lt (s o : Nat) (h : s < 4096) (hin : s &&& o ≠ 0) : restN s o < s := by
  have h1 := rest_le s o
  rcases Nat.lt_or_eq_of_le h1 with h2 | h2
  · exact h2
  · refine absurd ?_ hin
    apply Nat.eq_of_testBit_eq
    intro i
    have := rest_bit s o i h
    rw [h2] at this
    rw [Nat.testBit_and, Nat.zero_testBit]
    cases hs : s.testBit i <;> cases ho : o.testBit i <;> simp_all
theorem in_lt (s o : Nat) (h : s < 4096) (hr : restN s o ≠ 0) : s &&& o < s := by
  have h1 : s &&& o ≤ s := Nat.and_le_left
  rcases Nat.lt_or_eq_of_le h1 with h2 | h2
  · exact h2
  · refine absurd ?_ hr
    apply Nat.eq_of_testBit_eq
    intro i
    rw [rest_bit s o i h, Nat.zero_testBit]
    have : (s &&& o).testBit i = s.testBit i := by rw [h2]
    rw [Nat.testBit_and] at this
    cases hs : s.testBit i <;> cases ho : o.testBit i <;> simp_all
end Go.Am
namespace Go.Proofs.Ytgnpnfkncbnjnaa
open Go Go.Am
attribute [local congr] tr_congr does_congr all_congr
/-! ### The best test of a set -/
/-- Whether a set has at most one suspect. -/
def aloneB (s : Nat) : Bool := Nat.beq (s &&& (s - 1)) 0
/-- The choice after one test more. -/
def stepC (rec : Nat → Int × Int) (s : Nat) (x : Int × Int) (i : Nat) (t : Nat × Int) : Int × Int :=
  if s &&& t.1 = 0 then x else if restN s t.1 = 0 then x else
  if (rec (s &&& t.1)).1 < 0 then x else if (rec (restN s t.1)).1 < 0 then x else
  if x.1 < 0 then (t.2 + max (rec (s &&& t.1)).1 (rec (restN s t.1)).1, (i : Int))
  else if t.2 + max (rec (s &&& t.1)).1 (rec (restN s t.1)).1 < x.1 then (t.2 + max (rec (s &&& t.1)).1 (rec (restN s t.1)).1, (i : Int)) else x
def foldC (rec : Nat → Int × Int) (s : Nat) : Int × Int → Nat → List (Nat × Int) → Int × Int
  | x, _, [] => x
  | x, i, t :: l => foldC rec s (stepC rec s x i t) (i + 1) l
def bestF (ts : List (Nat × Int)) : Nat → Nat → Int × Int
  | 0, _ => (0, -1)
  | f + 1, s => if aloneB s = true then (0, -1) else foldC (bestF ts f) s (-1, -1) 0 ts
def bestS (ts : List (Nat × Int)) (s : Nat) : Int × Int := bestF ts s s
theorem stepC_congr {r1 r2 : Nat → Int × Int} {s : Nat} (hs : s < 4096) (h : ∀ k, k < s → r1 k = r2 k) (x : Int × Int) (i : Nat) (t : Nat × Int) : stepC r1 s x i t = stepC r2 s x i t := by
  unfold stepC
  split
  · rfl
  · split
    · rfl
    · rename_i h1 h2
      rw [h _ (in_lt s t.1 hs h2), h _ (rest_lt s t.1 hs h1)]
theorem foldC_congr {r1 r2 : Nat → Int × Int} {s : Nat} (hs : s < 4096) (h : ∀ k, k < s → r1 k = r2 k) (l : List (Nat × Int)) : ∀ (x : Int × Int) (i : Nat), foldC r1 s x i l = foldC r2 s x i l := by
  induction l with
  | nil => intro x i; rfl
  | cons t l ih => intro x i; simp only [foldC]; rw [stepC_congr hs h, ih]
theorem bestF_eq (ts : List (Nat × Int)) : ∀ (f g s : Nat), s < 4096 → s ≤ f → s ≤ g → bestF ts f s = bestF ts g s := by
  intro f
  induction f with
  | zero =>
    intro g s h1 h2 h3
    have : s = 0 := by omega
    subst this
    cases g with
    | zero => rfl
    | succ g => rfl
  | succ f ih =>
    intro g s h1 h2 h3
    cases g with
    | zero =>
      have : s = 0 := by omega
      subst this; rfl
    | succ g =>
      simp only [bestF]
      rw [foldC_congr h1 fun k hk => ih g k (by omega) (by omega) (by omega)]
theorem bestS_eq (ts : List (Nat × Int)) (s : Nat) (hs : s < 4096) : bestS ts s = if aloneB s = true then (0, -1) else foldC (bestS ts) s (-1, -1) 0 ts := by
  have h0 : bestS ts s = bestF ts (s + 1) s := bestF_eq ts s (s + 1) s hs (by omega) (by omega)
  rw [h0]
  simp only [bestF]
  rw [foldC_congr hs fun k hk => bestF_eq ts s k k (by omega) (by omega) (by omega)]
  rfl
/-! The tests as sets and costs -/
def setsOf (h : Hnt) : List (Nat × Int) := h.trials.map fun t => (setN 0 t.of, t.cost)
def uV (n : Nat) : AV := .int .u64 (n : Int)
def chV (c : Int × Int) : AV := .agg [.int .i64 c.1, .int .i64 c.2]
def Memo (ts : List (Nat × Int)) (es : List (AV × AV)) : Prop := ∀ e ∈ es, ∃ k, k < 4096 ∧ e = (uV k, chV (bestS ts k))
theorem desc191 : cfg.desc 191 = some (.map 158 162) := by kernel_rfl
theorem desc158 : cfg.desc 158 = some (.int .u64) := by kernel_rfl
theorem find_memo (ts : List (Nat × Int)) (m : Nat) : ∀ (es : List (AV × AV)) (i : Nat), Memo ts es → findA (.int .u64 m) es i = some none ∨ ∃ j, findA (.int .u64 m) es i = some (some (j, chV (bestS ts m))) := by
  intro es
  induction es with
  | nil => intro i _; exact .inl rfl
  | cons e es ih =>
    intro i hm
    obtain ⟨k, hk, rfl⟩ := hm e List.mem_cons_self
    have hr : Memo ts es := fun e he => hm e (List.mem_cons_of_mem _ he)
    have he : eqSame (.int .u64 m) (uV k) = some (decide ((m : Int) = (k : Int))) := rfl
    by_cases hmk : m = k
    · subst hmk
      refine .inr ⟨i, ?_⟩
      unfold findA
      simp only [he, decide_true]
    · have h0 : decide ((m : Int) = (k : Int)) = false := decide_eq_false (by omega)
      unfold findA
      simp only [he, h0]
      exact ih (i + 1) hr
theorem look_none {es : List (AV × AV)} {m : Nat} {b : Nm} {s : St} (hg : hget s.H b = some (.map es false)) (hf : findA (.int .u64 m) es 0 = some none) :
    lookupA (cfg.at 103) 191 (.map b) (.int .u64 m) true s = .ret (.tuple [.agg [.int .i64 0, .int .i64 0], .bool false], s) := by
  unfold lookupA
  rw [show (cfg.at 103).desc 191 = some (.map 158 162) from desc191]
  simp only [bind_app, entriesA, getM_app, hg, Tr.bind_ret, ret_app]
  rw [show (cfg.at 103).desc 158 = some (.int .u64) from desc158, show (cfg.at 103).ty = cfg.ty from rfl, tget162]
  simp only [hf, keyKind, decide_true]
  rfl
theorem look_some {es : List (AV × AV)} {m : Nat} {b : Nm} {s : St} {j : Nat} {v : AV} (hg : hget s.H b = some (.map es false)) (hf : findA (.int .u64 m) es 0 = some (some (j, v))) :
    lookupA (cfg.at 103) 191 (.map b) (.int .u64 m) true s = .ret (.tuple [v, .bool true], s) := by
  unfold lookupA
  rw [show (cfg.at 103).desc 191 = some (.map 158 162) from desc191]
  simp only [bind_app, entriesA, getM_app, hg, Tr.bind_ret, ret_app]
  rw [show (cfg.at 103).desc 158 = some (.int .u64) from desc158, show (cfg.at 103).ty = cfg.ty from rfl, tget162]
  simp only [hf, keyKind, decide_true]
  rfl
theorem update_none {es : List (AV × AV)} {m : Nat} {b : Nm} {s : St} {c : Int × Int} (hg : hget s.H b = some (.map es false)) (hf : findA (.int .u64 m) es 0 = some none) :
    updateA (cfg.at 103) 191 (.map b) (.int .u64 m) (chV c) s = .ret ((), s.put b (.map (es ++ [(uV m, chV c)]) false)) := by
  unfold updateA
  rw [show (cfg.at 103).desc 191 = some (.map 158 162) from desc191]
  simp only [bind_app, getM_app, hg, Tr.bind_ret]
  rw [show (cfg.at 103).desc 158 = some (.int .u64) from desc158]
  simp only [hf, keyKind, decide_true]
  show putM b _ s = _
  rw [putM_app, hg]
  rfl
theorem update_some {es : List (AV × AV)} {m j : Nat} {v : AV} {b : Nm} {s : St} {c : Int × Int} (hg : hget s.H b = some (.map es false)) (hf : findA (.int .u64 m) es 0 = some (some (j, v))) :
    updateA (cfg.at 103) 191 (.map b) (.int .u64 m) (chV c) s = .ret ((), s.put b (.map (setNth es j (uV m, chV c)) false)) := by
  unfold updateA
  rw [show (cfg.at 103).desc 191 = some (.map 158 162) from desc191]
  simp only [bind_app, getM_app, hg, Tr.bind_ret]
  rw [show (cfg.at 103).desc 158 = some (.int .u64) from desc158]
  simp only [hf, keyKind, decide_true]
  show putM b _ s = _
  rw [putM_app, hg]
  rfl
theorem memo_set {ts : List (Nat × Int)} {m : Nat} (hm : m < 4096) : ∀ {es : List (AV × AV)} (j : Nat), Memo ts es → Memo ts (setNth es j (uV m, chV (bestS ts m))) := by
  intro es
  induction es with
  | nil => intro j h; cases j <;> exact h
  | cons e es ih =>
    intro j h
    have hr : Memo ts es := fun e he => h e (List.mem_cons_of_mem _ he)
    cases j with
    | zero =>
      intro a ha
      rcases List.mem_cons.1 ha with rfl | ha
      · exact ⟨m, hm, rfl⟩
      · exact hr a ha
    | succ j =>
      intro a ha
      rcases List.mem_cons.1 ha with rfl | ha
      · exact h _ List.mem_cons_self
      · exact ih j hr a ha
theorem memo_add {ts : List (Nat × Int)} {m : Nat} (hm : m < 4096) {es : List (AV × AV)} (h : Memo ts es) : Memo ts (es ++ [(uV m, chV (bestS ts m))]) := by
  intro a ha
  rcases List.mem_append.1 ha with ha | ha
  · exact h a ha
  · rcases List.mem_cons.1 ha with rfl | ha
    · exact ⟨m, hm, rfl⟩
    · cases ha
/-- The map with a choice more. -/
theorem update_memo {ts : List (Nat × Int)} {es : List (AV × AV)} {m : Nat} (hm : m < 4096) (h : Memo ts es) : ∃ es', Memo ts es' ∧ ∀ (b : Nm) (s : St), hget s.H b = some (.map es false) →
    updateA (cfg.at 103) 191 (.map b) (.int .u64 m) (chV (bestS ts m)) s = .ret ((), s.put b (.map es' false)) := by
  rcases find_memo ts m es 0 h with hf | ⟨j, hf⟩
  · exact ⟨_, memo_add hm h, fun b s hg => update_none hg hf⟩
  · exact ⟨_, memo_set hm j h, fun b s hg => update_some hg hf⟩
/-! Bounds -/
theorem step_range {rec : Nat → Int × Int} {m : Nat} (hm : m < 4096) (hr : ∀ k, k < m → -1 ≤ (rec k).1 ∧ (rec k).1 ≤ 1000 * k) {x : Int × Int} (hx : -1 ≤ x.1 ∧ x.1 ≤ 1000 * m) (i : Nat) {t : Nat × Int} (ht : 0 ≤ t.2 ∧ t.2 ≤ 1000) :
    -1 ≤ (stepC rec m x i t).1 ∧ (stepC rec m x i t).1 ≤ 1000 * m := by
  unfold stepC
  split
  · exact hx
  · split
    · exact hx
    · rename_i h1 h2
      have i1 := in_lt m t.1 hm h2
      have i2 := rest_lt m t.1 hm h1
      have r1 := hr _ i1
      have r2 := hr _ i2
      generalize m &&& t.1 = I at *
      generalize restN m t.1 = R at *
      split
      · exact hx
      · split
        · exact hx
        · split
          · simp only; omega
          · split
            · simp only; omega
            · exact hx
theorem fold_range {rec : Nat → Int × Int} {m : Nat} (hm : m < 4096) (hr : ∀ k, k < m → -1 ≤ (rec k).1 ∧ (rec k).1 ≤ 1000 * k) (l : List (Nat × Int)) (hl : ∀ t ∈ l, 0 ≤ t.2 ∧ t.2 ≤ 1000) :
    ∀ (x : Int × Int) (i : Nat), -1 ≤ x.1 ∧ x.1 ≤ 1000 * m → -1 ≤ (foldC rec m x i l).1 ∧ (foldC rec m x i l).1 ≤ 1000 * m := by
  induction l with
  | nil => intro x i hx; exact hx
  | cons t l ih => intro x i hx; exact ih (fun t ht => hl t (List.mem_cons_of_mem _ ht)) _ _ (step_range hm hr hx i (hl t List.mem_cons_self))
theorem best_range (ts : List (Nat × Int)) (hl : ∀ t ∈ ts, 0 ≤ t.2 ∧ t.2 ≤ 1000) : ∀ m, m < 4096 → -1 ≤ (bestS ts m).1 ∧ (bestS ts m).1 ≤ 1000 * m := by
  intro m
  induction m using Nat.strongRecOn with
  | ind m ih =>
  intro hm
  rw [bestS_eq ts m hm]
  split
  · simp only; omega
  · exact fold_range hm (fun k hk => ih k hk (by omega)) ts hl _ _ (by simp only; omega)
theorem trials_ok (many : Int) : ∀ (l : List Tri), trialsE many l = 0 → ∀ t ∈ l, suspE many (-1) t.of = 0 ∧ 0 ≤ t.cost ∧ t.cost ≤ 1000 := by
  intro l
  induction l with
  | nil => intro _ t ht; cases ht
  | cons a l ih =>
    intro h t ht
    simp only [trialsE] at h
    by_cases c1 : suspE many (-1) a.of = 0
    · rw [if_pos c1] at h
      by_cases c2 : fromB a.cost 0 1000 = true
      · rw [if_pos c2] at h
        rcases List.mem_cons.1 ht with rfl | ht
        · unfold fromB at c2
          exact ⟨c1, of_decide_eq_true c2⟩
        · exact ih h t ht
      · rw [if_neg c2] at h; cases h
    · rw [if_neg c1] at h; exact absurd h c1
theorem set_lt (many : Int) (h2 : many ≤ 12) : ∀ (l : List Int) (last : Int) (s : Nat), s < 4096 → suspE many last l = 0 → setN s l < 4096 := by
  intro l
  induction l with
  | nil => intro _ s hs _; exact hs
  | cons n l ih =>
    intro last s hs he
    simp only [suspE] at he
    by_cases c1 : fromB n 0 (many - 1) = true
    · rw [if_pos c1] at he
      unfold fromB at c1
      have c1' := of_decide_eq_true c1
      by_cases c2 : n ≤ last
      · rw [if_pos c2] at he; cases he
      · rw [if_neg c2] at he
        exact ih n _ (or_4096 _ _ hs (pow_4096 n (by omega))) he
    · rw [if_neg c1] at he; cases he
theorem hunt_ok {h : Hnt} (hh : huntE h = 0) : 1 ≤ h.suspects ∧ h.suspects ≤ 12 ∧ h.trials.length ≤ 12 ∧ ∀ t ∈ h.trials, suspE h.suspects (-1) t.of = 0 ∧ 0 ≤ t.cost ∧ t.cost ≤ 1000 := by
  unfold huntE at hh
  by_cases c1 : fromB h.suspects 1 12 = true
  · rw [if_pos c1] at hh
    unfold fromB at c1
    have c1' := of_decide_eq_true c1
    by_cases c2 : 12 < h.trials.length
    · rw [if_pos c2] at hh; cases hh
    · rw [if_neg c2] at hh
      exact ⟨c1'.1, c1'.2, by omega, trials_ok _ _ hh⟩
  · rw [if_neg c1] at hh; cases hh
theorem sets_ok {h : Hnt} (hh : huntE h = 0) : ∀ t ∈ setsOf h, t.1 < 4096 ∧ 0 ≤ t.2 ∧ t.2 ≤ 1000 := by
  intro t ht
  obtain ⟨a, ha, rfl⟩ := List.mem_map.1 ht
  obtain ⟨h1, h2, h3, h4⟩ := hunt_ok hh
  have := h4 a ha
  exact ⟨set_lt h.suspects h2 a.of (-1) 0 (by omega) this.1, this.2⟩
theorem ones_alone {m : Nat} (h1 : 1 ≤ m) (h2 : m < 4096) : onesN m = 1 ↔ aloneB m = true := by
  have h := oneOk_all h1 h2
  unfold oneOk at h
  have h3 := eq_of_beq h
  have h4 : aloneB m = Nat.beq (Nat.land m (m - 1)) 0 := rfl
  rw [h4, ← h3]
  rw [Int.beq'_eq_beq]
  exact beq_iff_eq.symm
theorem memo_flat {ts : List (Nat × Int)} : ∀ {es : List (AV × AV)}, Memo ts es → flatE es = true := by
  intro es
  induction es with
  | nil => intro _; rfl
  | cons e es ih =>
    intro h
    obtain ⟨k, _, rfl⟩ := h e List.mem_cons_self
    exact ih fun e he => h e (List.mem_cons_of_mem _ he)
theorem best_call (h : Hnt) (hh : huntE h = 0) (hl : h.trials.length ≤ 12) : ∀ (m : Nat), 1 ≤ m → m < 4096 → ∀ (K : Nat) (s : St) (b mm : Nm) (ov : AV) (es : List (AV × AV)), 20 < K → eqb mm b = false → (ov = .lst ((setsOf h).map fun t => uV t.1) ∨ ∃ t, ov = .own t ((setsOf h).map fun t => uV t.1) ∧ eqb t b = false ∧ eqb t mm = false) →
    hget s.H b = some (.cells [.int .i64 h.suspects, .lst (h.trials.map triV), ov, .map mm] true 0) → hget s.H mm = some (.map es false) → Memo (setsOf h) es →
    ∃ es', Memo (setsOf h) es' ∧ flatE es' = true ∧ acall cfg (K + m + 1) 103 [.ptr b 0, .int .u64 m] s = .ret (chV (bestS (setsOf h) m), (s.put b (.cells [.int .i64 h.suspects, .lst (h.trials.map triV), .lst ((setsOf h).map fun t => uV t.1), .map mm] true 0)).put mm (.map es' false)) := by
  intro m
  induction m using Nat.strongRecOn with
  | ind m ih =>
  intro h1 h2 K s b mm ov es hK hbm ho hb hmm hme
  obtain ⟨hs1, hs2, hlen, htr⟩ := hunt_ok hh
  have hsets := sets_ok hh
  refine call3_map mget103 fget103 hbm ho (fl_tri _) (flats_map (f := fun t : Nat × Int => uV t.1) (fun _ => rfl) _) (memo_flat hme) hb hmm (fun _ => rfl) (fun _ => rfl) ?_
  refine body_does rfl fun T hT' hA => ?_
  have a0 := hA 0 _ rfl
  have a1 := hA 1 _ rfl
  have hT : T.length = 102 := hT'
  clear hA hT'
  have hc := fun s => ones_call m (K + m - 2) s
  rw [show K + m - 2 + 2 = K + m by omega] at hc
  have hbs := bestS_eq (setsOf h) m h2
  simp -implicitDefEqProofs only [redoH, redo1, go_sem, Int.reduceEq, Int.reduceNeg, Nat.reduceEqDiff, Nat.reduceLT, Nat.reduceAdd, Nat.reduceSub, Nat.reduceMul, Int.reduceLE, Int.reduceLT, Int.reduceToNat, Int.toNat_natCast, Nat.reduceLeDiff, Bool.not_true, Bool.not_false, a0, a1, hT, hc]
  by_cases c1 : onesN m = 1
  · rw [if_pos ((ones_alone h1 h2).1 c1)] at hbs
    simp -implicitDefEqProofs only [redoH, redo1, go_sem, Int.reduceEq, Int.reduceNeg, Nat.reduceEqDiff, Nat.reduceLT, Nat.reduceAdd, Nat.reduceSub, Nat.reduceMul, Int.reduceLE, Int.reduceLT, Int.reduceToNat, Int.toNat_natCast, Nat.reduceLeDiff, Bool.not_true, Bool.not_false, a0, a1, hT, hc, c1, Try.results103]
    exact ⟨by rw [hbs]; rfl, trivial, es, rfl, memo_flat hme, hme⟩
  · rw [if_neg (fun c => c1 ((ones_alone h1 h2).2 c))] at hbs
    rcases find_memo (setsOf h) m es 0 hme with hf | ⟨j, hf⟩
    · have hlk := fun (H : Heap) (n : Nat) (hg : hget H [1] = some (.map es false)) => look_none (b := [1]) (s := ⟨H, n, [], false, []⟩) hg hf
      simp -implicitDefEqProofs only [redoH, redo1, go_sem, Int.reduceEq, Int.reduceNeg, Nat.reduceEqDiff, Nat.reduceLT, Nat.reduceAdd, Nat.reduceSub, Nat.reduceMul, Int.reduceLE, Int.reduceLT, Int.reduceToNat, Int.toNat_natCast, Nat.reduceLeDiff, Bool.not_true, Bool.not_false, a0, a1, hT, hc, c1, hlk]
      generalize hrow : (setsOf h).map (fun t => uV t.1) = row at *
      have hsl : (setsOf h).length = h.trials.length := by simp [setsOf]
      have hrl : row.length = h.trials.length := by rw [← hrow]; simp [setsOf]
      simp only [does_bind]
      refine xl_does (fun k T s' => T.length = 102 ∧ nth T 0 = some (.ptr [0] 0) ∧ nth T 1 = some (.int .u64 m) ∧ nth T 4 = some (.ptr [2] 0) ∧ nth T 7 = some (.ptr [4] 0) ∧ nth T 34 = some (.lst row) ∧ nth T 35 = some (.int .i64 h.trials.length) ∧ ∃ (i n : Nat) (x : Int × Int) (es : List (AV × AV)) (H : Heap) (c2 : List AV), s' = ⟨H, n + 5, [], false, []⟩ ∧ nth T 36 = some (.int .i64 i) ∧ i ≤ h.trials.length ∧ k = h.trials.length - i ∧
        hget H [0] = some (.cells [.int .i64 h.suspects, .lst (h.trials.map triV), .lst row, .map [1]] true 0) ∧ hget H [1] = some (.map es false) ∧ hget H [2] = some (.cells [.int .i64 0, .int .i64 0] true 0) ∧ hget H [4] = some (.cells [.int .i64 x.1, .int .i64 x.2] true 0) ∧ Memo (setsOf h) es ∧ -1 ≤ x.1 ∧ x.1 ≤ 1000 * m ∧
        bestS (setsOf h) m = foldC (bestS (setsOf h)) m x i ((setsOf h).drop i)) (k := h.trials.length) (by omega) ?_ ?_
      · exact ⟨by simp -implicitDefEqProofs only [redoH, redo1, go_sem, Int.reduceEq, Int.reduceNeg, Nat.reduceEqDiff, Nat.reduceLT, Nat.reduceAdd, Nat.reduceSub, Nat.reduceMul, Int.reduceLE, Int.reduceLT, Int.reduceToNat, Int.toNat_natCast, Nat.reduceLeDiff, Bool.not_true, Bool.not_false, hT], by simp -implicitDefEqProofs only [redoH, redo1, go_sem, Int.reduceEq, Int.reduceNeg, Nat.reduceEqDiff, Nat.reduceLT, Nat.reduceAdd, Nat.reduceSub, Nat.reduceMul, Int.reduceLE, Int.reduceLT, Int.reduceToNat, Int.toNat_natCast, Nat.reduceLeDiff, Bool.not_true, Bool.not_false, a0], by simp -implicitDefEqProofs only [redoH, redo1, go_sem, Int.reduceEq, Int.reduceNeg, Nat.reduceEqDiff, Nat.reduceLT, Nat.reduceAdd, Nat.reduceSub, Nat.reduceMul, Int.reduceLE, Int.reduceLT, Int.reduceToNat, Int.toNat_natCast, Nat.reduceLeDiff, Bool.not_true, Bool.not_false, a1], by simp -implicitDefEqProofs only [redoH, redo1, go_sem, Int.reduceEq, Int.reduceNeg, Nat.reduceEqDiff, Nat.reduceLT, Nat.reduceAdd, Nat.reduceSub, Nat.reduceMul, Int.reduceLE, Int.reduceLT, Int.reduceToNat, Int.toNat_natCast, Nat.reduceLeDiff, Bool.not_true, Bool.not_false, hT], by simp -implicitDefEqProofs only [redoH, redo1, go_sem, Int.reduceEq, Int.reduceNeg, Nat.reduceEqDiff, Nat.reduceLT, Nat.reduceAdd, Nat.reduceSub, Nat.reduceMul, Int.reduceLE, Int.reduceLT, Int.reduceToNat, Int.toNat_natCast, Nat.reduceLeDiff, Bool.not_true, Bool.not_false, hT], by simp -implicitDefEqProofs only [redoH, redo1, go_sem, Int.reduceEq, Int.reduceNeg, Nat.reduceEqDiff, Nat.reduceLT, Nat.reduceAdd, Nat.reduceSub, Nat.reduceMul, Int.reduceLE, Int.reduceLT, Int.reduceToNat, Int.toNat_natCast, Nat.reduceLeDiff, Bool.not_true, Bool.not_false, hT], by simp -implicitDefEqProofs only [redoH, redo1, go_sem, Int.reduceEq, Int.reduceNeg, Nat.reduceEqDiff, Nat.reduceLT, Nat.reduceAdd, Nat.reduceSub, Nat.reduceMul, Int.reduceLE, Int.reduceLT, Int.reduceToNat, Int.toNat_natCast, Nat.reduceLeDiff, Bool.not_true, Bool.not_false, hT, hsl], 0, 0, (-1, -1), es, _, [], rfl, by simp -implicitDefEqProofs only [redoH, redo1, go_sem, Int.reduceEq, Int.reduceNeg, Nat.reduceEqDiff, Nat.reduceLT, Nat.reduceAdd, Nat.reduceSub, Nat.reduceMul, Int.reduceLE, Int.reduceLT, Int.reduceToNat, Int.toNat_natCast, Nat.reduceLeDiff, Bool.not_true, Bool.not_false, hT]; rfl, by omega, by omega, rfl, rfl, rfl, rfl, hme, by simp only; omega, by simp only; omega, hbs⟩
      clear a0 a1 hT hlk hf hme
      rintro k T s' ⟨hT, a0, a1, a4, a7, a34, a35, i, n, x, es, H, _, rfl, a36, hi, rfl, g0, g1, g2, g4, hme, hx1, hx2, he⟩
      simp -implicitDefEqProofs only [redoH, redo1, go_sem, Int.reduceEq, Int.reduceNeg, Nat.reduceEqDiff, Nat.reduceLT, Nat.reduceAdd, Nat.reduceSub, Nat.reduceMul, Int.reduceLE, Int.reduceLT, Int.reduceToNat, Int.toNat_natCast, Nat.reduceLeDiff, Bool.not_true, Bool.not_false, a0, a1, a4, a7, a34, a35, a36, hT]
      simp only [does_bind]
      refine does_if (fun hlt0 => ?_) (fun hlt0 => ?_)
      · have hlt : i < h.trials.length := by omega
        have hli : i < (setsOf h).length := by simp [setsOf]; omega
        have hk1 : h.trials.length - (i + 1) < h.trials.length - i := by omega
        have hz0 : ∀ k : Nat, k = 0 → (k : Int) = 0 := fun k hk => by omega
        have hz1 : ∀ k : Nat, ¬ k = 0 → ¬ (k : Int) = 0 := fun k hk => by omega
        have hn1 : ∀ k : Nat, (k + 1 = k) = False := fun k => by simp
        have hw1 : wrapF .i64 ((i : Int) + 1) = ((i + 1 : Nat) : Int) := by rw [wrap_i64 (by omega) (by omega)]; simp
        have hel : elemAt 1 (i : Int) row = some (.fptr (uV (setsOf h)[i].1).cells 0) := by rw [← hrow]; exact elemAt_map (f := fun t : Nat × Int => uV t.1) (z := 1) hli rfl
        have hel2 := elemAt_map (f := triV) (z := 2) hlt rfl
        have hsi : (setsOf h)[i].2 = h.trials[i].cost := by simp [setsOf]
        rw [List.drop_eq_getElem_cons hli] at he
        simp only [foldC, stepC] at he
        rw [hsi] at he
        obtain ⟨ho4, hc0, hc1⟩ := hsets _ (List.getElem_mem hli)
        rw [hsi] at hc0 hc1
        generalize (setsOf h)[i].1 = o at *
        have hand : wrapF .u64 ((Nat.land (ib .u64 (m : Int)) (ib .u64 (o : Int)) : Nat) : Int) = ((m &&& o : Nat) : Int) := by rw [ib_u m h2, ib_u o ho4]; exact wr_u _ (and_4096 m o h2)
        have hrest : wrapF .u64 ((Nat.land (ib .u64 (m : Int)) (Nat.xor (ib .u64 (o : Int)) (ones .u64)) : Nat) : Int) = ((restN m o : Nat) : Int) := by
          rw [ib_u m h2, ib_u o ho4]
          have : Nat.land m (Nat.xor o (ones .u64)) = restN m o := rest_64 m o h2
          rw [this]; exact wr_u _ (Nat.lt_of_le_of_lt (rest_le m o) h2)
        have hI := in_lt m o h2
        have hR := rest_lt m o h2
        generalize m &&& o = I at *
        generalize restN m o = R at *
        simp only [uV] at hel
        simp -implicitDefEqProofs only [redoH, redo1, go_sem, Int.reduceEq, Int.reduceNeg, Nat.reduceEqDiff, Nat.reduceLT, Nat.reduceAdd, Nat.reduceSub, Nat.reduceMul, Int.reduceLE, Int.reduceLT, Int.reduceToNat, Int.toNat_natCast, Nat.reduceLeDiff, Bool.not_true, Bool.not_false, a0, a1, a4, a7, a34, a35, a36, hT, hel, hand, hrest]
        by_cases d1 : I = 0
        · have d1' : (I : Int) = 0 := hz0 _ d1
          rw [if_pos d1] at he
          simp -implicitDefEqProofs only [redoH, redo1, go_sem, Int.reduceEq, Int.reduceNeg, Nat.reduceEqDiff, Nat.reduceLT, Nat.reduceAdd, Nat.reduceSub, Nat.reduceMul, Int.reduceLE, Int.reduceLT, Int.reduceToNat, Int.toNat_natCast, Nat.reduceLeDiff, Bool.not_true, Bool.not_false, a0, a1, a4, a7, a34, a35, a36, hT, hel, hand, hrest, d1', hw1]
          exact ⟨h.trials.length - (i + 1), hk1, trivial, trivial, trivial, trivial, trivial, trivial, trivial, i + 1, n, x, es, H, [], rfl, rfl, hlt, rfl, g0, g1, g2, g4, hme, hx1, hx2, he⟩
        · have d1' : ¬ (I : Int) = 0 := hz1 _ d1
          rw [if_neg d1] at he
          by_cases d2 : R = 0
          · have d2' : (R : Int) = 0 := hz0 _ d2
            rw [if_pos d2] at he
            simp -implicitDefEqProofs only [redoH, redo1, go_sem, Int.reduceEq, Int.reduceNeg, Nat.reduceEqDiff, Nat.reduceLT, Nat.reduceAdd, Nat.reduceSub, Nat.reduceMul, Int.reduceLE, Int.reduceLT, Int.reduceToNat, Int.toNat_natCast, Nat.reduceLeDiff, Bool.not_true, Bool.not_false, a0, a1, a4, a7, a34, a35, a36, hT, hel, hand, hrest, d1', d2', hw1]
            exact ⟨h.trials.length - (i + 1), hk1, trivial, trivial, trivial, trivial, trivial, trivial, trivial, i + 1, n, x, es, H, [], rfl, rfl, hlt, rfl, g0, g1, g2, g4, hme, hx1, hx2, he⟩
          · have d2' : ¬ (R : Int) = 0 := hz1 _ d2
            rw [if_neg d2] at he
            have hI1 := hI d2
            have hR1 := hR d1
            simp -implicitDefEqProofs only [redoH, redo1, go_sem, Int.reduceEq, Int.reduceNeg, Nat.reduceEqDiff, Nat.reduceLT, Nat.reduceAdd, Nat.reduceSub, Nat.reduceMul, Int.reduceLE, Int.reduceLT, Int.reduceToNat, Int.toNat_natCast, Nat.reduceLeDiff, Bool.not_true, Bool.not_false, a0, a1, a4, a7, a34, a35, a36, hT, hel, hand, hrest, d1', d2']
            clear hand hrest
            obtain ⟨es1, hme1, _, e1⟩ := ih I hI1 (by omega) (by omega) (K + m - I - 1) ⟨H, n + 5, [], false, []⟩ [0] [1] (.lst row) es (by omega) rfl (.inl rfl) g0 g1 hme
            rw [show K + m - I - 1 + I + 1 = K + m by omega] at e1
            obtain ⟨H1, rfl, q0, q1, q2, q4⟩ : ∃ H1, H1 = hset (hset H [0] (.cells [.int .i64 h.suspects, .lst (h.trials.map triV), .lst row, .map [1]] true 0)) [1] (.map es1 false) ∧ hget H1 [0] = some (.cells [.int .i64 h.suspects, .lst (h.trials.map triV), .lst row, .map [1]] true 0) ∧ hget H1 [1] = some (.map es1 false) ∧ hget H1 [2] = some (.cells [.int .i64 0, .int .i64 0] true 0) ∧ hget H1 [4] = some (.cells [.int .i64 x.1, .int .i64 x.2] true 0) := by
              refine ⟨_, rfl, ?_, ?_, ?_, ?_⟩
              · rw [hget_hset_ne _ _ (by decide), hget_hset_same _ g0]
              · exact hget_hset_same (x := .map es false) _ (by rw [hget_hset_ne _ _ (by decide)]; exact g1)
              · rw [hget_hset_ne _ _ (by decide), hget_hset_ne _ _ (by decide)]; exact g2
              · rw [hget_hset_ne _ _ (by decide), hget_hset_ne _ _ (by decide)]; exact g4
            have e1' : acall cfg (K + m) 103 [.ptr [0] 0, .int .u64 I] ⟨H, n + 5, [], false, []⟩ = .ret (chV (bestS (setsOf h) I), ⟨hset (hset H [0] (.cells [.int .i64 h.suspects, .lst (h.trials.map triV), .lst row, .map [1]] true 0)) [1] (.map es1 false), n + 5, [], false, []⟩) := e1
            generalize hset (hset H [0] (.cells [.int .i64 h.suspects, .lst (h.trials.map triV), .lst row, .map [1]] true 0)) [1] (.map es1 false) = H1 at *
            obtain ⟨es2, hme2, _, e2⟩ := ih R hR1 (by omega) (by omega) (K + m - R - 1) ⟨H1, n + 5, [], false, []⟩ [0] [1] (.lst row) es1 (by omega) rfl (.inl rfl) q0 q1 hme1
            rw [show K + m - R - 1 + R + 1 = K + m by omega] at e2
            obtain ⟨H2, hH2, r0, r1, r2, r4⟩ : ∃ H2, H2 = hset (hset H1 [0] (.cells [.int .i64 h.suspects, .lst (h.trials.map triV), .lst row, .map [1]] true 0)) [1] (.map es2 false) ∧ hget H2 [0] = some (.cells [.int .i64 h.suspects, .lst (h.trials.map triV), .lst row, .map [1]] true 0) ∧ hget H2 [1] = some (.map es2 false) ∧ hget H2 [2] = some (.cells [.int .i64 0, .int .i64 0] true 0) ∧ hget H2 [4] = some (.cells [.int .i64 x.1, .int .i64 x.2] true 0) := by
              refine ⟨_, rfl, ?_, ?_, ?_, ?_⟩
              · rw [hget_hset_ne _ _ (by decide), hget_hset_same _ q0]
              · exact hget_hset_same (x := .map es1 false) _ (by rw [hget_hset_ne _ _ (by decide)]; exact q1)
              · rw [hget_hset_ne _ _ (by decide), hget_hset_ne _ _ (by decide)]; exact q2
              · rw [hget_hset_ne _ _ (by decide), hget_hset_ne _ _ (by decide)]; exact q4
            have e2' : acall cfg (K + m) 103 [.ptr [0] 0, .int .u64 R] ⟨H1, n + 5, [], false, []⟩ = .ret (chV (bestS (setsOf h) R), ⟨H2, n + 5, [], false, []⟩) := by rw [hH2]; exact e2
            clear hH2 e1 e2
            have rI := best_range (setsOf h) (fun t ht => (hsets t ht).2) I (by omega)
            have rR := best_range (setsOf h) (fun t ht => (hsets t ht).2) R (by omega)
            simp only [chV] at e1' e2'
            generalize bestS (setsOf h) I = A at *
            generalize bestS (setsOf h) R = B at *
            simp -implicitDefEqProofs only [redoH, redo1, go_sem, Int.reduceEq, Int.reduceNeg, Nat.reduceEqDiff, Nat.reduceLT, Nat.reduceAdd, Nat.reduceSub, Nat.reduceMul, Int.reduceLE, Int.reduceLT, Int.reduceToNat, Int.toNat_natCast, Nat.reduceLeDiff, Bool.not_true, Bool.not_false, a0, a1, a4, a7, a34, a35, a36, hT, hel, e1', e2', hn1]
            clear e1' e2' hel
            have L0 : ∀ X Y, hget (([n + 5 + 1], X) :: ([n + 5], Y) :: H2) [0] = some (.cells [.int .i64 h.suspects, .lst (h.trials.map triV), .lst row, .map [1]] true 0) := fun X Y => by simp -implicitDefEqProofs only [redoH, redo1, go_sem, Int.reduceEq, Int.reduceNeg, Nat.reduceEqDiff, Nat.reduceLT, Nat.reduceAdd, Nat.reduceSub, Nat.reduceMul, Int.reduceLE, Int.reduceLT, Int.reduceToNat, Int.toNat_natCast, Nat.reduceLeDiff, Bool.not_true, Bool.not_false, r0]
            have L1 : ∀ X Y, hget (([n + 5 + 1], X) :: ([n + 5], Y) :: H2) [1] = some (.map es2 false) := fun X Y => by simp -implicitDefEqProofs only [redoH, redo1, go_sem, Int.reduceEq, Int.reduceNeg, Nat.reduceEqDiff, Nat.reduceLT, Nat.reduceAdd, Nat.reduceSub, Nat.reduceMul, Int.reduceLE, Int.reduceLT, Int.reduceToNat, Int.toNat_natCast, Nat.reduceLeDiff, Bool.not_true, Bool.not_false, r1]
            have L2 : ∀ X Y, hget (([n + 5 + 1], X) :: ([n + 5], Y) :: H2) [2] = some (.cells [.int .i64 0, .int .i64 0] true 0) := fun X Y => by simp -implicitDefEqProofs only [redoH, redo1, go_sem, Int.reduceEq, Int.reduceNeg, Nat.reduceEqDiff, Nat.reduceLT, Nat.reduceAdd, Nat.reduceSub, Nat.reduceMul, Int.reduceLE, Int.reduceLT, Int.reduceToNat, Int.toNat_natCast, Nat.reduceLeDiff, Bool.not_true, Bool.not_false, r2]
            have L4 : ∀ X Y, hget (([n + 5 + 1], X) :: ([n + 5], Y) :: H2) [4] = some (.cells [.int .i64 x.1, .int .i64 x.2] true 0) := fun X Y => by simp -implicitDefEqProofs only [redoH, redo1, go_sem, Int.reduceEq, Int.reduceNeg, Nat.reduceEqDiff, Nat.reduceLT, Nat.reduceAdd, Nat.reduceSub, Nat.reduceMul, Int.reduceLE, Int.reduceLT, Int.reduceToNat, Int.toNat_natCast, Nat.reduceLeDiff, Bool.not_true, Bool.not_false, r4]
            have P0 : ∀ X Y Z, hget (([n + 5 + 1], X) :: ([n + 5], Y) :: hset H2 [4] Z) [0] = some (.cells [.int .i64 h.suspects, .lst (h.trials.map triV), .lst row, .map [1]] true 0) := fun X Y Z => by simp -implicitDefEqProofs only [redoH, redo1, go_sem, Int.reduceEq, Int.reduceNeg, Nat.reduceEqDiff, Nat.reduceLT, Nat.reduceAdd, Nat.reduceSub, Nat.reduceMul, Int.reduceLE, Int.reduceLT, Int.reduceToNat, Int.toNat_natCast, Nat.reduceLeDiff, Bool.not_true, Bool.not_false]; rw [hget_hset_ne _ _ (by decide)]; exact r0
            have P1 : ∀ X Y Z, hget (([n + 5 + 1], X) :: ([n + 5], Y) :: hset H2 [4] Z) [1] = some (.map es2 false) := fun X Y Z => by simp -implicitDefEqProofs only [redoH, redo1, go_sem, Int.reduceEq, Int.reduceNeg, Nat.reduceEqDiff, Nat.reduceLT, Nat.reduceAdd, Nat.reduceSub, Nat.reduceMul, Int.reduceLE, Int.reduceLT, Int.reduceToNat, Int.toNat_natCast, Nat.reduceLeDiff, Bool.not_true, Bool.not_false]; rw [hget_hset_ne _ _ (by decide)]; exact r1
            have P2 : ∀ X Y Z, hget (([n + 5 + 1], X) :: ([n + 5], Y) :: hset H2 [4] Z) [2] = some (.cells [.int .i64 0, .int .i64 0] true 0) := fun X Y Z => by simp -implicitDefEqProofs only [redoH, redo1, go_sem, Int.reduceEq, Int.reduceNeg, Nat.reduceEqDiff, Nat.reduceLT, Nat.reduceAdd, Nat.reduceSub, Nat.reduceMul, Int.reduceLE, Int.reduceLT, Int.reduceToNat, Int.toNat_natCast, Nat.reduceLeDiff, Bool.not_true, Bool.not_false]; rw [hget_hset_ne _ _ (by decide)]; exact r2
            have P4 : ∀ X Y Z, hget (([n + 5 + 1], X) :: ([n + 5], Y) :: hset H2 [4] Z) [4] = some Z := fun X Y Z => by simp -implicitDefEqProofs only [redoH, redo1, go_sem, Int.reduceEq, Int.reduceNeg, Nat.reduceEqDiff, Nat.reduceLT, Nat.reduceAdd, Nat.reduceSub, Nat.reduceMul, Int.reduceLE, Int.reduceLT, Int.reduceToNat, Int.toNat_natCast, Nat.reduceLeDiff, Bool.not_true, Bool.not_false]; exact hget_hset_same _ r4
            by_cases f1 : A.1 < 0
            · rw [if_pos f1] at he
              simp -implicitDefEqProofs only [redoH, redo1, go_sem, Int.reduceEq, Int.reduceNeg, Nat.reduceEqDiff, Nat.reduceLT, Nat.reduceAdd, Nat.reduceSub, Nat.reduceMul, Int.reduceLE, Int.reduceLT, Int.reduceToNat, Int.toNat_natCast, Nat.reduceLeDiff, Bool.not_true, Bool.not_false, a0, a1, a4, a7, a34, a35, a36, hT, r0, r1, r2, r4, f1, hn1, hw1]
              exact ⟨h.trials.length - (i + 1), hk1, trivial, trivial, trivial, trivial, trivial, trivial, trivial, i + 1, n + 2, x, es2, _, [], rfl, rfl, hlt, rfl, L0 _ _, L1 _ _, L2 _ _, L4 _ _, hme2, hx1, hx2, he⟩
            · rw [if_neg f1] at he
              by_cases f2 : B.1 < 0
              · rw [if_pos f2] at he
                simp -implicitDefEqProofs only [redoH, redo1, go_sem, Int.reduceEq, Int.reduceNeg, Nat.reduceEqDiff, Nat.reduceLT, Nat.reduceAdd, Nat.reduceSub, Nat.reduceMul, Int.reduceLE, Int.reduceLT, Int.reduceToNat, Int.toNat_natCast, Nat.reduceLeDiff, Bool.not_true, Bool.not_false, a0, a1, a4, a7, a34, a35, a36, hT, r0, r1, r2, r4, f1, f2, hn1, hw1]
                exact ⟨h.trials.length - (i + 1), hk1, trivial, trivial, trivial, trivial, trivial, trivial, trivial, i + 1, n + 2, x, es2, _, [], rfl, rfl, hlt, rfl, L0 _ _, L1 _ _, L2 _ _, L4 _ _, hme2, hx1, hx2, he⟩
              · rw [if_neg f2] at he
                simp -implicitDefEqProofs only [redoH, redo1, go_sem, Int.reduceEq, Int.reduceNeg, Nat.reduceEqDiff, Nat.reduceLT, Nat.reduceAdd, Nat.reduceSub, Nat.reduceMul, Int.reduceLE, Int.reduceLT, Int.reduceToNat, Int.toNat_natCast, Nat.reduceLeDiff, Bool.not_true, Bool.not_false, a0, a1, a4, a7, a34, a35, a36, hT, r0, r1, r2, r4, f1, f2, hn1]
                simp only [does_bind]
                refine draw_mach [] [] (by kernel_rfl) ?_
                rw [max_def'] at he
                have hwA : wrapF .i64 (h.trials[i].cost + A.1) = h.trials[i].cost + A.1 := wrap_i64 (by omega) (by omega)
                have hwB : wrapF .i64 (h.trials[i].cost + B.1) = h.trials[i].cost + B.1 := wrap_i64 (by omega) (by omega)
                by_cases f3 : A.1 < B.1
                · rw [if_pos f3] at he
                  by_cases f4 : x.1 < 0
                  · rw [if_pos f4] at he
                    simp -implicitDefEqProofs only [redoH, redo1, go_sem, Int.reduceEq, Int.reduceNeg, Nat.reduceEqDiff, Nat.reduceLT, Nat.reduceAdd, Nat.reduceSub, Nat.reduceMul, Int.reduceLE, Int.reduceLT, Int.reduceToNat, Int.toNat_natCast, Nat.reduceLeDiff, Bool.not_true, Bool.not_false, a0, a1, a4, a7, a34, a35, a36, hT, r0, r1, r2, r4, f1, f2, f3, hn1, hel2, hwA, hwB, f4, hw1]
                    exact ⟨h.trials.length - (i + 1), hk1, trivial, trivial, trivial, trivial, trivial, trivial, trivial, i + 1, n + 3, (h.trials[i].cost + B.1, (i : Int)), es2, _, [], rfl, rfl, hlt, rfl, P0 _ _ _, P1 _ _ _, P2 _ _ _, P4 _ _ _, hme2, by simp only; omega, by simp only; omega, he⟩
                  · rw [if_neg f4] at he
                    by_cases f5 : h.trials[i].cost + B.1 < x.1
                    · rw [if_pos f5] at he
                      simp -implicitDefEqProofs only [redoH, redo1, go_sem, Int.reduceEq, Int.reduceNeg, Nat.reduceEqDiff, Nat.reduceLT, Nat.reduceAdd, Nat.reduceSub, Nat.reduceMul, Int.reduceLE, Int.reduceLT, Int.reduceToNat, Int.toNat_natCast, Nat.reduceLeDiff, Bool.not_true, Bool.not_false, a0, a1, a4, a7, a34, a35, a36, hT, r0, r1, r2, r4, f1, f2, f3, hn1, hel2, hwA, hwB, f4, f5, hw1]
                      exact ⟨h.trials.length - (i + 1), hk1, trivial, trivial, trivial, trivial, trivial, trivial, trivial, i + 1, n + 3, (h.trials[i].cost + B.1, (i : Int)), es2, _, [], rfl, rfl, hlt, rfl, P0 _ _ _, P1 _ _ _, P2 _ _ _, P4 _ _ _, hme2, by simp only; omega, by simp only; omega, he⟩
                    · rw [if_neg f5] at he
                      simp -implicitDefEqProofs only [redoH, redo1, go_sem, Int.reduceEq, Int.reduceNeg, Nat.reduceEqDiff, Nat.reduceLT, Nat.reduceAdd, Nat.reduceSub, Nat.reduceMul, Int.reduceLE, Int.reduceLT, Int.reduceToNat, Int.toNat_natCast, Nat.reduceLeDiff, Bool.not_true, Bool.not_false, a0, a1, a4, a7, a34, a35, a36, hT, r0, r1, r2, r4, f1, f2, f3, hn1, hel2, hwA, hwB, f4, f5, hw1]
                      exact ⟨h.trials.length - (i + 1), hk1, trivial, trivial, trivial, trivial, trivial, trivial, trivial, i + 1, n + 3, x, es2, _, [], rfl, rfl, hlt, rfl, L0 _ _, L1 _ _, L2 _ _, L4 _ _, hme2, hx1, hx2, he⟩
                · rw [if_neg f3] at he
                  by_cases f4 : x.1 < 0
                  · rw [if_pos f4] at he
                    simp -implicitDefEqProofs only [redoH, redo1, go_sem, Int.reduceEq, Int.reduceNeg, Nat.reduceEqDiff, Nat.reduceLT, Nat.reduceAdd, Nat.reduceSub, Nat.reduceMul, Int.reduceLE, Int.reduceLT, Int.reduceToNat, Int.toNat_natCast, Nat.reduceLeDiff, Bool.not_true, Bool.not_false, a0, a1, a4, a7, a34, a35, a36, hT, r0, r1, r2, r4, f1, f2, f3, hn1, hel2, hwA, hwB, f4, hw1]
                    exact ⟨h.trials.length - (i + 1), hk1, trivial, trivial, trivial, trivial, trivial, trivial, trivial, i + 1, n + 3, (h.trials[i].cost + A.1, (i : Int)), es2, _, [], rfl, rfl, hlt, rfl, P0 _ _ _, P1 _ _ _, P2 _ _ _, P4 _ _ _, hme2, by simp only; omega, by simp only; omega, he⟩
                  · rw [if_neg f4] at he
                    by_cases f5 : h.trials[i].cost + A.1 < x.1
                    · rw [if_pos f5] at he
                      simp -implicitDefEqProofs only [redoH, redo1, go_sem, Int.reduceEq, Int.reduceNeg, Nat.reduceEqDiff, Nat.reduceLT, Nat.reduceAdd, Nat.reduceSub, Nat.reduceMul, Int.reduceLE, Int.reduceLT, Int.reduceToNat, Int.toNat_natCast, Nat.reduceLeDiff, Bool.not_true, Bool.not_false, a0, a1, a4, a7, a34, a35, a36, hT, r0, r1, r2, r4, f1, f2, f3, hn1, hel2, hwA, hwB, f4, f5, hw1]
                      exact ⟨h.trials.length - (i + 1), hk1, trivial, trivial, trivial, trivial, trivial, trivial, trivial, i + 1, n + 3, (h.trials[i].cost + A.1, (i : Int)), es2, _, [], rfl, rfl, hlt, rfl, P0 _ _ _, P1 _ _ _, P2 _ _ _, P4 _ _ _, hme2, by simp only; omega, by simp only; omega, he⟩
                    · rw [if_neg f5] at he
                      simp -implicitDefEqProofs only [redoH, redo1, go_sem, Int.reduceEq, Int.reduceNeg, Nat.reduceEqDiff, Nat.reduceLT, Nat.reduceAdd, Nat.reduceSub, Nat.reduceMul, Int.reduceLE, Int.reduceLT, Int.reduceToNat, Int.toNat_natCast, Nat.reduceLeDiff, Bool.not_true, Bool.not_false, a0, a1, a4, a7, a34, a35, a36, hT, r0, r1, r2, r4, f1, f2, f3, hn1, hel2, hwA, hwB, f4, f5, hw1]
                      exact ⟨h.trials.length - (i + 1), hk1, trivial, trivial, trivial, trivial, trivial, trivial, trivial, i + 1, n + 3, x, es2, _, [], rfl, rfl, hlt, rfl, L0 _ _, L1 _ _, L2 _ _, L4 _ _, hme2, hx1, hx2, he⟩
      · have hil : i = h.trials.length := by omega
        subst hil
        rw [← hsl, List.drop_length] at he
        simp only [foldC] at he
        obtain ⟨es', hme', hu⟩ := update_memo h2 hme
        rw [he] at hu ⊢
        have hu' := hu [1] ⟨H, 0, [n + 5, 6], true, []⟩ g1
        simp only [chV] at hu'
        simp -implicitDefEqProofs only [redoH, redo1, go_sem, Int.reduceEq, Int.reduceNeg, Nat.reduceEqDiff, Nat.reduceLT, Nat.reduceAdd, Nat.reduceSub, Nat.reduceMul, Int.reduceLE, Int.reduceLT, Int.reduceToNat, Int.toNat_natCast, Nat.reduceLeDiff, Bool.not_true, Bool.not_false, a0, a1, a4, a7, a34, a35, a36, hT]
        simp only [does_bind]
        refine draw_mach [6] [6] (by kernel_rfl) ?_
        simp -implicitDefEqProofs only [redoH, redo1, go_sem, Int.reduceEq, Int.reduceNeg, Nat.reduceEqDiff, Nat.reduceLT, Nat.reduceAdd, Nat.reduceSub, Nat.reduceMul, Int.reduceLE, Int.reduceLT, Int.reduceToNat, Int.toNat_natCast, Nat.reduceLeDiff, Bool.not_true, Bool.not_false, a0, a1, a4, a7, a34, a35, a36, hT, g0, g1, g2, g4, hu', Try.results103]
        have v0 := (hget_hset_ne H (i := [1]) (j := [0]) (.map es' false) (by decide)).trans g0
        have v1 := hget_hset_same (.map es' false) g1
        have v2 := (hget_hset_ne H (i := [1]) (j := [2]) (.map es' false) (by decide)).trans g2
        have v4 := (hget_hset_ne H (i := [1]) (j := [4]) (.map es' false) (by decide)).trans g4
        generalize hset H [1] (.map es' false) = H' at *
        have z0 := fun Z => (hget_hset_ne H' (i := [2]) (j := [0]) Z (by decide)).trans v0
        have z1 := fun Z => (hget_hset_ne H' (i := [2]) (j := [1]) Z (by decide)).trans v1
        have z2 := fun Z => hget_hset_same Z v2
        simp -implicitDefEqProofs only [redoH, redo1, go_sem, Int.reduceEq, Int.reduceNeg, Nat.reduceEqDiff, Nat.reduceLT, Nat.reduceAdd, Nat.reduceSub, Nat.reduceMul, Int.reduceLE, Int.reduceLT, Int.reduceToNat, Int.toNat_natCast, Nat.reduceLeDiff, Bool.not_true, Bool.not_false, a0, a1, a4, a7, a34, a35, a36, hT, v0, v1, v2, v4, z0, z1, z2, Try.results103]
        exact ⟨rfl, trivial, es', rfl, memo_flat hme', hme'⟩
    · have hlk := fun (H : Heap) (n : Nat) (hg : hget H [1] = some (.map es false)) => look_some (b := [1]) (s := ⟨H, n, [], false, []⟩) hg hf
      simp only [chV] at hlk
      simp -implicitDefEqProofs only [redoH, redo1, go_sem, Int.reduceEq, Int.reduceNeg, Nat.reduceEqDiff, Nat.reduceLT, Nat.reduceAdd, Nat.reduceSub, Nat.reduceMul, Int.reduceLE, Int.reduceLT, Int.reduceToNat, Int.toNat_natCast, Nat.reduceLeDiff, Bool.not_true, Bool.not_false, a0, a1, hT, hc, c1, hlk, Try.results103]
      exact ⟨rfl, trivial, es, rfl, memo_flat hme, hme⟩
end Go.Proofs.Ytgnpnfkncbnjnaa
namespace Go.Proofs.Ytgnpnfkncbnjnaa
open Go Go.Am
attribute [local congr] tr_congr does_congr all_congr
theorem susp_in (many : Int) : ∀ (l : List Int) (last : Int), suspE many last l = 0 → ∀ n ∈ l, 0 ≤ n ∧ n ≤ many - 1 := by
  intro l
  induction l with
  | nil => intro _ _ n hn; cases hn
  | cons a l ih =>
    intro last he n hn
    simp only [suspE] at he
    by_cases c1 : fromB a 0 (many - 1) = true
    · rw [if_pos c1] at he
      unfold fromB at c1
      by_cases c2 : a ≤ last
      · rw [if_pos c2] at he; cases he
      · rw [if_neg c2] at he
        rcases List.mem_cons.1 hn with rfl | hn
        · exact of_decide_eq_true c1
        · exact ih _ he n hn
    · rw [if_neg c1] at he; cases he
theorem set_call (l : List Int) (K : Nat) (s : St) (hK : l.length < K) (hl : l.length ≤ 1000000000000) (h : ∀ n ∈ l, 0 ≤ n ∧ n ≤ 11) :
    acall cfg (K + 1) 125 [.lst (l.map iV)] s = .ret (.int .i64 (setN 0 l : Nat), s) := by
  refine call1 mget125 fget125 (by first | rfl | simp -implicitDefEqProofs only [redoH, redo1, go_sem, Int.reduceEq, Int.reduceNeg, Nat.reduceEqDiff, Nat.reduceLT, Nat.reduceAdd, Nat.reduceSub, Nat.reduceMul, Int.reduceLE, Int.reduceLT, Int.reduceToNat, Int.toNat_natCast, Nat.reduceLeDiff, Bool.not_true, Bool.not_false]) (by first | rfl | simp -implicitDefEqProofs only [redoH, redo1, go_sem, Int.reduceEq, Int.reduceNeg, Nat.reduceEqDiff, Nat.reduceLT, Nat.reduceAdd, Nat.reduceSub, Nat.reduceMul, Int.reduceLE, Int.reduceLT, Int.reduceToNat, Int.toNat_natCast, Nat.reduceLeDiff, Bool.not_true, Bool.not_false]) (by first | rfl | simp -implicitDefEqProofs only [redoH, redo1, go_sem, Int.reduceEq, Int.reduceNeg, Nat.reduceEqDiff, Nat.reduceLT, Nat.reduceAdd, Nat.reduceSub, Nat.reduceMul, Int.reduceLE, Int.reduceLT, Int.reduceToNat, Int.toNat_natCast, Nat.reduceLeDiff, Bool.not_true, Bool.not_false]) ?_
  refine body_does rfl fun T hT' hA => ?_
  have a0 := hA 0 _ rfl
  have hT : T.length = 19 := hT'
  clear hA hT'
  simp -implicitDefEqProofs only [redoH, redo1, go_sem, Int.reduceEq, Int.reduceNeg, Nat.reduceEqDiff, Nat.reduceLT, Nat.reduceAdd, Nat.reduceSub, Nat.reduceMul, Int.reduceLE, Int.reduceLT, Int.reduceToNat, Int.toNat_natCast, Nat.reduceLeDiff, Bool.not_true, Bool.not_false, a0, hT]
  simp only [does_bind]
  refine xl_does (fun k T s' => T.length = 19 ∧ nth T 0 = some (.lst (l.map iV)) ∧ s' = s0 ∧ ∃ (i m : Nat), nth T 4 = some (.int .i64 i) ∧ nth T 3 = some (.int .i64 m) ∧ i ≤ l.length ∧ k = l.length - i ∧ m < 4096 ∧ setN 0 l = setN m (l.drop i)) (k := l.length) (by omega) ?_ ?_
  · exact ⟨by simp -implicitDefEqProofs only [redoH, redo1, go_sem, Int.reduceEq, Int.reduceNeg, Nat.reduceEqDiff, Nat.reduceLT, Nat.reduceAdd, Nat.reduceSub, Nat.reduceMul, Int.reduceLE, Int.reduceLT, Int.reduceToNat, Int.toNat_natCast, Nat.reduceLeDiff, Bool.not_true, Bool.not_false, hT], by simp -implicitDefEqProofs only [redoH, redo1, go_sem, Int.reduceEq, Int.reduceNeg, Nat.reduceEqDiff, Nat.reduceLT, Nat.reduceAdd, Nat.reduceSub, Nat.reduceMul, Int.reduceLE, Int.reduceLT, Int.reduceToNat, Int.toNat_natCast, Nat.reduceLeDiff, Bool.not_true, Bool.not_false, a0], rfl, 0, 0, by simp -implicitDefEqProofs only [redoH, redo1, go_sem, Int.reduceEq, Int.reduceNeg, Nat.reduceEqDiff, Nat.reduceLT, Nat.reduceAdd, Nat.reduceSub, Nat.reduceMul, Int.reduceLE, Int.reduceLT, Int.reduceToNat, Int.toNat_natCast, Nat.reduceLeDiff, Bool.not_true, Bool.not_false, hT]; rfl, by simp -implicitDefEqProofs only [redoH, redo1, go_sem, Int.reduceEq, Int.reduceNeg, Nat.reduceEqDiff, Nat.reduceLT, Nat.reduceAdd, Nat.reduceSub, Nat.reduceMul, Int.reduceLE, Int.reduceLT, Int.reduceToNat, Int.toNat_natCast, Nat.reduceLeDiff, Bool.not_true, Bool.not_false, hT]; rfl, by omega, by omega, by omega, rfl⟩
  clear a0 hT
  rintro k T s' ⟨hT, a0, rfl, i, m, a4, a3, hi, rfl, hm, hs⟩
  simp -implicitDefEqProofs only [redoH, redo1, go_sem, Int.reduceEq, Int.reduceNeg, Nat.reduceEqDiff, Nat.reduceLT, Nat.reduceAdd, Nat.reduceSub, Nat.reduceMul, Int.reduceLE, Int.reduceLT, Int.reduceToNat, Int.toNat_natCast, Nat.reduceLeDiff, Bool.not_true, Bool.not_false, a0, a3, a4, hT]
  simp only [does_bind]
  refine does_if (fun hh => ?_) (fun hh => ?_)
  · have hlt : i < l.length := by omega
    have hw1 : wrapF .i64 ((i : Int) + 1) = ((i + 1 : Nat) : Int) := by rw [wrap_i64 (by omega) (by omega)]; simp
    have hel := elemAt_map (f := iV) (z := 1) hlt rfl
    have hin := h _ (List.getElem_mem hlt)
    have hc3 := hin.1
    have hk1 : l.length - (i + 1) < l.length - i := by omega
    have hp := pow_4096 l[i] (by omega)
    have hb := bitI l[i] (by omega) (by omega)
    rw [List.drop_eq_getElem_cons hlt] at hs
    simp only [setN, List.foldl_cons] at hs
    have hor := orI m (2 ^ l[i].toNat) hm hp
    simp -implicitDefEqProofs only [redoH, redo1, go_sem, Int.reduceEq, Int.reduceNeg, Nat.reduceEqDiff, Nat.reduceLT, Nat.reduceAdd, Nat.reduceSub, Nat.reduceMul, Int.reduceLE, Int.reduceLT, Int.reduceToNat, Int.toNat_natCast, Nat.reduceLeDiff, Bool.not_true, Bool.not_false, a0, a3, a4, hT, hel, hc3, hb, hor, hw1]
    exact ⟨l.length - (i + 1), hk1, trivial, trivial, trivial, i + 1, m ||| 2 ^ l[i].toNat, rfl, rfl, hlt, rfl, or_4096 _ _ hm hp, hs⟩
  · have hil : i = l.length := by omega
    subst hil
    rw [List.drop_length] at hs
    simp only [setN, List.foldl_nil] at hs
    simp -implicitDefEqProofs only [redoH, redo1, go_sem, Int.reduceEq, Int.reduceNeg, Nat.reduceEqDiff, Nat.reduceLT, Nat.reduceAdd, Nat.reduceSub, Nat.reduceMul, Int.reduceLE, Int.reduceLT, Int.reduceToNat, Int.toNat_natCast, Nat.reduceLeDiff, Bool.not_true, Bool.not_false, a0, a3, a4, hT, hs, setN, Try.results125]
theorem alone_nat (m : Nat) (h : m < 4096) : decide (andI m (wrapF .i64 ((m : Int) - 1)) = 0) = aloneB m := by
  have h0 : aloneB m = decide (m &&& (m - 1) = 0) := by
    unfold aloneB
    cases hb : Nat.beq (m &&& (m - 1)) 0 with
    | true => exact (decide_eq_true (Nat.eq_of_beq_eq_true hb)).symm
    | false => exact (decide_eq_false (Nat.ne_of_beq_eq_false hb)).symm
  rw [h0]
  rcases Nat.eq_zero_or_pos m with rfl | hm
  · rfl
  · have hw : wrapF .i64 ((m : Int) - 1) = ((m - 1 : Nat) : Int) := by rw [wrap_i64 (by omega) (by omega)]; omega
    rw [hw]
    unfold andI
    rw [ib_i m h, ib_i (m - 1) (by omega)]
    have hl : Nat.land m (m - 1) = m &&& (m - 1) := rfl
    rw [hl, wr_i _ (and_4096 m (m - 1) h)]
    have hi : (((m &&& (m - 1) : Nat) : Int) = 0) = (m &&& (m - 1) = 0) := by
      generalize m &&& (m - 1) = k
      exact propext (by omega)
    simp only [hi]
theorem ralone_call (m : Nat) (h : m < 4096) (K : Nat) (s : St) : acall cfg (K + 1) 128 [.int .i64 m] s = .ret (.bool (aloneB m), s) := by
  rw [alone_call, alone_nat m h]
theorem rep_map : ∀ n, repeatN [AV.int .i64 0] n = (List.replicate n (0 : Int)).map iV
  | 0 => rfl
  | n + 1 => by rw [repeatN, rep_map n, List.replicate_succ]; rfl
theorem nth_map_i : ∀ (l : List Int) (i : Nat) (h : i < l.length), nth (l.map iV) i = some (.int .i64 l[i])
  | [], i, h => by simp at h
  | a :: l, 0, h => rfl
  | a :: l, i + 1, h => nth_map_i l i (by simpa using h)
theorem setNth_map_i : ∀ (l : List Int) (i : Nat) (x : Int), setNth (l.map iV) i (.int .i64 x) = (l.set i x).map iV
  | [], i, x => by cases i <;> rfl
  | a :: l, 0, x => rfl
  | a :: l, i + 1, x => by
    show iV a :: setNth (l.map iV) i (.int .i64 x) = _
    rw [setNth_map_i l i x]; rfl
/-- A table over all sets. -/
def tableN (n : Nat) (f : Nat → Int) : List Int := (List.range n).map f
end Go.Proofs.Ytgnpnfkncbnjnaa
namespace Go.Proofs.Ytgnpnfkncbnjnaa
open Go Go.Am
attribute [local congr] tr_congr does_congr all_congr
theorem freeze_ints (H : Heap) (d : Nat) : ∀ l : List Int, freezeD H (d + 1) (l.map iV) = some (l.map iV)
  | [] => rfl
  | a :: l => by
    have h := freeze_ints H d l
    show (match freezeGs (freezeD H d) H (l.map iV) with | some l => some (iV a :: l) | none => none) = _
    rw [show freezeGs (freezeD H d) H (l.map iV) = freezeD H (d + 1) (l.map iV) from rfl, h]; rfl
theorem read_ints (l : List Int) (n : Nat) (h : l.length = n) : readN (l.map iV) 0 (n * 1) = some (l.map iV) := by
  have e := readN_at [] (l.map iV) []
  simpa [h] using e
theorem rows_ints (l : List Int) (n : Nat) (h : l.length = n) : rowsA 1 n (l.map iV) = l.map iV := by
  have e := rowsA_cells (g := fun a => [iV a]) (z := 1) (f := iV) (fun _ => rfl) (fun _ => rfl) l
  have h0 : ∀ l : List Int, l.flatMap (fun a => [iV a]) = l.map iV := by intro l; induction l <;> simp_all
  rw [h0 l, h] at e
  exact e
theorem write_call (h : Hnt) (hh : huntE h = 0) (K : Nat) (s : St) (hK : 5000 < K) (ho : h.Ok K) :
    acall cfg (K + 3) 124 [hntV h] s = .ret (.agg [.lst ((tableN (2 ^ h.suspects.toNat) fun k => (bestS (setsOf h) k).1).map iV), .lst ((tableN (2 ^ h.suspects.toNat) fun k => (bestS (setsOf h) k).2).map iV)], s) := by
  obtain ⟨hs1, hs2, hlen, htr⟩ := hunt_ok hh
  refine call1 mget124 fget124 (by first | rfl | simp -implicitDefEqProofs only [redoH, redo1, go_sem, Int.reduceEq, Int.reduceNeg, Nat.reduceEqDiff, Nat.reduceLT, Nat.reduceAdd, Nat.reduceSub, Nat.reduceMul, Int.reduceLE, Int.reduceLT, Int.reduceToNat, Int.toNat_natCast, Nat.reduceLeDiff, Bool.not_true, Bool.not_false]) (by first | rfl | simp -implicitDefEqProofs only [redoH, redo1, go_sem, Int.reduceEq, Int.reduceNeg, Nat.reduceEqDiff, Nat.reduceLT, Nat.reduceAdd, Nat.reduceSub, Nat.reduceMul, Int.reduceLE, Int.reduceLT, Int.reduceToNat, Int.toNat_natCast, Nat.reduceLeDiff, Bool.not_true, Bool.not_false]) (by first | rfl | simp -implicitDefEqProofs only [redoH, redo1, go_sem, Int.reduceEq, Int.reduceNeg, Nat.reduceEqDiff, Nat.reduceLT, Nat.reduceAdd, Nat.reduceSub, Nat.reduceMul, Int.reduceLE, Int.reduceLT, Int.reduceToNat, Int.toNat_natCast, Nat.reduceLeDiff, Bool.not_true, Bool.not_false]) ?_
  refine body_does rfl fun T hT' hA => ?_
  have a0 := hA 0 _ rfl
  have hT : T.length = 120 := hT'
  clear hA hT'
  have hs0 : 0 ≤ h.suspects := by omega
  have hb := bitI h.suspects hs0 (by omega)
  simp -implicitDefEqProofs only [redoH, redo1, go_sem, Int.reduceEq, Int.reduceNeg, Nat.reduceEqDiff, Nat.reduceLT, Nat.reduceAdd, Nat.reduceSub, Nat.reduceMul, Int.reduceLE, Int.reduceLT, Int.reduceToNat, Int.toNat_natCast, Nat.reduceLeDiff, Bool.not_true, Bool.not_false, a0, hT]
  have hN : 2 ^ h.suspects.toNat ≤ 4096 := by
    have h12 : (2 : Nat) ^ h.suspects.toNat ≤ 2 ^ 12 := Nat.pow_le_pow_right (by decide) (by omega)
    exact h12
  generalize 2 ^ h.suspects.toNat = N at *
  have hd1 : (0 ≤ (N : Int)) = True := by simp
  have hd2 : ((N : Int) ≤ (N : Int)) = True := by simp
  have hd3 : (N * 8).ble 281474976710656 = true := Nat.ble_eq_true_of_le (by omega)
  have hd4 : N.ble 9223372036854775807 = true := Nat.ble_eq_true_of_le (by omega)
  simp only [does_bind]
  refine draw_machH [[], [0], [1, 0], [2, 1, 0], [], [4], [5, 4], [6, 5, 4], [3, 2, 1, 0, 7, 6, 5, 4], [], [8, 3, 2, 1, 0, 7, 6, 5, 4, 9]] [10] (by kernel_rfl) (by kernel_rfl) ?_
  have o1 : ∀ x, oldIds [2, 3] [([2, 3, 0], x)] = [] := fun _ => rfl
  have o2 : ∀ x, oldIds [2, 7] [([2, 7, 0], x)] = [] := fun _ => rfl
  have o3 : ∀ x, oldIds [2, 9] [([2, 9, 0], x)] = [] := fun _ => rfl
  simp -implicitDefEqProofs only [redoH, redo1, go_sem, Int.reduceEq, Int.reduceNeg, Nat.reduceEqDiff, Nat.reduceLT, Nat.reduceAdd, Nat.reduceSub, Nat.reduceMul, Int.reduceLE, Int.reduceLT, Int.reduceToNat, Int.toNat_natCast, Nat.reduceLeDiff, Bool.not_true, Bool.not_false, a0, hT, hs0, hb, hd1, hd2, hd3, hd4, o1, o2, o3, rep_map]
  simp only [does_bind]
  refine xl_does (fun k T s' => T.length = 120 ∧ nth T 1 = some (.ptr [0] 0) ∧ nth T 2 = some (.ptr [1] 0) ∧ nth T 3 = some (.ptr [2, 9, 0] 0) ∧ ∃ (i n : Nat) (A B : List Int), nth T 4 = some (.int .i64 i) ∧ i ≤ N ∧ k = N - i ∧ A.length = N ∧ B.length = N ∧ s' = ⟨[([2, 9, 0], .cells [.slice [2, 3, 0] 0 N N true, .slice [2, 7, 0] 0 N N true] true 0), ([2, 7, 0], .cells (B.map iV) true 1), ([2, 3, 0], .cells (A.map iV) true 1), ([1], .cells [.nils, .nils] true 0), ([0], .cells [.int .i64 h.suspects, .lst (h.trials.map triV)] true 0)], n + 3, [], false, []⟩ ∧
    (∀ k (hk : k < A.length), k < i → A[k] = (bestS (setsOf h) k).1) ∧ (∀ k (hk : k < B.length), k < i → B[k] = (bestS (setsOf h) k).2) ∧ (∀ k (hk : k < A.length), i ≤ k → A[k] = 0)) (k := N) (by omega) ?_ ?_
  · exact ⟨by simp -implicitDefEqProofs only [redoH, redo1, go_sem, Int.reduceEq, Int.reduceNeg, Nat.reduceEqDiff, Nat.reduceLT, Nat.reduceAdd, Nat.reduceSub, Nat.reduceMul, Int.reduceLE, Int.reduceLT, Int.reduceToNat, Int.toNat_natCast, Nat.reduceLeDiff, Bool.not_true, Bool.not_false, hT], by simp -implicitDefEqProofs only [redoH, redo1, go_sem, Int.reduceEq, Int.reduceNeg, Nat.reduceEqDiff, Nat.reduceLT, Nat.reduceAdd, Nat.reduceSub, Nat.reduceMul, Int.reduceLE, Int.reduceLT, Int.reduceToNat, Int.toNat_natCast, Nat.reduceLeDiff, Bool.not_true, Bool.not_false, hT], by simp -implicitDefEqProofs only [redoH, redo1, go_sem, Int.reduceEq, Int.reduceNeg, Nat.reduceEqDiff, Nat.reduceLT, Nat.reduceAdd, Nat.reduceSub, Nat.reduceMul, Int.reduceLE, Int.reduceLT, Int.reduceToNat, Int.toNat_natCast, Nat.reduceLeDiff, Bool.not_true, Bool.not_false, hT], by simp -implicitDefEqProofs only [redoH, redo1, go_sem, Int.reduceEq, Int.reduceNeg, Nat.reduceEqDiff, Nat.reduceLT, Nat.reduceAdd, Nat.reduceSub, Nat.reduceMul, Int.reduceLE, Int.reduceLT, Int.reduceToNat, Int.toNat_natCast, Nat.reduceLeDiff, Bool.not_true, Bool.not_false, hT], 0, 0, List.replicate N 0, List.replicate N 0, by simp -implicitDefEqProofs only [redoH, redo1, go_sem, Int.reduceEq, Int.reduceNeg, Nat.reduceEqDiff, Nat.reduceLT, Nat.reduceAdd, Nat.reduceSub, Nat.reduceMul, Int.reduceLE, Int.reduceLT, Int.reduceToNat, Int.toNat_natCast, Nat.reduceLeDiff, Bool.not_true, Bool.not_false, hT]; rfl, by omega, rfl, by simp, by simp, rfl, by simp, by simp, by simp⟩
  clear a0 hT hb
  rintro k T s' ⟨hT, a1, a2, a3, i, n, A, B, a4, hi, rfl, hA, hB, rfl, hdA, hdB, hdZ⟩
  simp -implicitDefEqProofs only [redoH, redo1, go_sem, Int.reduceEq, Int.reduceNeg, Nat.reduceEqDiff, Nat.reduceLT, Nat.reduceAdd, Nat.reduceSub, Nat.reduceMul, Int.reduceLE, Int.reduceLT, Int.reduceToNat, Int.toNat_natCast, Nat.reduceLeDiff, Bool.not_true, Bool.not_false, a1, a2, a3, a4, hT]
  simp only [does_bind]
  refine does_if (fun hlo => ?_) (fun hlo => ?_)
  · have hlt : i < N := by omega
    have hw1 : wrapF .i64 ((i : Int) + 1) = ((i + 1 : Nat) : Int) := by rw [wrap_i64 (by omega) (by omega)]; simp
    have hin : inR (i : Int) N = some i := inR_of hlt
    have hal := fun s => ralone_call i (Nat.lt_of_lt_of_le hlt hN) (K + 1) s
    have hgB := nth_map_i B i (by omega)
    simp -implicitDefEqProofs only [redoH, redo1, go_sem, Int.reduceEq, Int.reduceNeg, Nat.reduceEqDiff, Nat.reduceLT, Nat.reduceAdd, Nat.reduceSub, Nat.reduceMul, Int.reduceLE, Int.reduceLT, Int.reduceToNat, Int.toNat_natCast, Nat.reduceLeDiff, Bool.not_true, Bool.not_false, a1, a2, a3, a4, hT, hin, hal, Nat.mul_one, hgB, setNth_map_i]
    have hbs := bestS_eq (setsOf h) i (Nat.lt_of_lt_of_le hlt hN)
    have hk1 : N - (i + 1) < N - i := by omega
    by_cases c1 : aloneB i = true
    · rw [if_pos c1] at hbs
      simp -implicitDefEqProofs only [redoH, redo1, go_sem, Int.reduceEq, Int.reduceNeg, Nat.reduceEqDiff, Nat.reduceLT, Nat.reduceAdd, Nat.reduceSub, Nat.reduceMul, Int.reduceLE, Int.reduceLT, Int.reduceToNat, Int.toNat_natCast, Nat.reduceLeDiff, Bool.not_true, Bool.not_false, a1, a2, a3, a4, hT, c1, hw1]
      refine ⟨N - (i + 1), hk1, trivial, trivial, trivial, trivial, i + 1, n, A, B.set i (-1), rfl, hlt, rfl, hA, by simp [hB], rfl, ?_, ?_, ?_⟩
      · intro k hk hki
        rcases Nat.lt_or_eq_of_le (Nat.le_of_lt_succ hki) with h1 | h1
        · exact hdA k hk h1
        · subst h1; rw [hbs]; exact hdZ k hk (Nat.le_refl k)
      · intro k hk hki
        rw [List.getElem_set]
        split
        · rename_i h1; subst h1; rw [hbs]
        · exact hdB k (by simpa using hk) (by omega)
      · intro k hk hki
        exact hdZ k hk (by omega)
    · rw [if_neg c1] at hbs
      have hgA := nth_map_i A i (by omega)
      simp -implicitDefEqProofs only [redoH, redo1, go_sem, Int.reduceEq, Int.reduceNeg, Nat.reduceEqDiff, Nat.reduceLT, Nat.reduceAdd, Nat.reduceSub, Nat.reduceMul, Int.reduceLE, Int.reduceLT, Int.reduceToNat, Int.toNat_natCast, Nat.reduceLeDiff, Bool.not_true, Bool.not_false, a1, a2, a3, a4, hT, hin, c1, hgA, Nat.mul_one, setNth_map_i]
      simp only [does_bind]
      refine xl_does (fun k T s' => T.length = 120 ∧ nth T 1 = some (.ptr [0] 0) ∧ nth T 2 = some (.ptr [1] 0) ∧ nth T 3 = some (.ptr [2, 9, 0] 0) ∧ nth T 4 = some (.int .i64 i) ∧ ∃ (j n : Nat) (x : Int × Int), nth T 5 = some (.int .i64 j) ∧ j ≤ h.trials.length ∧ k = h.trials.length - j ∧ s' = ⟨[([2, 9, 0], .cells [.slice [2, 3, 0] 0 N N true, .slice [2, 7, 0] 0 N N true] true 0), ([2, 7, 0], .cells ((B.set i x.2).map iV) true 1), ([2, 3, 0], .cells ((A.set i x.1).map iV) true 1), ([1], .cells [.nils, .nils] true 0), ([0], .cells [.int .i64 h.suspects, .lst (h.trials.map triV)] true 0)], n + 3, [], false, []⟩ ∧
        bestS (setsOf h) i = foldC (bestS (setsOf h)) i x j ((setsOf h).drop j) ∧ -1 ≤ x.1 ∧ x.1 ≤ 1000 * i) (k := h.trials.length) (by omega) ?_ ?_
      · exact ⟨by simp -implicitDefEqProofs only [redoH, redo1, go_sem, Int.reduceEq, Int.reduceNeg, Nat.reduceEqDiff, Nat.reduceLT, Nat.reduceAdd, Nat.reduceSub, Nat.reduceMul, Int.reduceLE, Int.reduceLT, Int.reduceToNat, Int.toNat_natCast, Nat.reduceLeDiff, Bool.not_true, Bool.not_false, hT], by simp -implicitDefEqProofs only [redoH, redo1, go_sem, Int.reduceEq, Int.reduceNeg, Nat.reduceEqDiff, Nat.reduceLT, Nat.reduceAdd, Nat.reduceSub, Nat.reduceMul, Int.reduceLE, Int.reduceLT, Int.reduceToNat, Int.toNat_natCast, Nat.reduceLeDiff, Bool.not_true, Bool.not_false, a1], by simp -implicitDefEqProofs only [redoH, redo1, go_sem, Int.reduceEq, Int.reduceNeg, Nat.reduceEqDiff, Nat.reduceLT, Nat.reduceAdd, Nat.reduceSub, Nat.reduceMul, Int.reduceLE, Int.reduceLT, Int.reduceToNat, Int.toNat_natCast, Nat.reduceLeDiff, Bool.not_true, Bool.not_false, a2], by simp -implicitDefEqProofs only [redoH, redo1, go_sem, Int.reduceEq, Int.reduceNeg, Nat.reduceEqDiff, Nat.reduceLT, Nat.reduceAdd, Nat.reduceSub, Nat.reduceMul, Int.reduceLE, Int.reduceLT, Int.reduceToNat, Int.toNat_natCast, Nat.reduceLeDiff, Bool.not_true, Bool.not_false, a3], by simp -implicitDefEqProofs only [redoH, redo1, go_sem, Int.reduceEq, Int.reduceNeg, Nat.reduceEqDiff, Nat.reduceLT, Nat.reduceAdd, Nat.reduceSub, Nat.reduceMul, Int.reduceLE, Int.reduceLT, Int.reduceToNat, Int.toNat_natCast, Nat.reduceLeDiff, Bool.not_true, Bool.not_false, a4], 0, n, (-1, -1), by simp -implicitDefEqProofs only [redoH, redo1, go_sem, Int.reduceEq, Int.reduceNeg, Nat.reduceEqDiff, Nat.reduceLT, Nat.reduceAdd, Nat.reduceSub, Nat.reduceMul, Int.reduceLE, Int.reduceLT, Int.reduceToNat, Int.toNat_natCast, Nat.reduceLeDiff, Bool.not_true, Bool.not_false, hT]; rfl, by omega, rfl, rfl, hbs, by simp only; omega, by simp only; omega⟩
      clear a1 a2 a3 a4 hT
      rintro k T s' ⟨hT, a1, a2, a3, a4, j, n, x, a5, hj, rfl, rfl, he, hx1, hx2⟩
      simp -implicitDefEqProofs only [redoH, redo1, go_sem, Int.reduceEq, Int.reduceNeg, Nat.reduceEqDiff, Nat.reduceLT, Nat.reduceAdd, Nat.reduceSub, Nat.reduceMul, Int.reduceLE, Int.reduceLT, Int.reduceToNat, Int.toNat_natCast, Nat.reduceLeDiff, Bool.not_true, Bool.not_false, a1, a2, a3, a4, a5, hT]
      simp only [does_bind]
      refine does_if (fun hli => ?_) (fun hli => ?_)
      · have hj' : j < h.trials.length := by omega
        have hjs : j < (setsOf h).length := by simp [setsOf]; omega
        have hk2 : h.trials.length - (j + 1) < h.trials.length - j := by omega
        have hw2 : wrapF .i64 ((j : Int) + 1) = ((j + 1 : Nat) : Int) := by rw [wrap_i64 (by omega) (by omega)]; simp
        have hi4 : i < 4096 := Nat.lt_of_lt_of_le hlt hN
        have hAi : i < (A.set i x.1).length := by simp [hA, hlt]
        have hBi : i < (B.set i x.2).length := by simp [hB, hlt]
        have hz0 : ∀ k : Nat, k = 0 → (k : Int) = 0 := fun k hk => by omega
        have hz1 : ∀ k : Nat, ¬ k = 0 → ¬ (k : Int) = 0 := fun k hk => by omega
        have hel2 := elemAt_map (f := triV) (z := 2) hj' rfl
        have hsc := fun s => set_call h.trials[j].of (K + 1) s (by have := (ho.2 _ (List.getElem_mem hj')).1; omega) (ho.2 _ (List.getElem_mem hj')).2 (fun n hn => by
          have := susp_in h.suspects h.trials[j].of (-1) (htr _ (List.getElem_mem hj')).1 n hn
          omega)
        have hsi : (setsOf h)[j] = (setN 0 h.trials[j].of, h.trials[j].cost) := by simp [setsOf]
        obtain ⟨ho4, hc0, hc1⟩ := sets_ok hh _ (List.getElem_mem hjs)
        rw [hsi] at ho4 hc0 hc1
        rw [List.drop_eq_getElem_cons hjs, hsi] at he
        simp only [foldC, stepC] at he ho4 hc0 hc1
        generalize setN 0 h.trials[j].of = o at *
        have hI := in_lt i o hi4
        have hR := rest_lt i o hi4
        have hand : wrapF .i64 ((Nat.land (ib .i64 (i : Int)) (ib .i64 (o : Int)) : Nat) : Int) = ((i &&& o : Nat) : Int) := by rw [ib_i i hi4, ib_i o ho4]; exact wr_i _ (and_4096 i o hi4)
        have hrest : wrapF .i64 ((Nat.land (ib .i64 (i : Int)) (Nat.xor (ib .i64 ((i &&& o : Nat) : Int)) (ones .i64)) : Nat) : Int) = ((restN i o : Nat) : Int) := by
          rw [ib_i i hi4, ib_i _ (and_4096 i o hi4)]
          have : Nat.land i (Nat.xor (i &&& o) (ones .i64)) = restN i o := (rest_64 i _ hi4).trans (rest_in i o hi4)
          rw [this]; exact wr_i _ (Nat.lt_of_le_of_lt (rest_le i o) hi4)
        generalize i &&& o = I at *
        generalize restN i o = R at *
        simp -implicitDefEqProofs only [redoH, redo1, go_sem, Int.reduceEq, Int.reduceNeg, Nat.reduceEqDiff, Nat.reduceLT, Nat.reduceAdd, Nat.reduceSub, Nat.reduceMul, Int.reduceLE, Int.reduceLT, Int.reduceToNat, Int.toNat_natCast, Nat.reduceLeDiff, Bool.not_true, Bool.not_false, a1, a2, a3, a4, a5, hT, hel2, hsc, hand, hrest]
        clear hand hrest hsc
        by_cases d1 : I = 0
        · have d1' : (I : Int) = 0 := hz0 _ d1
          rw [if_pos d1] at he
          simp -implicitDefEqProofs only [redoH, redo1, go_sem, Int.reduceEq, Int.reduceNeg, Nat.reduceEqDiff, Nat.reduceLT, Nat.reduceAdd, Nat.reduceSub, Nat.reduceMul, Int.reduceLE, Int.reduceLT, Int.reduceToNat, Int.toNat_natCast, Nat.reduceLeDiff, Bool.not_true, Bool.not_false, a1, a2, a3, a4, a5, hT, d1', hw2]
          exact ⟨h.trials.length - (j + 1), hk2, trivial, trivial, trivial, trivial, trivial, j + 1, n, x, rfl, hj', rfl, rfl, he, hx1, hx2⟩
        · have d1' : ¬ (I : Int) = 0 := hz1 _ d1
          rw [if_neg d1] at he
          by_cases d2 : R = 0
          · have d2' : (R : Int) = 0 := hz0 _ d2
            rw [if_pos d2] at he
            simp -implicitDefEqProofs only [redoH, redo1, go_sem, Int.reduceEq, Int.reduceNeg, Nat.reduceEqDiff, Nat.reduceLT, Nat.reduceAdd, Nat.reduceSub, Nat.reduceMul, Int.reduceLE, Int.reduceLT, Int.reduceToNat, Int.toNat_natCast, Nat.reduceLeDiff, Bool.not_true, Bool.not_false, a1, a2, a3, a4, a5, hT, d1', d2', hw2]
            exact ⟨h.trials.length - (j + 1), hk2, trivial, trivial, trivial, trivial, trivial, j + 1, n, x, rfl, hj', rfl, rfl, he, hx1, hx2⟩
          · have d2' : ¬ (R : Int) = 0 := hz1 _ d2
            rw [if_neg d2] at he
            have hI1 := hI d2
            have hR1 := hR d1
            clear hI hR hz0 hz1
            have rI := best_range (setsOf h) (fun t ht => (sets_ok hh t ht).2) I (by omega)
            have rR := best_range (setsOf h) (fun t ht => (sets_ok hh t ht).2) R (by omega)
            have hgI : nth ((A.set i x.1).map iV) I = some (.int .i64 (bestS (setsOf h) I).1) := by
              rw [nth_map_i _ I (by simp [hA]; omega), List.getElem_set_ne (by omega), hdA I _ hI1]
            have hgR : nth ((A.set i x.1).map iV) R = some (.int .i64 (bestS (setsOf h) R).1) := by
              rw [nth_map_i _ R (by simp [hA]; omega), List.getElem_set_ne (by omega), hdA R _ hR1]
            have hgAi : nth ((A.set i x.1).map iV) i = some (.int .i64 x.1) := by rw [nth_map_i _ i hAi, List.getElem_set_self]
            have hgBi : nth ((B.set i x.2).map iV) i = some (.int .i64 x.2) := by rw [nth_map_i _ i hBi, List.getElem_set_self]
            have hinI : inR (I : Int) N = some I := inR_of (by omega)
            have hinR : inR (R : Int) N = some R := inR_of (by omega)
            generalize bestS (setsOf h) I = C1 at *
            generalize bestS (setsOf h) R = C2 at *
            by_cases f1 : C1.1 < 0
            · rw [if_pos f1] at he
              simp -implicitDefEqProofs only [redoH, redo1, go_sem, Int.reduceEq, Int.reduceNeg, Nat.reduceEqDiff, Nat.reduceLT, Nat.reduceAdd, Nat.reduceSub, Nat.reduceMul, Int.reduceLE, Int.reduceLT, Int.reduceToNat, Int.toNat_natCast, Nat.reduceLeDiff, Bool.not_true, Bool.not_false, a1, a2, a3, a4, a5, hT, d1', d2', hinI, hgI, f1, Nat.mul_one, hw2]
              exact ⟨h.trials.length - (j + 1), hk2, trivial, trivial, trivial, trivial, trivial, j + 1, n, x, rfl, hj', rfl, rfl, he, hx1, hx2⟩
            · rw [if_neg f1] at he
              by_cases f2 : C2.1 < 0
              · rw [if_pos f2] at he
                simp -implicitDefEqProofs only [redoH, redo1, go_sem, Int.reduceEq, Int.reduceNeg, Nat.reduceEqDiff, Nat.reduceLT, Nat.reduceAdd, Nat.reduceSub, Nat.reduceMul, Int.reduceLE, Int.reduceLT, Int.reduceToNat, Int.toNat_natCast, Nat.reduceLeDiff, Bool.not_true, Bool.not_false, a1, a2, a3, a4, a5, hT, d1', d2', hinI, hgI, f1, hinR, hgR, f2, Nat.mul_one, hw2]
                exact ⟨h.trials.length - (j + 1), hk2, trivial, trivial, trivial, trivial, trivial, j + 1, n, x, rfl, hj', rfl, rfl, he, hx1, hx2⟩
              · rw [if_neg f2] at he
                simp -implicitDefEqProofs only [redoH, redo1, go_sem, Int.reduceEq, Int.reduceNeg, Nat.reduceEqDiff, Nat.reduceLT, Nat.reduceAdd, Nat.reduceSub, Nat.reduceMul, Int.reduceLE, Int.reduceLT, Int.reduceToNat, Int.toNat_natCast, Nat.reduceLeDiff, Bool.not_true, Bool.not_false, a1, a2, a3, a4, a5, hT, d1', d2', hinI, hgI, f1, hinR, hgR, f2, Nat.mul_one]
                simp only [does_bind]
                refine draw_mach [] [] (by kernel_rfl) ?_
                rw [max_def'] at he
                have hwA : wrapF .i64 (h.trials[j].cost + C1.1) = h.trials[j].cost + C1.1 := wrap_i64 (by omega) (by omega)
                have hwB : wrapF .i64 (h.trials[j].cost + C2.1) = h.trials[j].cost + C2.1 := wrap_i64 (by omega) (by omega)
                by_cases f3 : C1.1 < C2.1
                · rw [if_pos f3] at he
                  by_cases f4 : x.1 < 0
                  · rw [if_pos f4] at he
                    simp -implicitDefEqProofs only [redoH, redo1, go_sem, Int.reduceEq, Int.reduceNeg, Nat.reduceEqDiff, Nat.reduceLT, Nat.reduceAdd, Nat.reduceSub, Nat.reduceMul, Int.reduceLE, Int.reduceLT, Int.reduceToNat, Int.toNat_natCast, Nat.reduceLeDiff, Bool.not_true, Bool.not_false, a1, a2, a3, a4, a5, hT, hel2, hinI, hgI, hinR, hgR, hin, hgAi, Nat.mul_one, f3, hwB, f4]
                    simp only [does_bind]
                    refine draw_machX [[], [0], [], [], [3], [], [], [], [1, 0, 2, 6], [8, 1, 0, 2, 6], [4, 3, 5, 7, 9, 8, 1, 0, 2, 6], [10, 4, 3, 5, 7, 9, 8, 1, 0, 2, 6]] [[], [], [], [], [], [], [], [], [], [[2, 3, 0]], [], [[2, 7, 0]]] (by kernel_rfl) rfl rfl ?_
                    simp -implicitDefEqProofs only [redoH, redo1, go_sem, Int.reduceEq, Int.reduceNeg, Nat.reduceEqDiff, Nat.reduceLT, Nat.reduceAdd, Nat.reduceSub, Nat.reduceMul, Int.reduceLE, Int.reduceLT, Int.reduceToNat, Int.toNat_natCast, Nat.reduceLeDiff, Bool.not_true, Bool.not_false, a1, a2, a3, a4, a5, hT, hel2, hinI, hgI, hinR, hgR, hin, hgAi, Nat.mul_one, f3, hwB, f4, hgBi, setNth_map_i, List.set_set, hw2]
                    exact ⟨h.trials.length - (j + 1), hk2, trivial, trivial, trivial, trivial, trivial, j + 1, n + 2, (h.trials[j].cost + C2.1, (j : Int)), rfl, hj', rfl, rfl, he, by simp only; omega, by simp only; omega⟩
                  · rw [if_neg f4] at he
                    by_cases f5 : h.trials[j].cost + C2.1 < x.1
                    · rw [if_pos f5] at he
                      simp -implicitDefEqProofs only [redoH, redo1, go_sem, Int.reduceEq, Int.reduceNeg, Nat.reduceEqDiff, Nat.reduceLT, Nat.reduceAdd, Nat.reduceSub, Nat.reduceMul, Int.reduceLE, Int.reduceLT, Int.reduceToNat, Int.toNat_natCast, Nat.reduceLeDiff, Bool.not_true, Bool.not_false, a1, a2, a3, a4, a5, hT, hel2, hinI, hgI, hinR, hgR, hin, hgAi, Nat.mul_one, f3, hwB, f4, f5]
                      simp only [does_bind]
                      refine draw_machX [[], [0], [], [], [3], [], [], [], [1, 0, 2, 6], [8, 1, 0, 2, 6], [4, 3, 5, 7, 9, 8, 1, 0, 2, 6], [10, 4, 3, 5, 7, 9, 8, 1, 0, 2, 6]] [[], [], [], [], [], [], [], [], [], [[2, 3, 0]], [], [[2, 7, 0]]] (by kernel_rfl) rfl rfl ?_
                      simp -implicitDefEqProofs only [redoH, redo1, go_sem, Int.reduceEq, Int.reduceNeg, Nat.reduceEqDiff, Nat.reduceLT, Nat.reduceAdd, Nat.reduceSub, Nat.reduceMul, Int.reduceLE, Int.reduceLT, Int.reduceToNat, Int.toNat_natCast, Nat.reduceLeDiff, Bool.not_true, Bool.not_false, a1, a2, a3, a4, a5, hT, hel2, hinI, hgI, hinR, hgR, hin, hgAi, Nat.mul_one, f3, hwB, f4, f5, hgBi, setNth_map_i, List.set_set, hw2]
                      exact ⟨h.trials.length - (j + 1), hk2, trivial, trivial, trivial, trivial, trivial, j + 1, n + 2, (h.trials[j].cost + C2.1, (j : Int)), rfl, hj', rfl, rfl, he, by simp only; omega, by simp only; omega⟩
                    · rw [if_neg f5] at he
                      simp -implicitDefEqProofs only [redoH, redo1, go_sem, Int.reduceEq, Int.reduceNeg, Nat.reduceEqDiff, Nat.reduceLT, Nat.reduceAdd, Nat.reduceSub, Nat.reduceMul, Int.reduceLE, Int.reduceLT, Int.reduceToNat, Int.toNat_natCast, Nat.reduceLeDiff, Bool.not_true, Bool.not_false, a1, a2, a3, a4, a5, hT, hel2, hinI, hgI, hinR, hgR, hin, hgAi, Nat.mul_one, f3, hwB, f4, f5, hw2]
                      exact ⟨h.trials.length - (j + 1), hk2, trivial, trivial, trivial, trivial, trivial, j + 1, n + 1, x, rfl, hj', rfl, rfl, he, hx1, hx2⟩
                · rw [if_neg f3] at he
                  by_cases f4 : x.1 < 0
                  · rw [if_pos f4] at he
                    simp -implicitDefEqProofs only [redoH, redo1, go_sem, Int.reduceEq, Int.reduceNeg, Nat.reduceEqDiff, Nat.reduceLT, Nat.reduceAdd, Nat.reduceSub, Nat.reduceMul, Int.reduceLE, Int.reduceLT, Int.reduceToNat, Int.toNat_natCast, Nat.reduceLeDiff, Bool.not_true, Bool.not_false, a1, a2, a3, a4, a5, hT, hel2, hinI, hgI, hinR, hgR, hin, hgAi, Nat.mul_one, f3, hwA, f4]
                    simp only [does_bind]
                    refine draw_machX [[], [0], [], [], [3], [], [], [], [1, 0, 2, 6], [8, 1, 0, 2, 6], [4, 3, 5, 7, 9, 8, 1, 0, 2, 6], [10, 4, 3, 5, 7, 9, 8, 1, 0, 2, 6]] [[], [], [], [], [], [], [], [], [], [[2, 3, 0]], [], [[2, 7, 0]]] (by kernel_rfl) rfl rfl ?_
                    simp -implicitDefEqProofs only [redoH, redo1, go_sem, Int.reduceEq, Int.reduceNeg, Nat.reduceEqDiff, Nat.reduceLT, Nat.reduceAdd, Nat.reduceSub, Nat.reduceMul, Int.reduceLE, Int.reduceLT, Int.reduceToNat, Int.toNat_natCast, Nat.reduceLeDiff, Bool.not_true, Bool.not_false, a1, a2, a3, a4, a5, hT, hel2, hinI, hgI, hinR, hgR, hin, hgAi, Nat.mul_one, f3, hwA, f4, hgBi, setNth_map_i, List.set_set, hw2]
                    exact ⟨h.trials.length - (j + 1), hk2, trivial, trivial, trivial, trivial, trivial, j + 1, n + 2, (h.trials[j].cost + C1.1, (j : Int)), rfl, hj', rfl, rfl, he, by simp only; omega, by simp only; omega⟩
                  · rw [if_neg f4] at he
                    by_cases f5 : h.trials[j].cost + C1.1 < x.1
                    · rw [if_pos f5] at he
                      simp -implicitDefEqProofs only [redoH, redo1, go_sem, Int.reduceEq, Int.reduceNeg, Nat.reduceEqDiff, Nat.reduceLT, Nat.reduceAdd, Nat.reduceSub, Nat.reduceMul, Int.reduceLE, Int.reduceLT, Int.reduceToNat, Int.toNat_natCast, Nat.reduceLeDiff, Bool.not_true, Bool.not_false, a1, a2, a3, a4, a5, hT, hel2, hinI, hgI, hinR, hgR, hin, hgAi, Nat.mul_one, f3, hwA, f4, f5]
                      simp only [does_bind]
                      refine draw_machX [[], [0], [], [], [3], [], [], [], [1, 0, 2, 6], [8, 1, 0, 2, 6], [4, 3, 5, 7, 9, 8, 1, 0, 2, 6], [10, 4, 3, 5, 7, 9, 8, 1, 0, 2, 6]] [[], [], [], [], [], [], [], [], [], [[2, 3, 0]], [], [[2, 7, 0]]] (by kernel_rfl) rfl rfl ?_
                      simp -implicitDefEqProofs only [redoH, redo1, go_sem, Int.reduceEq, Int.reduceNeg, Nat.reduceEqDiff, Nat.reduceLT, Nat.reduceAdd, Nat.reduceSub, Nat.reduceMul, Int.reduceLE, Int.reduceLT, Int.reduceToNat, Int.toNat_natCast, Nat.reduceLeDiff, Bool.not_true, Bool.not_false, a1, a2, a3, a4, a5, hT, hel2, hinI, hgI, hinR, hgR, hin, hgAi, Nat.mul_one, f3, hwA, f4, f5, hgBi, setNth_map_i, List.set_set, hw2]
                      exact ⟨h.trials.length - (j + 1), hk2, trivial, trivial, trivial, trivial, trivial, j + 1, n + 2, (h.trials[j].cost + C1.1, (j : Int)), rfl, hj', rfl, rfl, he, by simp only; omega, by simp only; omega⟩
                    · rw [if_neg f5] at he
                      simp -implicitDefEqProofs only [redoH, redo1, go_sem, Int.reduceEq, Int.reduceNeg, Nat.reduceEqDiff, Nat.reduceLT, Nat.reduceAdd, Nat.reduceSub, Nat.reduceMul, Int.reduceLE, Int.reduceLT, Int.reduceToNat, Int.toNat_natCast, Nat.reduceLeDiff, Bool.not_true, Bool.not_false, a1, a2, a3, a4, a5, hT, hel2, hinI, hgI, hinR, hgR, hin, hgAi, Nat.mul_one, f3, hwA, f4, f5, hw2]
                      exact ⟨h.trials.length - (j + 1), hk2, trivial, trivial, trivial, trivial, trivial, j + 1, n + 1, x, rfl, hj', rfl, rfl, he, hx1, hx2⟩
      · have hjl : j = h.trials.length := by omega
        have hsl : (setsOf h).length = h.trials.length := by simp [setsOf]
        subst hjl
        rw [← hsl, List.drop_length] at he
        simp only [foldC] at he
        simp -implicitDefEqProofs only [redoH, redo1, go_sem, Int.reduceEq, Int.reduceNeg, Nat.reduceEqDiff, Nat.reduceLT, Nat.reduceAdd, Nat.reduceSub, Nat.reduceMul, Int.reduceLE, Int.reduceLT, Int.reduceToNat, Int.toNat_natCast, Nat.reduceLeDiff, Bool.not_true, Bool.not_false, a1, a2, a3, a4, a5, hT, hw1]
        refine ⟨N - (i + 1), hk1, trivial, trivial, trivial, trivial, i + 1, n, A.set i x.1, B.set i x.2, rfl, hlt, rfl, by simp [hA], by simp [hB], rfl, ?_, ?_, ?_⟩
        · intro k hk hki
          rw [List.getElem_set]
          split
          · rename_i h1; subst h1; rw [he]
          · exact hdA k (by simpa using hk) (by omega)
        · intro k hk hki
          rw [List.getElem_set]
          split
          · rename_i h1; subst h1; rw [he]
          · exact hdB k (by simpa using hk) (by omega)
        · intro k hk hki
          rw [List.getElem_set_ne (by omega)]
          exact hdZ k (by simpa using hk) (by omega)
  · have hil : i = N := by omega
    subst hil
    have eA : A = tableN i fun k => (bestS (setsOf h) k).1 := by
      refine List.ext_getElem (by simp [tableN, hA]) fun k h1 h2 => ?_
      rw [hdA k h1 (by omega)]; simp [tableN]
    have eB : B = tableN i fun k => (bestS (setsOf h) k).2 := by
      refine List.ext_getElem (by simp [tableN, hB]) fun k h1 h2 => ?_
      rw [hdB k h1 (by omega)]; simp [tableN]
    rw [← eA, ← eB]
    simp -implicitDefEqProofs only [redoH, redo1, go_sem, Int.reduceEq, Int.reduceNeg, Nat.reduceEqDiff, Nat.reduceLT, Nat.reduceAdd, Nat.reduceSub, Nat.reduceMul, Int.reduceLE, Int.reduceLT, Int.reduceToNat, Int.toNat_natCast, Nat.reduceLeDiff, Bool.not_true, Bool.not_false, a1, a2, a3, a4, hT, Try.results124]
    rcases i with _ | M
    · cases A with
      | cons a r => simp at hA
      | nil => cases B with
        | cons a r => simp at hB
        | nil => rfl
    · have r1 := read_ints A (M + 1) hA
      have r2 := read_ints B (M + 1) hB
      have w1 := rows_ints A (M + 1) hA
      have w2 := rows_ints B (M + 1) hB
      simp only [r1, r2, freeze_ints, w1, w2, Nat.ble]
      simp -implicitDefEqProofs only [redoH, redo1, go_sem, Int.reduceEq, Int.reduceNeg, Nat.reduceEqDiff, Nat.reduceLT, Nat.reduceAdd, Nat.reduceSub, Nat.reduceMul, Int.reduceLE, Int.reduceLT, Int.reduceToNat, Int.toNat_natCast, Nat.reduceLeDiff, Bool.not_true, Bool.not_false]
end Go.Proofs.Ytgnpnfkncbnjnaa
