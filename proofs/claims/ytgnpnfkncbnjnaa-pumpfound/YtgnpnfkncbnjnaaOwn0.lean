/- The statement PumpFound holds for every input, without further conditions. -/
import Derived.Test.YtgnpnfkncbnjnaaAmF
import Derived.Test.YtgnpnfkncbnjnaaHuB
import Derived.Test.YtgnpnfkncbnjnaaHuC
import Derived.Test.YtgnpnfkncbnjnaaAmE
import Derived.Test.YtgnpnfkncbnjnaaAmC
import Derived.Test.YtgnpnfkncbnjnaaRows
import Derived.ProofKit
set_option linter.unusedSimpArgs false
set_option linter.unusedVariables false
set_option maxRecDepth 100000
namespace Go.Proofs.Ytgnpnfkncbnjnaa
open Go Go.Am
attribute [local congr] tr_congr does_congr all_congr
def sameI : List Int → List Int → Bool
  | [], [] => true
  | a :: l, b :: r => decide (a = b) && sameI l r
  | _, _ => false
theorem sameI_eq : ∀ {l r : List Int}, sameI l r = true ↔ l = r
  | [], [] => by simp [sameI]
  | [], _ :: _ => by simp [sameI]
  | _ :: _, [] => by simp [sameI]
  | a :: l, b :: r => by simp [sameI, sameI_eq (l := l) (r := r)]
theorem sameI_len : ∀ {l r : List Int}, l.length ≠ r.length → sameI l r = false
  | [], [], h => absurd rfl h
  | [], _ :: _, _ => rfl
  | _ :: _, [], _ => rfl
  | a :: l, b :: r, h => by
    have := sameI_len (l := l) (r := r) (by simpa using h)
    simp [sameI, this]
theorem same_call (l r : List Int) (K : Nat) (s : St) (hK : l.length < K) (hl : l.length ≤ 9223372036854775807) : acall cfg (K + 1) 62 [.lst (l.map iV), .lst (r.map iV)] s = .ret (.bool (sameI l r), s) := by
  refine call1 mget62 fget62 (by first | rfl | simp -implicitDefEqProofs only [redoH, redo1, go_sem, Int.reduceEq, Int.reduceNeg, Nat.reduceEqDiff, Nat.reduceLT, Nat.reduceAdd, Nat.reduceSub, Nat.reduceMul, Int.reduceLE, Int.reduceLT, Int.reduceToNat, Int.toNat_natCast, Nat.reduceLeDiff, Bool.not_true, Bool.not_false]) (by first | rfl | simp -implicitDefEqProofs only [redoH, redo1, go_sem, Int.reduceEq, Int.reduceNeg, Nat.reduceEqDiff, Nat.reduceLT, Nat.reduceAdd, Nat.reduceSub, Nat.reduceMul, Int.reduceLE, Int.reduceLT, Int.reduceToNat, Int.toNat_natCast, Nat.reduceLeDiff, Bool.not_true, Bool.not_false]) (by first | rfl | simp -implicitDefEqProofs only [redoH, redo1, go_sem, Int.reduceEq, Int.reduceNeg, Nat.reduceEqDiff, Nat.reduceLT, Nat.reduceAdd, Nat.reduceSub, Nat.reduceMul, Int.reduceLE, Int.reduceLT, Int.reduceToNat, Int.toNat_natCast, Nat.reduceLeDiff, Bool.not_true, Bool.not_false]) ?_
  refine body_does rfl fun T hT' hA => ?_
  have a0 := hA 0 _ rfl
  have a1 := hA 1 _ rfl
  have hT : T.length = 26 := hT'
  clear hA hT'
  simp -implicitDefEqProofs only [redoH, redo1, go_sem, Int.reduceEq, Int.reduceNeg, Nat.reduceEqDiff, Nat.reduceLT, Nat.reduceAdd, Nat.reduceSub, Nat.reduceMul, Int.reduceLE, Int.reduceLT, Int.reduceToNat, Int.toNat_natCast, Nat.reduceLeDiff, Bool.not_true, Bool.not_false, a0, a1, hT]
  by_cases hlen : (l.length : Int) = (r.length : Int)
  · have hlr : l.length = r.length := by omega
    simp -implicitDefEqProofs only [redoH, redo1, go_sem, Int.reduceEq, Int.reduceNeg, Nat.reduceEqDiff, Nat.reduceLT, Nat.reduceAdd, Nat.reduceSub, Nat.reduceMul, Int.reduceLE, Int.reduceLT, Int.reduceToNat, Int.toNat_natCast, Nat.reduceLeDiff, Bool.not_true, Bool.not_false, a0, a1, hT, hlen]
    simp only [does_bind]
    refine xl_does (fun k T s' => T.length = 26 ∧ nth T 0 = some (.lst (l.map iV)) ∧ nth T 1 = some (.lst (r.map iV)) ∧ ∃ i n : Nat, s' = ⟨[], n, [], false, []⟩ ∧ nth T 5 = some (.int .i64 i) ∧ i ≤ l.length ∧ k = l.length - i ∧ sameI l r = sameI (l.drop i) (r.drop i)) (k := l.length) (by omega) ?_ ?_
    · exact ⟨by simp -implicitDefEqProofs only [redoH, redo1, go_sem, Int.reduceEq, Int.reduceNeg, Nat.reduceEqDiff, Nat.reduceLT, Nat.reduceAdd, Nat.reduceSub, Nat.reduceMul, Int.reduceLE, Int.reduceLT, Int.reduceToNat, Int.toNat_natCast, Nat.reduceLeDiff, Bool.not_true, Bool.not_false, hT], by simp -implicitDefEqProofs only [redoH, redo1, go_sem, Int.reduceEq, Int.reduceNeg, Nat.reduceEqDiff, Nat.reduceLT, Nat.reduceAdd, Nat.reduceSub, Nat.reduceMul, Int.reduceLE, Int.reduceLT, Int.reduceToNat, Int.toNat_natCast, Nat.reduceLeDiff, Bool.not_true, Bool.not_false, a0], by simp -implicitDefEqProofs only [redoH, redo1, go_sem, Int.reduceEq, Int.reduceNeg, Nat.reduceEqDiff, Nat.reduceLT, Nat.reduceAdd, Nat.reduceSub, Nat.reduceMul, Int.reduceLE, Int.reduceLT, Int.reduceToNat, Int.toNat_natCast, Nat.reduceLeDiff, Bool.not_true, Bool.not_false, a1], 0, 0, rfl, by simp -implicitDefEqProofs only [redoH, redo1, go_sem, Int.reduceEq, Int.reduceNeg, Nat.reduceEqDiff, Nat.reduceLT, Nat.reduceAdd, Nat.reduceSub, Nat.reduceMul, Int.reduceLE, Int.reduceLT, Int.reduceToNat, Int.toNat_natCast, Nat.reduceLeDiff, Bool.not_true, Bool.not_false, hT]; rfl, by omega, rfl, rfl⟩
    clear a0 a1 hT
    rintro k T s' ⟨hT, a0, a1, i, n, rfl, a5, hi, rfl, hs⟩
    simp -implicitDefEqProofs only [redoH, redo1, go_sem, Int.reduceEq, Int.reduceNeg, Nat.reduceEqDiff, Nat.reduceLT, Nat.reduceAdd, Nat.reduceSub, Nat.reduceMul, Int.reduceLE, Int.reduceLT, Int.reduceToNat, Int.toNat_natCast, Nat.reduceLeDiff, Bool.not_true, Bool.not_false, a0, a1, a5, hT]
    simp only [does_bind]
    refine does_if (fun hlo => ?_) (fun hlo => ?_)
    · have hi' : i < l.length := by omega
      have hi2 : i < r.length := by omega
      have hk2 : l.length - (i + 1) < l.length - i := by omega
      have hel := elemAt_map (f := iV) (z := 1) hi' rfl
      have hel2 := elemAt_map (f := iV) (z := 1) hi2 rfl
      rw [List.drop_eq_getElem_cons hi', List.drop_eq_getElem_cons hi2, sameI] at hs
      have hw1 : wrapF .i64 ((i : Int) + 1) = ((i + 1 : Nat) : Int) := by rw [wrap_i64 (by omega) (by omega)]; simp
      simp -implicitDefEqProofs only [redoH, redo1, go_sem, Int.reduceEq, Int.reduceNeg, Nat.reduceEqDiff, Nat.reduceLT, Nat.reduceAdd, Nat.reduceSub, Nat.reduceMul, Int.reduceLE, Int.reduceLT, Int.reduceToNat, Int.toNat_natCast, Nat.reduceLeDiff, Bool.not_true, Bool.not_false, a0, a1, a5, hT]
      simp only [does_bind]
      refine draw_mach [] [] (by kernel_rfl) ?_
      by_cases c1 : l[i] = r[i]
      · rw [decide_eq_true c1, Bool.true_and] at hs
        simp -implicitDefEqProofs only [redoH, redo1, go_sem, Int.reduceEq, Int.reduceNeg, Nat.reduceEqDiff, Nat.reduceLT, Nat.reduceAdd, Nat.reduceSub, Nat.reduceMul, Int.reduceLE, Int.reduceLT, Int.reduceToNat, Int.toNat_natCast, Nat.reduceLeDiff, Bool.not_true, Bool.not_false, a0, a1, a5, hT, hel, hel2, c1, hw1]
        exact ⟨l.length - (i + 1), hk2, trivial, trivial, trivial, i + 1, n + 1, rfl, rfl, hi', rfl, hs⟩
      · rw [decide_eq_false c1, Bool.false_and] at hs
        simp -implicitDefEqProofs only [redoH, redo1, go_sem, Int.reduceEq, Int.reduceNeg, Nat.reduceEqDiff, Nat.reduceLT, Nat.reduceAdd, Nat.reduceSub, Nat.reduceMul, Int.reduceLE, Int.reduceLT, Int.reduceToNat, Int.toNat_natCast, Nat.reduceLeDiff, Bool.not_true, Bool.not_false, a0, a1, a5, hT, hel, hel2, c1, hs, Try.results62]
    · have hil : i = l.length := by omega
      subst hil
      rw [List.drop_length, hlr, List.drop_length] at hs
      simp -implicitDefEqProofs only [redoH, redo1, go_sem, Int.reduceEq, Int.reduceNeg, Nat.reduceEqDiff, Nat.reduceLT, Nat.reduceAdd, Nat.reduceSub, Nat.reduceMul, Int.reduceLE, Int.reduceLT, Int.reduceToNat, Int.toNat_natCast, Nat.reduceLeDiff, Bool.not_true, Bool.not_false, a0, a1, a5, hT, hs, sameI, Try.results62]
  · have hlr : l.length ≠ r.length := by omega
    simp -implicitDefEqProofs only [redoH, redo1, go_sem, Int.reduceEq, Int.reduceNeg, Nat.reduceEqDiff, Nat.reduceLT, Nat.reduceAdd, Nat.reduceSub, Nat.reduceMul, Int.reduceLE, Int.reduceLT, Int.reduceToNat, Int.toNat_natCast, Nat.reduceLeDiff, Bool.not_true, Bool.not_false, a0, a1, hT, hlen, sameI_len hlr, Try.results62]
end Go.Proofs.Ytgnpnfkncbnjnaa
namespace Go.Proofs.Ytgnpnfkncbnjnaa
open Go Go.Am
/-! ### What the tests of a hunt show -/
def bitsL (s : Nat) : List Int := ((List.range 12).filter fun k => s.testBit k).map fun (k : Nat) => (k : Int)
theorem bits_filter (s o : Nat) (hs : s < 4096) (l : List Int) (hl : ∀ k : Nat, k < 12 → decide ((k : Int) ∈ l) = o.testBit k) (b : Bool) :
    (bitsL s).filter (fun n => decide (n ∈ l) == b) = bitsL (if b then s &&& o else restN s o) := by
  unfold bitsL
  rw [List.filter_map, List.filter_filter]
  congr 1
  apply List.filter_congr
  intro k hk
  have hk12 := List.mem_range.1 hk
  simp only [Function.comp_apply]
  rw [hl k hk12]
  cases b with
  | true => simp only [if_true, Nat.testBit_and, beq_true]; rw [Bool.and_comm]
  | false => simp only [Bool.false_eq_true, if_false, rest_bit s o k hs, beq_false]; rw [Bool.and_comm]
theorem setN_bit : ∀ (l : List Int) (m k : Nat), (∀ n ∈ l, 0 ≤ n) → (setN m l).testBit k = (m.testBit k || decide ((k : Int) ∈ l))
  | [], m, k, _ => by simp [setN]
  | n :: l, m, k, h => by
    have h1 := setN_bit l (m ||| 2 ^ n.toNat) k fun n hn => h n (List.mem_cons_of_mem _ hn)
    have h0 := h n List.mem_cons_self
    show (setN (m ||| 2 ^ n.toNat) l).testBit k = _
    rw [h1, Nat.testBit_or, Nat.testBit_two_pow, Bool.or_assoc]
    congr 1
    rw [← Bool.decide_or]
    congr 1
    apply propext
    rw [List.mem_cons]
    constructor
    · rintro (h2 | h2)
      · left; omega
      · right; exact h2
    · rintro (h2 | h2)
      · left; omega
      · right; exact h2
theorem first_bits : ∀ S : Fin 13, firstL S.val = bitsL (2 ^ S.val - 1) := by decide +kernel
noncomputable def alBit (s : Nat) : Bool := match aloneB s with | true => Nat.ble (bitsL s).length 1 | false => true
theorem alBit_all : allOk alBit 4095 = true := by kernel_rfl
theorem alone_bits {s k : Nat} (h1 : 1 ≤ s) (h2 : s < 4096) (ha : aloneB s = true) (hk : s.testBit k = true) : bitsL s = [(k : Int)] := by
  have h3 := allOk_spec alBit 4095 alBit_all s h1 (Nat.le_of_lt_succ h2)
  unfold alBit at h3
  rw [ha] at h3
  have h4 : (bitsL s).length ≤ 1 := Nat.le_of_ble_eq_true h3
  have h5 : (k : Int) ∈ bitsL s := by
    unfold bitsL
    exact List.mem_map.2 ⟨k, List.mem_filter.2 ⟨List.mem_range.2 (bit_lt h2 hk), hk⟩, rfl⟩
  match hb : bitsL s with
  | [] => rw [hb] at h5; cases h5
  | [a] => rw [hb] at h5; rcases List.mem_cons.1 h5 with h | h; rw [h]; cases h
  | a :: b :: r => rw [hb] at h4; simp at h4
def foldT (h : Hnt) : List Try' → List Int × Int → List Int × Int
  | [], p => p
  | x :: r, p => match h.trials[x.trial.toNat]? with
    | some t => foldT h r (p.1.filter (fun n => decide (n ∈ t.of) == x.inn), p.2 + t.cost)
    | none => foldT h r p
theorem found_fold (h : Hnt) (hh : huntE h = 0) (leak : Nat) : ∀ (s f : Nat), 1 ≤ s → s < 4096 → s < f → ¬ (bestS (setsOf h) s).1 < 0 → s.testBit leak = true → ∀ c : Int,
    foldT h (findL h leak f s).1 (bitsL s, c) = ([(leak : Int)], c + (findL h leak f s).2) ∧ (∀ x ∈ (findL h leak f s).1, ∃ j : Nat, j < h.trials.length ∧ x.trial = j) ∧ 0 ≤ (findL h leak f s).2 ∧ (findL h leak f s).2 ≤ (bestS (setsOf h) s).1 := by
  intro s
  induction s using Nat.strongRecOn with
  | ind s ih =>
  intro f h1 h2 h3 hb hbit c
  obtain ⟨f, rfl⟩ : ∃ k, f = k + 1 := ⟨f - 1, by omega⟩
  unfold findL
  by_cases ha : aloneB s = true
  · rw [if_pos ha]
    have hz := bestS_eq (setsOf h) s h2
    rw [if_pos ha] at hz
    refine ⟨by simp [foldT, alone_bits h1 h2 ha hbit], by simp, by simp, by rw [hz]; exact Int.le_refl 0⟩
  · rw [if_neg ha]
    obtain ⟨j, hj, g1, g2, g3, g4, g5, g6⟩ := best_ok (setsOf h) s h2 ha hb
    obtain ⟨j', hj', e1, e2, e3, e4, e5, e6⟩ := find_step (leak := leak) h2 ha hb
    have ejj : j = j' := by rw [g1] at e1; omega
    subst ejj
    rw [e3]
    simp only
    have hjt : j < h.trials.length := by simpa [setsOf] using hj
    have hsj : (setsOf h)[j] = (setN 0 h.trials[j].of, h.trials[j].cost) := by simp [setsOf]
    obtain ⟨hs1, hs2, hlen, htr⟩ := hunt_ok hh
    have htj := htr _ (List.getElem_mem hjt)
    have hin := susp_in h.suspects h.trials[j].of (-1) htj.1
    have hmem : ∀ k : Nat, k < 12 → decide ((k : Int) ∈ h.trials[j].of) = (setN 0 h.trials[j].of).testBit k := fun k _ => by
      rw [setN_bit _ _ _ fun n hn => (hin n hn).1]; simp
    rw [hsj] at e4 e5 e6 g2 g3 g4 g5 g6 ⊢
    simp only at e4 e5 e6 g2 g3 g4 g5 g6 ⊢
    generalize hoo : setN 0 h.trials[j].of = o at *
    have hnb : (if o.testBit leak = true then s &&& o else restN s o).testBit leak = true := by
      split
      · rename_i hbt; rw [Nat.testBit_and, hbit, hbt]; rfl
      · rename_i hbt; rw [rest_bit s o leak h2, hbit, eq_false_of_ne_true hbt]; rfl
    have hr := ih _ e4 f (by omega) (by omega) (by omega) e6 hnb
    have hmax : (bestS (setsOf h) (if o.testBit leak = true then s &&& o else restN s o)).1 ≤ max (bestS (setsOf h) (s &&& o)).1 (bestS (setsOf h) (restN s o)).1 := by
      split
      · exact Int.le_max_left _ _
      · exact Int.le_max_right _ _
    refine ⟨?_, ?_, ?_, ?_⟩
    · have ht : h.trials[(bestS (setsOf h) s).2.toNat]? = some h.trials[j] := by rw [e2]; exact List.getElem?_eq_getElem hjt
      simp only [foldT]
      rw [ht]
      simp only
      rw [bits_filter s o h2 _ hmem, (hr (c + h.trials[j].cost)).1]
      simp only [Prod.mk.injEq, true_and]
      omega
    · intro x hx
      rcases List.mem_cons.1 hx with rfl | hx
      · exact ⟨j, hjt, e1⟩
      · exact (hr 0).2.1 x hx
    · have := (hr 0).2.2.1; have := htj.2.1; omega
    · have := (hr 0).2.2.2; omega
/-- One leak costs what the worst case says. -/
theorem found_worst (h : Hnt) (hh : huntE h = 0) : ∀ (s f : Nat), 1 ≤ s → s < 4096 → s < f → ¬ (bestS (setsOf h) s).1 < 0 → ∃ leak, s.testBit leak = true ∧ (findL h leak f s).2 = (bestS (setsOf h) s).1 := by
  intro s
  induction s using Nat.strongRecOn with
  | ind s ih =>
  intro f h1 h2 h3 hb
  obtain ⟨f, rfl⟩ : ∃ k, f = k + 1 := ⟨f - 1, by omega⟩
  by_cases ha : aloneB s = true
  · have hz := bestS_eq (setsOf h) s h2
    rw [if_pos ha] at hz
    obtain ⟨k, hk⟩ := Nat.exists_testBit_of_ne_zero (show s ≠ 0 by omega)
    refine ⟨k, hk, ?_⟩
    unfold findL
    rw [if_pos ha, hz]
  · obtain ⟨j, hj, g1, g2, g3, g4, g5, g6⟩ := best_ok (setsOf h) s h2 ha hb
    have hi := in_lt s _ h2 g3
    have hr := rest_lt s _ h2 g2
    have key : ∀ leak, (findL h leak (f + 1) s).2 = (setsOf h)[j].2 + (findL h leak f (if (setsOf h)[j].1.testBit leak then s &&& (setsOf h)[j].1 else restN s (setsOf h)[j].1)).2 := fun leak => by
      obtain ⟨j', hj', e1, e2, e3, _⟩ := find_step (leak := leak) h2 ha hb
      have ejj : j = j' := by rw [g1] at e1; omega
      subst ejj
      conv => lhs; unfold findL
      rw [if_neg ha, e3]
    by_cases hm : (bestS (setsOf h) (restN s (setsOf h)[j].1)).1 ≤ (bestS (setsOf h) (s &&& (setsOf h)[j].1)).1
    · obtain ⟨leak, hl1, hl2⟩ := ih _ hi f (by omega) (by omega) (by omega) (by omega)
      rw [Nat.testBit_and, Bool.and_eq_true] at hl1
      refine ⟨leak, hl1.1, ?_⟩
      rw [key leak, if_pos hl1.2, hl2, g6, Int.max_eq_left hm]
    · obtain ⟨leak, hl1, hl2⟩ := ih _ hr f (by omega) (by omega) (by omega) (by omega)
      rw [rest_bit s _ leak h2, Bool.and_eq_true, Bool.not_eq_true'] at hl1
      refine ⟨leak, hl1.1, ?_⟩
      rw [key leak, if_neg (by rw [hl1.2]; simp), hl2, g6, Int.max_eq_right (by omega)]
theorem findL_len2 (h : Hnt) (leak : Nat) : ∀ (f s : Nat), (findL h leak f s).1.length ≤ f
  | 0, s => Nat.le_refl 0
  | f + 1, s => by
    unfold findL
    split
    · simp
    · split
      · exact Nat.succ_le_succ (findL_len2 h leak f _)
      · simp
def mostL (f : Nat → Int) : Nat → Int
  | 0 => -1
  | k + 1 => max (mostL f k) (f k)
theorem mostL_le {f : Nat → Int} {w : Int} (hw : -1 ≤ w) : ∀ S, (∀ k, k < S → f k ≤ w) → mostL f S ≤ w
  | 0, _ => hw
  | S + 1, h => Int.max_le.2 ⟨mostL_le hw S fun k hk => h k (by omega), h S (by omega)⟩
theorem mostL_ge {f : Nat → Int} : ∀ S k, k < S → f k ≤ mostL f S
  | S + 1, k, h => by
    rcases Nat.lt_or_eq_of_le (Nat.le_of_lt_succ h) with h1 | h1
    · exact Int.le_trans (mostL_ge S k h1) (Int.le_max_left _ _)
    · subst h1; exact Int.le_max_right _ _
end Go.Proofs.Ytgnpnfkncbnjnaa
namespace Go.Proofs.Ytgnpnfkncbnjnaa
open Go Go.Am
attribute [local congr] tr_congr does_congr all_congr
theorem first_set : ∀ S : Fin 13, setN 0 (firstL S.val) = 2 ^ S.val - 1 := by decide +kernel
theorem first_susp : ∀ S : Fin 13, suspE (S.val : Int) (-1) (firstL S.val) = 0 := by decide +kernel
/-- The value of a row of numbers: frozen, open, or nil. -/
def RowV (v : AV) (n : Nat) (F : List Int) (H : Heap) : Prop := v = .lst (F.map iV) ∨ (v = .nils ∧ F = []) ∨ ∃ b, v = .own b (F.map iV)
theorem eq_ff : eqA (cfg.at 11) 20 4 (.bool false) (.bool false) = some true := by simp only [eqA, redoH, redo1, go_sem, Int.reduceEq, Int.reduceNeg, Nat.reduceEqDiff, Nat.reduceLT, Nat.reduceAdd, Nat.reduceSub, Nat.reduceMul, Int.reduceLE, Int.reduceLT, Int.reduceToNat, Int.toNat_natCast, Nat.reduceLeDiff, Bool.not_true, Bool.not_false]
theorem eq_ft : eqA (cfg.at 11) 20 4 (.bool false) (.bool true) = some false := by simp only [eqA, redoH, redo1, go_sem, Int.reduceEq, Int.reduceNeg, Nat.reduceEqDiff, Nat.reduceLT, Nat.reduceAdd, Nat.reduceSub, Nat.reduceMul, Int.reduceLE, Int.reduceLT, Int.reduceToNat, Int.toNat_natCast, Nat.reduceLeDiff, Bool.not_true, Bool.not_false]
theorem eq_tf : eqA (cfg.at 11) 20 4 (.bool true) (.bool false) = some false := by simp only [eqA, redoH, redo1, go_sem, Int.reduceEq, Int.reduceNeg, Nat.reduceEqDiff, Nat.reduceLT, Nat.reduceAdd, Nat.reduceSub, Nat.reduceMul, Int.reduceLE, Int.reduceLT, Int.reduceToNat, Int.toNat_natCast, Nat.reduceLeDiff, Bool.not_true, Bool.not_false]
theorem eq_tt : eqA (cfg.at 11) 20 4 (.bool true) (.bool true) = some true := by simp only [eqA, redoH, redo1, go_sem, Int.reduceEq, Int.reduceNeg, Nat.reduceEqDiff, Nat.reduceLT, Nat.reduceAdd, Nat.reduceSub, Nat.reduceMul, Int.reduceLE, Int.reduceLT, Int.reduceToNat, Int.toNat_natCast, Nat.reduceLeDiff, Bool.not_true, Bool.not_false]
theorem found_walk (nums : List Int) (K : Nat) (hK : 6000 < K) (hk2 : nums.length < K) (hn : Len nums) :
    (acall cfg (K + 320) 11 [.lst (nums.map iV)] s0).Does fun x => x.1 = .bool true := by
  rw [call0 mget11 fget11]
  refine body_does rfl fun T hT' hA => ?_
  have a0 := hA 0 _ rfl
  have hT : T.length = 156 := hT'
  clear hA hT'
  have haw := fun s => awake_all (K + 19) s
  have hnd := fun s => newDice_call nums (K + 317) s (by omega) hn
  generalize newDice nums = w0 at *
  obtain ⟨h, w1, hg, hof⟩ := huntOf_call w0 8 10 [0] 0 (K + 309) ⟨[([0], .cells [.int .u64 w0] true 0)], 1, [], false, []⟩ rfl (by omega) (by omega) (by omega) (by omega) (by omega)
  have hh := hntG_ok (by omega) (by omega) hg
  have hok := fun k (hk : 20 < k) => hntG_Ok (by omega) hg k (by omega)
  have hg1 := hg.1
  have hg2 := hg.2.1
  obtain ⟨S, hS⟩ : ∃ S : Nat, h.suspects = S := ⟨h.suspects.toNat, by omega⟩
  have hf := fun s => first_call S (K + 318) s (by omega) (by omega)
  have hfl := firstL_length S
  have hwc := fun s => worst_call h (firstL S) (K + 309) s (by omega) (hok _ (by omega)) (by omega) (by omega)
  have hwt : worstT h (firstL S) = if (bestS (setsOf h) (2 ^ S - 1)).1 < 0 then (0, 0, 15) else ((bestS (setsOf h) (2 ^ S - 1)).1, (bestS (setsOf h) (2 ^ S - 1)).2, 0) := by
    unfold worstT
    rw [if_pos hh, if_neg (by omega), hS, if_pos (first_susp ⟨S, by omega⟩), first_set ⟨S, by omega⟩]
  rw [hwt] at hwc
  simp only [hntV, hS] at hof hwc
  simp -implicitDefEqProofs only [redoH, redo1, go_sem, Int.reduceEq, Int.reduceNeg, Nat.reduceEqDiff, Nat.reduceLT, Nat.reduceAdd, Nat.reduceSub, Nat.reduceMul, Int.reduceLE, Int.reduceLT, Int.reduceToNat, Int.toNat_natCast, Nat.reduceLeDiff, Bool.not_true, Bool.not_false, a0, hT, hnd, hof]
  simp only [does_bind]
  refine draw_mach [] [] (by kernel_rfl) ?_
  by_cases cb : (bestS (setsOf h) (2 ^ S - 1)).1 < 0
  · rw [if_pos cb] at hwc
    have hfc := fun s => find_call h 0 (K + 309) s (by omega) (hok _ (by omega))
    have hft : findT h 0 = ([], 0, 15) := by
      unfold findT
      rw [if_pos hh, if_pos (by unfold fromB; exact decide_eq_true ⟨by omega, by omega⟩), hS, Int.toNat_natCast, if_pos cb]
    rw [hft] at hfc
    simp only [hntV, hS, f3V, List.map_nil] at hfc
    simp only [t3V] at hwc
    simp -implicitDefEqProofs only [redoH, redo1, go_sem, Int.reduceEq, Int.reduceNeg, Nat.reduceEqDiff, Nat.reduceLT, Nat.reduceAdd, Nat.reduceSub, Nat.reduceMul, Int.reduceLE, Int.reduceLT, Int.reduceToNat, Int.toNat_natCast, Nat.reduceLeDiff, Bool.not_true, Bool.not_false, a0, hT, hf, hwc, hfc, haw, Try.results11]
  · rw [if_neg cb] at hwc
    simp only [t3V] at hwc
    simp -implicitDefEqProofs only [redoH, redo1, go_sem, Int.reduceEq, Int.reduceNeg, Nat.reduceEqDiff, Nat.reduceLT, Nat.reduceAdd, Nat.reduceSub, Nat.reduceMul, Int.reduceLE, Int.reduceLT, Int.reduceToNat, Int.toNat_natCast, Nat.reduceLeDiff, Bool.not_true, Bool.not_false, a0, hT, hf, hwc]
    obtain ⟨hs1, hs2, hlen, htr⟩ := hunt_ok hh
    have hN : 2 ^ S ≤ 256 := by
      have h12 : (2 : Nat) ^ S ≤ 2 ^ 8 := Nat.pow_le_pow_right (by decide) (by omega)
      exact h12
    have hN1 : 2 ≤ 2 ^ S := by
      have h12 : (2 : Nat) ^ 1 ≤ 2 ^ S := Nat.pow_le_pow_right (by decide) (by omega)
      exact h12
    have hbits : ∀ k, k < S → (2 ^ S - 1).testBit k = true := fun k hk => by
      rw [Nat.testBit_two_pow_sub_one]; exact decide_eq_true hk
    have hbit2 : ∀ k, (2 ^ S - 1).testBit k = true → k < S := fun k hk => by
      rw [Nat.testBit_two_pow_sub_one] at hk; exact of_decide_eq_true hk
    have hfb : firstL S = bitsL (2 ^ S - 1) := first_bits ⟨S, by omega⟩
    have hrb := best_range (setsOf h) (fun t ht => (sets_ok hh t ht).2) (2 ^ S - 1) (by omega)
    have hft : ∀ k : Nat, k < S → findT h k = ((findL h k (2 ^ S) (2 ^ S - 1)).1, (findL h k (2 ^ S) (2 ^ S - 1)).2, 0) := fun k hk => by
      unfold findT
      rw [if_pos hh, if_pos (by unfold fromB; exact decide_eq_true ⟨by omega, by omega⟩), hS, Int.toNat_natCast, Int.toNat_natCast, if_neg cb]
    have hfw := found_worst h hh (2 ^ S - 1) (2 ^ S) (by omega) (by omega) (by omega) cb
    have hff := fun k hk => found_fold h hh k (2 ^ S - 1) (2 ^ S) (by omega) (by omega) (by omega) cb (hbits k hk) 0
    rw [← hfb] at hff
    have hll : ∀ k, (findL h k (2 ^ S) (2 ^ S - 1)).1.length ≤ 256 := fun k => Nat.le_trans (findL_len2 h k _ _) hN
    have hmost : mostL (fun k => (findL h k (2 ^ S) (2 ^ S - 1)).2) S = (bestS (setsOf h) (2 ^ S - 1)).1 := by
      obtain ⟨k, hk1, hk2⟩ := hfw
      have h1 := mostL_le (f := fun k => (findL h k (2 ^ S) (2 ^ S - 1)).2) (w := (bestS (setsOf h) (2 ^ S - 1)).1) hrb.1 S fun k hk => (hff k hk).2.2.2
      have h2 := mostL_ge (f := fun k => (findL h k (2 ^ S) (2 ^ S - 1)).2) S k (hbit2 k hk1)
      omega
    generalize (bestS (setsOf h) (2 ^ S - 1)).1 = W0 at *
    generalize 2 ^ S = N at *
    clear hwc hwt hof hnd hfb hfw hbits hbit2
    simp only [does_bind]
    refine xl_does (fun k T s' => T.length = 156 ∧ nth T 3 = some (.ptr [1] 0) ∧ nth T 4 = some (.int .i64 W0) ∧ ∃ (leak n : Nat) (H : Heap), nth T 10 = some (.int .i64 (mostL (fun k => (findL h k N (N - 1)).2) leak)) ∧ nth T 11 = some (.int .i64 leak) ∧ leak ≤ S ∧ k = S - leak ∧ s' = ⟨H, n + 2, [], false, []⟩ ∧ hget H [1] = some (.cells [.int .i64 S, .lst (h.trials.map triV)] true 0)) (k := S) (by omega) ?_ ?_
    · exact ⟨by simp -implicitDefEqProofs only [redoH, redo1, go_sem, Int.reduceEq, Int.reduceNeg, Nat.reduceEqDiff, Nat.reduceLT, Nat.reduceAdd, Nat.reduceSub, Nat.reduceMul, Int.reduceLE, Int.reduceLT, Int.reduceToNat, Int.toNat_natCast, Nat.reduceLeDiff, Bool.not_true, Bool.not_false, hT], by simp -implicitDefEqProofs only [redoH, redo1, go_sem, Int.reduceEq, Int.reduceNeg, Nat.reduceEqDiff, Nat.reduceLT, Nat.reduceAdd, Nat.reduceSub, Nat.reduceMul, Int.reduceLE, Int.reduceLT, Int.reduceToNat, Int.toNat_natCast, Nat.reduceLeDiff, Bool.not_true, Bool.not_false, hT], by simp -implicitDefEqProofs only [redoH, redo1, go_sem, Int.reduceEq, Int.reduceNeg, Nat.reduceEqDiff, Nat.reduceLT, Nat.reduceAdd, Nat.reduceSub, Nat.reduceMul, Int.reduceLE, Int.reduceLT, Int.reduceToNat, Int.toNat_natCast, Nat.reduceLeDiff, Bool.not_true, Bool.not_false, hT], 0, 1, _, by simp -implicitDefEqProofs only [redoH, redo1, go_sem, Int.reduceEq, Int.reduceNeg, Nat.reduceEqDiff, Nat.reduceLT, Nat.reduceAdd, Nat.reduceSub, Nat.reduceMul, Int.reduceLE, Int.reduceLT, Int.reduceToNat, Int.toNat_natCast, Nat.reduceLeDiff, Bool.not_true, Bool.not_false, hT] <;> rfl, by simp -implicitDefEqProofs only [redoH, redo1, go_sem, Int.reduceEq, Int.reduceNeg, Nat.reduceEqDiff, Nat.reduceLT, Nat.reduceAdd, Nat.reduceSub, Nat.reduceMul, Int.reduceLE, Int.reduceLT, Int.reduceToNat, Int.toNat_natCast, Nat.reduceLeDiff, Bool.not_true, Bool.not_false, hT] <;> rfl, by omega, rfl, rfl, rfl⟩
    clear a0 hT
    rintro k T s' ⟨hT, a3, a4, leak, n, H, a10, a11, hle, rfl, rfl, g1⟩
    simp -implicitDefEqProofs only [redoH, redo1, go_sem, Int.reduceEq, Int.reduceNeg, Nat.reduceEqDiff, Nat.reduceLT, Nat.reduceAdd, Nat.reduceSub, Nat.reduceMul, Int.reduceLE, Int.reduceLT, Int.reduceToNat, Int.toNat_natCast, Nat.reduceLeDiff, Bool.not_true, Bool.not_false, a3, a4, a10, a11, hT, g1]
    by_cases hlo : (leak : Int) < (S : Int)
    · have hlS : leak < S := by omega
      have hfc := fun s => find_call h leak (K + 309) s (by omega) (hok _ (by omega))
      rw [hft leak hlS] at hfc
      obtain ⟨hfo, hva, hc0, hc1⟩ := hff leak hlS
      have hll1 := hll leak
      have hms : mostL (fun k => (findL h k N (N - 1)).2) (leak + 1) = max (mostL (fun k => (findL h k N (N - 1)).2) leak) (findL h leak N (N - 1)).2 := rfl
      generalize findL h leak N (N - 1) = fl at *
      obtain ⟨l, cost⟩ := fl
      simp only at *
      simp only [hntV, hS, f3V] at hfc
      simp -implicitDefEqProofs only [redoH, redo1, go_sem, Int.reduceEq, Int.reduceNeg, Nat.reduceEqDiff, Nat.reduceLT, Nat.reduceAdd, Nat.reduceSub, Nat.reduceMul, Int.reduceLE, Int.reduceLT, Int.reduceToNat, Int.toNat_natCast, Nat.reduceLeDiff, Bool.not_true, Bool.not_false, a3, a4, a10, a11, hT, hlo, g1, hfc, hf]
      simp only [does_bind]
      refine xl_does (fun k T s' => T.length = 156 ∧ nth T 3 = some (.ptr [1] 0) ∧ nth T 4 = some (.int .i64 W0) ∧ nth T 10 = some (.int .i64 (mostL (fun k => (findL h k N (N - 1)).2) leak)) ∧ nth T 11 = some (.int .i64 leak) ∧ nth T 12 = some (.lst (l.map tryV)) ∧ nth T 13 = some (.int .i64 cost) ∧ ∃ (i n : Nat) (H : Heap) (v : AV) (F : List Int) (c : Int), nth T 15 = some (.int .i64 c) ∧ nth T 16 = some v ∧ nth T 17 = some (.int .i64 i) ∧ i ≤ l.length ∧ k = l.length - i ∧ s' = ⟨H, n + 2, [], false, []⟩ ∧ hget H [1] = some (.cells [.int .i64 S, .lst (h.trials.map triV)] true 0) ∧
        (v = .lst (F.map iV) ∨ (v = .nils ∧ F = []) ∨ ∃ b, v = .own b (F.map iV)) ∧ foldT h (l.drop i) (F, c) = ([(leak : Int)], 0 + cost) ∧ F.length ≤ 12 ∧ 0 ≤ c ∧ c ≤ 1000 * i) (k := l.length) (by omega) ?_ ?_
      · exact ⟨by simp -implicitDefEqProofs only [redoH, redo1, go_sem, Int.reduceEq, Int.reduceNeg, Nat.reduceEqDiff, Nat.reduceLT, Nat.reduceAdd, Nat.reduceSub, Nat.reduceMul, Int.reduceLE, Int.reduceLT, Int.reduceToNat, Int.toNat_natCast, Nat.reduceLeDiff, Bool.not_true, Bool.not_false, hT], by simp -implicitDefEqProofs only [redoH, redo1, go_sem, Int.reduceEq, Int.reduceNeg, Nat.reduceEqDiff, Nat.reduceLT, Nat.reduceAdd, Nat.reduceSub, Nat.reduceMul, Int.reduceLE, Int.reduceLT, Int.reduceToNat, Int.toNat_natCast, Nat.reduceLeDiff, Bool.not_true, Bool.not_false, a3], by simp -implicitDefEqProofs only [redoH, redo1, go_sem, Int.reduceEq, Int.reduceNeg, Nat.reduceEqDiff, Nat.reduceLT, Nat.reduceAdd, Nat.reduceSub, Nat.reduceMul, Int.reduceLE, Int.reduceLT, Int.reduceToNat, Int.toNat_natCast, Nat.reduceLeDiff, Bool.not_true, Bool.not_false, a4], by simp -implicitDefEqProofs only [redoH, redo1, go_sem, Int.reduceEq, Int.reduceNeg, Nat.reduceEqDiff, Nat.reduceLT, Nat.reduceAdd, Nat.reduceSub, Nat.reduceMul, Int.reduceLE, Int.reduceLT, Int.reduceToNat, Int.toNat_natCast, Nat.reduceLeDiff, Bool.not_true, Bool.not_false, a10], by simp -implicitDefEqProofs only [redoH, redo1, go_sem, Int.reduceEq, Int.reduceNeg, Nat.reduceEqDiff, Nat.reduceLT, Nat.reduceAdd, Nat.reduceSub, Nat.reduceMul, Int.reduceLE, Int.reduceLT, Int.reduceToNat, Int.toNat_natCast, Nat.reduceLeDiff, Bool.not_true, Bool.not_false, a11], by simp -implicitDefEqProofs only [redoH, redo1, go_sem, Int.reduceEq, Int.reduceNeg, Nat.reduceEqDiff, Nat.reduceLT, Nat.reduceAdd, Nat.reduceSub, Nat.reduceMul, Int.reduceLE, Int.reduceLT, Int.reduceToNat, Int.toNat_natCast, Nat.reduceLeDiff, Bool.not_true, Bool.not_false, hT], by simp -implicitDefEqProofs only [redoH, redo1, go_sem, Int.reduceEq, Int.reduceNeg, Nat.reduceEqDiff, Nat.reduceLT, Nat.reduceAdd, Nat.reduceSub, Nat.reduceMul, Int.reduceLE, Int.reduceLT, Int.reduceToNat, Int.toNat_natCast, Nat.reduceLeDiff, Bool.not_true, Bool.not_false, hT], 0, n, H, _, firstL S, 0, by simp -implicitDefEqProofs only [redoH, redo1, go_sem, Int.reduceEq, Int.reduceNeg, Nat.reduceEqDiff, Nat.reduceLT, Nat.reduceAdd, Nat.reduceSub, Nat.reduceMul, Int.reduceLE, Int.reduceLT, Int.reduceToNat, Int.toNat_natCast, Nat.reduceLeDiff, Bool.not_true, Bool.not_false, hT], by simp -implicitDefEqProofs only [redoH, redo1, go_sem, Int.reduceEq, Int.reduceNeg, Nat.reduceEqDiff, Nat.reduceLT, Nat.reduceAdd, Nat.reduceSub, Nat.reduceMul, Int.reduceLE, Int.reduceLT, Int.reduceToNat, Int.toNat_natCast, Nat.reduceLeDiff, Bool.not_true, Bool.not_false, hT], by simp -implicitDefEqProofs only [redoH, redo1, go_sem, Int.reduceEq, Int.reduceNeg, Nat.reduceEqDiff, Nat.reduceLT, Nat.reduceAdd, Nat.reduceSub, Nat.reduceMul, Int.reduceLE, Int.reduceLT, Int.reduceToNat, Int.toNat_natCast, Nat.reduceLeDiff, Bool.not_true, Bool.not_false, hT] <;> rfl, by omega, rfl, rfl, g1, .inl rfl, hfo, by omega, by omega, by omega⟩
      clear a3 a4 a10 a11 hT T g1 H n
      rintro k T s' ⟨hT, a3, a4, a10, a11, a12, a13, i, n, H, v, F, c, a15, a16, a17, hi, rfl, rfl, g1, hv, hfd, hF, hcl, hch⟩
      simp -implicitDefEqProofs only [redoH, redo1, go_sem, Int.reduceEq, Int.reduceNeg, Nat.reduceEqDiff, Nat.reduceLT, Nat.reduceAdd, Nat.reduceSub, Nat.reduceMul, Int.reduceLE, Int.reduceLT, Int.reduceToNat, Int.toNat_natCast, Nat.reduceLeDiff, Bool.not_true, Bool.not_false, a3, a4, a10, a11, a12, a13, a15, a16, a17, hT]
      by_cases hil : (i : Int) < (l.length : Int)
      · have hi' : i < l.length := by omega
        obtain ⟨j, hj, hxj⟩ := hva _ (List.getElem_mem hi')
        have e1 := elemAt_map (f := tryV) (l := l) (i := i) (z := 2) hi' rfl
        have e2 := elemAt_map (f := triV) (l := h.trials) (i := j) (z := 2) hj rfl
        rw [List.drop_eq_getElem_cons hi'] at hfd
        generalize l[i] = x at *
        obtain ⟨tr, inn⟩ := x
        simp only at hxj
        subst hxj
        simp only [foldT, Int.toNat_natCast, List.getElem?_eq_getElem hj] at hfd
        have htj := htr _ (List.getElem_mem hj)
        have hok3 := (hok 21 (by omega)).2 _ (List.getElem_mem hj)
        have hof := fun s n => has_call h.trials[j].of n (K + 318) s (by omega) (by omega)
        generalize h.trials[j] = t at *
        have hj0 : ¬ (j : Int) < 0 := by omega
        have hj1 : ¬ (h.trials.length : Int) ≤ (j : Int) := by omega
        have hwc : wrapF .i64 (c + t.cost) = c + t.cost := wrap_i64 (by omega) (by omega)
        simp -implicitDefEqProofs only [redoH, redo1, go_sem, Int.reduceEq, Int.reduceNeg, Nat.reduceEqDiff, Nat.reduceLT, Nat.reduceAdd, Nat.reduceSub, Nat.reduceMul, Int.reduceLE, Int.reduceLT, Int.reduceToNat, Int.toNat_natCast, Nat.reduceLeDiff, Bool.not_true, Bool.not_false, a3, a4, a10, a11, a12, a13, a15, a16, a17, hT, hil]
        simp only [does_bind]
        refine draw_mach [] [] (by kernel_rfl) ?_
        simp -implicitDefEqProofs only [redoH, redo1, go_sem, Int.reduceEq, Int.reduceNeg, Nat.reduceEqDiff, Nat.reduceLT, Nat.reduceAdd, Nat.reduceSub, Nat.reduceMul, Int.reduceLE, Int.reduceLT, Int.reduceToNat, Int.toNat_natCast, Nat.reduceLeDiff, Bool.not_true, Bool.not_false, a3, a4, a10, a11, a12, a13, a15, a16, a17, hT, e1, hj0, hj1, g1]
        simp only [does_bind]
        refine draw_mach [9, 10] [10] (by kernel_rfl) ?_
        simp -implicitDefEqProofs only [go_sem, Int.reduceEq, Int.reduceNeg, Nat.reduceEqDiff, Nat.reduceLT, Nat.reduceAdd, Nat.reduceSub, Nat.reduceMul, Int.reduceLE, Int.reduceLT, Int.reduceToNat, Int.toNat_natCast, Nat.reduceLeDiff, Bool.not_true, Bool.not_false, a3, a4, a10, a11, a12, a13, a15, a16, a17, hT, e1, e2, g1]
        have r1 : ∀ X Y, hget (redoH H [([n + 2 + 1, 9, 0], some X), ([n + 2 + 1, 9, 0], some Y)]) [1] = some (.cells [.int .i64 S, .lst (h.trials.map triV)] true 0) := fun X Y => by
          rw [hget_redoH]; simp only [lkD]; exact g1
        have r2 : ∀ X Y, hget (redoH H [([n + 2 + 1, 9, 0], some X), ([n + 2 + 1, 9, 0], some Y)]) [n + 2 + 1, 9, 0] = some X := fun X Y => by
          rw [hget_redoH]; simp only [lkD, if_true]; rfl
        simp -implicitDefEqProofs only [go_sem, Int.reduceEq, Int.reduceNeg, Nat.reduceEqDiff, Nat.reduceLT, Nat.reduceAdd, Nat.reduceSub, Nat.reduceMul, Int.reduceLE, Int.reduceLT, Int.reduceToNat, Int.toNat_natCast, Nat.reduceLeDiff, Bool.not_true, Bool.not_false, a3, a4, a10, a11, a12, a13, a15, a16, a17, hT, r2, hwc]
        simp only [does_bind]
        have hrow2 : ∀ (T : List AV), T.length = 156 → True := fun _ _ => trivial
        rcases hv with rfl | ⟨rfl, rfl⟩ | ⟨bb, rfl⟩
        · refine xl_does (fun k T s' => T.length = 156 ∧ nth T 3 = some (.ptr [1] 0) ∧ nth T 4 = some (.int .i64 W0) ∧ nth T 10 = some (.int .i64 (mostL (fun k => (findL h k N (N - 1)).2) leak)) ∧ nth T 11 = some (.int .i64 leak) ∧ nth T 12 = some (.lst (l.map tryV)) ∧ nth T 13 = some (.int .i64 cost) ∧ nth T 15 = some (.int .i64 (c + t.cost)) ∧ nth T 16 = some (.lst (F.map iV)) ∧ nth T 17 = some (.int .i64 i) ∧ nth T 18 = some (.ptr [n + 2 + 1, 9, 0] 0) ∧ ∃ (k2 n2 tc : Nat) (H : Heap) (left : List Int), nth T 19 = some (ownV [tc + 2] (left.map iV)) ∧ nth T 20 = some (.int .i64 k2) ∧ k2 ≤ F.length ∧ k = F.length - k2 ∧ s' = ⟨H, n2 + 2, [], false, []⟩ ∧ hget H [1] = some (.cells [.int .i64 S, .lst (h.trials.map triV)] true 0) ∧
            hget H [n + 2 + 1, 9, 0] = some (.cells [.lst (t.of.map iV), .int .i64 t.cost] true 0) ∧ (left.map iV ≠ [] → tc < n2 ∧ hget H [tc + 2] = some (.tok left.length 1)) ∧ left = (F.take k2).filter (fun n => decide (n ∈ t.of) == inn)) (k := F.length) (by omega) ?_ ?_
          · exact ⟨by simp -implicitDefEqProofs only [redoH, redo1, go_sem, Int.reduceEq, Int.reduceNeg, Nat.reduceEqDiff, Nat.reduceLT, Nat.reduceAdd, Nat.reduceSub, Nat.reduceMul, Int.reduceLE, Int.reduceLT, Int.reduceToNat, Int.toNat_natCast, Nat.reduceLeDiff, Bool.not_true, Bool.not_false, hT], by simp -implicitDefEqProofs only [redoH, redo1, go_sem, Int.reduceEq, Int.reduceNeg, Nat.reduceEqDiff, Nat.reduceLT, Nat.reduceAdd, Nat.reduceSub, Nat.reduceMul, Int.reduceLE, Int.reduceLT, Int.reduceToNat, Int.toNat_natCast, Nat.reduceLeDiff, Bool.not_true, Bool.not_false, a3], by simp -implicitDefEqProofs only [redoH, redo1, go_sem, Int.reduceEq, Int.reduceNeg, Nat.reduceEqDiff, Nat.reduceLT, Nat.reduceAdd, Nat.reduceSub, Nat.reduceMul, Int.reduceLE, Int.reduceLT, Int.reduceToNat, Int.toNat_natCast, Nat.reduceLeDiff, Bool.not_true, Bool.not_false, a4], by simp -implicitDefEqProofs only [redoH, redo1, go_sem, Int.reduceEq, Int.reduceNeg, Nat.reduceEqDiff, Nat.reduceLT, Nat.reduceAdd, Nat.reduceSub, Nat.reduceMul, Int.reduceLE, Int.reduceLT, Int.reduceToNat, Int.toNat_natCast, Nat.reduceLeDiff, Bool.not_true, Bool.not_false, a10], by simp -implicitDefEqProofs only [redoH, redo1, go_sem, Int.reduceEq, Int.reduceNeg, Nat.reduceEqDiff, Nat.reduceLT, Nat.reduceAdd, Nat.reduceSub, Nat.reduceMul, Int.reduceLE, Int.reduceLT, Int.reduceToNat, Int.toNat_natCast, Nat.reduceLeDiff, Bool.not_true, Bool.not_false, a11], by simp -implicitDefEqProofs only [redoH, redo1, go_sem, Int.reduceEq, Int.reduceNeg, Nat.reduceEqDiff, Nat.reduceLT, Nat.reduceAdd, Nat.reduceSub, Nat.reduceMul, Int.reduceLE, Int.reduceLT, Int.reduceToNat, Int.toNat_natCast, Nat.reduceLeDiff, Bool.not_true, Bool.not_false, a12], by simp -implicitDefEqProofs only [redoH, redo1, go_sem, Int.reduceEq, Int.reduceNeg, Nat.reduceEqDiff, Nat.reduceLT, Nat.reduceAdd, Nat.reduceSub, Nat.reduceMul, Int.reduceLE, Int.reduceLT, Int.reduceToNat, Int.toNat_natCast, Nat.reduceLeDiff, Bool.not_true, Bool.not_false, a13], by simp -implicitDefEqProofs only [redoH, redo1, go_sem, Int.reduceEq, Int.reduceNeg, Nat.reduceEqDiff, Nat.reduceLT, Nat.reduceAdd, Nat.reduceSub, Nat.reduceMul, Int.reduceLE, Int.reduceLT, Int.reduceToNat, Int.toNat_natCast, Nat.reduceLeDiff, Bool.not_true, Bool.not_false, hT], by simp -implicitDefEqProofs only [redoH, redo1, go_sem, Int.reduceEq, Int.reduceNeg, Nat.reduceEqDiff, Nat.reduceLT, Nat.reduceAdd, Nat.reduceSub, Nat.reduceMul, Int.reduceLE, Int.reduceLT, Int.reduceToNat, Int.toNat_natCast, Nat.reduceLeDiff, Bool.not_true, Bool.not_false, a16], by simp -implicitDefEqProofs only [redoH, redo1, go_sem, Int.reduceEq, Int.reduceNeg, Nat.reduceEqDiff, Nat.reduceLT, Nat.reduceAdd, Nat.reduceSub, Nat.reduceMul, Int.reduceLE, Int.reduceLT, Int.reduceToNat, Int.toNat_natCast, Nat.reduceLeDiff, Bool.not_true, Bool.not_false, a17], by simp -implicitDefEqProofs only [redoH, redo1, go_sem, Int.reduceEq, Int.reduceNeg, Nat.reduceEqDiff, Nat.reduceLT, Nat.reduceAdd, Nat.reduceSub, Nat.reduceMul, Int.reduceLE, Int.reduceLT, Int.reduceToNat, Int.toNat_natCast, Nat.reduceLeDiff, Bool.not_true, Bool.not_false, hT], 0, n + 2, 0, _, [], by simp -implicitDefEqProofs only [redoH, redo1, go_sem, Int.reduceEq, Int.reduceNeg, Nat.reduceEqDiff, Nat.reduceLT, Nat.reduceAdd, Nat.reduceSub, Nat.reduceMul, Int.reduceLE, Int.reduceLT, Int.reduceToNat, Int.toNat_natCast, Nat.reduceLeDiff, Bool.not_true, Bool.not_false, hT] <;> rfl, by simp -implicitDefEqProofs only [redoH, redo1, go_sem, Int.reduceEq, Int.reduceNeg, Nat.reduceEqDiff, Nat.reduceLT, Nat.reduceAdd, Nat.reduceSub, Nat.reduceMul, Int.reduceLE, Int.reduceLT, Int.reduceToNat, Int.toNat_natCast, Nat.reduceLeDiff, Bool.not_true, Bool.not_false, hT] <;> rfl, by omega, rfl, rfl, r1 _ _, r2 _ _, fun hx => absurd rfl hx, rfl⟩
          clear hwc r1 r2 a3 a4 a10 a11 a12 a13 a15 a16 a17 hT T
          rintro k T s' ⟨hT, a3, a4, a10, a11, a12, a13, a15, a16, a17, a18, k2, n2, tc, H2, left, a19, a20, hk2', rfl, rfl, g2, g3, gt, hleft⟩
          simp -implicitDefEqProofs only [redoH, redo1, go_sem, Int.reduceEq, Int.reduceNeg, Nat.reduceEqDiff, Nat.reduceLT, Nat.reduceAdd, Nat.reduceSub, Nat.reduceMul, Int.reduceLE, Int.reduceLT, Int.reduceToNat, Int.toNat_natCast, Nat.reduceLeDiff, Bool.not_true, Bool.not_false, a3, a4, a10, a11, a12, a13, a15, a16, a17, a18, a19, a20, hT]
          by_cases hkl : (k2 : Int) < (F.length : Int)
          · have hkF : k2 < F.length := by omega
            have e3 := elemAt_map (f := iV) (l := F) (i := k2) (z := 1) hkF rfl
            have htk : (F.take (k2 + 1)).filter (fun n => decide (n ∈ t.of) == inn) = left ++ (if (decide (F[k2] ∈ t.of) == inn) = true then [F[k2]] else []) := by
              rw [List.take_succ_eq_append_getElem hkF, List.filter_append, ← hleft]
              simp only [List.filter_cons, List.filter_nil]
            have hof2 := fun s => hof s F[k2]
            have hll3 : left.length ≤ 12 := by
              rw [hleft]
              exact Nat.le_trans (List.length_filter_le _ _) (by rw [List.length_take]; omega)
            generalize F[k2] = fk at *
            have hkk : F.length - (k2 + 1) < F.length - k2 := by omega
            have hap := append_abs (C := cfg.at 11) (sT := 22) (b := [tc + 2]) (l := left.map iV) (x := iV fk) (H := H2) (n := n2 + 2 + 1) (p := []) (jr := false) (j := []) (z := 1) desc22 tget3 rfl rfl rfl rfl rfl rfl (by rw [List.length_map]; show (left.length + 1) * 8 ≤ _; omega) (fun hx => by rw [List.length_map]; exact (gt hx).2)
            have hrm : (left ++ [fk]).map iV = left.map iV ++ [iV fk] := by simp
            have p1 := fun X => (hget_cons_ne (i := [n2 + 2 + 1]) (j := [1]) X (dropTok (left.map iV) [tc + 2] H2) (nm_ne (by omega))).trans ((hget_dropTok _ _ (nm_ne (by omega))).trans g2)
            have p3 := fun X => (hget_cons_ne (i := [n2 + 2 + 1]) (j := [n + 2 + 1, 9, 0]) X (dropTok (left.map iV) [tc + 2] H2) (by simp)).trans ((hget_dropTok _ _ (by simp)).trans g3)
            rw [← hrm, List.length_map] at hap
            generalize dropTok (left.map iV) [tc + 2] H2 = H3 at *
            simp only [iV] at hap
            have hln : (left ++ [fk]).length = left.length + 1 := by simp
            have hnn : n2 + 1 < n2 + 2 := by omega
            have gt2 : left.map iV ≠ [] → tc < n2 + 1 ∧ hget H2 [tc + 2] = some (.tok left.length 1) := fun hx => ⟨by have := (gt hx).1; omega, (gt hx).2⟩
            have hw1 : wrapF .i64 ((k2 : Int) + 1) = ((k2 + 1 : Nat) : Int) := wrap_i64 (by omega) (by omega)
            simp -implicitDefEqProofs only [redoH, redo1, go_sem, Int.reduceEq, Int.reduceNeg, Nat.reduceEqDiff, Nat.reduceLT, Nat.reduceAdd, Nat.reduceSub, Nat.reduceMul, Int.reduceLE, Int.reduceLT, Int.reduceToNat, Int.toNat_natCast, Nat.reduceLeDiff, Bool.not_true, Bool.not_false, a3, a4, a10, a11, a12, a13, a15, a16, a17, a18, a19, a20, hT, hkl, e1]
            simp only [does_bind]
            refine draw_mach [] [] (by kernel_rfl) ?_
            cases hq : decide (fk ∈ t.of) <;> cases inn <;> rw [hq] at htk hof2
            · simp -implicitDefEqProofs only [redoH, redo1, go_sem, Int.reduceEq, Int.reduceNeg, Nat.reduceEqDiff, Nat.reduceLT, Nat.reduceAdd, Nat.reduceSub, Nat.reduceMul, Int.reduceLE, Int.reduceLT, Int.reduceToNat, Int.toNat_natCast, Nat.reduceLeDiff, Bool.not_true, Bool.not_false, a3, a4, a10, a11, a12, a13, a15, a16, a17, a18, a19, a20, hT, hkl, e1, e3, g3, eq_ff, eq_ft, eq_tf, eq_tt, hof2, hap, hw1, desc22]
              exact ⟨F.length - (k2 + 1), hkk, trivial, trivial, trivial, trivial, trivial, trivial, trivial, trivial, trivial, trivial, trivial, k2 + 1, n2 + 2, n2 + 1, _, left ++ [fk], rfl, rfl, hkF, rfl, rfl, p1 _, p3 _, fun _ => ⟨hnn, by rw [hln]; exact hget_cons_same ..⟩, htk.symm⟩
            · simp -implicitDefEqProofs only [redoH, redo1, go_sem, Int.reduceEq, Int.reduceNeg, Nat.reduceEqDiff, Nat.reduceLT, Nat.reduceAdd, Nat.reduceSub, Nat.reduceMul, Int.reduceLE, Int.reduceLT, Int.reduceToNat, Int.toNat_natCast, Nat.reduceLeDiff, Bool.not_true, Bool.not_false, a3, a4, a10, a11, a12, a13, a15, a16, a17, a18, a19, a20, hT, hkl, e1, e3, g3, eq_ff, eq_ft, eq_tf, eq_tt, hof2, hw1]
              exact ⟨F.length - (k2 + 1), hkk, trivial, trivial, trivial, trivial, trivial, trivial, trivial, trivial, trivial, trivial, trivial, k2 + 1, n2 + 1, tc, _, left, rfl, rfl, hkF, rfl, rfl, g2, g3, gt2, by rw [htk]; simp⟩
            · simp -implicitDefEqProofs only [redoH, redo1, go_sem, Int.reduceEq, Int.reduceNeg, Nat.reduceEqDiff, Nat.reduceLT, Nat.reduceAdd, Nat.reduceSub, Nat.reduceMul, Int.reduceLE, Int.reduceLT, Int.reduceToNat, Int.toNat_natCast, Nat.reduceLeDiff, Bool.not_true, Bool.not_false, a3, a4, a10, a11, a12, a13, a15, a16, a17, a18, a19, a20, hT, hkl, e1, e3, g3, eq_ff, eq_ft, eq_tf, eq_tt, hof2, hw1]
              exact ⟨F.length - (k2 + 1), hkk, trivial, trivial, trivial, trivial, trivial, trivial, trivial, trivial, trivial, trivial, trivial, k2 + 1, n2 + 1, tc, _, left, rfl, rfl, hkF, rfl, rfl, g2, g3, gt2, by rw [htk]; simp⟩
            · simp -implicitDefEqProofs only [redoH, redo1, go_sem, Int.reduceEq, Int.reduceNeg, Nat.reduceEqDiff, Nat.reduceLT, Nat.reduceAdd, Nat.reduceSub, Nat.reduceMul, Int.reduceLE, Int.reduceLT, Int.reduceToNat, Int.toNat_natCast, Nat.reduceLeDiff, Bool.not_true, Bool.not_false, a3, a4, a10, a11, a12, a13, a15, a16, a17, a18, a19, a20, hT, hkl, e1, e3, g3, eq_ff, eq_ft, eq_tf, eq_tt, hof2, hap, hw1, desc22]
              exact ⟨F.length - (k2 + 1), hkk, trivial, trivial, trivial, trivial, trivial, trivial, trivial, trivial, trivial, trivial, trivial, k2 + 1, n2 + 2, n2 + 1, _, left ++ [fk], rfl, rfl, hkF, rfl, rfl, p1 _, p3 _, fun _ => ⟨hnn, by rw [hln]; exact hget_cons_same ..⟩, htk.symm⟩
          · have hkF : k2 = F.length := by omega
            subst hkF
            rw [List.take_length] at hleft
            rw [← hleft] at hfd
            have hll3 : left.length ≤ 12 := by
              rw [hleft]
              exact Nat.le_trans (List.length_filter_le _ _) hF
            have hvl : ownV [tc + 2] (left.map iV) = .lst (left.map iV) ∨ (ownV [tc + 2] (left.map iV) = .nils ∧ left = []) ∨ ∃ b, ownV [tc + 2] (left.map iV) = .own b (left.map iV) := by
              cases left with
              | nil => exact .inr (.inl ⟨rfl, rfl⟩)
              | cons a r => exact .inr (.inr ⟨_, rfl⟩)
            have hkk : l.length - (i + 1) < l.length - i := by omega
            have hcc : 0 ≤ c + t.cost ∧ c + t.cost ≤ 1000 * ((i + 1 : Nat) : Int) := by omega
            have hw1 : wrapF .i64 ((i : Int) + 1) = ((i + 1 : Nat) : Int) := wrap_i64 (by omega) (by omega)
            simp -implicitDefEqProofs only [redoH, redo1, go_sem, Int.reduceEq, Int.reduceNeg, Nat.reduceEqDiff, Nat.reduceLT, Nat.reduceAdd, Nat.reduceSub, Nat.reduceMul, Int.reduceLE, Int.reduceLT, Int.reduceToNat, Int.toNat_natCast, Nat.reduceLeDiff, Bool.not_true, Bool.not_false, a3, a4, a10, a11, a12, a13, a15, a16, a17, a18, a19, a20, hT, hkl, hw1]
            exact ⟨l.length - (i + 1), hkk, trivial, trivial, trivial, trivial, trivial, trivial, trivial, i + 1, n2, H2, _, left, c + t.cost, rfl, rfl, rfl, hi', rfl, rfl, g2, hvl, hfd, hll3, hcc.1, hcc.2⟩
        · refine xl_does (fun k T s' => T.length = 156 ∧ nth T 3 = some (.ptr [1] 0) ∧ nth T 4 = some (.int .i64 W0) ∧ nth T 10 = some (.int .i64 (mostL (fun k => (findL h k N (N - 1)).2) leak)) ∧ nth T 11 = some (.int .i64 leak) ∧ nth T 12 = some (.lst (l.map tryV)) ∧ nth T 13 = some (.int .i64 cost) ∧ nth T 15 = some (.int .i64 (c + t.cost)) ∧ nth T 16 = some .nils ∧ nth T 17 = some (.int .i64 i) ∧ nth T 19 = some .nils ∧ nth T 20 = some (.int .i64 0) ∧ k = 0 ∧ ∃ (n : Nat) (H : Heap), s' = ⟨H, n + 2, [], false, []⟩ ∧ hget H [1] = some (.cells [.int .i64 S, .lst (h.trials.map triV)] true 0)) (k := 0) (by omega) ?_ ?_
          · exact ⟨by simp -implicitDefEqProofs only [redoH, redo1, go_sem, Int.reduceEq, Int.reduceNeg, Nat.reduceEqDiff, Nat.reduceLT, Nat.reduceAdd, Nat.reduceSub, Nat.reduceMul, Int.reduceLE, Int.reduceLT, Int.reduceToNat, Int.toNat_natCast, Nat.reduceLeDiff, Bool.not_true, Bool.not_false, hT], by simp -implicitDefEqProofs only [redoH, redo1, go_sem, Int.reduceEq, Int.reduceNeg, Nat.reduceEqDiff, Nat.reduceLT, Nat.reduceAdd, Nat.reduceSub, Nat.reduceMul, Int.reduceLE, Int.reduceLT, Int.reduceToNat, Int.toNat_natCast, Nat.reduceLeDiff, Bool.not_true, Bool.not_false, a3], by simp -implicitDefEqProofs only [redoH, redo1, go_sem, Int.reduceEq, Int.reduceNeg, Nat.reduceEqDiff, Nat.reduceLT, Nat.reduceAdd, Nat.reduceSub, Nat.reduceMul, Int.reduceLE, Int.reduceLT, Int.reduceToNat, Int.toNat_natCast, Nat.reduceLeDiff, Bool.not_true, Bool.not_false, a4], by simp -implicitDefEqProofs only [redoH, redo1, go_sem, Int.reduceEq, Int.reduceNeg, Nat.reduceEqDiff, Nat.reduceLT, Nat.reduceAdd, Nat.reduceSub, Nat.reduceMul, Int.reduceLE, Int.reduceLT, Int.reduceToNat, Int.toNat_natCast, Nat.reduceLeDiff, Bool.not_true, Bool.not_false, a10], by simp -implicitDefEqProofs only [redoH, redo1, go_sem, Int.reduceEq, Int.reduceNeg, Nat.reduceEqDiff, Nat.reduceLT, Nat.reduceAdd, Nat.reduceSub, Nat.reduceMul, Int.reduceLE, Int.reduceLT, Int.reduceToNat, Int.toNat_natCast, Nat.reduceLeDiff, Bool.not_true, Bool.not_false, a11], by simp -implicitDefEqProofs only [redoH, redo1, go_sem, Int.reduceEq, Int.reduceNeg, Nat.reduceEqDiff, Nat.reduceLT, Nat.reduceAdd, Nat.reduceSub, Nat.reduceMul, Int.reduceLE, Int.reduceLT, Int.reduceToNat, Int.toNat_natCast, Nat.reduceLeDiff, Bool.not_true, Bool.not_false, a12], by simp -implicitDefEqProofs only [redoH, redo1, go_sem, Int.reduceEq, Int.reduceNeg, Nat.reduceEqDiff, Nat.reduceLT, Nat.reduceAdd, Nat.reduceSub, Nat.reduceMul, Int.reduceLE, Int.reduceLT, Int.reduceToNat, Int.toNat_natCast, Nat.reduceLeDiff, Bool.not_true, Bool.not_false, a13], by simp -implicitDefEqProofs only [redoH, redo1, go_sem, Int.reduceEq, Int.reduceNeg, Nat.reduceEqDiff, Nat.reduceLT, Nat.reduceAdd, Nat.reduceSub, Nat.reduceMul, Int.reduceLE, Int.reduceLT, Int.reduceToNat, Int.toNat_natCast, Nat.reduceLeDiff, Bool.not_true, Bool.not_false, hT], by simp -implicitDefEqProofs only [redoH, redo1, go_sem, Int.reduceEq, Int.reduceNeg, Nat.reduceEqDiff, Nat.reduceLT, Nat.reduceAdd, Nat.reduceSub, Nat.reduceMul, Int.reduceLE, Int.reduceLT, Int.reduceToNat, Int.toNat_natCast, Nat.reduceLeDiff, Bool.not_true, Bool.not_false, a16], by simp -implicitDefEqProofs only [redoH, redo1, go_sem, Int.reduceEq, Int.reduceNeg, Nat.reduceEqDiff, Nat.reduceLT, Nat.reduceAdd, Nat.reduceSub, Nat.reduceMul, Int.reduceLE, Int.reduceLT, Int.reduceToNat, Int.toNat_natCast, Nat.reduceLeDiff, Bool.not_true, Bool.not_false, a17], by simp -implicitDefEqProofs only [redoH, redo1, go_sem, Int.reduceEq, Int.reduceNeg, Nat.reduceEqDiff, Nat.reduceLT, Nat.reduceAdd, Nat.reduceSub, Nat.reduceMul, Int.reduceLE, Int.reduceLT, Int.reduceToNat, Int.toNat_natCast, Nat.reduceLeDiff, Bool.not_true, Bool.not_false, hT], by simp -implicitDefEqProofs only [redoH, redo1, go_sem, Int.reduceEq, Int.reduceNeg, Nat.reduceEqDiff, Nat.reduceLT, Nat.reduceAdd, Nat.reduceSub, Nat.reduceMul, Int.reduceLE, Int.reduceLT, Int.reduceToNat, Int.toNat_natCast, Nat.reduceLeDiff, Bool.not_true, Bool.not_false, hT], rfl, n + 2, _, rfl, r1 _ _⟩
          clear hwc r1 r2 a3 a4 a10 a11 a12 a13 a15 a16 a17 hT T
          rintro k T s' ⟨hT, a3, a4, a10, a11, a12, a13, a15, a16, a17, a19, a20, rfl, n2, H2, rfl, g2⟩
          have hw1 : wrapF .i64 ((i : Int) + 1) = ((i + 1 : Nat) : Int) := wrap_i64 (by omega) (by omega)
          simp -implicitDefEqProofs only [redoH, redo1, go_sem, Int.reduceEq, Int.reduceNeg, Nat.reduceEqDiff, Nat.reduceLT, Nat.reduceAdd, Nat.reduceSub, Nat.reduceMul, Int.reduceLE, Int.reduceLT, Int.reduceToNat, Int.toNat_natCast, Nat.reduceLeDiff, Bool.not_true, Bool.not_false, a3, a4, a10, a11, a12, a13, a15, a16, a17, a19, a20, hT, hw1]
          clear hw1
          exact ⟨l.length - (i + 1), by omega, trivial, trivial, trivial, trivial, trivial, trivial, trivial, i + 1, n2, H2, .nils, [], c + t.cost, rfl, rfl, rfl, hi', rfl, rfl, g2, .inr (.inl ⟨rfl, rfl⟩), hfd, by simp, by omega, by omega⟩
        · refine xl_does (fun k T s' => T.length = 156 ∧ nth T 3 = some (.ptr [1] 0) ∧ nth T 4 = some (.int .i64 W0) ∧ nth T 10 = some (.int .i64 (mostL (fun k => (findL h k N (N - 1)).2) leak)) ∧ nth T 11 = some (.int .i64 leak) ∧ nth T 12 = some (.lst (l.map tryV)) ∧ nth T 13 = some (.int .i64 cost) ∧ nth T 15 = some (.int .i64 (c + t.cost)) ∧ nth T 16 = some (.own bb (F.map iV)) ∧ nth T 17 = some (.int .i64 i) ∧ nth T 18 = some (.ptr [n + 2 + 1, 9, 0] 0) ∧ ∃ (k2 n2 tc : Nat) (H : Heap) (left : List Int), nth T 19 = some (ownV [tc + 2] (left.map iV)) ∧ nth T 20 = some (.int .i64 k2) ∧ k2 ≤ F.length ∧ k = F.length - k2 ∧ s' = ⟨H, n2 + 2, [], false, []⟩ ∧ hget H [1] = some (.cells [.int .i64 S, .lst (h.trials.map triV)] true 0) ∧
            hget H [n + 2 + 1, 9, 0] = some (.cells [.lst (t.of.map iV), .int .i64 t.cost] true 0) ∧ (left.map iV ≠ [] → tc < n2 ∧ hget H [tc + 2] = some (.tok left.length 1)) ∧ left = (F.take k2).filter (fun n => decide (n ∈ t.of) == inn)) (k := F.length) (by omega) ?_ ?_
          · exact ⟨by simp -implicitDefEqProofs only [redoH, redo1, go_sem, Int.reduceEq, Int.reduceNeg, Nat.reduceEqDiff, Nat.reduceLT, Nat.reduceAdd, Nat.reduceSub, Nat.reduceMul, Int.reduceLE, Int.reduceLT, Int.reduceToNat, Int.toNat_natCast, Nat.reduceLeDiff, Bool.not_true, Bool.not_false, hT], by simp -implicitDefEqProofs only [redoH, redo1, go_sem, Int.reduceEq, Int.reduceNeg, Nat.reduceEqDiff, Nat.reduceLT, Nat.reduceAdd, Nat.reduceSub, Nat.reduceMul, Int.reduceLE, Int.reduceLT, Int.reduceToNat, Int.toNat_natCast, Nat.reduceLeDiff, Bool.not_true, Bool.not_false, a3], by simp -implicitDefEqProofs only [redoH, redo1, go_sem, Int.reduceEq, Int.reduceNeg, Nat.reduceEqDiff, Nat.reduceLT, Nat.reduceAdd, Nat.reduceSub, Nat.reduceMul, Int.reduceLE, Int.reduceLT, Int.reduceToNat, Int.toNat_natCast, Nat.reduceLeDiff, Bool.not_true, Bool.not_false, a4], by simp -implicitDefEqProofs only [redoH, redo1, go_sem, Int.reduceEq, Int.reduceNeg, Nat.reduceEqDiff, Nat.reduceLT, Nat.reduceAdd, Nat.reduceSub, Nat.reduceMul, Int.reduceLE, Int.reduceLT, Int.reduceToNat, Int.toNat_natCast, Nat.reduceLeDiff, Bool.not_true, Bool.not_false, a10], by simp -implicitDefEqProofs only [redoH, redo1, go_sem, Int.reduceEq, Int.reduceNeg, Nat.reduceEqDiff, Nat.reduceLT, Nat.reduceAdd, Nat.reduceSub, Nat.reduceMul, Int.reduceLE, Int.reduceLT, Int.reduceToNat, Int.toNat_natCast, Nat.reduceLeDiff, Bool.not_true, Bool.not_false, a11], by simp -implicitDefEqProofs only [redoH, redo1, go_sem, Int.reduceEq, Int.reduceNeg, Nat.reduceEqDiff, Nat.reduceLT, Nat.reduceAdd, Nat.reduceSub, Nat.reduceMul, Int.reduceLE, Int.reduceLT, Int.reduceToNat, Int.toNat_natCast, Nat.reduceLeDiff, Bool.not_true, Bool.not_false, a12], by simp -implicitDefEqProofs only [redoH, redo1, go_sem, Int.reduceEq, Int.reduceNeg, Nat.reduceEqDiff, Nat.reduceLT, Nat.reduceAdd, Nat.reduceSub, Nat.reduceMul, Int.reduceLE, Int.reduceLT, Int.reduceToNat, Int.toNat_natCast, Nat.reduceLeDiff, Bool.not_true, Bool.not_false, a13], by simp -implicitDefEqProofs only [redoH, redo1, go_sem, Int.reduceEq, Int.reduceNeg, Nat.reduceEqDiff, Nat.reduceLT, Nat.reduceAdd, Nat.reduceSub, Nat.reduceMul, Int.reduceLE, Int.reduceLT, Int.reduceToNat, Int.toNat_natCast, Nat.reduceLeDiff, Bool.not_true, Bool.not_false, hT], by simp -implicitDefEqProofs only [redoH, redo1, go_sem, Int.reduceEq, Int.reduceNeg, Nat.reduceEqDiff, Nat.reduceLT, Nat.reduceAdd, Nat.reduceSub, Nat.reduceMul, Int.reduceLE, Int.reduceLT, Int.reduceToNat, Int.toNat_natCast, Nat.reduceLeDiff, Bool.not_true, Bool.not_false, a16], by simp -implicitDefEqProofs only [redoH, redo1, go_sem, Int.reduceEq, Int.reduceNeg, Nat.reduceEqDiff, Nat.reduceLT, Nat.reduceAdd, Nat.reduceSub, Nat.reduceMul, Int.reduceLE, Int.reduceLT, Int.reduceToNat, Int.toNat_natCast, Nat.reduceLeDiff, Bool.not_true, Bool.not_false, a17], by simp -implicitDefEqProofs only [redoH, redo1, go_sem, Int.reduceEq, Int.reduceNeg, Nat.reduceEqDiff, Nat.reduceLT, Nat.reduceAdd, Nat.reduceSub, Nat.reduceMul, Int.reduceLE, Int.reduceLT, Int.reduceToNat, Int.toNat_natCast, Nat.reduceLeDiff, Bool.not_true, Bool.not_false, hT], 0, n + 2, 0, _, [], by simp -implicitDefEqProofs only [redoH, redo1, go_sem, Int.reduceEq, Int.reduceNeg, Nat.reduceEqDiff, Nat.reduceLT, Nat.reduceAdd, Nat.reduceSub, Nat.reduceMul, Int.reduceLE, Int.reduceLT, Int.reduceToNat, Int.toNat_natCast, Nat.reduceLeDiff, Bool.not_true, Bool.not_false, hT] <;> rfl, by simp -implicitDefEqProofs only [redoH, redo1, go_sem, Int.reduceEq, Int.reduceNeg, Nat.reduceEqDiff, Nat.reduceLT, Nat.reduceAdd, Nat.reduceSub, Nat.reduceMul, Int.reduceLE, Int.reduceLT, Int.reduceToNat, Int.toNat_natCast, Nat.reduceLeDiff, Bool.not_true, Bool.not_false, hT] <;> rfl, by omega, rfl, rfl, r1 _ _, r2 _ _, fun hx => absurd rfl hx, rfl⟩
          clear hwc r1 r2 a3 a4 a10 a11 a12 a13 a15 a16 a17 hT T
          rintro k T s' ⟨hT, a3, a4, a10, a11, a12, a13, a15, a16, a17, a18, k2, n2, tc, H2, left, a19, a20, hk2', rfl, rfl, g2, g3, gt, hleft⟩
          simp -implicitDefEqProofs only [redoH, redo1, go_sem, Int.reduceEq, Int.reduceNeg, Nat.reduceEqDiff, Nat.reduceLT, Nat.reduceAdd, Nat.reduceSub, Nat.reduceMul, Int.reduceLE, Int.reduceLT, Int.reduceToNat, Int.toNat_natCast, Nat.reduceLeDiff, Bool.not_true, Bool.not_false, a3, a4, a10, a11, a12, a13, a15, a16, a17, a18, a19, a20, hT]
          by_cases hkl : (k2 : Int) < (F.length : Int)
          · have hkF : k2 < F.length := by omega
            have e3 := elemAt_map (f := iV) (l := F) (i := k2) (z := 1) hkF rfl
            have htk : (F.take (k2 + 1)).filter (fun n => decide (n ∈ t.of) == inn) = left ++ (if (decide (F[k2] ∈ t.of) == inn) = true then [F[k2]] else []) := by
              rw [List.take_succ_eq_append_getElem hkF, List.filter_append, ← hleft]
              simp only [List.filter_cons, List.filter_nil]
            have hof2 := fun s => hof s F[k2]
            have hll3 : left.length ≤ 12 := by
              rw [hleft]
              exact Nat.le_trans (List.length_filter_le _ _) (by rw [List.length_take]; omega)
            generalize F[k2] = fk at *
            have hkk : F.length - (k2 + 1) < F.length - k2 := by omega
            have hap := append_abs (C := cfg.at 11) (sT := 22) (b := [tc + 2]) (l := left.map iV) (x := iV fk) (H := H2) (n := n2 + 2 + 1) (p := []) (jr := false) (j := []) (z := 1) desc22 tget3 rfl rfl rfl rfl rfl rfl (by rw [List.length_map]; show (left.length + 1) * 8 ≤ _; omega) (fun hx => by rw [List.length_map]; exact (gt hx).2)
            have hrm : (left ++ [fk]).map iV = left.map iV ++ [iV fk] := by simp
            have p1 := fun X => (hget_cons_ne (i := [n2 + 2 + 1]) (j := [1]) X (dropTok (left.map iV) [tc + 2] H2) (nm_ne (by omega))).trans ((hget_dropTok _ _ (nm_ne (by omega))).trans g2)
            have p3 := fun X => (hget_cons_ne (i := [n2 + 2 + 1]) (j := [n + 2 + 1, 9, 0]) X (dropTok (left.map iV) [tc + 2] H2) (by simp)).trans ((hget_dropTok _ _ (by simp)).trans g3)
            rw [← hrm, List.length_map] at hap
            generalize dropTok (left.map iV) [tc + 2] H2 = H3 at *
            simp only [iV] at hap
            have hln : (left ++ [fk]).length = left.length + 1 := by simp
            have hnn : n2 + 1 < n2 + 2 := by omega
            have gt2 : left.map iV ≠ [] → tc < n2 + 1 ∧ hget H2 [tc + 2] = some (.tok left.length 1) := fun hx => ⟨by have := (gt hx).1; omega, (gt hx).2⟩
            have hw1 : wrapF .i64 ((k2 : Int) + 1) = ((k2 + 1 : Nat) : Int) := wrap_i64 (by omega) (by omega)
            simp -implicitDefEqProofs only [redoH, redo1, go_sem, Int.reduceEq, Int.reduceNeg, Nat.reduceEqDiff, Nat.reduceLT, Nat.reduceAdd, Nat.reduceSub, Nat.reduceMul, Int.reduceLE, Int.reduceLT, Int.reduceToNat, Int.toNat_natCast, Nat.reduceLeDiff, Bool.not_true, Bool.not_false, a3, a4, a10, a11, a12, a13, a15, a16, a17, a18, a19, a20, hT, hkl, e1]
            simp only [does_bind]
            refine draw_mach [] [] (by kernel_rfl) ?_
            cases hq : decide (fk ∈ t.of) <;> cases inn <;> rw [hq] at htk hof2
            · simp -implicitDefEqProofs only [redoH, redo1, go_sem, Int.reduceEq, Int.reduceNeg, Nat.reduceEqDiff, Nat.reduceLT, Nat.reduceAdd, Nat.reduceSub, Nat.reduceMul, Int.reduceLE, Int.reduceLT, Int.reduceToNat, Int.toNat_natCast, Nat.reduceLeDiff, Bool.not_true, Bool.not_false, a3, a4, a10, a11, a12, a13, a15, a16, a17, a18, a19, a20, hT, hkl, e1, e3, g3, eq_ff, eq_ft, eq_tf, eq_tt, hof2, hap, hw1, desc22]
              exact ⟨F.length - (k2 + 1), hkk, trivial, trivial, trivial, trivial, trivial, trivial, trivial, trivial, trivial, trivial, trivial, k2 + 1, n2 + 2, n2 + 1, _, left ++ [fk], rfl, rfl, hkF, rfl, rfl, p1 _, p3 _, fun _ => ⟨hnn, by rw [hln]; exact hget_cons_same ..⟩, htk.symm⟩
            · simp -implicitDefEqProofs only [redoH, redo1, go_sem, Int.reduceEq, Int.reduceNeg, Nat.reduceEqDiff, Nat.reduceLT, Nat.reduceAdd, Nat.reduceSub, Nat.reduceMul, Int.reduceLE, Int.reduceLT, Int.reduceToNat, Int.toNat_natCast, Nat.reduceLeDiff, Bool.not_true, Bool.not_false, a3, a4, a10, a11, a12, a13, a15, a16, a17, a18, a19, a20, hT, hkl, e1, e3, g3, eq_ff, eq_ft, eq_tf, eq_tt, hof2, hw1]
              exact ⟨F.length - (k2 + 1), hkk, trivial, trivial, trivial, trivial, trivial, trivial, trivial, trivial, trivial, trivial, trivial, k2 + 1, n2 + 1, tc, _, left, rfl, rfl, hkF, rfl, rfl, g2, g3, gt2, by rw [htk]; simp⟩
            · simp -implicitDefEqProofs only [redoH, redo1, go_sem, Int.reduceEq, Int.reduceNeg, Nat.reduceEqDiff, Nat.reduceLT, Nat.reduceAdd, Nat.reduceSub, Nat.reduceMul, Int.reduceLE, Int.reduceLT, Int.reduceToNat, Int.toNat_natCast, Nat.reduceLeDiff, Bool.not_true, Bool.not_false, a3, a4, a10, a11, a12, a13, a15, a16, a17, a18, a19, a20, hT, hkl, e1, e3, g3, eq_ff, eq_ft, eq_tf, eq_tt, hof2, hw1]
              exact ⟨F.length - (k2 + 1), hkk, trivial, trivial, trivial, trivial, trivial, trivial, trivial, trivial, trivial, trivial, trivial, k2 + 1, n2 + 1, tc, _, left, rfl, rfl, hkF, rfl, rfl, g2, g3, gt2, by rw [htk]; simp⟩
            · simp -implicitDefEqProofs only [redoH, redo1, go_sem, Int.reduceEq, Int.reduceNeg, Nat.reduceEqDiff, Nat.reduceLT, Nat.reduceAdd, Nat.reduceSub, Nat.reduceMul, Int.reduceLE, Int.reduceLT, Int.reduceToNat, Int.toNat_natCast, Nat.reduceLeDiff, Bool.not_true, Bool.not_false, a3, a4, a10, a11, a12, a13, a15, a16, a17, a18, a19, a20, hT, hkl, e1, e3, g3, eq_ff, eq_ft, eq_tf, eq_tt, hof2, hap, hw1, desc22]
              exact ⟨F.length - (k2 + 1), hkk, trivial, trivial, trivial, trivial, trivial, trivial, trivial, trivial, trivial, trivial, trivial, k2 + 1, n2 + 2, n2 + 1, _, left ++ [fk], rfl, rfl, hkF, rfl, rfl, p1 _, p3 _, fun _ => ⟨hnn, by rw [hln]; exact hget_cons_same ..⟩, htk.symm⟩
          · have hkF : k2 = F.length := by omega
            subst hkF
            rw [List.take_length] at hleft
            rw [← hleft] at hfd
            have hll3 : left.length ≤ 12 := by
              rw [hleft]
              exact Nat.le_trans (List.length_filter_le _ _) hF
            have hvl : ownV [tc + 2] (left.map iV) = .lst (left.map iV) ∨ (ownV [tc + 2] (left.map iV) = .nils ∧ left = []) ∨ ∃ b, ownV [tc + 2] (left.map iV) = .own b (left.map iV) := by
              cases left with
              | nil => exact .inr (.inl ⟨rfl, rfl⟩)
              | cons a r => exact .inr (.inr ⟨_, rfl⟩)
            have hkk : l.length - (i + 1) < l.length - i := by omega
            have hcc : 0 ≤ c + t.cost ∧ c + t.cost ≤ 1000 * ((i + 1 : Nat) : Int) := by omega
            have hw1 : wrapF .i64 ((i : Int) + 1) = ((i + 1 : Nat) : Int) := wrap_i64 (by omega) (by omega)
            simp -implicitDefEqProofs only [redoH, redo1, go_sem, Int.reduceEq, Int.reduceNeg, Nat.reduceEqDiff, Nat.reduceLT, Nat.reduceAdd, Nat.reduceSub, Nat.reduceMul, Int.reduceLE, Int.reduceLT, Int.reduceToNat, Int.toNat_natCast, Nat.reduceLeDiff, Bool.not_true, Bool.not_false, a3, a4, a10, a11, a12, a13, a15, a16, a17, a18, a19, a20, hT, hkl, hw1]
            exact ⟨l.length - (i + 1), hkk, trivial, trivial, trivial, trivial, trivial, trivial, trivial, i + 1, n2, H2, _, left, c + t.cost, rfl, rfl, rfl, hi', rfl, rfl, g2, hvl, hfd, hll3, hcc.1, hcc.2⟩
      · have hie : i = l.length := by omega
        subst hie
        rw [List.drop_length] at hfd
        simp only [foldT, Prod.mk.injEq] at hfd
        obtain ⟨rfl, rfl⟩ := hfd
        have hsm := fun s => same_call [(leak : Int)] [(leak : Int)] (K + 318) s (by show 1 < _; omega) (by simp)
        rw [sameI_eq.2 rfl] at hsm
        simp only [List.map_cons, List.map_nil, iV] at hsm hv
        have hcw : ¬ W0 < 0 + cost := by omega
        have hS2 : leak + 1 ≤ S := by omega
        have hkk : S - (leak + 1) < S - leak := by omega
        rw [Int.zero_add] at *
        rw [max_def'] at hms
        have hw1 : wrapF .i64 ((leak : Int) + 1) = ((leak + 1 : Nat) : Int) := wrap_i64 (by omega) (by omega)
        rcases hv with rfl | ⟨_, hx⟩ | ⟨bb, rfl⟩
        · by_cases hmx : mostL (fun k => (findL h k N (N - 1)).2) leak < cost
          · rw [if_pos hmx] at hms
            simp -implicitDefEqProofs only [redoH, redo1, go_sem, Int.reduceEq, Int.reduceNeg, Nat.reduceEqDiff, Nat.reduceLT, Nat.reduceAdd, Nat.reduceSub, Nat.reduceMul, Int.reduceLE, Int.reduceLT, Int.reduceToNat, Int.toNat_natCast, Nat.reduceLeDiff, Bool.not_true, Bool.not_false, a3, a4, a10, a11, a12, a13, a15, a16, a17, hT, hil, hsm, hcw, hmx, hw1]
            exact ⟨S - (leak + 1), hkk, trivial, trivial, trivial, leak + 1, n, H, by rw [hms], rfl, hS2, rfl, rfl, g1⟩
          · rw [if_neg hmx] at hms
            simp -implicitDefEqProofs only [redoH, redo1, go_sem, Int.reduceEq, Int.reduceNeg, Nat.reduceEqDiff, Nat.reduceLT, Nat.reduceAdd, Nat.reduceSub, Nat.reduceMul, Int.reduceLE, Int.reduceLT, Int.reduceToNat, Int.toNat_natCast, Nat.reduceLeDiff, Bool.not_true, Bool.not_false, a3, a4, a10, a11, a12, a13, a15, a16, a17, hT, hil, hsm, hcw, hmx, hw1]
            exact ⟨S - (leak + 1), hkk, trivial, trivial, trivial, leak + 1, n, H, by rw [hms], rfl, hS2, rfl, rfl, g1⟩
        · cases hx
        · by_cases hmx : mostL (fun k => (findL h k N (N - 1)).2) leak < cost
          · rw [if_pos hmx] at hms
            simp -implicitDefEqProofs only [redoH, redo1, go_sem, Int.reduceEq, Int.reduceNeg, Nat.reduceEqDiff, Nat.reduceLT, Nat.reduceAdd, Nat.reduceSub, Nat.reduceMul, Int.reduceLE, Int.reduceLT, Int.reduceToNat, Int.toNat_natCast, Nat.reduceLeDiff, Bool.not_true, Bool.not_false, a3, a4, a10, a11, a12, a13, a15, a16, a17, hT, hil, hsm, hcw, hmx, hw1]
            exact ⟨S - (leak + 1), hkk, trivial, trivial, trivial, leak + 1, n, H, by rw [hms], rfl, hS2, rfl, rfl, g1⟩
          · rw [if_neg hmx] at hms
            simp -implicitDefEqProofs only [redoH, redo1, go_sem, Int.reduceEq, Int.reduceNeg, Nat.reduceEqDiff, Nat.reduceLT, Nat.reduceAdd, Nat.reduceSub, Nat.reduceMul, Int.reduceLE, Int.reduceLT, Int.reduceToNat, Int.toNat_natCast, Nat.reduceLeDiff, Bool.not_true, Bool.not_false, a3, a4, a10, a11, a12, a13, a15, a16, a17, hT, hil, hsm, hcw, hmx, hw1]
            exact ⟨S - (leak + 1), hkk, trivial, trivial, trivial, leak + 1, n, H, by rw [hms], rfl, hS2, rfl, rfl, g1⟩
    · have hle2 : leak = S := by omega
      subst hle2
      rw [hmost] at a10
      simp -implicitDefEqProofs only [redoH, redo1, go_sem, Int.reduceEq, Int.reduceNeg, Nat.reduceEqDiff, Nat.reduceLT, Nat.reduceAdd, Nat.reduceSub, Nat.reduceMul, Int.reduceLE, Int.reduceLT, Int.reduceToNat, Int.toNat_natCast, Nat.reduceLeDiff, Bool.not_true, Bool.not_false, a3, a4, a10, a11, hT, hlo, haw, Try.results11]
theorem found_yes (L : List (List AV)) (hl : L.length = [22].length) (hc : ∀ (i : Nat) t acs, [22][i]? = some t → L[i]? = some acs → Content Try.prog 12 t acs) :
    ∃ K, Yes (acall cfg K 11 (([22].zip L).map fun x => argOf Try.prog x.1 x.2) s0) := by
  match L, hl with
  | [c0], _ =>
    obtain ⟨nums, rfl, hn⟩ := arg_ints 10 c0 (hc 0 22 c0 rfl rfl)
    refine ⟨(6001 + nums.length) + 320, ⟨?_⟩⟩
    exact (found_walk nums _ (by omega) (by omega) hn.1).all
end Go.Proofs.Ytgnpnfkncbnjnaa
namespace Go.Proofs.Ytgnpnfkncbnjnaa
open Go Go.Am Go.ChangeShapes Go.WideShapes Go.ChangeAt Go.RowKit
set_option maxRecDepth 100000 in
theorem found_lifted (os : Os) (started : os.Started) (H : Type) (enc : TypeId × Value → H) :
    ReturnsInHanded {} Try.checked os 11 .any (Rows.pumpFoundSpec.pre6 enc Try.prog Try.f11 Rows.pumpFoundRow.domain false) (Rows.pumpFoundSpec.post enc Try.prog Try.f11 false true false false) := by
  refine returnsInHanded_of_change (C := Try.checked) Try.own started (by kernel_rfl) Try.func11
    (ChangeSpec.witness6 (enc := enc) (C := Try.checked) false ⟨#[], #[.slice none 0 0], []⟩ 8 (by kernel_rfl) (by kernel_rfl) (by kernel_rfl) (by kernel_rfl)) ?_
  intro W base args ds gs before hval0 hW hcnd _
  have hW' := hW
  obtain ⟨p, q, hA0, hV, rfl, hfz, hnd⟩ := hW
  have hA : DataW.TrodAll enc Try.prog W 0 (fun _ => true) true Try.f11.params.toList args.toList ds p := hA0
  rw [Try.params11] at hA
  obtain ⟨rfl, rfl⟩ := trodVars_none hV
  simp only [List.append_nil] at hW'
  have hlen : ds.length = 1 := trod_len _ _ _ _ hA
  have hsup : (([22] : List TypeId).all fun t => suppB Try.prog 12 t) = true := by as_aux_lemma => kernel_rfl
  have hpar : (([22] : List TypeId).all fun t => Try.prog.readableRec t && Nat.blt t Try.prog.types.size) = true := by as_aux_lemma => kernel_rfl
  refine (calls_of_args (d := 12) cfgOk codesOk hA (fun t ht => List.all_eq_true.1 hsup t ht) (fun j t v e1 e2 => hval0 j t v (by rw [Try.params11]; simpa using e1) (by simpa using e2)) fun L hl hc => found_yes L hl hc).mono fun e W' ⟨he, hb⟩ => ?_
  subst he
  exact ⟨_, rfl, law_post Try.laidOut (fun t ht => by rw [Try.params11] at ht; have := List.all_eq_true.1 hpar t ht; rw [Bool.and_eq_true, Nat.blt_eq] at this; exact this) rfl rfl Try.underlying4 hW' (by match ds, hlen with | [_], _ => rfl) hb⟩
set_option maxHeartbeats 4000000 in
theorem found_closed : joinedFacts Try.prog 11 Try.f11 Rows.pumpFoundSpec Rows.pumpFoundRow = true := by
  refine joined_of Try.laidOut Try.rowed Try.noStops Try.noKnobs Try.plain Try.heard Try.enters Try.lifts Try.makes (by as_aux_lemma => kernel_rfl) (by as_aux_lemma => kernel_rfl) (by as_aux_lemma => kernel_rfl) (by as_aux_lemma => kernel_rfl) (by as_aux_lemma => kernel_rfl)
    (by as_aux_lemma => kernel_rfl) (by as_aux_lemma => kernel_rfl) (by as_aux_lemma => kernel_rfl) (by as_aux_lemma => kernel_rfl) ?_
  kernel_rfl
theorem found_holds : Rows.PumpFoundSaid :=
  OpenClaim.holds_of_wide 11 Try.f11 rfl rfl rfl rfl rfl rfl rfl ⟨rfl, rfl, rfl, rfl, rfl⟩ rfl rfl rfl rfl rfl (by as_aux_lemma => kernel_rfl) Try.func11 found_closed
    (of_decide_eq_true (by as_aux_lemma => kernel_rfl)) (by as_aux_lemma => unfold Func.isWrapper; first | (rw [if_pos (by decide +kernel)]; kernel_rfl) | (rw [if_neg (by decide +kernel)]; exact ⟨rfl, rfl⟩))
    (fun os started H enc _ => found_lifted os started H enc)
end Go.Proofs.Ytgnpnfkncbnjnaa
