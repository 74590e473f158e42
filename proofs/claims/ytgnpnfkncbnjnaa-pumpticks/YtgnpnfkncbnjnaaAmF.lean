/- Small functions of the program and of its kit: what each call answers. -/
import Derived.Test.YtgnpnfkncbnjnaaAmE
import Derived.Test.YtgnpnfkncbnjnaaAmC
import Derived.Test.YtgnpnfkncbnjnaaAmD
set_option linter.unusedSimpArgs false
set_option linter.unusedVariables false
set_option maxHeartbeats 4000000
set_option maxRecDepth 100000
attribute [local go_sem_proc] Int.reduceEq Int.reduceNeg Nat.reduceEqDiff Nat.reduceLT Nat.reduceAdd Nat.reduceSub Nat.reduceMul Int.reduceLE Int.reduceLT Int.reduceToNat Nat.reduceLeDiff
attribute [local go_sem] Int.toNat_natCast Bool.not_true Bool.not_false
namespace Go.Proofs.Ytgnpnfkncbnjnaa
open Go Go.Am
theorem awake_all (k : Nat) (s : St) : acall cfg (k + 300) 39 [] s = .ret (.bool true, s) := by kernel_rfl
end Go.Proofs.Ytgnpnfkncbnjnaa
namespace Go.Proofs.Ytgnpnfkncbnjnaa
open Go Go.Am
attribute [local congr] tr_congr does_congr all_congr
attribute [local go_sem] Go.Am.buildSliceA Go.Am.frozen Go.Am.freezeG Go.Am.freezeGs Go.Am.minmax
def nextW (w : Int) : Int := wrapF .u64 (w + 11400714819323198485)
def xorU (a b : Int) : Int := wrapF .u64 (Nat.xor (ib .u64 a) (ib .u64 b))
def shrU (a : Int) (k : Nat) : Int := a.fdiv (Nat.pow 2 (min k (kbits .u64)) : Nat)
def mixA (z : Int) : Int := wrapF .u64 (xorU z (shrU z 30) * 13787848793156543929)
def mixB (z : Int) : Int := wrapF .u64 (xorU z (shrU z 27) * 10723151780598845931)
def mixC (z : Int) : Int := xorU z (shrU z 31)
def mixW (z : Int) : Int := mixC (mixB (mixA z))
theorem mix_range (z : Int) : 0 ≤ mixW z ∧ mixW z ≤ 18446744073709551615 := wrap_u64_range _
theorem next_call (w : Int) (b : Nm) (u : Nat) (K : Nat) (s : St) (hb : hget s.H b = some (.cells [.int .u64 w] true u)) :
    acall cfg (K + 1) 84 [.ptr b 0] s = .ret (.int .u64 (mixW (nextW w)), s.put b (.cells [.int .u64 (nextW w)] true u)) := by
  refine call4_ptr (v := .int .u64 (mixW (nextW w))) mget84 fget84 hb rfl rfl rfl rfl rfl rfl rfl rfl ?_
  refine body_does rfl fun T hT' hA => ?_
  have a0 := hA 0 _ rfl
  have hT : T.length = 30 := hT'
  clear hA hT'
  simp -implicitDefEqProofs only [go_sem, a0, hT, Try.results84]
  exact ⟨rfl, rfl⟩
def uptoN (w n : Int) : Int := if n < 1 then 0 else (mixW (nextW w)).tmod n
theorem upto_range (w n : Int) (h : 1 ≤ n) : 0 ≤ uptoN w n ∧ uptoN w n < n := by
  have hm := mix_range (nextW w)
  have h1 := Int.tmod_nonneg n hm.1
  have h2 := Int.tmod_lt_of_pos (mixW (nextW w)) (show 0 < n by omega)
  unfold uptoN
  rw [if_neg (by omega)]
  omega
theorem upto_call (w n : Int) (b : Nm) (u : Nat) (K : Nat) (s : St) (hb : hget s.H b = some (.cells [.int .u64 w] true u)) (hn : n ≤ 9223372036854775807) :
    acall cfg (K + 2) 25 [.ptr b 0, .int .i64 n] s = .ret (.int .i64 (uptoN w n), s.put b (.cells [.int .u64 (nextW w)] true u)) := by
  refine call4_ptr (v := .int .i64 (uptoN w n)) mget25 fget25 hb rfl rfl rfl rfl rfl rfl rfl rfl ?_
  refine body_does rfl fun T hT' hA => ?_
  have a0 := hA 0 _ rfl
  have a1 := hA 1 _ rfl
  have hT : T.length = 15 := hT'
  clear hA hT'
  have hn0 := next_call w [0] u K ⟨[([0], .cells [.int .u64 w] true u)], 1, [], false, []⟩ rfl
  simp -implicitDefEqProofs only [go_sem, a0, a1, hT, hn0]
  simp only [does_bind]
  refine does_if (fun h => ?_) (fun h => ?_)
  · simp -implicitDefEqProofs only [go_sem, hT, Try.results25]
    unfold uptoN; rw [if_pos h]
  · have hw : wrapF .u64 n = n := wrap_u64 (by omega) (by omega)
    have hd0 : decide (n = 0) = false := by simp; omega
    have hm := mix_range (nextW w)
    have hm1 := Int.tmod_nonneg n hm.1
    have hm2 := Int.tmod_lt_of_pos (mixW (nextW w)) (show 0 < n by omega)
    have hw2 : wrapF .i64 ((mixW (nextW w)).tmod n) = (mixW (nextW w)).tmod n := wrap_i64 (by omega) (by omega)
    simp -implicitDefEqProofs only [go_sem, a1, hT, hw, hd0, hw2, Try.results25]
    unfold uptoN; rw [if_neg h]
def oneB (w n : Int) : Bool := decide (uptoN w n = 0)
theorem one_call (w n : Int) (b : Nm) (u : Nat) (K : Nat) (s : St) (hb : hget s.H b = some (.cells [.int .u64 w] true u)) (hn : n ≤ 9223372036854775807) :
    acall cfg (K + 3) 44 [.ptr b 0, .int .i64 n] s = .ret (.bool (oneB w n), s.put b (.cells [.int .u64 (nextW w)] true u)) := by
  refine call4_ptr (v := .bool (oneB w n)) mget44 fget44 hb rfl rfl rfl rfl rfl rfl rfl rfl ?_
  refine body_does rfl fun T hT' hA => ?_
  have a0 := hA 0 _ rfl
  have a1 := hA 1 _ rfl
  have hT : T.length = 9 := hT'
  clear hA hT'
  have hn0 := upto_call w n [0] u K ⟨[([0], .cells [.int .u64 w] true u)], 1, [], false, []⟩ rfl hn
  simp -implicitDefEqProofs only [go_sem, a0, a1, hT, hn0, Try.results44]
  rfl
def betweenN (w lo hi : Int) : Int := lo + uptoN w (hi - lo + 1)
theorem between_range (w lo hi : Int) (h : lo ≤ hi) : lo ≤ betweenN w lo hi ∧ betweenN w lo hi ≤ hi := by
  have := upto_range w (hi - lo + 1) (by omega)
  unfold betweenN; omega
theorem between_call (w lo hi : Int) (b : Nm) (u : Nat) (K : Nat) (s : St) (hb : hget s.H b = some (.cells [.int .u64 w] true u)) (h1 : -1000000000000 ≤ lo) (h2 : lo ≤ hi) (h3 : hi ≤ 1000000000000) :
    acall cfg (K + 3) 85 [.ptr b 0, .int .i64 lo, .int .i64 hi] s = .ret (.int .i64 (betweenN w lo hi), s.put b (.cells [.int .u64 (nextW w)] true u)) := by
  refine call4_ptr (v := .int .i64 (betweenN w lo hi)) mget85 fget85 hb rfl rfl rfl rfl rfl rfl rfl rfl ?_
  refine body_does rfl fun T hT' hA => ?_
  have a0 := hA 0 _ rfl
  have a1 := hA 1 _ rfl
  have a2 := hA 2 _ rfl
  have hT : T.length = 15 := hT'
  clear hA hT'
  have hr := between_range w lo hi h2
  have w1 : wrapF .i64 (hi - lo) = hi - lo := wrap_i64 (by omega) (by omega)
  have w2 : wrapF .i64 (hi - lo + 1) = hi - lo + 1 := wrap_i64 (by omega) (by omega)
  have w3 : wrapF .i64 (lo + uptoN w (hi - lo + 1)) = betweenN w lo hi := wrap_i64 (by unfold betweenN at hr; omega) (by unfold betweenN at hr; omega)
  have hn0 := upto_call w (hi - lo + 1) [0] u K ⟨[([0], .cells [.int .u64 w] true u)], 1, [], false, []⟩ rfl (by omega)
  simp -implicitDefEqProofs only [go_sem, a0, a1, a2, hT, w1, w2, hn0, w3, Try.results85]
end Go.Proofs.Ytgnpnfkncbnjnaa
namespace Go.Proofs.Ytgnpnfkncbnjnaa
open Go Go.Am
attribute [local congr] tr_congr does_congr all_congr
attribute [local go_sem] Go.Am.buildSliceA Go.Am.frozen Go.Am.freezeG Go.Am.freezeGs Go.Am.minmax
def fromB (n lo hi : Int) : Bool := decide (lo ≤ n ∧ n ≤ hi)
theorem from_call (n lo hi : Int) (K : Nat) (s : St) : acall cfg (K + 1) 105 [.int .i64 n, .int .i64 lo, .int .i64 hi] s = .ret (.bool (fromB n lo hi), s) := by
  refine call1 mget105 fget105 (by first | rfl | simp -implicitDefEqProofs only [redoH, redo1, go_sem]) (by first | rfl | simp -implicitDefEqProofs only [redoH, redo1, go_sem]) (by first | rfl | simp -implicitDefEqProofs only [redoH, redo1, go_sem]) ?_
  refine body_does rfl fun T hT' hA => ?_
  have a0 := hA 0 _ rfl
  have a1 := hA 1 _ rfl
  have a2 := hA 2 _ rfl
  have hT : T.length = 15 := hT'
  clear hA hT'
  unfold fromB
  by_cases h1 : lo ≤ n <;> by_cases h2 : n ≤ hi <;> simp -implicitDefEqProofs only [go_sem, a0, a1, a2, hT, h1, h2, Try.results105, and_self]
theorem within_call (n lo hi : Int) (K : Nat) (s : St) : acall cfg (K + 1) 127 [.int .i64 n, .int .i64 lo, .int .i64 hi] s = .ret (.bool (fromB n lo hi), s) := by
  refine call1 mget127 fget127 (by first | rfl | simp -implicitDefEqProofs only [redoH, redo1, go_sem]) (by first | rfl | simp -implicitDefEqProofs only [redoH, redo1, go_sem]) (by first | rfl | simp -implicitDefEqProofs only [redoH, redo1, go_sem]) ?_
  refine body_does rfl fun T hT' hA => ?_
  have a0 := hA 0 _ rfl
  have a1 := hA 1 _ rfl
  have a2 := hA 2 _ rfl
  have hT : T.length = 15 := hT'
  clear hA hT'
  unfold fromB
  by_cases h1 : lo ≤ n <;> by_cases h2 : n ≤ hi <;> simp -implicitDefEqProofs only [go_sem, a0, a1, a2, hT, h1, h2, Try.results127, and_self]
def spansE (r : Rg) (most : Int) : Int := if r.hi < r.lo then 11 else if r.lo < 0 then 2 else if most < r.hi then 2 else 0
theorem spans_call (r : Rg) (most : Int) (K : Nat) (s : St) : acall cfg (K + 1) 106 [rgV r, .int .i64 most] s = .ret (.int .i64 (spansE r most), s) := by
  refine call1 mget106 fget106 (by first | rfl | simp -implicitDefEqProofs only [redoH, redo1, go_sem]) (by first | rfl | simp -implicitDefEqProofs only [redoH, redo1, go_sem]) (by first | rfl | simp -implicitDefEqProofs only [redoH, redo1, go_sem]) ?_
  refine body_does rfl fun T hT' hA => ?_
  have a0 := hA 0 _ rfl
  have a1 := hA 1 _ rfl
  have hT : T.length = 21 := hT'
  clear hA hT'
  unfold spansE
  by_cases h1 : r.hi < r.lo <;> by_cases h2 : r.lo < 0 <;> by_cases h3 : most < r.hi <;> simp -implicitDefEqProofs only [go_sem, a0, a1, hT, h1, h2, h3, Try.results106]
theorem checkRange_call (r : Rg) (most : Int) (K : Nat) (s : St) : acall cfg (K + 1) 134 [rgV r, .int .i64 most] s = .ret (.int .i64 (spansE r most), s) := by
  refine call1 mget134 fget134 (by first | rfl | simp -implicitDefEqProofs only [redoH, redo1, go_sem]) (by first | rfl | simp -implicitDefEqProofs only [redoH, redo1, go_sem]) (by first | rfl | simp -implicitDefEqProofs only [redoH, redo1, go_sem]) ?_
  refine body_does rfl fun T hT' hA => ?_
  have a0 := hA 0 _ rfl
  have a1 := hA 1 _ rfl
  have hT : T.length = 19 := hT'
  clear hA hT'
  unfold spansE
  by_cases h1 : r.hi < r.lo <;> by_cases h2 : r.lo < 0 <;> by_cases h3 : most < r.hi <;> simp -implicitDefEqProofs only [go_sem, a0, a1, hT, h1, h2, h3, Try.results134]
def plusR (a b : Rg) : Rg := ⟨wrapF .i64 (a.lo + b.lo), wrapF .i64 (a.hi + b.hi)⟩
theorem plus_call (a b : Rg) (K : Nat) (s : St) : acall cfg (K + 1) 159 [rgV a, rgV b] s = .ret (rgV (plusR a b), s) := by
  refine call1 mget159 fget159 (by first | rfl | simp -implicitDefEqProofs only [redoH, redo1, go_sem]) (by first | rfl | simp -implicitDefEqProofs only [redoH, redo1, go_sem]) (by first | rfl | simp -implicitDefEqProofs only [redoH, redo1, go_sem]) ?_
  refine body_does rfl fun T hT' hA => ?_
  have a0 := hA 0 _ rfl
  have a1 := hA 1 _ rfl
  have hT : T.length = 16 := hT'
  clear hA hT'
  simp -implicitDefEqProofs only [go_sem, a0, a1, hT, plusR, Try.results159]
theorem add_call (a b : Rg) (K : Nat) (s : St) : acall cfg (K + 1) 163 [rgV a, rgV b] s = .ret (rgV (plusR a b), s) := by
  refine call1 mget163 fget163 (by first | rfl | simp -implicitDefEqProofs only [redoH, redo1, go_sem]) (by first | rfl | simp -implicitDefEqProofs only [redoH, redo1, go_sem]) (by first | rfl | simp -implicitDefEqProofs only [redoH, redo1, go_sem]) ?_
  refine body_does rfl fun T hT' hA => ?_
  have a0 := hA 0 _ rfl
  have a1 := hA 1 _ rfl
  have hT : T.length = 16 := hT'
  clear hA hT'
  simp -implicitDefEqProofs only [go_sem, a0, a1, hT, plusR, Try.results163]
def downN (n q : Int) : Int := wrapF .i64 ((wrapF .i64 (n * q)).tdiv 1000000)
def upN (n q : Int) : Int := wrapF .i64 ((wrapF .i64 (wrapF .i64 (wrapF .i64 (n * q) + 1000000) - 1)).tdiv 1000000)
theorem down_call (n q : Int) (K : Nat) (s : St) : acall cfg (K + 1) 178 [.int .i64 n, .int .i64 q] s = .ret (.int .i64 (downN n q), s) := by
  refine call1 mget178 fget178 (by first | rfl | simp -implicitDefEqProofs only [redoH, redo1, go_sem]) (by first | rfl | simp -implicitDefEqProofs only [redoH, redo1, go_sem]) (by first | rfl | simp -implicitDefEqProofs only [redoH, redo1, go_sem]) ?_
  refine body_does rfl fun T hT' hA => ?_
  have a0 := hA 0 _ rfl
  have a1 := hA 1 _ rfl
  have hT : T.length = 9 := hT'
  clear hA hT'
  simp -implicitDefEqProofs only [go_sem, a0, a1, hT, downN, Try.results178]
theorem up_call (n q : Int) (K : Nat) (s : St) : acall cfg (K + 1) 179 [.int .i64 n, .int .i64 q] s = .ret (.int .i64 (upN n q), s) := by
  refine call1 mget179 fget179 (by first | rfl | simp -implicitDefEqProofs only [redoH, redo1, go_sem]) (by first | rfl | simp -implicitDefEqProofs only [redoH, redo1, go_sem]) (by first | rfl | simp -implicitDefEqProofs only [redoH, redo1, go_sem]) ?_
  refine body_does rfl fun T hT' hA => ?_
  have a0 := hA 0 _ rfl
  have a1 := hA 1 _ rfl
  have hT : T.length = 11 := hT'
  clear hA hT'
  simp -implicitDefEqProofs only [go_sem, a0, a1, hT, upN, Try.results179]
theorem rdown_call (n q : Int) (K : Nat) (s : St) : acall cfg (K + 1) 183 [.int .i64 n, .int .i64 q] s = .ret (.int .i64 (downN n q), s) := by
  refine call1 mget183 fget183 (by first | rfl | simp -implicitDefEqProofs only [redoH, redo1, go_sem]) (by first | rfl | simp -implicitDefEqProofs only [redoH, redo1, go_sem]) (by first | rfl | simp -implicitDefEqProofs only [redoH, redo1, go_sem]) ?_
  refine body_does rfl fun T hT' hA => ?_
  have a0 := hA 0 _ rfl
  have a1 := hA 1 _ rfl
  have hT : T.length = 9 := hT'
  clear hA hT'
  simp -implicitDefEqProofs only [go_sem, a0, a1, hT, downN, Try.results183]
theorem rup_call (n q : Int) (K : Nat) (s : St) : acall cfg (K + 1) 184 [.int .i64 n, .int .i64 q] s = .ret (.int .i64 (upN n q), s) := by
  refine call1 mget184 fget184 (by first | rfl | simp -implicitDefEqProofs only [redoH, redo1, go_sem]) (by first | rfl | simp -implicitDefEqProofs only [redoH, redo1, go_sem]) (by first | rfl | simp -implicitDefEqProofs only [redoH, redo1, go_sem]) ?_
  refine body_does rfl fun T hT' hA => ?_
  have a0 := hA 0 _ rfl
  have a1 := hA 1 _ rfl
  have hT : T.length = 11 := hT'
  clear hA hT'
  simp -implicitDefEqProofs only [go_sem, a0, a1, hT, upN, Try.results184]
end Go.Proofs.Ytgnpnfkncbnjnaa
namespace Go.Proofs.Ytgnpnfkncbnjnaa
open Go Go.Am
attribute [local congr] tr_congr does_congr all_congr
attribute [local go_sem] Go.Am.buildSliceA Go.Am.frozen Go.Am.freezeG Go.Am.freezeGs Go.Am.minmax
def diceW (l : List Int) (w : Int) : Int := l.foldl (fun w x => nextW (xorU w (wrapF .u64 x))) w
def newDice (l : List Int) : Int := diceW l (wrapF .u64 (wrapF .u64 (l.length : Int) + 1374496523))
theorem newDice_call (l : List Int) (K : Nat) (s : St) (hK : l.length < K) (hl : l.length ≤ 9223372036854775807) :
    acall cfg (K + 2) 20 [.lst (l.map iV)] s = .ret (.ptr s.name 0, s.new (.cells [.int .u64 (newDice l)] true 0)) := by
  refine call3_ptr mget20 fget20 rfl (by simp -implicitDefEqProofs only [renVs, renV, fl_i]) rfl (fun _ => rfl) ?_
  refine body_does rfl fun T hT' hA => ?_
  have a0 := hA 0 _ rfl
  have hT : T.length = 33 := hT'
  clear hA hT'
  simp -implicitDefEqProofs only [go_sem, a0, hT]
  simp only [does_bind]
  refine xl_does (fun k T s' => T.length = 33 ∧ nth T 0 = some (.lst (l.map iV)) ∧ nth T 3 = some (.ptr [0] 0) ∧ ∃ (i m : Nat) (w : Int), nth T 4 = some (.int .i64 i) ∧ i ≤ l.length ∧ k = l.length - i ∧ s' = ⟨[([0], .cells [.int .u64 w] true 0)], m, [], false, []⟩ ∧ newDice l = diceW (l.drop i) w) (k := l.length) (by omega) ?_ ?_
  · exact ⟨by simp -implicitDefEqProofs only [go_sem, hT], by simp -implicitDefEqProofs only [go_sem, a0], by simp -implicitDefEqProofs only [go_sem, hT], 0, _, _, by simp -implicitDefEqProofs only [go_sem, hT]; rfl, by omega, by omega, rfl, rfl⟩
  clear a0 hT
  rintro k T s' ⟨hT, a0, a3, i, m, w, a4, hi, rfl, rfl, hw⟩
  simp -implicitDefEqProofs only [go_sem, a0, a4, hT]
  simp only [does_bind]
  refine does_if (fun h => ?_) (fun h => ?_)
  · have hlt : i < l.length := by omega
    have hw1 : wrapF .i64 ((i : Int) + 1) = ((i + 1 : Nat) : Int) := by rw [wrap_i64 (by omega) (by omega)]; simp
    have he := elemAt_map (f := iV) (z := 1) hlt rfl
    simp -implicitDefEqProofs only [go_sem]
    simp only [does_bind]
    refine draw_mach [13] [13] (by kernel_rfl) ?_
    simp -implicitDefEqProofs only [redoH, redo1, go_sem, a0, a3, a4, hT, he]
    have hn0 : ∀ m, acall cfg (K + 1) 84 [.ptr [0] 0] ⟨[([0], .cells [.int .u64 (xorU w (wrapF .u64 l[i]))] true 0)], m, [], false, []⟩ = .ret (.int .u64 (mixW (nextW (xorU w (wrapF .u64 l[i])))), ⟨[([0], .cells [.int .u64 (nextW (xorU w (wrapF .u64 l[i])))] true 0)], m, [], false, []⟩) := fun m => next_call _ [0] 0 K _ rfl
    unfold xorU at hn0
    simp -implicitDefEqProofs only [go_sem, a0, a3, a4, hT, hn0, hw1]
    refine ⟨l.length - (i + 1), by omega, trivial, trivial, trivial, i + 1, _, _, rfl, by omega, rfl, rfl, ?_⟩
    rw [hw, List.drop_eq_getElem_cons hlt]
    rfl
  · have hil : i = l.length := by omega
    subst hil
    simp -implicitDefEqProofs only [go_sem, a3, hT, Try.results20]
    rw [List.drop_length] at hw
    refine ⟨_, rfl, ?_⟩
    simp -implicitDefEqProofs only [go_sem, hw]
    rfl
theorem min_def' (a b : Int) : min a b = if b < a then b else a := by rw [Int.min_def]; split <;> split <;> omega
theorem max_def' (a b : Int) : max a b = if a < b then b else a := by rw [Int.max_def]; split <;> split <;> omega
def rangeR (w lo hi : Int) : Rg := ⟨min (betweenN w lo hi) (betweenN (nextW w) lo hi), max (betweenN w lo hi) (betweenN (nextW w) lo hi)⟩
theorem range_range (w lo hi : Int) (h : lo ≤ hi) : lo ≤ (rangeR w lo hi).lo ∧ (rangeR w lo hi).lo ≤ (rangeR w lo hi).hi ∧ (rangeR w lo hi).hi ≤ hi := by
  have h1 := between_range w lo hi h
  have h2 := between_range (nextW w) lo hi h
  unfold rangeR
  simp only
  omega
theorem range_call (w lo hi : Int) (b : Nm) (u : Nat) (K : Nat) (s : St) (hb : hget s.H b = some (.cells [.int .u64 w] true u)) (h1 : -1000000000000 ≤ lo) (h2 : lo ≤ hi) (h3 : hi ≤ 1000000000000) :
    acall cfg (K + 4) 87 [.ptr b 0, .int .i64 lo, .int .i64 hi] s = .ret (rgV (rangeR w lo hi), s.put b (.cells [.int .u64 (nextW (nextW w))] true u)) := by
  refine call4_ptr (v := rgV (rangeR w lo hi)) mget87 fget87 hb rfl rfl rfl rfl rfl rfl rfl rfl ?_
  refine body_does rfl fun T hT' hA => ?_
  have a0 := hA 0 _ rfl
  have a1 := hA 1 _ rfl
  have a2 := hA 2 _ rfl
  have hT : T.length = 24 := hT'
  clear hA hT'
  have b0 := fun (w : Int) (s : St) (hb : hget s.H [0] = some (.cells [.int .u64 w] true u)) => between_call w lo hi [0] u K s hb h1 h2 h3
  have b1 := b0 w ⟨[([1], .cells [.int .i64 0, .int .i64 0] true 0), ([0], .cells [.int .u64 w] true u)], 2, [], false, []⟩ rfl
  have b2 := b0 (nextW w) ⟨[([1], .cells [.int .i64 0, .int .i64 0] true 0), ([0], .cells [.int .u64 (nextW w)] true u)], 2, [], false, []⟩ rfl
  unfold rangeR
  rw [min_def', max_def']
  by_cases c1 : betweenN (nextW w) lo hi < betweenN w lo hi <;> by_cases c2 : betweenN w lo hi < betweenN (nextW w) lo hi <;>
    simp -implicitDefEqProofs only [go_sem, a0, a1, a2, hT, b1, b2, c1, c2, Try.results87]
theorem part_call (w most : Int) (b : Nm) (u : Nat) (K : Nat) (s : St) (hb : hget s.H b = some (.cells [.int .u64 w] true u)) (h2 : 0 ≤ most) (h3 : most ≤ 1000000000000) :
    acall cfg (K + 5) 88 [.ptr b 0, .int .i64 most] s = .ret (rgV (rangeR w 0 most), s.put b (.cells [.int .u64 (nextW (nextW w))] true u)) := by
  refine call4_ptr (v := rgV (rangeR w 0 most)) mget88 fget88 hb rfl rfl rfl rfl rfl rfl rfl rfl ?_
  refine body_does rfl fun T hT' hA => ?_
  have a0 := hA 0 _ rfl
  have a1 := hA 1 _ rfl
  have hT : T.length = 8 := hT'
  clear hA hT'
  have b1 := range_call w 0 most [0] u K ⟨[([1], .cells [.int .i64 0, .int .i64 0] true 0), ([0], .cells [.int .u64 w] true u)], 2, [], false, []⟩ rfl (by omega) h2 h3
  simp -implicitDefEqProofs only [go_sem, a0, a1, hT, b1, Try.results88]
theorem desc22 : cfg.desc 22 = some (.slice 3) := by kernel_rfl
end Go.Proofs.Ytgnpnfkncbnjnaa
