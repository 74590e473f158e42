/- The statement PumpRuns holds for every input, without further conditions. -/
import Derived.Test.YtgnpnfkncbnjnaaP5
import Derived.Test.YtgnpnfkncbnjnaaRows
import Derived.ProofKit
import Derived.KernelRfl
set_option linter.unusedSimpArgs false
set_option linter.unusedVariables false
set_option maxRecDepth 100000
namespace Go.Proofs.Ytgnpnfkncbnjnaa
attribute [local go_sem_proc] Int.reduceEq Int.reduceNeg Nat.reduceEqDiff Nat.reduceLT Nat.reduceAdd Nat.reduceSub Nat.reduceMul Int.reduceLE Int.reduceLT Int.reduceToNat Nat.reduceLeDiff
attribute [local go_sem] Int.toNat_natCast Bool.not_true Bool.not_false
open Go Go.Am
attribute [local congr] Ze Zb Zc
attribute [local go_sem] Go.Am.frozen Go.Am.freezeG Go.Am.freezeGs
def lsV (l : List Bk) : AV := .lst (l.map bkV)
def longB (l : List Bk) : Bool := decide (30 < l.length) || l.any fun x => decide (40 < x.shut.length)
theorem Zfe (l : List Bk) (K : Nat) (s : St) (hl : l.length < K) (hl2 : l.length <= 9223372036854775807) : acall cfg (K + 1) 63 [.lst (l.map bkV)] s = .ret (.bool (longB l), s) := by
 refine Yh Znb Zna (by first | rfl | simp -implicitDefEqProofs only [redoH, redo1, go_sem]) (by first | rfl | simp -implicitDefEqProofs only [go_sem]) (by first | rfl | simp -implicitDefEqProofs only [redoH, redo1, go_sem]) ?_
 refine Z6 rfl fun T hT' hA => ?_
 have a0 := hA 0 _ rfl
 have hT : T.length = 20 := hT'
 clear hA hT'
 have q1 : (30 : Int) < (l.length : Int) ↔ 30 < l.length := by omega
 unfold longB
 by_cases o1 : 30 < l.length
 ·simp -implicitDefEqProofs only [go_sem, a0, hT, q1, o1, Bool.true_or, Try.results63]
 ·simp -implicitDefEqProofs only [go_sem, a0, hT, q1, o1, Bool.false_or]
  simp only [Z1]
  refine Zf (fun k T s' => T.length = 20 /\ nth T 0 = some (.lst (l.map bkV)) /\ ∃ (i m : Nat) (H : Heap), nth T 3 = some (.int .i64 i) /\ i <= l.length /\ k = l.length - i /\ s' = ⟨H, m, [], false, []⟩ /\ (l.any fun x => decide (40 < x.shut.length)) = (l.drop i).any fun x => decide (40 < x.shut.length)) (k := l.length) (by omega) ?_ ?_
  ·exact ⟨by simp -implicitDefEqProofs only [go_sem, hT], by simp -implicitDefEqProofs only [go_sem, a0], 0, 0, _, by simp -implicitDefEqProofs only [go_sem, hT] <;> rfl, by omega, rfl, rfl, rfl⟩
  clear a0 hT T
  rintro k T s' ⟨hT, a0, i, m, H, a3, hi, rfl, rfl, he⟩
  simp -implicitDefEqProofs only [go_sem, a0, a3, hT]
  by_cases hil : (i : Int) < (l.length : Int)
  ·have hi' : i < l.length := by omega
   have e1 := Z9 (f := bkV) (l := l) (i := i) (z := 4) hi' rfl
   have hkk : l.length - (i + 1) < l.length - i := by omega
   rw [List.drop_eq_getElem_cons hi', List.any_cons] at he
   generalize l[i] = x at *
   have hw1 : wrapF .i64 ((i : Int) + 1) = ((i + 1 : Nat) : Int) := Z5 (by omega) (by omega)
   have q2 : (40 : Int) < (x.shut.length : Int) ↔ 40 < x.shut.length := by clear hw1; omega
   simp only [bkV] at e1
   by_cases c : 40 < x.shut.length
   ·have hd : decide (40 < x.shut.length) = true := by simp [c]
    rw [hd, Bool.true_or] at he
    simp -implicitDefEqProofs only [go_sem, a0, a3, hT, hil, e1, q2, c, Try.results63]
    rw [he]
   ·have hd : decide (40 < x.shut.length) = false := by simp [c]
    rw [hd, Bool.false_or] at he
    simp -implicitDefEqProofs only [go_sem, a0, a3, hT, hil, e1, q2, c, hw1]
    exact ⟨l.length - (i + 1), hkk, trivial, trivial, i + 1, m, H, rfl, hi', rfl, rfl, he⟩
  ·have hie : i = l.length := by omega
   subst hie
   rw [List.drop_length] at he
   simp -implicitDefEqProofs only [go_sem, hT, hil, Try.results63]
   rw [he]; rfl
theorem Zh8 (v : Vac) (l : List Bk) : (runE v l).1.free.length <= 8 /\ (runE v l).1.bound.length <= 8 /\ (runE v l).1.room.length <= 8 := by
 unfold runE
 split
 ·rename_i h
  have hz := (Z3t.1 h).1
  have hv := Z2g.1 hz
  have hg : GB v (runG v l) := Z7h hv (Z7g hv)
  have h1 := hg.fits.f; have h2 := hg.fits.b; have h3 := hg.fits.r
  have := hv.n8; have := hv.g8
  exact ⟨by show (runG v l).free.length <= 8; omega, by show (runG v l).bound.length <= 8; omega, by show (runG v l).room.length <= 8; omega⟩
 ·exact ⟨Nat.zero_le _, Nat.zero_le _, Nat.zero_le _⟩
set_option maxHeartbeats 2000000 in
theorem Zff (v : Vac) (l : List Bk) (vessel limit : Int) (nums : List Int) (K : Nat) (hK : 4000 < K) (hv : v.Lens K) (hl : BkL K l) (hlK : l.length < K) (hk2 : nums.length < K) (hn : Len nums) :
  (acall cfg (K + 320) 12 [vacV v, lsV l, .int .i64 vessel, .int .i64 limit, .lst (nums.map iV)] s0).Does fun x => x.1 = .bool true := by
 rw [Z6z Zmn Zmm]
 refine Z6 rfl fun T hT' hA => ?_
 have a0 := hA 0 _ rfl
 have a1 := hA 1 _ rfl
 have a2 := hA 2 _ rfl
 have a3 := hA 3 _ rfl
 have a4 := hA 4 _ rfl
 have hT : T.length = 204 := hT'
 clear hA hT'
 have hla := fun s => Zcf v (K + 318) s (hv.more 318)
 have hlo := fun s => Zfe l (K + 318) s (by omega) hl.1
 simp only [vacV] at hla
 unfold lsV at a1
 have haw := fun s => Zfc (K + 19) s
 cases hlb : largeB v with
 | true => simp -implicitDefEqProofs only [go_sem, a0, hT, hla, hlb, haw, Try.results12]
 | false =>
  cases hwb : longB l with
  | true => simp -implicitDefEqProofs only [go_sem, a0, a1, hT, hla, hlb, hlo, hwb, haw, Try.results12]
  | false =>
   have hnd := fun s => Z8a nums (K + 317) s (by omega) hn
   generalize newDice nums = w0 at *
   obtain ⟨own, w1, hg, hof⟩ := Z79 w0 [1] 0 (K + 309) ⟨[([1], .cells [.int .u64 w0] true 0), ([0], .cells [.lst (v.vessels.map vesV), .lst (v.pipes.map pipV), .lst (v.pumps.map pmpV), .lst (v.leaks.map inlV), .lst (v.getters.map gtrV)] true 0)], 2, [], false, []⟩ rfl (by omega)
   obtain ⟨SL, w2, hsl, hsn, hso⟩ := Z7i own (by have := hg.np; omega) w1 0 (K + 307) (by have := hg.np; omega)
   have hut := fun H m jr j (hd : hget H [1] = some (.cells [.int .u64 w2] true 0)) => Z25 w2 (own.vessels.length) [1] 0 (K + 317) ⟨H, m, [3, 15], jr, j⟩ hd (by have := hg.n4; omega)
   simp only [vacV] at hof hso
   simp -implicitDefEqProofs only [go_sem, a0, a1, a4, hT, hla, hlb, hlo, hwb, hnd, hof]
   have hb1 : ∀ s, buildSliceA (cfg.at 12) true 91 3 [(0, vacV v), (1, vacV own), (2, vacV own)] s = .ret (.lst ([v, own, own].map vacV), s) := fun s => by
    simp -implicitDefEqProofs only [go_sem, Go.Am.buildSliceA, List.map_cons, List.map_nil]
   have hb2 : ∀ b s, buildSliceA (cfg.at 12) true 109 3 [(0, .lst (l.map bkV)), (1, ownV b (SL.map bkV)), (2, .lst (l.map bkV))] s = .ret (.lst ([l, SL, l].map lsV), s) := fun b s => by
    cases SL <;> simp -implicitDefEqProofs only [go_sem, Go.Am.buildSliceA, List.map_cons, List.map_nil, lsV, AV.shut, ownV]
   have hb3 : ∀ (q : Int) s, buildSliceA (cfg.at 12) true 22 3 [(0, .int .i64 vessel), (1, .int .i64 q), (2, .int .i64 vessel)] s = .ret (.lst ([vessel, q, vessel].map iV), s) := fun q s => by
    simp -implicitDefEqProofs only [go_sem, Go.Am.buildSliceA, List.map_cons, List.map_nil]
   simp only [vacV] at hb1
   have step5 : ∃ (q5 : Int), True := ⟨0, trivial⟩
   have hL : ∀ x ∈ [v, own, own], x.Lens (K + 300) := by
    have h2 := hg.lens (K + 300) (by omega)
    intro x hx
    rcases List.mem_cons.1 hx with rfl | hx
    ·exact hv.more 300
    ·rcases List.mem_cons.1 hx with rfl | hx
     ·exact h2
     ·rw [List.mem_singleton] at hx; rw [hx]; exact h2
   have hB : ∀ z ∈ [l, SL, l], BkL (K + 300) z := by
    have h1 : BkL (K + 300) l := ⟨hl.1, fun x hx => by have := hl.2 x hx; omega⟩
    have h2 : BkL (K + 300) SL := ⟨by omega, fun x hx => by have := (hsl x hx).n; have := hg.np; omega⟩
    intro z hz
    rcases List.mem_cons.1 hz with rfl | hz
    ·exact h1
    ·rcases List.mem_cons.1 hz with rfl | hz
     ·exact h2
     ·rw [List.mem_singleton] at hz; rw [hz]; exact h1
   have hl1 : [v, own, own].length = 3 := rfl
   have hl2 : [l, SL, l].length = 3 := rfl
   simp only [Z1]
   refine Tr.Does.mono (Q := fun x => ∃ (T' : List AV) (H' : Heap) (q : Int), x = (T', (⟨H', 4, [], false, []⟩ : St)) /\ T'.length = 204 /\ nth T' 3 = some (.int .i64 limit) /\ nth T' 13 = some (.lst ([v, own, own].map vacV)) /\ nth T' 14 = some (.lst ([l, SL, l].map lsV)) /\ nth T' 15 = some (.lst ([vessel, q, vessel].map iV))) ?_ ?_
   ·cases SL with
    | nil =>
     simp only [List.map_nil, Zfy] at hso hb2
     have hb2 := hb2 []
     try simp only [Z1]
     refine Z7 [[], [], [], [0, 1, 2], [], [], [], [5, 6], [], [4, 7, 5, 6, 8], [], [], [], [12], [13, 12], [11, 14, 13, 12, 7, 5, 6], [], [10, 15, 11, 14, 13, 12, 7, 5, 6, 16], [15, 11, 14, 13, 12, 7, 5, 6, 3, 0, 1, 2], [9, 4, 8, 18, 15, 11, 14, 13, 12, 7, 5, 6, 3, 0, 1, 2], [17, 10, 16, 19, 9, 4, 8, 18, 15, 11, 14, 13, 12, 7, 5, 6, 3, 0, 1, 2]] [[], [], [], [], [], [], [], [[1]], [], [], [], [], [], [], [], [[1]], [], [], [], [], []] (by kernel_rfl) rfl rfl ?_
     simp -implicitDefEqProofs only [go_sem, Nat.reduceEqDiff, Nat.reduceLT, Nat.reduceAdd, Z0, Za, Option.getD_some, a1, a2, hT, hso [1], hut, hb1, hb2, hb3, Z8]
     exact ⟨_, _, _, rfl, by simp -implicitDefEqProofs only [go_sem, hT], by simp -implicitDefEqProofs only [go_sem, a3], by simp -implicitDefEqProofs only [go_sem, hT], by simp -implicitDefEqProofs only [go_sem, hT], by simp -implicitDefEqProofs only [go_sem, hT] <;> rfl⟩
    | cons a r =>
     have hown : ∀ b, ownV b ((a :: r).map bkV) = .own b ((a :: r).map bkV) := fun b => rfl
     simp only [hown] at hso hb2
     generalize (a :: r).map bkV = RW at *
     try simp only [Z1]
     refine Z7 [[], [], [], [0, 1, 2], [], [], [], [5, 6], [], [4, 7, 5, 6, 8], [], [], [], [12], [13, 12], [11, 14, 13, 12, 7, 5, 6], [], [10, 15, 11, 14, 13, 12, 7, 5, 6, 16], [15, 11, 14, 13, 12, 7, 5, 6, 3, 0, 1, 2], [9, 4, 8, 18, 15, 11, 14, 13, 12, 7, 5, 6, 3, 0, 1, 2], [17, 10, 16, 19, 9, 4, 8, 18, 15, 11, 14, 13, 12, 7, 5, 6, 3, 0, 1, 2]] [[], [], [], [], [], [], [], [[1]], [], [], [], [], [], [], [], [[1]], [], [], [], [], []] (by kernel_rfl) rfl rfl ?_
     simp -implicitDefEqProofs only [go_sem, Nat.reduceEqDiff, Nat.reduceLT, Nat.reduceAdd, Z0, Za, lk31, Option.getD_some, a1, a2, hT, hso [1], hut, hb1, hb2, hb3, Z8]
     exact ⟨_, _, _, rfl, by simp -implicitDefEqProofs only [go_sem, hT], by simp -implicitDefEqProofs only [go_sem, a3], by simp -implicitDefEqProofs only [go_sem, hT], by simp -implicitDefEqProofs only [go_sem, hT], by simp -implicitDefEqProofs only [go_sem, hT] <;> rfl⟩
   clear a0 a1 a2 a3 a4 hT T hla hlo hnd hof hso hut hb1 hb2 hb3 step5
   rintro _ ⟨T, H, q, rfl, hT, a3, a13, a14, a15⟩
   have hl3 : [vessel, q, vessel].length = 3 := rfl
   generalize [v, own, own] = VS at *
   generalize [l, SL, l] = LS at *
   generalize [vessel, q, vessel] = AT at *
   clear hg hsl hsn hlb hwb
   simp -implicitDefEqProofs only [go_sem]
   simp only [Z1]
   refine Zf (fun k T s' => T.length = 204 /\ nth T 3 = some (.int .i64 limit) /\ nth T 13 = some (.lst (VS.map vacV)) /\ nth T 14 = some (.lst (LS.map lsV)) /\ nth T 15 = some (.lst (AT.map iV)) /\ ∃ (i m : Nat) (H : Heap), nth T 16 = some (.int .i64 i) /\ i <= 3 /\ k = 3 - i /\ s' = ⟨H, m + 4, [], false, []⟩) (k := 3) (by omega) ?_ ?_
   ·exact ⟨by simp -implicitDefEqProofs only [go_sem, hT], by simp -implicitDefEqProofs only [go_sem, a3], by simp -implicitDefEqProofs only [go_sem, a13], by simp -implicitDefEqProofs only [go_sem, a14], by simp -implicitDefEqProofs only [go_sem, a15], 0, 0, _, by simp -implicitDefEqProofs only [go_sem, hT] <;> rfl, by omega, rfl, rfl⟩
   clear a3 a13 a14 a15 hT T H
   rintro k T s' ⟨hT, a3, a13, a14, a15, i, m, H, a16, hi, rfl, rfl⟩
   simp -implicitDefEqProofs only [go_sem, a13, a16, hT, hl1]
   by_cases hlo : (i : Int) < ((3 : Nat) : Int)
   ·have hi1 : i < VS.length := by omega
    have hi2 : i < LS.length := by omega
    have hi3 : i < AT.length := by omega
    have e1 := Z9 (f := vacV) (l := VS) (i := i) (z := 5) hi1 rfl
    have e2 := Z9 (f := lsV) (l := LS) (i := i) (z := 1) hi2 rfl
    have e3 := Z9 (f := iV) (l := AT) (i := i) (z := 1) hi3 rfl
    have hx := hL VS[i] (List.getElem_mem hi1)
    have hy := hB LS[i] (List.getElem_mem hi2)
    generalize VS[i] = x at *
    generalize LS[i] = y at *
    generalize AT[i] = z at *
    have c1 := fun s => Zh3 x y (K + 305) s (by omega) (hx.more 5) ⟨hy.1, fun s hs => by have := hy.2 s hs; omega⟩
    have c2 := fun s => Z94 x y (K + 305) s (by omega) (hx.more 5) ⟨hy.1, fun s hs => by have := hy.2 s hs; omega⟩
    have c3 := fun s => Zf5 x y z (K + 305) s (by omega) (hx.more 5) ⟨hy.1, fun s hs => by have := hy.2 s hs; omega⟩
    have c4 := fun s => Zck x y z (K + 305) s (by omega) (hx.more 5) ⟨hy.1, fun s hs => by have := hy.2 s hs; omega⟩
    have c5 := fun lim s => Zf7 x y z lim (K + 305) s (by omega) (hx.more 5) ⟨hy.1, fun s hs => by have := hy.2 s hs; omega⟩
    have c6 := fun lim s => Zcl x y z lim (K + 304) s (by omega) (hx.more 4) ⟨hy.1, fun s hs => by have := hy.2 s hs; omega⟩
    have hP := Zh8 x y
    generalize runE x y = P at *
    generalize peakE x y z = P2 at *
    have cs := fun s => Z8g P.1 (K + 317) s (by omega) (by omega) (by omega) (by omega)
    simp only [vacV, lsV, iV, gasP, gsV, sealV] at e1 e2 e3 c1 c2 c3 c4 c5 c6 cs
    have hbs : ∀ (a b c d : Int) s, buildSliceA (cfg.at 12) true 22 4 [(0, .int .i64 a), (1, .int .i64 b), (2, .int .i64 c), (3, .int .i64 d)] s = .ret (.lst ([a, b, c, d].map iV), s) := fun a b c d s => by
     simp -implicitDefEqProofs only [go_sem, Go.Am.buildSliceA, List.map_cons, List.map_nil]
    have eqr : ∀ a : Int, (a = a) = True := fun a => eq_self a
    simp -implicitDefEqProofs only [go_sem, hlo]
    try simp only [Z1]
    refine Z7 [[], [], [0, 1], [2, 0, 1], [], [], [4, 5], [6, 4, 5], [3, 2, 0, 1, 7, 6, 4, 5], [8, 3, 2, 0, 1, 7, 6, 4, 5], [9, 8, 3, 2, 0, 1, 7, 6, 4, 5], [9, 8, 3, 2, 0, 1, 7, 6, 4, 5], [], [10, 9, 8, 3, 2, 0, 1, 7, 6, 4, 5, 12], [11, 13, 10, 9, 8, 3, 2, 0, 1, 7, 6, 4, 5, 12]] [[], [], [], [], [], [], [], [], [], [], [], [], [], [[m + 4, 12, 0]], []] (by kernel_rfl) rfl rfl ?_
    simp -implicitDefEqProofs only [go_sem, Z0, Za, Option.getD_some, a13, a14, a16, hT, e1, e2, AV.shut, shuts, c1, Z8]
    try simp only [Z1]
    refine Z7 [[], [], [0, 1], [2, 0, 1], [], [], [4, 5], [6, 4, 5], [3, 2, 0, 1, 7, 6, 4, 5], [8, 3, 2, 0, 1, 7, 6, 4, 5], [9, 8, 3, 2, 0, 1, 7, 6, 4, 5], [9, 8, 3, 2, 0, 1, 7, 6, 4, 5], [], [10, 9, 8, 3, 2, 0, 1, 7, 6, 4, 5, 12], [11, 13, 10, 9, 8, 3, 2, 0, 1, 7, 6, 4, 5, 12]] [[], [], [], [], [], [], [], [], [], [], [], [], [], [[m + 5, 12, 0]], []] (by kernel_rfl) rfl rfl ?_
    simp -implicitDefEqProofs only [go_sem, Z0, Za, Option.getD_some, a13, a14, a16, hT, e1, e2, AV.shut, shuts, c2, Z8]
    try simp only [Z1]
    refine Z7 [[], [], [0, 1], [2, 0, 1], [], [], [4, 5], [6, 4, 5], [], [], [8, 9], [10, 8, 9], [3, 2, 0, 1, 7, 6, 4, 5, 11, 10, 8, 9], [12, 3, 2, 0, 1, 7, 6, 4, 5, 11, 10, 8, 9], [13, 12, 3, 2, 0, 1, 7, 6, 4, 5, 11, 10, 8, 9], [13, 12, 3, 2, 0, 1, 7, 6, 4, 5, 11, 10, 8, 9], [14, 13, 12, 3, 2, 0, 1, 7, 6, 4, 5, 11, 10, 8, 9], [15, 16, 14, 13, 12, 3, 2, 0, 1, 7, 6, 4, 5, 11, 10, 8, 9]] [[], [], [], [], [], [], [], [], [], [], [], [], [], [], [], [], [], []] (by kernel_rfl) rfl rfl ?_
    simp -implicitDefEqProofs only [go_sem, Option.getD_some, a13, a14, a15, a16, hT, e1, e2, e3, AV.shut, shuts, c3, Z8]
    have nm1 : ∀ x r, lkD (([m + 4 + 1, 12, 0], x) :: r) [m + 4, 12, 0] = lkD r [m + 4, 12, 0] := fun x r => lk33 (by omega)
    try simp only [Z1]
    refine Z7 [[], [], [0, 1], [2, 0, 1], [], [], [4, 5], [6, 4, 5], [], [], [8, 9], [10, 8, 9], [3, 2, 0, 1, 7, 6, 4, 5, 11, 10, 8, 9], [12, 3, 2, 0, 1, 7, 6, 4, 5, 11, 10, 8, 9], [13, 12, 3, 2, 0, 1, 7, 6, 4, 5, 11, 10, 8, 9], [13, 12, 3, 2, 0, 1, 7, 6, 4, 5, 11, 10, 8, 9], [14, 13, 12, 3, 2, 0, 1, 7, 6, 4, 5, 11, 10, 8, 9], [15, 16, 14, 13, 12, 3, 2, 0, 1, 7, 6, 4, 5, 11, 10, 8, 9]] [[], [], [], [], [], [], [], [], [], [], [], [], [], [], [], [], [], []] (by kernel_rfl) rfl rfl ?_
    simp -implicitDefEqProofs only [go_sem, Z0, lkn, Za, Option.getD_some, Option.getD_none, a3, a13, a14, a15, a16, hT, e1, e2, e3, AV.shut, shuts, c4, cs, nm1, hbs, Z8]
    generalize hLM : [limit, wrapF .i64 (P2.fst - 1), wrapF .i64 (P2.fst.tdiv 2), wrapF .i64 (P2.fst.tdiv 8)] = LM
    have hl4 : LM.length = 4 := by rw [<- hLM]; rfl
    clear hLM hbs
    simp only [Z1]
    refine Tr.Does.mono (Q := fun z => ∃ (T' : List AV) (m' : Nat) (H' : Heap), z = ((AExit.exit 2, T'), (⟨H', m' + 4, [], false, []⟩ : St)) /\ T'.length = 204 /\ nth T' 3 = some (.int .i64 limit) /\ nth T' 13 = some (.lst (VS.map vacV)) /\ nth T' 14 = some (.lst (LS.map lsV)) /\ nth T' 15 = some (.lst (AT.map iV)) /\ nth T' 16 = some (.int .i64 i)) ?_ ?_
    ·refine Zf (fun k T s' => T.length = 204 /\ nth T 3 = some (.int .i64 limit) /\ nth T 13 = some (.lst (VS.map vacV)) /\ nth T 14 = some (.lst (LS.map lsV)) /\ nth T 15 = some (.lst (AT.map iV)) /\ nth T 16 = some (.int .i64 i) /\ nth T 25 = some (.lst (LM.map iV)) /\ ∃ (u m : Nat) (H : Heap), nth T 26 = some (.int .i64 u) /\ u <= 4 /\ k = 4 - u /\ s' = ⟨H, m + 4, [], false, []⟩) (k := 4) (by omega) ?_ ?_
     ·exact ⟨by simp -implicitDefEqProofs only [go_sem, hT], by simp -implicitDefEqProofs only [go_sem, a3], by simp -implicitDefEqProofs only [go_sem, a13], by simp -implicitDefEqProofs only [go_sem, a14], by simp -implicitDefEqProofs only [go_sem, a15], by simp -implicitDefEqProofs only [go_sem, a16], by simp -implicitDefEqProofs only [go_sem, hT], 0, m + 4, _, by simp -implicitDefEqProofs only [go_sem, hT] <;> rfl, by omega, rfl, rfl⟩
     clear a3 a13 a14 a15 a16 hT T H c1 c2 c3 c4 cs hP P P2 nm1 m
     rintro k T s' ⟨hT, a3, a13, a14, a15, a16, a25, u, m, H, a26, hu, rfl, rfl⟩
     simp -implicitDefEqProofs only [go_sem, a25, a26, hT, hl4]
     by_cases huq : (u : Int) < ((4 : Nat) : Int)
     ·have hu1 : u < LM.length := by omega
      have e4 := Z9 (f := iV) (l := LM) (i := u) (z := 1) hu1 rfl
      generalize LM[u] = w at *
      have d1 := c5 w
      have d2 := c6 w
      generalize holdE x y z w = P3 at *
      simp only [iV] at e4
      clear c5 c6
      simp -implicitDefEqProofs only [go_sem, huq]
      try simp only [Z1]
      refine Z7 [[], [], [0, 1], [2, 0, 1], [], [], [4, 5], [6, 4, 5], [], [], [8, 9], [10, 8, 9], [], [], [12, 13], [14, 12, 13], [3, 2, 0, 1, 7, 6, 4, 5, 11, 10, 8, 9, 15, 14, 12, 13], [16, 3, 2, 0, 1, 7, 6, 4, 5, 11, 10, 8, 9, 15, 14, 12, 13], [17, 16, 3, 2, 0, 1, 7, 6, 4, 5, 11, 10, 8, 9, 15, 14, 12, 13], [17, 16, 3, 2, 0, 1, 7, 6, 4, 5, 11, 10, 8, 9, 15, 14, 12, 13], [18, 17, 16, 3, 2, 0, 1, 7, 6, 4, 5, 11, 10, 8, 9, 15, 14, 12, 13], [19, 20, 18, 17, 16, 3, 2, 0, 1, 7, 6, 4, 5, 11, 10, 8, 9, 15, 14, 12, 13]] [[], [], [], [], [], [], [], [], [], [], [], [], [], [], [], [], [], [], [], [], [], []] (by kernel_rfl) rfl rfl ?_
      simp -implicitDefEqProofs only [go_sem, Option.getD_some, a13, a14, a15, a16, a25, a26, hT, e1, e2, e3, e4, AV.shut, shuts, d1, Z8]
      try simp only [Z1]
      refine Z7 [[], [], [0, 1], [2, 0, 1], [], [], [4, 5], [6, 4, 5], [], [], [8, 9], [10, 8, 9], [], [], [12, 13], [14, 12, 13], [3, 2, 0, 1, 7, 6, 4, 5, 11, 10, 8, 9, 15, 14, 12, 13], [16, 3, 2, 0, 1, 7, 6, 4, 5, 11, 10, 8, 9, 15, 14, 12, 13], [17, 16, 3, 2, 0, 1, 7, 6, 4, 5, 11, 10, 8, 9, 15, 14, 12, 13], [17, 16, 3, 2, 0, 1, 7, 6, 4, 5, 11, 10, 8, 9, 15, 14, 12, 13], [18, 17, 16, 3, 2, 0, 1, 7, 6, 4, 5, 11, 10, 8, 9, 15, 14, 12, 13], [19, 20, 18, 17, 16, 3, 2, 0, 1, 7, 6, 4, 5, 11, 10, 8, 9, 15, 14, 12, 13]] [[], [], [], [], [], [], [], [], [], [], [], [], [], [], [], [], [], [], [], [], [], []] (by kernel_rfl) rfl rfl ?_
      have hw2 : wrapF .i64 ((u : Int) + 1) = ((u + 1 : Nat) : Int) := Z5 (by omega) (by omega)
      simp -implicitDefEqProofs only [go_sem, Option.getD_some, a3, a13, a14, a15, a16, a25, a26, hT, e1, e2, e3, e4, AV.shut, shuts, d2, hw2, Z8]
      have hu4 : u + 1 <= 4 := by clear hw2; omega
      have hk2' : 4 - (u + 1) < 4 - u := by clear hw2; omega
      exact ⟨4 - (u + 1), hk2', trivial, trivial, trivial, trivial, trivial, trivial, trivial, u + 1, m + 2, _, rfl, hu4, rfl, rfl⟩
     ·simp -implicitDefEqProofs only [go_sem, huq]
      exact ⟨_, m, H, rfl, by simp -implicitDefEqProofs only [go_sem, hT], by simp -implicitDefEqProofs only [go_sem, a3], by simp -implicitDefEqProofs only [go_sem, a13], by simp -implicitDefEqProofs only [go_sem, a14], by simp -implicitDefEqProofs only [go_sem, a15], by simp -implicitDefEqProofs only [go_sem, a16]⟩
    clear a3 a13 a14 a15 a16 hT T H c1 c2 c3 c4 c5 c6 cs hP P P2 nm1 e1 e2 e3 m
    rintro _ ⟨T, m, H, rfl, hT, a3, a13, a14, a15, a16⟩
    have hw1 : wrapF .i64 ((i : Int) + 1) = ((i + 1 : Nat) : Int) := Z5 (by omega) (by omega)
    have hi4 : i + 1 <= 3 := by clear hw1; omega
    have hkk : 3 - (i + 1) < 3 - i := by clear hw1; omega
    simp -implicitDefEqProofs only [go_sem, a3, a13, a14, a15, a16, hT, hw1]
    exact ⟨3 - (i + 1), hkk, trivial, trivial, trivial, trivial, trivial, i + 1, m, H, rfl, hi4, rfl, rfl⟩
   ·simp -implicitDefEqProofs only [go_sem, hT, hlo, haw, Try.results12]
theorem Z5a : ∀ l : List Bk, ∃ B : Nat, ∀ s ∈ l, s.shut.length <= B
 | [] => ⟨0, fun s hs => nomatch hs⟩
 | a :: r => by
  obtain ⟨B, h⟩ := Z5a r
  refine ⟨a.shut.length + B, fun s hs => ?_⟩
  rcases List.mem_cons.1 hs with rfl | hs
  ·omega
  ·have := h s hs; omega
theorem Zh9 (L : List (List AV)) (hl : L.length = [39, 73, 3, 3, 22].length) (hc : ∀ (i : Nat) t acs, [39, 73, 3, 3, 22][i]? = some t -> L[i]? = some acs -> Content Try.prog 12 t acs) :
  ∃ K, Yes (acall cfg K 12 (([39, 73, 3, 3, 22].zip L).map fun x => argOf Try.prog x.1 x.2) s0) := by
 match L, hl with
 | [c0, c1, c2, c3, c4], _ =>
  obtain ⟨v, rfl, hI⟩ := Zlr 5 c0 (hc 0 39 c0 rfl rfl)
  obtain ⟨b, rfl, hb⟩ := Zls 8 c1 (hc 1 73 c1 rfl rfl)
  obtain ⟨x, rfl, _⟩ := Xd 11 c2 (hc 2 3 c2 rfl rfl)
  obtain ⟨y, rfl, _⟩ := Xd 11 c3 (hc 3 3 c3 rfl rfl)
  obtain ⟨nums, rfl, hn⟩ := Zbp 10 c4 (hc 4 22 c4 rfl rfl)
  obtain ⟨B, hB⟩ := Z5a b
  refine ⟨(4001 + v.vessels.length + v.pipes.length + v.pumps.length + v.leaks.length + v.getters.length + nums.length + b.length + B) + 320, ⟨?_⟩⟩
  exact (Zff v b x y nums _ (by omega) (hI.lens _ (by omega) (by omega) (by omega) (by omega) (by omega)) ⟨hb.1, fun s hs => ⟨by have := hB s hs; omega, (hb.2 s hs).2.2.1⟩⟩ (by omega) (by omega) hn.1).all
end Go.Proofs.Ytgnpnfkncbnjnaa
namespace Go.Am
open Go Go.RowKit
section
variable {H0 : Type} {enc : TypeId × Value -> H0} {P : Program} {w : World} {held : Bool}
theorem Zbq : ∀ (ts : List TypeId) (vs : List Value) (ds : List (DataW H0)) (ps : List MemPlace), DataW.TrodAll enc P w 0 (fun _ => true) held ts vs ds ps -> ds.length = ts.length
 | [], [], [], ps, _ => rfl
 | t :: ts, v :: vs, d :: ds, ps, h => by
  obtain ⟨p, q, _, h2, _⟩ := h
  simp [Zbq ts vs ds q h2]
 | [], [], _ :: _, _, h => h.elim
 | [], _ :: _, [], _, h => h.elim
 | [], _ :: _, _ :: _, _, h => h.elim
 | _ :: _, [], [], _, h => h.elim
 | _ :: _, [], _ :: _, _, h => h.elim
 | _ :: _, _ :: _, [], _, h => h.elim
end
end Go.Am
namespace Go.Proofs.Ytgnpnfkncbnjnaa
open Go Go.Am
theorem Try.laidOut : laidOutB Try.prog = true := by kernel_rfl
theorem Try.own : ownKnob Try.prog.godebug = none := by kernel_rfl
theorem Try.rowed : mapsRowed Try.prog = true := by kernel_rfl
theorem Try.noStops : (Try.prog.stops == []) = true := by kernel_rfl
theorem Try.noKnobs : (Try.prog.stopKnobs == []) = true := by kernel_rfl
theorem Try.plain : (Rows.pumpKnownRow.plainKeys == Try.prog.plainKeys) = true := by kernel_rfl
theorem Try.heard : Try.prog.stopsHeard = true := by kernel_rfl
theorem Try.enters : Try.prog.mayEnter = true := by kernel_rfl
theorem Try.lifts : (Rows.pumpKnownRow.lifted == Try.prog.liftsFinal) = true := by kernel_rfl
theorem Try.makes : (Try.prog.make == some Rows.pumpKnownRow.make) = true := by kernel_rfl
end Go.Proofs.Ytgnpnfkncbnjnaa
namespace Go.Proofs.Ytgnpnfkncbnjnaa
open Go.Am
theorem tok1 : TyOk Try.prog 1 ty1 := Zj (by kernel_rfl) (by kernel_rfl)
theorem tok2 : TyOk Try.prog 2 ty2 := Zj (by kernel_rfl) (by kernel_rfl)
theorem tok3 : TyOk Try.prog 3 ty3 := Zj (by kernel_rfl) (by kernel_rfl)
theorem tok4 : TyOk Try.prog 4 ty4 := Zj (by kernel_rfl) (by kernel_rfl)
theorem tok5 : TyOk Try.prog 5 ty5 := Zj (by kernel_rfl) (by kernel_rfl)
theorem tok9 : TyOk Try.prog 9 ty9 := Zj (by kernel_rfl) (by kernel_rfl)
theorem Zul : TyOk Try.prog 22 ty22 := Zj (by kernel_rfl) (by kernel_rfl)
theorem Zum : TyOk Try.prog 23 ty23 := Zj (by kernel_rfl) (by kernel_rfl)
theorem Zun : TyOk Try.prog 26 ty26 := Zj (by kernel_rfl) (by kernel_rfl)
theorem Zuo : TyOk Try.prog 33 ty33 := Zj (by kernel_rfl) (by kernel_rfl)
theorem Zup : TyOk Try.prog 34 ty34 := Zj (by kernel_rfl) (by kernel_rfl)
theorem Zuq : TyOk Try.prog 35 ty35 := Zj (by kernel_rfl) (by kernel_rfl)
theorem Zur : TyOk Try.prog 36 ty36 := Zj (by kernel_rfl) (by kernel_rfl)
theorem Zus : TyOk Try.prog 37 ty37 := Zj (by kernel_rfl) (by kernel_rfl)
theorem Zut : TyOk Try.prog 39 ty39 := Zj (by kernel_rfl) (by kernel_rfl)
theorem Zuu : TyOk Try.prog 42 ty42 := Zj (by kernel_rfl) (by kernel_rfl)
theorem Zuv : TyOk Try.prog 47 ty47 := Zj (by kernel_rfl) (by kernel_rfl)
theorem Zuw : TyOk Try.prog 50 ty50 := Zj (by kernel_rfl) (by kernel_rfl)
theorem Zux : TyOk Try.prog 56 ty56 := Zj (by kernel_rfl) (by kernel_rfl)
theorem Zuy : TyOk Try.prog 61 ty61 := Zj (by kernel_rfl) (by kernel_rfl)
theorem Zuz : TyOk Try.prog 69 ty69 := Zj (by kernel_rfl) (by kernel_rfl)
theorem Zv0 : TyOk Try.prog 71 ty71 := Zj (by kernel_rfl) (by kernel_rfl)
theorem Zv1 : TyOk Try.prog 73 ty73 := Zj (by kernel_rfl) (by kernel_rfl)
theorem Zv2 : TyOk Try.prog 75 ty75 := Zj (by kernel_rfl) (by kernel_rfl)
theorem Zv3 : TyOk Try.prog 77 ty77 := Zj (by kernel_rfl) (by kernel_rfl)
theorem Zv4 : TyOk Try.prog 84 ty84 := Zj (by kernel_rfl) (by kernel_rfl)
theorem Zv5 : TyOk Try.prog 91 ty91 := Zj (by kernel_rfl) (by kernel_rfl)
theorem Zok : TyOk Try.prog 109 ty109 := Zj (by kernel_rfl) (by kernel_rfl)
theorem Zol : TyOk Try.prog 128 ty128 := Zj (by kernel_rfl) (by kernel_rfl)
theorem Zom : TyOk Try.prog 130 ty130 := Zj (by kernel_rfl) (by kernel_rfl)
theorem Zon : TyOk Try.prog 132 ty132 := Zj (by kernel_rfl) (by kernel_rfl)
theorem Zoo : TyOk Try.prog 138 ty138 := Zj (by kernel_rfl) (by kernel_rfl)
theorem Zop : TyOk Try.prog 140 ty140 := Zj (by kernel_rfl) (by kernel_rfl)
theorem Zoq : TyOk Try.prog 142 ty142 := Zj (by kernel_rfl) (by kernel_rfl)
theorem Zor : TyOk Try.prog 148 ty148 := Zj (by kernel_rfl) (by kernel_rfl)
theorem Zos : TyOk Try.prog 151 ty151 := Zj (by kernel_rfl) (by kernel_rfl)
theorem Zot : TyOk Try.prog 154 ty154 := Zj (by kernel_rfl) (by kernel_rfl)
theorem Zou : TyOk Try.prog 155 ty155 := Zj (by kernel_rfl) (by kernel_rfl)
theorem Zov : TyOk Try.prog 158 ty158 := Zj (by kernel_rfl) (by kernel_rfl)
theorem Zow : TyOk Try.prog 162 ty162 := Zj (by kernel_rfl) (by kernel_rfl)
theorem Zox : TyOk Try.prog 163 ty163 := Zj (by kernel_rfl) (by kernel_rfl)
theorem Zoy : TyOk Try.prog 168 ty168 := Zj (by kernel_rfl) (by kernel_rfl)
theorem Zoz : TyOk Try.prog 169 ty169 := Zj (by kernel_rfl) (by kernel_rfl)
theorem Zp0 : TyOk Try.prog 170 ty170 := Zj (by kernel_rfl) (by kernel_rfl)
theorem Zp1 : TyOk Try.prog 171 ty171 := Zj (by kernel_rfl) (by kernel_rfl)
theorem Zp2 : TyOk Try.prog 172 ty172 := Zj (by kernel_rfl) (by kernel_rfl)
theorem Zp3 : TyOk Try.prog 174 ty174 := Zj (by kernel_rfl) (by kernel_rfl)
theorem Zp4 : TyOk Try.prog 176 ty176 := Zj (by kernel_rfl) (by kernel_rfl)
theorem Zp5 : TyOk Try.prog 181 ty181 := Zj (by kernel_rfl) (by kernel_rfl)
theorem Zp6 : TyOk Try.prog 190 ty190 := Zj (by kernel_rfl) (by kernel_rfl)
theorem Zp7 : TyOk Try.prog 191 ty191 := Zj (by kernel_rfl) (by kernel_rfl)
theorem Zp8 : TyOk Try.prog 193 ty193 := Zj (by kernel_rfl) (by kernel_rfl)
theorem Zp9 : TyOk Try.prog 210 ty210 := Zj (by kernel_rfl) (by kernel_rfl)
theorem Zpa : TyOk Try.prog 211 ty211 := Zj (by kernel_rfl) (by kernel_rfl)
theorem Zpb : TyOk Try.prog 212 ty212 := Zj (by kernel_rfl) (by kernel_rfl)
theorem Zpc : TyOk Try.prog 214 ty214 := Zj (by kernel_rfl) (by kernel_rfl)
theorem Zpd : TyOk Try.prog 215 ty215 := Zj (by kernel_rfl) (by kernel_rfl)
theorem Zpe : TyOk Try.prog 220 ty220 := Zj (by kernel_rfl) (by kernel_rfl)
theorem Zpf : TyOk Try.prog 230 ty230 := Zj (by kernel_rfl) (by kernel_rfl)
theorem Zpg : TyOk Try.prog 231 ty231 := Zj (by kernel_rfl) (by kernel_rfl)
theorem Zv6 : Try.prog.funcs[12]? = some Try.f12 /\ (Try.f12.name == "runtime.NumGoroutine") = false := ⟨Try.func12, by kernel_rfl⟩
theorem Zv7 : Try.prog.funcs[20]? = some Try.f20 /\ (Try.f20.name == "runtime.NumGoroutine") = false := ⟨Try.func20, by kernel_rfl⟩
theorem Zv8 : Try.prog.funcs[23]? = some Try.f23 /\ (Try.f23.name == "runtime.NumGoroutine") = false := ⟨Try.func23, by kernel_rfl⟩
theorem Zv9 : Try.prog.funcs[24]? = some Try.f24 /\ (Try.f24.name == "runtime.NumGoroutine") = false := ⟨Try.func24, by kernel_rfl⟩
theorem Zva : Try.prog.funcs[25]? = some Try.f25 /\ (Try.f25.name == "runtime.NumGoroutine") = false := ⟨Try.func25, by kernel_rfl⟩
theorem Zvb : Try.prog.funcs[35]? = some Try.f35 /\ (Try.f35.name == "runtime.NumGoroutine") = false := ⟨Try.func35, by kernel_rfl⟩
theorem Zvc : Try.prog.funcs[36]? = some Try.f36 /\ (Try.f36.name == "runtime.NumGoroutine") = false := ⟨Try.func36, by kernel_rfl⟩
theorem Zvd : Try.prog.funcs[37]? = some Try.f37 /\ (Try.f37.name == "runtime.NumGoroutine") = false := ⟨Try.func37, by kernel_rfl⟩
theorem Zve : Try.prog.funcs[38]? = some Try.f38 /\ (Try.f38.name == "runtime.NumGoroutine") = false := ⟨Try.func38, by kernel_rfl⟩
theorem Zvf : Try.prog.funcs[39]? = some Try.f39 /\ (Try.f39.name == "runtime.NumGoroutine") = false := ⟨Try.func39, by kernel_rfl⟩
theorem Zvg : Try.prog.funcs[41]? = some Try.f41 /\ (Try.f41.name == "runtime.NumGoroutine") = false := ⟨Try.func41, by kernel_rfl⟩
theorem Zvh : Try.prog.funcs[44]? = some Try.f44 /\ (Try.f44.name == "runtime.NumGoroutine") = false := ⟨Try.func44, by kernel_rfl⟩
theorem Zvi : Try.prog.funcs[45]? = some Try.f45 /\ (Try.f45.name == "runtime.NumGoroutine") = false := ⟨Try.func45, by kernel_rfl⟩
theorem Zvj : Try.prog.funcs[47]? = some Try.f47 /\ (Try.f47.name == "runtime.NumGoroutine") = false := ⟨Try.func47, by kernel_rfl⟩
theorem Zvk : Try.prog.funcs[48]? = some Try.f48 /\ (Try.f48.name == "runtime.NumGoroutine") = false := ⟨Try.func48, by kernel_rfl⟩
theorem Zvl : Try.prog.funcs[49]? = some Try.f49 /\ (Try.f49.name == "runtime.NumGoroutine") = false := ⟨Try.func49, by kernel_rfl⟩
theorem Zvm : Try.prog.funcs[50]? = some Try.f50 /\ (Try.f50.name == "runtime.NumGoroutine") = false := ⟨Try.func50, by kernel_rfl⟩
theorem Zvn : Try.prog.funcs[51]? = some Try.f51 /\ (Try.f51.name == "runtime.NumGoroutine") = false := ⟨Try.func51, by kernel_rfl⟩
theorem Zvo : Try.prog.funcs[58]? = some Try.f58 /\ (Try.f58.name == "runtime.NumGoroutine") = false := ⟨Try.func58, by kernel_rfl⟩
theorem Zvp : Try.prog.funcs[63]? = some Try.f63 /\ (Try.f63.name == "runtime.NumGoroutine") = false := ⟨Try.func63, by kernel_rfl⟩
theorem Zvq : Try.prog.funcs[64]? = some Try.f64 /\ (Try.f64.name == "runtime.NumGoroutine") = false := ⟨Try.func64, by kernel_rfl⟩
theorem Zvr : Try.prog.funcs[65]? = some Try.f65 /\ (Try.f65.name == "runtime.NumGoroutine") = false := ⟨Try.func65, by kernel_rfl⟩
theorem Zvs : Try.prog.funcs[66]? = some Try.f66 /\ (Try.f66.name == "runtime.NumGoroutine") = false := ⟨Try.func66, by kernel_rfl⟩
theorem Zvt : Try.prog.funcs[67]? = some Try.f67 /\ (Try.f67.name == "runtime.NumGoroutine") = false := ⟨Try.func67, by kernel_rfl⟩
theorem Zvu : Try.prog.funcs[68]? = some Try.f68 /\ (Try.f68.name == "runtime.NumGoroutine") = false := ⟨Try.func68, by kernel_rfl⟩
theorem Zvv : Try.prog.funcs[83]? = some Try.f83 /\ (Try.f83.name == "runtime.NumGoroutine") = false := ⟨Try.func83, by kernel_rfl⟩
theorem Zvw : Try.prog.funcs[84]? = some Try.f84 /\ (Try.f84.name == "runtime.NumGoroutine") = false := ⟨Try.func84, by kernel_rfl⟩
theorem Zvx : Try.prog.funcs[85]? = some Try.f85 /\ (Try.f85.name == "runtime.NumGoroutine") = false := ⟨Try.func85, by kernel_rfl⟩
theorem Zvy : Try.prog.funcs[87]? = some Try.f87 /\ (Try.f87.name == "runtime.NumGoroutine") = false := ⟨Try.func87, by kernel_rfl⟩
theorem Zvz : Try.prog.funcs[88]? = some Try.f88 /\ (Try.f88.name == "runtime.NumGoroutine") = false := ⟨Try.func88, by kernel_rfl⟩
theorem Zw0 : Try.prog.funcs[94]? = some Try.f94 /\ (Try.f94.name == "runtime.NumGoroutine") = false := ⟨Try.func94, by kernel_rfl⟩
theorem Zw1 : Try.prog.funcs[95]? = some Try.f95 /\ (Try.f95.name == "runtime.NumGoroutine") = false := ⟨Try.func95, by kernel_rfl⟩
theorem Zw2 : Try.prog.funcs[97]? = some Try.f97 /\ (Try.f97.name == "runtime.NumGoroutine") = false := ⟨Try.func97, by kernel_rfl⟩
theorem Zw3 : Try.prog.funcs[98]? = some Try.f98 /\ (Try.f98.name == "runtime.NumGoroutine") = false := ⟨Try.func98, by kernel_rfl⟩
theorem Zw4 : Try.prog.funcs[99]? = some Try.f99 /\ (Try.f99.name == "runtime.NumGoroutine") = false := ⟨Try.func99, by kernel_rfl⟩
theorem Zph : Try.prog.funcs[100]? = some Try.f100 /\ (Try.f100.name == "runtime.NumGoroutine") = false := ⟨Try.func100, by kernel_rfl⟩
theorem Zpi : Try.prog.funcs[101]? = some Try.f101 /\ (Try.f101.name == "runtime.NumGoroutine") = false := ⟨Try.func101, by kernel_rfl⟩
theorem Zpj : Try.prog.funcs[102]? = some Try.f102 /\ (Try.f102.name == "runtime.NumGoroutine") = false := ⟨Try.func102, by kernel_rfl⟩
theorem Zpk : Try.prog.funcs[103]? = some Try.f103 /\ (Try.f103.name == "runtime.NumGoroutine") = false := ⟨Try.func103, by kernel_rfl⟩
theorem Zpl : Try.prog.funcs[104]? = some Try.f104 /\ (Try.f104.name == "runtime.NumGoroutine") = false := ⟨Try.func104, by kernel_rfl⟩
theorem Zpm : Try.prog.funcs[105]? = some Try.f105 /\ (Try.f105.name == "runtime.NumGoroutine") = false := ⟨Try.func105, by kernel_rfl⟩
theorem Zpn : Try.prog.funcs[106]? = some Try.f106 /\ (Try.f106.name == "runtime.NumGoroutine") = false := ⟨Try.func106, by kernel_rfl⟩
theorem Zpo : Try.prog.funcs[107]? = some Try.f107 /\ (Try.f107.name == "runtime.NumGoroutine") = false := ⟨Try.func107, by kernel_rfl⟩
theorem Zpp : Try.prog.funcs[108]? = some Try.f108 /\ (Try.f108.name == "runtime.NumGoroutine") = false := ⟨Try.func108, by kernel_rfl⟩
theorem Zpq : Try.prog.funcs[109]? = some Try.f109 /\ (Try.f109.name == "runtime.NumGoroutine") = false := ⟨Try.func109, by kernel_rfl⟩
theorem Zpr : Try.prog.funcs[110]? = some Try.f110 /\ (Try.f110.name == "runtime.NumGoroutine") = false := ⟨Try.func110, by kernel_rfl⟩
theorem Zps : Try.prog.funcs[111]? = some Try.f111 /\ (Try.f111.name == "runtime.NumGoroutine") = false := ⟨Try.func111, by kernel_rfl⟩
theorem Zpt : Try.prog.funcs[112]? = some Try.f112 /\ (Try.f112.name == "runtime.NumGoroutine") = false := ⟨Try.func112, by kernel_rfl⟩
theorem Zpu : Try.prog.funcs[113]? = some Try.f113 /\ (Try.f113.name == "runtime.NumGoroutine") = false := ⟨Try.func113, by kernel_rfl⟩
theorem Zpv : Try.prog.funcs[114]? = some Try.f114 /\ (Try.f114.name == "runtime.NumGoroutine") = false := ⟨Try.func114, by kernel_rfl⟩
theorem Zpw : Try.prog.funcs[115]? = some Try.f115 /\ (Try.f115.name == "runtime.NumGoroutine") = false := ⟨Try.func115, by kernel_rfl⟩
theorem Zpx : Try.prog.funcs[116]? = some Try.f116 /\ (Try.f116.name == "runtime.NumGoroutine") = false := ⟨Try.func116, by kernel_rfl⟩
theorem Zpy : Try.prog.funcs[117]? = some Try.f117 /\ (Try.f117.name == "runtime.NumGoroutine") = false := ⟨Try.func117, by kernel_rfl⟩
theorem Zpz : Try.prog.funcs[118]? = some Try.f118 /\ (Try.f118.name == "runtime.NumGoroutine") = false := ⟨Try.func118, by kernel_rfl⟩
theorem Zq0 : Try.prog.funcs[119]? = some Try.f119 /\ (Try.f119.name == "runtime.NumGoroutine") = false := ⟨Try.func119, by kernel_rfl⟩
theorem Zq1 : Try.prog.funcs[120]? = some Try.f120 /\ (Try.f120.name == "runtime.NumGoroutine") = false := ⟨Try.func120, by kernel_rfl⟩
theorem Zq2 : Try.prog.funcs[121]? = some Try.f121 /\ (Try.f121.name == "runtime.NumGoroutine") = false := ⟨Try.func121, by kernel_rfl⟩
theorem Zq3 : Try.prog.funcs[122]? = some Try.f122 /\ (Try.f122.name == "runtime.NumGoroutine") = false := ⟨Try.func122, by kernel_rfl⟩
theorem Zq4 : Try.prog.funcs[126]? = some Try.f126 /\ (Try.f126.name == "runtime.NumGoroutine") = false := ⟨Try.func126, by kernel_rfl⟩
theorem Zq5 : Try.prog.funcs[127]? = some Try.f127 /\ (Try.f127.name == "runtime.NumGoroutine") = false := ⟨Try.func127, by kernel_rfl⟩
theorem Zq6 : Try.prog.funcs[129]? = some Try.f129 /\ (Try.f129.name == "runtime.NumGoroutine") = false := ⟨Try.func129, by kernel_rfl⟩
theorem Zq7 : Try.prog.funcs[130]? = some Try.f130 /\ (Try.f130.name == "runtime.NumGoroutine") = false := ⟨Try.func130, by kernel_rfl⟩
theorem Zq8 : Try.prog.funcs[131]? = some Try.f131 /\ (Try.f131.name == "runtime.NumGoroutine") = false := ⟨Try.func131, by kernel_rfl⟩
theorem Zq9 : Try.prog.funcs[132]? = some Try.f132 /\ (Try.f132.name == "runtime.NumGoroutine") = false := ⟨Try.func132, by kernel_rfl⟩
theorem Zqa : Try.prog.funcs[134]? = some Try.f134 /\ (Try.f134.name == "runtime.NumGoroutine") = false := ⟨Try.func134, by kernel_rfl⟩
theorem Zqb : Try.prog.funcs[147]? = some Try.f147 /\ (Try.f147.name == "runtime.NumGoroutine") = false := ⟨Try.func147, by kernel_rfl⟩
theorem Zqc : Try.prog.funcs[148]? = some Try.f148 /\ (Try.f148.name == "runtime.NumGoroutine") = false := ⟨Try.func148, by kernel_rfl⟩
theorem Zqd : Try.prog.funcs[149]? = some Try.f149 /\ (Try.f149.name == "runtime.NumGoroutine") = false := ⟨Try.func149, by kernel_rfl⟩
theorem Zqe : Try.prog.funcs[150]? = some Try.f150 /\ (Try.f150.name == "runtime.NumGoroutine") = false := ⟨Try.func150, by kernel_rfl⟩
theorem Zqf : Try.prog.funcs[151]? = some Try.f151 /\ (Try.f151.name == "runtime.NumGoroutine") = false := ⟨Try.func151, by kernel_rfl⟩
theorem Zqg : Try.prog.funcs[152]? = some Try.f152 /\ (Try.f152.name == "runtime.NumGoroutine") = false := ⟨Try.func152, by kernel_rfl⟩
theorem Zqh : Try.prog.funcs[153]? = some Try.f153 /\ (Try.f153.name == "runtime.NumGoroutine") = false := ⟨Try.func153, by kernel_rfl⟩
theorem Zqi : Try.prog.funcs[154]? = some Try.f154 /\ (Try.f154.name == "runtime.NumGoroutine") = false := ⟨Try.func154, by kernel_rfl⟩
theorem Zqj : Try.prog.funcs[155]? = some Try.f155 /\ (Try.f155.name == "runtime.NumGoroutine") = false := ⟨Try.func155, by kernel_rfl⟩
theorem Zqk : Try.prog.funcs[156]? = some Try.f156 /\ (Try.f156.name == "runtime.NumGoroutine") = false := ⟨Try.func156, by kernel_rfl⟩
theorem Zql : Try.prog.funcs[157]? = some Try.f157 /\ (Try.f157.name == "runtime.NumGoroutine") = false := ⟨Try.func157, by kernel_rfl⟩
theorem Zqm : Try.prog.funcs[158]? = some Try.f158 /\ (Try.f158.name == "runtime.NumGoroutine") = false := ⟨Try.func158, by kernel_rfl⟩
theorem Zqn : Try.prog.funcs[159]? = some Try.f159 /\ (Try.f159.name == "runtime.NumGoroutine") = false := ⟨Try.func159, by kernel_rfl⟩
theorem Zqo : Try.prog.funcs[160]? = some Try.f160 /\ (Try.f160.name == "runtime.NumGoroutine") = false := ⟨Try.func160, by kernel_rfl⟩
theorem Zqp : Try.prog.funcs[161]? = some Try.f161 /\ (Try.f161.name == "runtime.NumGoroutine") = false := ⟨Try.func161, by kernel_rfl⟩
theorem Zqq : Try.prog.funcs[162]? = some Try.f162 /\ (Try.f162.name == "runtime.NumGoroutine") = false := ⟨Try.func162, by kernel_rfl⟩
theorem Zqr : Try.prog.funcs[163]? = some Try.f163 /\ (Try.f163.name == "runtime.NumGoroutine") = false := ⟨Try.func163, by kernel_rfl⟩
theorem Zqs : Try.prog.funcs[164]? = some Try.f164 /\ (Try.f164.name == "runtime.NumGoroutine") = false := ⟨Try.func164, by kernel_rfl⟩
theorem Zqt : Try.prog.funcs[165]? = some Try.f165 /\ (Try.f165.name == "runtime.NumGoroutine") = false := ⟨Try.func165, by kernel_rfl⟩
theorem Zqu : Try.prog.funcs[166]? = some Try.f166 /\ (Try.f166.name == "runtime.NumGoroutine") = false := ⟨Try.func166, by kernel_rfl⟩
theorem Zqv : Try.prog.funcs[167]? = some Try.f167 /\ (Try.f167.name == "runtime.NumGoroutine") = false := ⟨Try.func167, by kernel_rfl⟩
theorem Zqw : Try.prog.funcs[168]? = some Try.f168 /\ (Try.f168.name == "runtime.NumGoroutine") = false := ⟨Try.func168, by kernel_rfl⟩
theorem Zqx : Try.prog.funcs[169]? = some Try.f169 /\ (Try.f169.name == "runtime.NumGoroutine") = false := ⟨Try.func169, by kernel_rfl⟩
theorem Zqy : Try.prog.funcs[170]? = some Try.f170 /\ (Try.f170.name == "runtime.NumGoroutine") = false := ⟨Try.func170, by kernel_rfl⟩
theorem Zqz : Try.prog.funcs[178]? = some Try.f178 /\ (Try.f178.name == "runtime.NumGoroutine") = false := ⟨Try.func178, by kernel_rfl⟩
theorem Zr0 : Try.prog.funcs[179]? = some Try.f179 /\ (Try.f179.name == "runtime.NumGoroutine") = false := ⟨Try.func179, by kernel_rfl⟩
theorem Zr1 : Try.prog.funcs[180]? = some Try.f180 /\ (Try.f180.name == "runtime.NumGoroutine") = false := ⟨Try.func180, by kernel_rfl⟩
theorem Zr2 : Try.prog.funcs[181]? = some Try.f181 /\ (Try.f181.name == "runtime.NumGoroutine") = false := ⟨Try.func181, by kernel_rfl⟩
theorem Zr3 : Try.prog.funcs[182]? = some Try.f182 /\ (Try.f182.name == "runtime.NumGoroutine") = false := ⟨Try.func182, by kernel_rfl⟩
theorem Zr4 : Try.prog.funcs[183]? = some Try.f183 /\ (Try.f183.name == "runtime.NumGoroutine") = false := ⟨Try.func183, by kernel_rfl⟩
theorem Zr5 : Try.prog.funcs[184]? = some Try.f184 /\ (Try.f184.name == "runtime.NumGoroutine") = false := ⟨Try.func184, by kernel_rfl⟩
theorem Zw5 : AllNT (fun t i => TyOk Try.prog t i) tyT := ⟨Zon, ⟨Zuu, ⟨Zum, ⟨tok4, ⟨tok2, ⟨tok1, trivial, trivial⟩, ⟨tok3, trivial, trivial⟩⟩, ⟨tok9, ⟨tok5, trivial, trivial⟩, ⟨Zul, trivial, trivial⟩⟩⟩, ⟨Zuq, ⟨Zuo, ⟨Zun, trivial, trivial⟩, ⟨Zup, trivial, trivial⟩⟩, ⟨Zus, ⟨Zur, trivial, trivial⟩, ⟨Zut, trivial, trivial⟩⟩⟩⟩, ⟨Zv2, ⟨Zuy, ⟨Zuw, ⟨Zuv, trivial, trivial⟩, ⟨Zux, trivial, trivial⟩⟩, ⟨Zv0, ⟨Zuz, trivial, trivial⟩, ⟨Zv1, trivial, trivial⟩⟩⟩, ⟨Zok, ⟨Zv4, ⟨Zv3, trivial, trivial⟩, ⟨Zv5, trivial, trivial⟩⟩, ⟨Zom, ⟨Zol, trivial, trivial⟩, trivial⟩⟩⟩⟩, ⟨Zp2, ⟨Zov, ⟨Zor, ⟨Zop, ⟨Zoo, trivial, trivial⟩, ⟨Zoq, trivial, trivial⟩⟩, ⟨Zot, ⟨Zos, trivial, trivial⟩, ⟨Zou, trivial, trivial⟩⟩⟩, ⟨Zoz, ⟨Zox, ⟨Zow, trivial, trivial⟩, ⟨Zoy, trivial, trivial⟩⟩, ⟨Zp1, ⟨Zp0, trivial, trivial⟩, trivial⟩⟩⟩, ⟨Zpa, ⟨Zp6, ⟨Zp4, ⟨Zp3, trivial, trivial⟩, ⟨Zp5, trivial, trivial⟩⟩, ⟨Zp8, ⟨Zp7, trivial, trivial⟩, ⟨Zp9, trivial, trivial⟩⟩⟩, ⟨Zpe, ⟨Zpc, ⟨Zpb, trivial, trivial⟩, ⟨Zpd, trivial, trivial⟩⟩, ⟨Zpg, ⟨Zpf, trivial, trivial⟩, trivial⟩⟩⟩⟩⟩
theorem Zw6 : AllNT (fun f fn => Try.prog.funcs[f]? = some fn /\ (fn.name == "runtime.NumGoroutine") = false) fnT := ⟨Zpu, ⟨Zvu, ⟨Zvi, ⟨Zvc, ⟨Zv9, ⟨Zv7, ⟨Zv6, trivial, trivial⟩, ⟨Zv8, trivial, trivial⟩⟩, ⟨Zvb, ⟨Zva, trivial, trivial⟩, trivial⟩⟩, ⟨Zvf, ⟨Zve, ⟨Zvd, trivial, trivial⟩, trivial⟩, ⟨Zvh, ⟨Zvg, trivial, trivial⟩, trivial⟩⟩⟩, ⟨Zvo, ⟨Zvl, ⟨Zvk, ⟨Zvj, trivial, trivial⟩, trivial⟩, ⟨Zvn, ⟨Zvm, trivial, trivial⟩, trivial⟩⟩, ⟨Zvr, ⟨Zvq, ⟨Zvp, trivial, trivial⟩, trivial⟩, ⟨Zvt, ⟨Zvs, trivial, trivial⟩, trivial⟩⟩⟩⟩, ⟨Zpi, ⟨Zw0, ⟨Zvx, ⟨Zvw, ⟨Zvv, trivial, trivial⟩, trivial⟩, ⟨Zvz, ⟨Zvy, trivial, trivial⟩, trivial⟩⟩, ⟨Zw3, ⟨Zw2, ⟨Zw1, trivial, trivial⟩, trivial⟩, ⟨Zph, ⟨Zw4, trivial, trivial⟩, trivial⟩⟩⟩, ⟨Zpo, ⟨Zpl, ⟨Zpk, ⟨Zpj, trivial, trivial⟩, trivial⟩, ⟨Zpn, ⟨Zpm, trivial, trivial⟩, trivial⟩⟩, ⟨Zpr, ⟨Zpq, ⟨Zpp, trivial, trivial⟩, trivial⟩, ⟨Zpt, ⟨Zps, trivial, trivial⟩, trivial⟩⟩⟩⟩⟩, ⟨Zqi, ⟨Zq6, ⟨Zq0, ⟨Zpx, ⟨Zpw, ⟨Zpv, trivial, trivial⟩, trivial⟩, ⟨Zpz, ⟨Zpy, trivial, trivial⟩, trivial⟩⟩, ⟨Zq3, ⟨Zq2, ⟨Zq1, trivial, trivial⟩, trivial⟩, ⟨Zq5, ⟨Zq4, trivial, trivial⟩, trivial⟩⟩⟩, ⟨Zqc, ⟨Zq9, ⟨Zq8, ⟨Zq7, trivial, trivial⟩, trivial⟩, ⟨Zqb, ⟨Zqa, trivial, trivial⟩, trivial⟩⟩, ⟨Zqf, ⟨Zqe, ⟨Zqd, trivial, trivial⟩, trivial⟩, ⟨Zqh, ⟨Zqg, trivial, trivial⟩, trivial⟩⟩⟩⟩, ⟨Zqu, ⟨Zqo, ⟨Zql, ⟨Zqk, ⟨Zqj, trivial, trivial⟩, trivial⟩, ⟨Zqn, ⟨Zqm, trivial, trivial⟩, trivial⟩⟩, ⟨Zqr, ⟨Zqq, ⟨Zqp, trivial, trivial⟩, trivial⟩, ⟨Zqt, ⟨Zqs, trivial, trivial⟩, trivial⟩⟩⟩, ⟨Zr0, ⟨Zqx, ⟨Zqw, ⟨Zqv, trivial, trivial⟩, trivial⟩, ⟨Zqz, ⟨Zqy, trivial, trivial⟩, trivial⟩⟩, ⟨Zr3, ⟨Zr2, ⟨Zr1, trivial, trivial⟩, trivial⟩, ⟨Zr5, ⟨Zr4, trivial, trivial⟩, trivial⟩⟩⟩⟩⟩⟩
theorem Zw7 : CfgOk Try.prog cfg := Zfs Zw6 Zw5 (by kernel_rfl)
theorem Zlt : CodesOk cfg := Zc0 (by kernel_rfl)
end Go.Proofs.Ytgnpnfkncbnjnaa
namespace Go.Proofs.Ytgnpnfkncbnjnaa
open Go Go.Am Go.ChangeShapes Go.WideShapes Go.ChangeAt Go.RowKit
set_option maxRecDepth 100000 in
theorem Za8 (os : Os) (started : os.Started) (H : Type) (enc : TypeId × Value -> H) :
  ReturnsInHanded {} Try.checked os 12 .any (Rows.pumpRunsSpec.pre6 enc Try.prog Try.f12 Rows.pumpRunsRow.domain false) (Rows.pumpRunsSpec.post enc Try.prog Try.f12 false true false false) := by
 refine returnsInHanded_of_change (C := Try.checked) Try.own started (by kernel_rfl) Try.func12
  (ChangeSpec.witness6 (enc := enc) (C := Try.checked) false ⟨#[], #[.agg #[.slice none 0 0, .slice none 0 0, .slice none 0 0, .slice none 0 0, .slice none 0 0], .slice none 0 0, .int .i64 0, .int .i64 0, .slice none 0 0], []⟩ 8 (by kernel_rfl) (by kernel_rfl) (by kernel_rfl) (by kernel_rfl)) ?_
 intro W base args ds gs before hval0 hW hcnd _
 have hW' := hW
 obtain ⟨p, q, hA0, hV, rfl, hfz, hnd⟩ := hW
 have hA : DataW.TrodAll enc Try.prog W 0 (fun _ => true) true Try.f12.params.toList args.toList ds p := hA0
 rw [Try.params12] at hA
 obtain ⟨rfl, rfl⟩ := trodVars_none hV
 simp only [List.append_nil] at hW'
 have hlen : ds.length = 5 := Zbq _ _ _ _ hA
 have hsup : (([39, 73, 3, 3, 22] : List TypeId).all fun t => suppB Try.prog 12 t) = true := by as_aux_lemma => kernel_rfl
 have hpar : (([39, 73, 3, 3, 22] : List TypeId).all fun t => Try.prog.readableRec t && Nat.blt t Try.prog.types.size) = true := by as_aux_lemma => kernel_rfl
 refine (Z6y (d := 12) Zw7 Zlt hA (fun t ht => List.all_eq_true.1 hsup t ht) (fun j t v e1 e2 => hval0 j t v (by rw [Try.params12]; simpa using e1) (by simpa using e2)) fun L hl hc => Zh9 L hl hc).mono fun e W' ⟨he, hb⟩ => ?_
 subst he
 exact ⟨_, rfl, Zft Try.laidOut (fun t ht => by rw [Try.params12] at ht; have := List.all_eq_true.1 hpar t ht; rw [Bool.and_eq_true, Nat.blt_eq] at this; exact this) rfl rfl Try.underlying4 hW' (by match ds, hlen with | [_, _, _, _, _], _ => rfl) hb⟩
set_option maxHeartbeats 4000000 in
theorem Za9 : joinedFacts Try.prog 12 Try.f12 Rows.pumpRunsSpec Rows.pumpRunsRow = true := by
 refine Zdx Try.laidOut Try.rowed Try.noStops Try.noKnobs Try.plain Try.heard Try.enters Try.lifts Try.makes (by as_aux_lemma => kernel_rfl) (by as_aux_lemma => kernel_rfl) (by as_aux_lemma => kernel_rfl) (by as_aux_lemma => kernel_rfl) (by as_aux_lemma => kernel_rfl)
  (by as_aux_lemma => kernel_rfl) (by as_aux_lemma => kernel_rfl) (by as_aux_lemma => kernel_rfl) (by as_aux_lemma => kernel_rfl) ?_
 kernel_rfl
theorem runs_holds : Rows.PumpRunsSaid :=
 OpenClaim.holds_of_wide 12 Try.f12 rfl rfl rfl rfl rfl rfl rfl ⟨rfl, rfl, rfl, rfl, rfl⟩ rfl rfl rfl rfl rfl (by as_aux_lemma => kernel_rfl) Try.func12 Za9
  (of_decide_eq_true (by as_aux_lemma => kernel_rfl)) (by as_aux_lemma => unfold Func.isWrapper; first | (rw [if_pos (by decide +kernel)]; kernel_rfl) | (rw [if_neg (by decide +kernel)]; exact ⟨rfl, rfl⟩))
  (fun os started H enc _ => Za8 os started H enc)
end Go.Proofs.Ytgnpnfkncbnjnaa
