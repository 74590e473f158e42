/- The statement PumpStays holds for every input, without further conditions. -/
import Derived.Test.YtgnpnfkncbnjnaaP4
import Derived.Test.YtgnpnfkncbnjnaaRows
import Derived.ProofKit
import Derived.KernelRfl
set_option linter.unusedSimpArgs false
set_option linter.unusedVariables false
set_option maxRecDepth 100000
namespace Go.Proofs.Ytgnpnfkncbnjnaa
attribute [local go_sem_proc] Int.reduceEq Int.reduceNeg Nat.reduceEqDiff Nat.reduceLT Nat.reduceAdd Nat.reduceSub Nat.reduceMul Int.reduceLE Int.reduceLT Int.reduceToNat Nat.reduceLeDiff
attribute [local go_sem] Int.toNat_natCast Bool.not_true Bool.not_false
open Go Go.Am
attribute [local congr] Zf Z9 Zc
attribute [local go_sem] Go.Am.frozen Go.Am.freezeG Go.Am.freezeGs
theorem GasG.gb {v : Vac} {g : Gs} (h : GasG v g) : GB v g :=
 ⟨⟨h.fl, h.bl, h.rl⟩, fun r hr => (h.f r hr).mono (by decide), fun r hr => (h.b r hr).mono (by decide), fun r hr => (h.r r hr).mono (by decide), by have := h.m; omega⟩
theorem Z5p {np : Int} : ∀ {l : List Int} {last : Int}, (∀ x ∈ l, 0 <= x /\ x < np) -> (∀ x ∈ l, last < x) -> List.Pairwise (· < ·) l -> shutE np last l = 0
 | [], _, _, _, _ => rfl
 | a :: r, last, h1, h2, h3 => by
  unfold shutE
  have ha := h1 a List.mem_cons_self
  rw [if_pos (Yz.2 (by omega)), if_neg (by have := h2 a List.mem_cons_self; omega)]
  rw [List.pairwise_cons] at h3
  exact Z5p (fun x hx => h1 x (List.mem_cons_of_mem _ hx)) h3.1 h3.2
theorem StgG.ok {k : Int} {v : Vac} {b : Bk} (h : StgG k v.pipes.length b) (hk : k <= 2000) : stageE v b = 0 := by
 unfold stageE
 rw [if_pos ⟨Yz.2 (by have := h.t; omega), Yz.2 (by have := h.h; omega)⟩]
 exact Z5p h.s (fun x hx => by have := (h.s x hx).1; omega) h.o
theorem Zd9 {v : Vac} {g : Gs} {b : Bk} (hv : VB v) (hg : GB v g) (hb : stageE v b = 0) : tickE v g b = (tickT v g b, 0) := by
 unfold tickE
 rw [if_pos (Z5o.2 ⟨hv, hg⟩), if_pos hb]
def gasQ (g : Gs) : Blk := .cells [.lst (g.free.map rgV), .lst (g.bound.map rgV), .lst (g.room.map rgV), .int .i64 g.most, .bool g.flashed] true 0
set_option maxHeartbeats 2000000 in
theorem Zav (nums : List Int) (K : Nat) (hK : 1000 < K) (hk2 : nums.length < K) (hn : Len nums) :
  (acall cfg (K + 320) 14 [.lst (nums.map iV)] s0).Does fun x => x.1 = .bool true := by
 rw [Z68 Zis Zir]
 refine Za rfl fun T hT' hA => ?_
 have a0 := hA 0 _ rfl
 have hT : T.length = 171 := hT'
 clear hA hT'
 have haw := fun s => Zd0 (K + 19) s
 have hnd := fun s => Z7c nums (K + 317) s (by omega) hn
 generalize newDice nums = w0 at *
 obtain ⟨own, w1, hg, hof⟩ := Z6e w0 [0] 0 (K + 309) ⟨[([0], .cells [.int .u64 w0] true 0)], 1, [], false, []⟩ rfl (by omega)
 obtain ⟨og, w2, hgg, hgo⟩ := Zcr own hg w1 0 (K + 309) (by omega)
 simp only [vacV] at hof
 simp only [vacV, gsV] at hgo
 simp -implicitDefEqProofs only [redoH, redo1, go_sem, Int.reduceEq, Int.reduceNeg, Nat.reduceEqDiff, Nat.reduceLT, Nat.reduceAdd, Nat.reduceSub, Nat.reduceMul, Int.reduceLE, Int.reduceLT, Int.reduceToNat, Int.toNat_natCast, Nat.reduceLeDiff, Bool.not_true, Bool.not_false, a0, hT, hnd, hof, hgo [0]]
 have hva := Zat hg
 have hgb := hgg.gb
 clear hof hgo hnd hgg
 simp only [Z5]
 refine Zu (fun k T s' => T.length = 171 /\ nth T 3 = some (.ptr [0] 0) /\ nth T 4 = some (.ptr [1] 0) /\ nth T 5 = some (.ptr [2] 0) /\ ∃ (i m : Nat) (H : Heap) (w : Int) (g : Gs), nth T 6 = some (.int .i64 i) /\ i <= 5 /\ k = 5 - i /\ s' = ⟨H, m + 3, [], false, []⟩ /\ hget H [0] = some (.cells [.int .u64 w] true 0) /\ hget H [1] = some (vacC own) /\ hget H [2] = some (.cells [.lst (g.free.map rgV), .lst (g.bound.map rgV), .lst (g.room.map rgV), .int .i64 g.most, .bool g.flashed] true 0) /\ GB own g) (k := 5) (by omega) ?_ ?_
 ·exact ⟨by simp -implicitDefEqProofs only [redoH, redo1, go_sem, hT], by simp -implicitDefEqProofs only [redoH, redo1, go_sem, hT], by simp -implicitDefEqProofs only [redoH, redo1, go_sem, hT], by simp -implicitDefEqProofs only [redoH, redo1, go_sem, hT], 0, 0, _, w2, og, by simp -implicitDefEqProofs only [redoH, redo1, go_sem, hT] <;> rfl, by omega, rfl, rfl, rfl, rfl, rfl, hgb⟩
 clear a0 hT T w0 w1 w2 hgb
 rintro k T s' ⟨hT, a3, a4, a5, i, m, H, w, g, a6, hi, rfl, rfl, g0, g1, g2, hgb⟩
 by_cases hlo : (i : Int) < 5
 ·obtain ⟨b, w1, hob, hso⟩ := Z7s own (by have := hg.np; omega) 9 (by decide) w 0 (K + 309) (by have := hg.np; omega)
  have hti := fun s => Zcx own g b (K + 307) s (by omega) (hg.lens _ (by omega)) ⟨by rw [hgb.fits.f]; have := hg.n4; omega, by rw [hgb.fits.b]; have := hg.n4; omega, by rw [hgb.fits.r]; have := hg.ng; omega⟩ (by have := hob.n; have := hg.np; omega) (by have := hob.n; have := hg.np; omega)
  rw [Zd9 hva hgb (hob.ok (by decide))] at hti
  obtain ⟨hgb', hfr⟩ := Zhy hva hgb b
  obtain ⟨hls1, hls2⟩ := Zd8 hva hgb b
  have hmo := (Z6k hva hgb b).m1.1
  have hmo2 : g.most <= (tickT own g b).most := by rw [Z80]; exact hmo
  have hbe : belongsE own (tickT own g b) = 0 := Z5o.2 ⟨hva, hgb'⟩
  have hbc := fun s => Z2w own (tickT own g b) (K + 308) s (by omega) (hg.lens _ (by omega)) ⟨by rw [hgb'.fits.f]; have := hg.n4; omega, by rw [hgb'.fits.b]; have := hg.n4; omega, by rw [hgb'.fits.r]; have := hg.ng; omega⟩
  rw [hbe] at hbc
  clear hmo
  generalize tickT own g b = G at *
  clear hbe
  have hlF : G.free.length = own.vessels.length := hgb'.fits.f
  have hlB : G.bound.length = own.vessels.length := hgb'.fits.b
  have hlR : G.room.length = own.getters.length := hgb'.fits.r
  have q1 : ((G.free.length : Int) = (own.vessels.length : Int)) = True := by rw [hlF]; exact eq_self _
  have q2 : ((G.bound.length : Int) = (own.vessels.length : Int)) = True := by rw [hlB]; exact eq_self _
  have q3 : ((G.room.length : Int) = (own.getters.length : Int)) = True := by rw [hlR]; exact eq_self _
  have q4 : (G.most < g.most) = False := eq_false (by omega)
  have g1' := g1
  unfold vacC at g1
  simp only [vacV, gsV, bkV, gasP] at hso hti hbc
  simp -implicitDefEqProofs only [go_sem, a3, a4, a5, a6, hT, hlo]
  have k1 : hget (hdel H [0]) [1] = hget H [1] := hd11 (by decide)
  have k2 : hget (hdel H [0]) [2] = hget H [2] := hd11 (by decide)
  try simp only [Z5]
  refine Zd [[], [], [], [], [2, 3], [0, 1, 4, 2, 3], [5, 0, 1, 4, 2, 3], [6, 5, 0, 1, 4, 2, 3], [6, 5, 0, 1, 4, 2, 3], [], [7, 6, 5, 0, 1, 4, 2, 3, 9], [8, 10, 7, 6, 5, 0, 1, 4, 2, 3, 9]] [[], [], [], [], [[0]], [], [], [], [], [], [[m + 3, 9, 0]], []] (by kernel_rfl) rfl rfl ?_
  simp -implicitDefEqProofs only [go_sem, Int.reduceEq, Int.reduceNeg, Nat.reduceEqDiff, Nat.reduceLT, Nat.reduceAdd, Nat.reduceSub, Nat.reduceMul, Int.reduceLE, Int.reduceLT, Int.reduceToNat, Int.toNat_natCast, Nat.reduceLeDiff, Bool.not_true, Bool.not_false, Z1, lkn, Z4, lk11, lk13, lk31, lk33, Zb, Option.getD_some, Option.getD_none, a3, a4, a5, a6, hT, g0, g1, g2, k1, k2, hso [0], hti, hbc, q1, q2, q3, q4, Ze]
  simp only [Z5]
  refine Tr.Does.mono (Q := fun x => ∃ (T' : List AV) (m' : Nat) (H' : Heap), x = ((AExit.exit 2, T'), (⟨H', m' + 3, [], false, []⟩ : St)) /\ T'.length = 171 /\ nth T' 3 = some (.ptr [0] 0) /\ nth T' 4 = some (.ptr [1] 0) /\ nth T' 5 = some (.ptr [2] 0) /\ nth T' 7 = some (.ptr [m + 3, 9, 0] 0) /\ nth T' 6 = some (.int .i64 i) /\ hget H' [0] = some (.cells [.int .u64 w1] true 0) /\ hget H' [1] = some (vacC own) /\ hget H' [2] = some (gasQ g) /\ hget H' [m + 3, 9, 0] = some (gasQ G)) ?_ ?_
  ·refine Zu (fun k T s' => T.length = 171 /\ nth T 3 = some (.ptr [0] 0) /\ nth T 4 = some (.ptr [1] 0) /\ nth T 5 = some (.ptr [2] 0) /\ nth T 7 = some (.ptr [m + 3, 9, 0] 0) /\ nth T 6 = some (.int .i64 i) /\ ∃ (q m' : Nat) (H' : Heap), nth T 9 = some (.int .i64 q) /\ q <= own.vessels.length /\ k = own.vessels.length - q /\ s' = ⟨H', m' + 3, [], false, []⟩ /\ hget H' [0] = some (.cells [.int .u64 w1] true 0) /\ hget H' [1] = some (vacC own) /\ hget H' [2] = some (gasQ g) /\ hget H' [m + 3, 9, 0] = some (gasQ G)) (k := own.vessels.length) (by have := hg.n4; have := hg.ng; omega) ?_ ?_
   ·exact ⟨by simp -implicitDefEqProofs only [redoH, redo1, go_sem, hT], by simp -implicitDefEqProofs only [redoH, redo1, go_sem, a3], by simp -implicitDefEqProofs only [redoH, redo1, go_sem, a4], by simp -implicitDefEqProofs only [redoH, redo1, go_sem, a5], by simp -implicitDefEqProofs only [redoH, redo1, go_sem, hT], by simp -implicitDefEqProofs only [redoH, redo1, go_sem, a6], 0, m + 1, _, by simp -implicitDefEqProofs only [redoH, redo1, go_sem, hT] <;> rfl, by omega, rfl, rfl, by simp (disch := omega) only [Z0, hc11, hc13, hc31, hc33, hs11, hs13, hs31, hs33, hd11, hd13, hd31, hd33, Z3, ht11, ht31, ne_eq, not_false_eq_true, Nat.succ_ne_zero, Z1, lkn, Z4, lk11, lk13, lk31, lk33, Zb, Option.getD_some, Option.getD_none], by simp (disch := omega) only [Z0, hc11, hc13, hc31, hc33, hs11, hs13, hs31, hs33, hd11, hd13, hd31, hd33, Z3, ht11, ht31, ne_eq, not_false_eq_true, Nat.succ_ne_zero, Z1, lkn, Z4, lk11, lk13, lk31, lk33, Zb, Option.getD_some, Option.getD_none]; exact g1', by simp (disch := omega) only [Z0, hc11, hc13, hc31, hc33, hs11, hs13, hs31, hs33, hd11, hd13, hd31, hd33, Z3, ht11, ht31, ne_eq, not_false_eq_true, Nat.succ_ne_zero, Z1, lkn, Z4, lk11, lk13, lk31, lk33, Zb, Option.getD_some, Option.getD_none]; exact g2, by simp (disch := omega) only [Z0, hc11, hc13, hc31, hc33, hs11, hs13, hs31, hs33, hd11, hd13, hd31, hd33, Z3, ht11, ht31, ne_eq, not_false_eq_true, Nat.succ_ne_zero, Z1, lkn, Z4, lk11, lk13, lk31, lk33, Zb, Option.getD_some, Option.getD_none]; rfl⟩
   clear a3 a4 a5 a6  hT T g0 g1 g1' g2 k1 k2 H
   rintro k T s' ⟨hT, a3, a4, a5, a7, a6, q, m', H, a9, hq, rfl, rfl, g0, g1', g2', g3'⟩
   have g1 := g1'
   have g2 := g2'
   have g3 := g3'
   unfold vacC at g1
   unfold gasQ at g2 g3
   by_cases hql : (q : Int) < (own.vessels.length : Int)
   ·have hq' : q < own.vessels.length := by omega
    have hv1 : q < G.free.length := by omega
    have hv2 : q < G.bound.length := by omega
    have hv3 : q < g.bound.length := by have := hgb.fits.b; omega
    have e1 := Zj (f := rgV) (l := G.free) (i := q) (z := 2) hv1 rfl
    have e2 := Zj (f := rgV) (l := G.bound) (i := q) (z := 2) hv2 rfl
    have e3 := Zj (f := rgV) (l := g.bound) (i := q) (z := 2) hv3 rfl
    have u1 := hfr _ (List.getElem_mem hv1)
    have u2 := hls1 q hq'
    rw [Jg _ hv2, Jg _ hv3] at u2
    generalize G.free[q] = x at *
    generalize G.bound[q] = y at *
    generalize g.bound[q] = z at *
    simp only [rgV] at e1 e2 e3
    have p1 : (x.hi < x.lo) = False := eq_false (by have := u1.le; omega)
    have p2 : (G.most < x.hi) = False := eq_false (by have := u1.hi; omega)
    have p3 : (z.hi < y.hi) = False := eq_false (by omega)
    have p4 : (z.lo < y.lo) = False := eq_false (by omega)
    have hw1 : wrapF .i64 ((q : Int) + 1) = ((q + 1 : Nat) : Int) := Z8 (by omega) (by have := hg.n4; have := hg.ng; omega)
    have hkk : own.vessels.length - (q + 1) < own.vessels.length - q := by clear hw1; omega
    simp -implicitDefEqProofs only [go_sem, a3, a4, a5, a6, a7, a9, hT, g1, hql]
    try simp only [Z5]
    refine Zd [[], [0], [], [1, 0, 2], [3, 1, 0, 2], [4, 3, 1, 0, 2], [], [6], [], [7, 6, 8], [9, 7, 6, 8], [10, 9, 7, 6, 8], [5, 4, 3, 1, 0, 2, 11, 10, 9, 7, 6, 8], [12, 5, 4, 3, 1, 0, 2, 11, 10, 9, 7, 6, 8], [13, 12, 5, 4, 3, 1, 0, 2, 11, 10, 9, 7, 6, 8], [14, 13, 12, 5, 4, 3, 1, 0, 2, 11, 10, 9, 7, 6, 8], [13, 12, 5, 4, 3, 1, 0, 2, 11, 10, 9, 7, 6, 8], [15, 14, 16, 13, 12, 5, 4, 3, 1, 0, 2, 11, 10, 9, 7, 6, 8], [17, 15, 14, 16, 13, 12, 5, 4, 3, 1, 0, 2, 11, 10, 9, 7, 6, 8], [18, 17, 15, 14, 16, 13, 12, 5, 4, 3, 1, 0, 2, 11, 10, 9, 7, 6, 8], [13, 12, 5, 4, 3, 1, 0, 2, 11, 10, 9, 7, 6, 8], [20, 13, 12, 5, 4, 3, 1, 0, 2, 11, 10, 9, 7, 6, 8], [19, 18, 17, 15, 14, 16, 21, 20, 13, 12, 5, 4, 3, 1, 0, 2, 11, 10, 9, 7, 6, 8], [22, 19, 18, 17, 15, 14, 16, 21, 20, 13, 12, 5, 4, 3, 1, 0, 2, 11, 10, 9, 7, 6, 8], [23, 22, 19, 18, 17, 15, 14, 16, 21, 20, 13, 12, 5, 4, 3, 1, 0, 2, 11, 10, 9, 7, 6, 8], [24, 23, 22, 19, 18, 17, 15, 14, 16, 21, 20, 13, 12, 5, 4, 3, 1, 0, 2, 11, 10, 9, 7, 6, 8], [25, 24, 23, 22, 19, 18, 17, 15, 14, 16, 21, 20, 13, 12, 5, 4, 3, 1, 0, 2, 11, 10, 9, 7, 6, 8], [24, 23, 22, 19, 18, 17, 15, 14, 16, 21, 20, 13, 12, 5, 4, 3, 1, 0, 2, 11, 10, 9, 7, 6, 8], [26, 25, 27, 24, 23, 22, 19, 18, 17, 15, 14, 16, 21, 20, 13, 12, 5, 4, 3, 1, 0, 2, 11, 10, 9, 7, 6, 8], [28, 26, 25, 27, 24, 23, 22, 19, 18, 17, 15, 14, 16, 21, 20, 13, 12, 5, 4, 3, 1, 0, 2, 11, 10, 9, 7, 6, 8], [29, 28, 26, 25, 27, 24, 23, 22, 19, 18, 17, 15, 14, 16, 21, 20, 13, 12, 5, 4, 3, 1, 0, 2, 11, 10, 9, 7, 6, 8], [24, 23, 22, 19, 18, 17, 15, 14, 16, 21, 20, 13, 12, 5, 4, 3, 1, 0, 2, 11, 10, 9, 7, 6, 8], [31, 24, 23, 22, 19, 18, 17, 15, 14, 16, 21, 20, 13, 12, 5, 4, 3, 1, 0, 2, 11, 10, 9, 7, 6, 8], [24, 23, 22, 19, 18, 17, 15, 14, 16, 21, 20, 13, 12, 5, 4, 3, 1, 0, 2, 11, 10, 9, 7, 6, 8], [32, 31, 33, 24, 23, 22, 19, 18, 17, 15, 14, 16, 21, 20, 13, 12, 5, 4, 3, 1, 0, 2, 11, 10, 9, 7, 6, 8], [34, 32, 31, 33, 24, 23, 22, 19, 18, 17, 15, 14, 16, 21, 20, 13, 12, 5, 4, 3, 1, 0, 2, 11, 10, 9, 7, 6, 8], [35, 34, 32, 31, 33, 24, 23, 22, 19, 18, 17, 15, 14, 16, 21, 20, 13, 12, 5, 4, 3, 1, 0, 2, 11, 10, 9, 7, 6, 8], [30, 29, 28, 26, 25, 27, 36, 35, 34, 32, 31, 33, 24, 23, 22, 19, 18, 17, 15, 14, 16, 21, 20, 13, 12, 5, 4, 3, 1, 0, 2, 11, 10, 9, 7, 6, 8], [37, 30, 29, 28, 26, 25, 27, 36, 35, 34, 32, 31, 33, 24, 23, 22, 19, 18, 17, 15, 14, 16, 21, 20, 13, 12, 5, 4, 3, 1, 0, 2, 11, 10, 9, 7, 6, 8], [38, 37, 30, 29, 28, 26, 25, 27, 36, 35, 34, 32, 31, 33, 24, 23, 22, 19, 18, 17, 15, 14, 16, 21, 20, 13, 12, 5, 4, 3, 1, 0, 2, 11, 10, 9, 7, 6, 8], [39, 38, 37, 30, 29, 28, 26, 25, 27, 36, 35, 34, 32, 31, 33, 24, 23, 22, 19, 18, 17, 15, 14, 16, 21, 20, 13, 12, 5, 4, 3, 1, 0, 2, 11, 10, 9, 7, 6, 8], [40, 39, 38, 37, 30, 29, 28, 26, 25, 27, 36, 35, 34, 32, 31, 33, 24, 23, 22, 19, 18, 17, 15, 14, 16, 21, 20, 13, 12, 5, 4, 3, 1, 0, 2, 11, 10, 9, 7, 6, 8], [39, 38, 37, 30, 29, 28, 26, 25, 27, 36, 35, 34, 32, 31, 33, 24, 23, 22, 19, 18, 17, 15, 14, 16, 21, 20, 13, 12, 5, 4, 3, 1, 0, 2, 11, 10, 9, 7, 6, 8], [41, 40, 42, 39, 38, 37, 30, 29, 28, 26, 25, 27, 36, 35, 34, 32, 31, 33, 24, 23, 22, 19, 18, 17, 15, 14, 16, 21, 20, 13, 12, 5, 4, 3, 1, 0, 2, 11, 10, 9, 7, 6, 8], [43, 41, 40, 42, 39, 38, 37, 30, 29, 28, 26, 25, 27, 36, 35, 34, 32, 31, 33, 24, 23, 22, 19, 18, 17, 15, 14, 16, 21, 20, 13, 12, 5, 4, 3, 1, 0, 2, 11, 10, 9, 7, 6, 8], [44, 43, 41, 40, 42, 39, 38, 37, 30, 29, 28, 26, 25, 27, 36, 35, 34, 32, 31, 33, 24, 23, 22, 19, 18, 17, 15, 14, 16, 21, 20, 13, 12, 5, 4, 3, 1, 0, 2, 11, 10, 9, 7, 6, 8], [39, 38, 37, 30, 29, 28, 26, 25, 27, 36, 35, 34, 32, 31, 33, 24, 23, 22, 19, 18, 17, 15, 14, 16, 21, 20, 13, 12, 5, 4, 3, 1, 0, 2, 11, 10, 9, 7, 6, 8], [46, 39, 38, 37, 30, 29, 28, 26, 25, 27, 36, 35, 34, 32, 31, 33, 24, 23, 22, 19, 18, 17, 15, 14, 16, 21, 20, 13, 12, 5, 4, 3, 1, 0, 2, 11, 10, 9, 7, 6, 8], [39, 38, 37, 30, 29, 28, 26, 25, 27, 36, 35, 34, 32, 31, 33, 24, 23, 22, 19, 18, 17, 15, 14, 16, 21, 20, 13, 12, 5, 4, 3, 1, 0, 2, 11, 10, 9, 7, 6, 8], [47, 46, 48, 39, 38, 37, 30, 29, 28, 26, 25, 27, 36, 35, 34, 32, 31, 33, 24, 23, 22, 19, 18, 17, 15, 14, 16, 21, 20, 13, 12, 5, 4, 3, 1, 0, 2, 11, 10, 9, 7, 6, 8], [49, 47, 46, 48, 39, 38, 37, 30, 29, 28, 26, 25, 27, 36, 35, 34, 32, 31, 33, 24, 23, 22, 19, 18, 17, 15, 14, 16, 21, 20, 13, 12, 5, 4, 3, 1, 0, 2, 11, 10, 9, 7, 6, 8], [50, 49, 47, 46, 48, 39, 38, 37, 30, 29, 28, 26, 25, 27, 36, 35, 34, 32, 31, 33, 24, 23, 22, 19, 18, 17, 15, 14, 16, 21, 20, 13, 12, 5, 4, 3, 1, 0, 2, 11, 10, 9, 7, 6, 8], [45, 44, 43, 41, 40, 42, 51, 50, 49, 47, 46, 48, 39, 38, 37, 30, 29, 28, 26, 25, 27, 36, 35, 34, 32, 31, 33, 24, 23, 22, 19, 18, 17, 15, 14, 16, 21, 20, 13, 12, 5, 4, 3, 1, 0, 2, 11, 10, 9, 7, 6, 8], [52, 45, 44, 43, 41, 40, 42, 51, 50, 49, 47, 46, 48, 39, 38, 37, 30, 29, 28, 26, 25, 27, 36, 35, 34, 32, 31, 33, 24, 23, 22, 19, 18, 17, 15, 14, 16, 21, 20, 13, 12, 5, 4, 3, 1, 0, 2, 11, 10, 9, 7, 6, 8]] [[], [], [], [], [], [], [], [], [], [], [], [], [], [], [], [], [], [], [], [], [], [], [], [], [], [], [], [], [], [], [], [], [], [], [], [], [], [], [], [], [], [], [], [], [], [], [], [], [], [], [], [], [], []] (by kernel_rfl) rfl rfl ?_
    simp -implicitDefEqProofs only [go_sem, Z1, lkn, Z4, lk11, lk13, lk31, lk33, Zb, Option.getD_some, Option.getD_none, a3, a4, a5, a6, a7, a9, hT, g1, g2, g3, e1, e2, e3, p1, p2, p3, p4, hw1]
    exact ⟨own.vessels.length - (q + 1), hkk, trivial, trivial, trivial, trivial, trivial, trivial, q + 1, m' + 1, _, rfl, hq', rfl, rfl, g0, g1', g2', g3'⟩
   ·simp -implicitDefEqProofs only [go_sem, a3, a4, a5, a6, a7, a9, hT, g1, hql]
    exact ⟨_, m', H, rfl, by simp -implicitDefEqProofs only [redoH, redo1, go_sem, hT], by simp -implicitDefEqProofs only [redoH, redo1, go_sem, a3], by simp -implicitDefEqProofs only [redoH, redo1, go_sem, a4], by simp -implicitDefEqProofs only [redoH, redo1, go_sem, a5], by simp -implicitDefEqProofs only [redoH, redo1, go_sem, a7], by simp -implicitDefEqProofs only [redoH, redo1, go_sem, a6], g0, g1', g2', g3'⟩
  clear a3 a4 a5 a6  hT T g0 g1 g1' g2 k1 k2 H
  rintro _ ⟨T, m', H, rfl, hT, a3, a4, a5, a7, a6, g0, g1, g2, g3⟩
  simp -implicitDefEqProofs only [go_sem, a3, a4, a5, a6, a7, hT]
  simp only [Z5]
  refine Tr.Does.mono (Q := fun x => ∃ (T' : List AV) (m' : Nat) (H' : Heap), x = ((AExit.exit 4, T'), (⟨H', m' + 3, [], false, []⟩ : St)) /\ T'.length = 171 /\ nth T' 3 = some (.ptr [0] 0) /\ nth T' 4 = some (.ptr [1] 0) /\ nth T' 5 = some (.ptr [2] 0) /\ nth T' 7 = some (.ptr [m + 3, 9, 0] 0) /\ nth T' 6 = some (.int .i64 i) /\ hget H' [0] = some (.cells [.int .u64 w1] true 0) /\ hget H' [1] = some (vacC own) /\ hget H' [2] = some (gasQ g) /\ hget H' [m + 3, 9, 0] = some (gasQ G)) ?_ ?_
  ·refine Zu (fun k T s' => T.length = 171 /\ nth T 3 = some (.ptr [0] 0) /\ nth T 4 = some (.ptr [1] 0) /\ nth T 5 = some (.ptr [2] 0) /\ nth T 7 = some (.ptr [m + 3, 9, 0] 0) /\ nth T 6 = some (.int .i64 i) /\ ∃ (q m' : Nat) (H' : Heap), nth T 10 = some (.int .i64 q) /\ q <= own.getters.length /\ k = own.getters.length - q /\ s' = ⟨H', m' + 3, [], false, []⟩ /\ hget H' [0] = some (.cells [.int .u64 w1] true 0) /\ hget H' [1] = some (vacC own) /\ hget H' [2] = some (gasQ g) /\ hget H' [m + 3, 9, 0] = some (gasQ G)) (k := own.getters.length) (by have := hg.n4; have := hg.ng; omega) ?_ ?_
   ·exact ⟨by simp -implicitDefEqProofs only [redoH, redo1, go_sem, hT], by simp -implicitDefEqProofs only [redoH, redo1, go_sem, a3], by simp -implicitDefEqProofs only [redoH, redo1, go_sem, a4], by simp -implicitDefEqProofs only [redoH, redo1, go_sem, a5], by simp -implicitDefEqProofs only [redoH, redo1, go_sem, a7], by simp -implicitDefEqProofs only [redoH, redo1, go_sem, a6], 0, m', _, by simp -implicitDefEqProofs only [redoH, redo1, go_sem, hT] <;> rfl, by omega, rfl, rfl, g0, g1, g2, g3⟩
   clear a3 a4 a5 a6 a7 hT T g0 g1 g2 g3 H
   rintro k T s' ⟨hT, a3, a4, a5, a7, a6, q, m', H, a9, hq, rfl, rfl, g0, g1', g2', g3'⟩
   have g1 := g1'
   have g2 := g2'
   have g3 := g3'
   unfold vacC at g1
   unfold gasQ at g2 g3
   by_cases hql : (q : Int) < (own.getters.length : Int)
   ·have hq' : q < own.getters.length := by omega
    have hv1 : q < G.room.length := by omega
    have hv2 : q < g.room.length := by have := hgb.fits.r; omega
    have e1 := Zj (f := rgV) (l := G.room) (i := q) (z := 2) hv1 rfl
    have e2 := Zj (f := rgV) (l := g.room) (i := q) (z := 2) hv2 rfl
    have u2 := hls2 q
    rw [Jg _ hv1, Jg _ hv2] at u2
    generalize G.room[q] = x at *
    generalize g.room[q] = y at *
    simp only [rgV] at e1 e2
    have p1 : (y.hi < x.hi) = False := eq_false (by omega)
    have p2 : (y.lo < x.lo) = False := eq_false (by omega)
    have hw1 : wrapF .i64 ((q : Int) + 1) = ((q + 1 : Nat) : Int) := Z8 (by omega) (by have := hg.n4; have := hg.ng; omega)
    have hkk : own.getters.length - (q + 1) < own.getters.length - q := by clear hw1; omega
    simp -implicitDefEqProofs only [go_sem, a3, a4, a5, a6, a7, a9, hT, g1, hql]
    try simp only [Z5]
    refine Zd [[], [0], [], [1, 0, 2], [3, 1, 0, 2], [4, 3, 1, 0, 2], [], [6], [], [7, 6, 8], [9, 7, 6, 8], [10, 9, 7, 6, 8], [5, 4, 3, 1, 0, 2, 11, 10, 9, 7, 6, 8], [12, 5, 4, 3, 1, 0, 2, 11, 10, 9, 7, 6, 8], [13, 12, 5, 4, 3, 1, 0, 2, 11, 10, 9, 7, 6, 8], [14, 13, 12, 5, 4, 3, 1, 0, 2, 11, 10, 9, 7, 6, 8], [13, 12, 5, 4, 3, 1, 0, 2, 11, 10, 9, 7, 6, 8], [15, 14, 16, 13, 12, 5, 4, 3, 1, 0, 2, 11, 10, 9, 7, 6, 8], [17, 15, 14, 16, 13, 12, 5, 4, 3, 1, 0, 2, 11, 10, 9, 7, 6, 8], [18, 17, 15, 14, 16, 13, 12, 5, 4, 3, 1, 0, 2, 11, 10, 9, 7, 6, 8], [13, 12, 5, 4, 3, 1, 0, 2, 11, 10, 9, 7, 6, 8], [20, 13, 12, 5, 4, 3, 1, 0, 2, 11, 10, 9, 7, 6, 8], [13, 12, 5, 4, 3, 1, 0, 2, 11, 10, 9, 7, 6, 8], [21, 20, 22, 13, 12, 5, 4, 3, 1, 0, 2, 11, 10, 9, 7, 6, 8], [23, 21, 20, 22, 13, 12, 5, 4, 3, 1, 0, 2, 11, 10, 9, 7, 6, 8], [24, 23, 21, 20, 22, 13, 12, 5, 4, 3, 1, 0, 2, 11, 10, 9, 7, 6, 8], [19, 18, 17, 15, 14, 16, 25, 24, 23, 21, 20, 22, 13, 12, 5, 4, 3, 1, 0, 2, 11, 10, 9, 7, 6, 8], [26, 19, 18, 17, 15, 14, 16, 25, 24, 23, 21, 20, 22, 13, 12, 5, 4, 3, 1, 0, 2, 11, 10, 9, 7, 6, 8]] [[], [], [], [], [], [], [], [], [], [], [], [], [], [], [], [], [], [], [], [], [], [], [], [], [], [], [], []] (by kernel_rfl) rfl rfl ?_
    simp -implicitDefEqProofs only [go_sem, Z1, lkn, Z4, lk11, lk13, lk31, lk33, Zb, Option.getD_some, Option.getD_none, a3, a4, a5, a6, a7, a9, hT, g1, g2, g3, e1, e2, p1, p2, hw1]
    exact ⟨own.getters.length - (q + 1), hkk, trivial, trivial, trivial, trivial, trivial, trivial, q + 1, m' + 1, _, rfl, hq', rfl, rfl, g0, g1', g2', g3'⟩
   ·simp -implicitDefEqProofs only [go_sem, a3, a4, a5, a6, a7, a9, hT, g1, hql]
    exact ⟨_, m', H, rfl, by simp -implicitDefEqProofs only [redoH, redo1, go_sem, hT], by simp -implicitDefEqProofs only [redoH, redo1, go_sem, a3], by simp -implicitDefEqProofs only [redoH, redo1, go_sem, a4], by simp -implicitDefEqProofs only [redoH, redo1, go_sem, a5], by simp -implicitDefEqProofs only [redoH, redo1, go_sem, a7], by simp -implicitDefEqProofs only [redoH, redo1, go_sem, a6], g0, g1', g2', g3'⟩
  clear a3 a4 a5 a6 a7 hT T g0 g1 g2 g3 H
  rintro _ ⟨T, m', H, rfl, hT, a3, a4, a5, a7, a6, g0, g1, g2, g3⟩
  have g1' := g1
  unfold vacC at g1
  have g2' := g2
  have g3' := g3
  unfold gasQ at g2 g3
  have hw1 : wrapF .i64 ((i : Int) + 1) = ((i + 1 : Nat) : Int) := Z8 (by omega) (by omega)
  have hkk : 5 - (i + 1) < 5 - i := by clear hw1; omega
  have hi5 : i + 1 <= 5 := by clear hw1; omega
  have k0 : ∀ Y, hget (hset H [2] Y) [0] = hget H [0] := fun Y => hs11 (by decide)
  have k1 : ∀ Y, hget (hset H [2] Y) [1] = hget H [1] := fun Y => hs11 (by decide)
  have k2 : ∀ Y, hget (hset H [2] Y) [2] = some Y := fun Y => hss g2'
  simp -implicitDefEqProofs only [go_sem, a3, a4, a5, a6, a7, hT, g1, g2, g3, hw1]
  exact ⟨5 - (i + 1), hkk, trivial, trivial, trivial, trivial, i + 1, m', _, w1, G, rfl, hi5, rfl, rfl, (k0 _).trans g0, (k1 _).trans g1', k2 _, hgb'⟩
 ·simp -implicitDefEqProofs only [go_sem, a3, a4, a5, a6, hT, hlo, haw, Try.results14]
theorem Zda (L : List (List AV)) (hl : L.length = [22].length) (hc : ∀ (i : Nat) t acs, [22][i]? = some t -> L[i]? = some acs -> Content Try.prog 12 t acs) :
  ∃ K, Yes (acall cfg K 14 (([22].zip L).map fun x => argOf Try.prog x.1 x.2) s0) := by
 match L, hl with
 | [c0], _ =>
  obtain ⟨nums, rfl, hn⟩ := Zep 10 c0 (hc 0 22 c0 rfl rfl)
  refine ⟨(1001 + nums.length) + 320, ⟨?_⟩⟩
  exact (Zav nums _ (by omega) (by omega) hn.1).all
end Go.Proofs.Ytgnpnfkncbnjnaa
namespace Go.Am
open Go Go.RowKit
section
variable {H0 : Type} {enc : TypeId × Value -> H0} {P : Program} {w : World} {held : Bool}
theorem Za7 : ∀ (ts : List TypeId) (vs : List Value) (ds : List (DataW H0)) (ps : List MemPlace), DataW.TrodAll enc P w 0 (fun _ => true) held ts vs ds ps -> ds.length = ts.length
 | [], [], [], ps, _ => rfl
 | t :: ts, v :: vs, d :: ds, ps, h => by
  obtain ⟨p, q, _, h2, _⟩ := h
  simp [Za7 ts vs ds q h2]
 | [], [], _ :: _, _, h => h.elim
 | [], _ :: _, [], _, h => h.elim
 | [], _ :: _, _ :: _, _, h => h.elim
 | _ :: _, [], [], _, h => h.elim
 | _ :: _, [], _ :: _, _, h => h.elim
 | _ :: _, _ :: _, [], _, h => h.elim
end
end Go.Am
namespace Go.Proofs.Ytgnpnfkncbnjnaa
open Go Go.Am
theorem Try.laidOut : laidOutB Try.prog = true := by kernel_rfl
theorem Try.own : ownKnob Try.prog.godebug = none := by kernel_rfl
theorem Try.rowed : mapsRowed Try.prog = true := by kernel_rfl
theorem Try.noStops : (Try.prog.stops == []) = true := by kernel_rfl
theorem Try.noKnobs : (Try.prog.stopKnobs == []) = true := by kernel_rfl
theorem Try.plain : (Rows.pumpKnownRow.plainKeys == Try.prog.plainKeys) = true := by kernel_rfl
theorem Try.heard : Try.prog.stopsHeard = true := by kernel_rfl
theorem Try.enters : Try.prog.mayEnter = true := by kernel_rfl
theorem Try.lifts : (Rows.pumpKnownRow.lifted == Try.prog.liftsFinal) = true := by kernel_rfl
theorem Try.makes : (Try.prog.make == some Rows.pumpKnownRow.make) = true := by kernel_rfl
end Go.Proofs.Ytgnpnfkncbnjnaa
namespace Go.Proofs.Ytgnpnfkncbnjnaa
open Go.Am
theorem tok1 : TyOk Try.prog 1 ty1 := Z2 (by kernel_rfl) (by kernel_rfl)
theorem tok2 : TyOk Try.prog 2 ty2 := Z2 (by kernel_rfl) (by kernel_rfl)
theorem tok3 : TyOk Try.prog 3 ty3 := Z2 (by kernel_rfl) (by kernel_rfl)
theorem tok4 : TyOk Try.prog 4 ty4 := Z2 (by kernel_rfl) (by kernel_rfl)
theorem tok5 : TyOk Try.prog 5 ty5 := Z2 (by kernel_rfl) (by kernel_rfl)
theorem tok6 : TyOk Try.prog 6 ty6 := Z2 (by kernel_rfl) (by kernel_rfl)
theorem tok9 : TyOk Try.prog 9 ty9 := Z2 (by kernel_rfl) (by kernel_rfl)
theorem Zv4 : TyOk Try.prog 10 ty10 := Z2 (by kernel_rfl) (by kernel_rfl)
theorem Zv5 : TyOk Try.prog 11 ty11 := Z2 (by kernel_rfl) (by kernel_rfl)
theorem Zv6 : TyOk Try.prog 12 ty12 := Z2 (by kernel_rfl) (by kernel_rfl)
theorem Zv7 : TyOk Try.prog 15 ty15 := Z2 (by kernel_rfl) (by kernel_rfl)
theorem Zv8 : TyOk Try.prog 16 ty16 := Z2 (by kernel_rfl) (by kernel_rfl)
theorem Zv9 : TyOk Try.prog 17 ty17 := Z2 (by kernel_rfl) (by kernel_rfl)
theorem Zva : TyOk Try.prog 18 ty18 := Z2 (by kernel_rfl) (by kernel_rfl)
theorem Zvb : TyOk Try.prog 19 ty19 := Z2 (by kernel_rfl) (by kernel_rfl)
theorem Zvc : TyOk Try.prog 21 ty21 := Z2 (by kernel_rfl) (by kernel_rfl)
theorem Zvd : TyOk Try.prog 22 ty22 := Z2 (by kernel_rfl) (by kernel_rfl)
theorem Zve : TyOk Try.prog 23 ty23 := Z2 (by kernel_rfl) (by kernel_rfl)
theorem Zvf : TyOk Try.prog 24 ty24 := Z2 (by kernel_rfl) (by kernel_rfl)
theorem Zvg : TyOk Try.prog 25 ty25 := Z2 (by kernel_rfl) (by kernel_rfl)
theorem Zvh : TyOk Try.prog 26 ty26 := Z2 (by kernel_rfl) (by kernel_rfl)
theorem Zvi : TyOk Try.prog 27 ty27 := Z2 (by kernel_rfl) (by kernel_rfl)
theorem Zvj : TyOk Try.prog 28 ty28 := Z2 (by kernel_rfl) (by kernel_rfl)
theorem Zvk : TyOk Try.prog 29 ty29 := Z2 (by kernel_rfl) (by kernel_rfl)
theorem Zvl : TyOk Try.prog 30 ty30 := Z2 (by kernel_rfl) (by kernel_rfl)
theorem Zvm : TyOk Try.prog 31 ty31 := Z2 (by kernel_rfl) (by kernel_rfl)
theorem Zvn : TyOk Try.prog 32 ty32 := Z2 (by kernel_rfl) (by kernel_rfl)
theorem Zvo : TyOk Try.prog 33 ty33 := Z2 (by kernel_rfl) (by kernel_rfl)
theorem Zvp : TyOk Try.prog 34 ty34 := Z2 (by kernel_rfl) (by kernel_rfl)
theorem Zvq : TyOk Try.prog 35 ty35 := Z2 (by kernel_rfl) (by kernel_rfl)
theorem Zvr : TyOk Try.prog 36 ty36 := Z2 (by kernel_rfl) (by kernel_rfl)
theorem Zvs : TyOk Try.prog 37 ty37 := Z2 (by kernel_rfl) (by kernel_rfl)
theorem Zvt : TyOk Try.prog 38 ty38 := Z2 (by kernel_rfl) (by kernel_rfl)
theorem Zvu : TyOk Try.prog 39 ty39 := Z2 (by kernel_rfl) (by kernel_rfl)
theorem Zvv : TyOk Try.prog 40 ty40 := Z2 (by kernel_rfl) (by kernel_rfl)
theorem Zvw : TyOk Try.prog 41 ty41 := Z2 (by kernel_rfl) (by kernel_rfl)
theorem Zvx : TyOk Try.prog 42 ty42 := Z2 (by kernel_rfl) (by kernel_rfl)
theorem Zvy : TyOk Try.prog 43 ty43 := Z2 (by kernel_rfl) (by kernel_rfl)
theorem Zvz : TyOk Try.prog 44 ty44 := Z2 (by kernel_rfl) (by kernel_rfl)
theorem Zw0 : TyOk Try.prog 45 ty45 := Z2 (by kernel_rfl) (by kernel_rfl)
theorem Zw1 : TyOk Try.prog 46 ty46 := Z2 (by kernel_rfl) (by kernel_rfl)
theorem Zw2 : TyOk Try.prog 47 ty47 := Z2 (by kernel_rfl) (by kernel_rfl)
theorem Zw3 : TyOk Try.prog 49 ty49 := Z2 (by kernel_rfl) (by kernel_rfl)
theorem Zw4 : TyOk Try.prog 50 ty50 := Z2 (by kernel_rfl) (by kernel_rfl)
theorem Zw5 : TyOk Try.prog 51 ty51 := Z2 (by kernel_rfl) (by kernel_rfl)
theorem Zw6 : TyOk Try.prog 52 ty52 := Z2 (by kernel_rfl) (by kernel_rfl)
theorem Zw7 : TyOk Try.prog 53 ty53 := Z2 (by kernel_rfl) (by kernel_rfl)
theorem Zw8 : TyOk Try.prog 54 ty54 := Z2 (by kernel_rfl) (by kernel_rfl)
theorem Zw9 : TyOk Try.prog 55 ty55 := Z2 (by kernel_rfl) (by kernel_rfl)
theorem Zwa : TyOk Try.prog 56 ty56 := Z2 (by kernel_rfl) (by kernel_rfl)
theorem Zwb : TyOk Try.prog 58 ty58 := Z2 (by kernel_rfl) (by kernel_rfl)
theorem Zwc : TyOk Try.prog 59 ty59 := Z2 (by kernel_rfl) (by kernel_rfl)
theorem Zwd : TyOk Try.prog 60 ty60 := Z2 (by kernel_rfl) (by kernel_rfl)
theorem Zwe : TyOk Try.prog 61 ty61 := Z2 (by kernel_rfl) (by kernel_rfl)
theorem Zwf : TyOk Try.prog 62 ty62 := Z2 (by kernel_rfl) (by kernel_rfl)
theorem Zwg : TyOk Try.prog 63 ty63 := Z2 (by kernel_rfl) (by kernel_rfl)
theorem Zwh : TyOk Try.prog 64 ty64 := Z2 (by kernel_rfl) (by kernel_rfl)
theorem Zwi : TyOk Try.prog 65 ty65 := Z2 (by kernel_rfl) (by kernel_rfl)
theorem Zwj : TyOk Try.prog 66 ty66 := Z2 (by kernel_rfl) (by kernel_rfl)
theorem Zwk : TyOk Try.prog 67 ty67 := Z2 (by kernel_rfl) (by kernel_rfl)
theorem Zwl : TyOk Try.prog 68 ty68 := Z2 (by kernel_rfl) (by kernel_rfl)
theorem Zwm : TyOk Try.prog 69 ty69 := Z2 (by kernel_rfl) (by kernel_rfl)
theorem Zwn : TyOk Try.prog 70 ty70 := Z2 (by kernel_rfl) (by kernel_rfl)
theorem Zwo : TyOk Try.prog 71 ty71 := Z2 (by kernel_rfl) (by kernel_rfl)
theorem Zwp : TyOk Try.prog 72 ty72 := Z2 (by kernel_rfl) (by kernel_rfl)
theorem Zwq : TyOk Try.prog 73 ty73 := Z2 (by kernel_rfl) (by kernel_rfl)
theorem Zwr : TyOk Try.prog 74 ty74 := Z2 (by kernel_rfl) (by kernel_rfl)
theorem Zws : TyOk Try.prog 75 ty75 := Z2 (by kernel_rfl) (by kernel_rfl)
theorem Zwt : TyOk Try.prog 76 ty76 := Z2 (by kernel_rfl) (by kernel_rfl)
theorem Zwu : TyOk Try.prog 77 ty77 := Z2 (by kernel_rfl) (by kernel_rfl)
theorem Zwv : TyOk Try.prog 78 ty78 := Z2 (by kernel_rfl) (by kernel_rfl)
theorem Zww : TyOk Try.prog 80 ty80 := Z2 (by kernel_rfl) (by kernel_rfl)
theorem Zwx : TyOk Try.prog 81 ty81 := Z2 (by kernel_rfl) (by kernel_rfl)
theorem Zwy : TyOk Try.prog 82 ty82 := Z2 (by kernel_rfl) (by kernel_rfl)
theorem Zwz : TyOk Try.prog 83 ty83 := Z2 (by kernel_rfl) (by kernel_rfl)
theorem Zx0 : TyOk Try.prog 84 ty84 := Z2 (by kernel_rfl) (by kernel_rfl)
theorem Zx1 : TyOk Try.prog 85 ty85 := Z2 (by kernel_rfl) (by kernel_rfl)
theorem Zx2 : TyOk Try.prog 86 ty86 := Z2 (by kernel_rfl) (by kernel_rfl)
theorem Zx3 : TyOk Try.prog 87 ty87 := Z2 (by kernel_rfl) (by kernel_rfl)
theorem Zx4 : TyOk Try.prog 89 ty89 := Z2 (by kernel_rfl) (by kernel_rfl)
theorem Zx5 : TyOk Try.prog 90 ty90 := Z2 (by kernel_rfl) (by kernel_rfl)
theorem Zx6 : TyOk Try.prog 91 ty91 := Z2 (by kernel_rfl) (by kernel_rfl)
theorem Zx7 : TyOk Try.prog 92 ty92 := Z2 (by kernel_rfl) (by kernel_rfl)
theorem Zx8 : TyOk Try.prog 93 ty93 := Z2 (by kernel_rfl) (by kernel_rfl)
theorem Zx9 : TyOk Try.prog 94 ty94 := Z2 (by kernel_rfl) (by kernel_rfl)
theorem Zxa : TyOk Try.prog 95 ty95 := Z2 (by kernel_rfl) (by kernel_rfl)
theorem Zxb : TyOk Try.prog 96 ty96 := Z2 (by kernel_rfl) (by kernel_rfl)
theorem Zxc : TyOk Try.prog 97 ty97 := Z2 (by kernel_rfl) (by kernel_rfl)
theorem Zxd : TyOk Try.prog 98 ty98 := Z2 (by kernel_rfl) (by kernel_rfl)
theorem Zk4 : TyOk Try.prog 100 ty100 := Z2 (by kernel_rfl) (by kernel_rfl)
theorem Zk5 : TyOk Try.prog 101 ty101 := Z2 (by kernel_rfl) (by kernel_rfl)
theorem Zk6 : TyOk Try.prog 102 ty102 := Z2 (by kernel_rfl) (by kernel_rfl)
theorem Zk7 : TyOk Try.prog 103 ty103 := Z2 (by kernel_rfl) (by kernel_rfl)
theorem Zk8 : TyOk Try.prog 104 ty104 := Z2 (by kernel_rfl) (by kernel_rfl)
theorem Zk9 : TyOk Try.prog 105 ty105 := Z2 (by kernel_rfl) (by kernel_rfl)
theorem Zka : TyOk Try.prog 106 ty106 := Z2 (by kernel_rfl) (by kernel_rfl)
theorem Zkb : TyOk Try.prog 107 ty107 := Z2 (by kernel_rfl) (by kernel_rfl)
theorem Zkc : TyOk Try.prog 108 ty108 := Z2 (by kernel_rfl) (by kernel_rfl)
theorem Zkd : TyOk Try.prog 109 ty109 := Z2 (by kernel_rfl) (by kernel_rfl)
theorem Zke : TyOk Try.prog 111 ty111 := Z2 (by kernel_rfl) (by kernel_rfl)
theorem Zkf : TyOk Try.prog 112 ty112 := Z2 (by kernel_rfl) (by kernel_rfl)
theorem Zkg : TyOk Try.prog 113 ty113 := Z2 (by kernel_rfl) (by kernel_rfl)
theorem Zkh : TyOk Try.prog 114 ty114 := Z2 (by kernel_rfl) (by kernel_rfl)
theorem Zki : TyOk Try.prog 115 ty115 := Z2 (by kernel_rfl) (by kernel_rfl)
theorem Zkj : TyOk Try.prog 116 ty116 := Z2 (by kernel_rfl) (by kernel_rfl)
theorem Zkk : TyOk Try.prog 117 ty117 := Z2 (by kernel_rfl) (by kernel_rfl)
theorem Zkl : TyOk Try.prog 118 ty118 := Z2 (by kernel_rfl) (by kernel_rfl)
theorem Zkm : TyOk Try.prog 120 ty120 := Z2 (by kernel_rfl) (by kernel_rfl)
theorem Zkn : TyOk Try.prog 121 ty121 := Z2 (by kernel_rfl) (by kernel_rfl)
theorem Zko : TyOk Try.prog 122 ty122 := Z2 (by kernel_rfl) (by kernel_rfl)
theorem Zkp : TyOk Try.prog 123 ty123 := Z2 (by kernel_rfl) (by kernel_rfl)
theorem Zkq : TyOk Try.prog 124 ty124 := Z2 (by kernel_rfl) (by kernel_rfl)
theorem Zkr : TyOk Try.prog 125 ty125 := Z2 (by kernel_rfl) (by kernel_rfl)
theorem Zks : TyOk Try.prog 126 ty126 := Z2 (by kernel_rfl) (by kernel_rfl)
theorem Zkt : TyOk Try.prog 127 ty127 := Z2 (by kernel_rfl) (by kernel_rfl)
theorem Zku : TyOk Try.prog 128 ty128 := Z2 (by kernel_rfl) (by kernel_rfl)
theorem Zkv : TyOk Try.prog 129 ty129 := Z2 (by kernel_rfl) (by kernel_rfl)
theorem Zkw : TyOk Try.prog 130 ty130 := Z2 (by kernel_rfl) (by kernel_rfl)
theorem Zkx : TyOk Try.prog 131 ty131 := Z2 (by kernel_rfl) (by kernel_rfl)
theorem Zky : TyOk Try.prog 132 ty132 := Z2 (by kernel_rfl) (by kernel_rfl)
theorem Zkz : TyOk Try.prog 133 ty133 := Z2 (by kernel_rfl) (by kernel_rfl)
theorem Zl0 : TyOk Try.prog 134 ty134 := Z2 (by kernel_rfl) (by kernel_rfl)
theorem Zl1 : TyOk Try.prog 135 ty135 := Z2 (by kernel_rfl) (by kernel_rfl)
theorem Zl2 : TyOk Try.prog 136 ty136 := Z2 (by kernel_rfl) (by kernel_rfl)
theorem Zl3 : TyOk Try.prog 137 ty137 := Z2 (by kernel_rfl) (by kernel_rfl)
theorem Zl4 : TyOk Try.prog 138 ty138 := Z2 (by kernel_rfl) (by kernel_rfl)
theorem Zl5 : TyOk Try.prog 139 ty139 := Z2 (by kernel_rfl) (by kernel_rfl)
theorem Zl6 : TyOk Try.prog 140 ty140 := Z2 (by kernel_rfl) (by kernel_rfl)
theorem Zl7 : TyOk Try.prog 141 ty141 := Z2 (by kernel_rfl) (by kernel_rfl)
theorem Zl8 : TyOk Try.prog 142 ty142 := Z2 (by kernel_rfl) (by kernel_rfl)
theorem Zl9 : TyOk Try.prog 143 ty143 := Z2 (by kernel_rfl) (by kernel_rfl)
theorem Zla : TyOk Try.prog 144 ty144 := Z2 (by kernel_rfl) (by kernel_rfl)
theorem Zlb : TyOk Try.prog 145 ty145 := Z2 (by kernel_rfl) (by kernel_rfl)
theorem Zlc : TyOk Try.prog 146 ty146 := Z2 (by kernel_rfl) (by kernel_rfl)
theorem Zld : TyOk Try.prog 147 ty147 := Z2 (by kernel_rfl) (by kernel_rfl)
theorem Zle : TyOk Try.prog 148 ty148 := Z2 (by kernel_rfl) (by kernel_rfl)
theorem Zlf : TyOk Try.prog 149 ty149 := Z2 (by kernel_rfl) (by kernel_rfl)
theorem Zlg : TyOk Try.prog 150 ty150 := Z2 (by kernel_rfl) (by kernel_rfl)
theorem Zlh : TyOk Try.prog 151 ty151 := Z2 (by kernel_rfl) (by kernel_rfl)
theorem Zli : TyOk Try.prog 152 ty152 := Z2 (by kernel_rfl) (by kernel_rfl)
theorem Zlj : TyOk Try.prog 153 ty153 := Z2 (by kernel_rfl) (by kernel_rfl)
theorem Zlk : TyOk Try.prog 154 ty154 := Z2 (by kernel_rfl) (by kernel_rfl)
theorem Zll : TyOk Try.prog 155 ty155 := Z2 (by kernel_rfl) (by kernel_rfl)
theorem Zlm : TyOk Try.prog 156 ty156 := Z2 (by kernel_rfl) (by kernel_rfl)
theorem Zln : TyOk Try.prog 157 ty157 := Z2 (by kernel_rfl) (by kernel_rfl)
theorem Zlo : TyOk Try.prog 158 ty158 := Z2 (by kernel_rfl) (by kernel_rfl)
theorem Zlp : TyOk Try.prog 160 ty160 := Z2 (by kernel_rfl) (by kernel_rfl)
theorem Zlq : TyOk Try.prog 161 ty161 := Z2 (by kernel_rfl) (by kernel_rfl)
theorem Zlr : TyOk Try.prog 162 ty162 := Z2 (by kernel_rfl) (by kernel_rfl)
theorem Zls : TyOk Try.prog 163 ty163 := Z2 (by kernel_rfl) (by kernel_rfl)
theorem Zlt : TyOk Try.prog 164 ty164 := Z2 (by kernel_rfl) (by kernel_rfl)
theorem Zlu : TyOk Try.prog 165 ty165 := Z2 (by kernel_rfl) (by kernel_rfl)
theorem Zlv : TyOk Try.prog 166 ty166 := Z2 (by kernel_rfl) (by kernel_rfl)
theorem Zlw : TyOk Try.prog 167 ty167 := Z2 (by kernel_rfl) (by kernel_rfl)
theorem Zlx : TyOk Try.prog 168 ty168 := Z2 (by kernel_rfl) (by kernel_rfl)
theorem Zly : TyOk Try.prog 169 ty169 := Z2 (by kernel_rfl) (by kernel_rfl)
theorem Zlz : TyOk Try.prog 170 ty170 := Z2 (by kernel_rfl) (by kernel_rfl)
theorem Zm0 : TyOk Try.prog 171 ty171 := Z2 (by kernel_rfl) (by kernel_rfl)
theorem Zm1 : TyOk Try.prog 172 ty172 := Z2 (by kernel_rfl) (by kernel_rfl)
theorem Zm2 : TyOk Try.prog 173 ty173 := Z2 (by kernel_rfl) (by kernel_rfl)
theorem Zm3 : TyOk Try.prog 174 ty174 := Z2 (by kernel_rfl) (by kernel_rfl)
theorem Zm4 : TyOk Try.prog 175 ty175 := Z2 (by kernel_rfl) (by kernel_rfl)
theorem Zm5 : TyOk Try.prog 176 ty176 := Z2 (by kernel_rfl) (by kernel_rfl)
theorem Zm6 : TyOk Try.prog 177 ty177 := Z2 (by kernel_rfl) (by kernel_rfl)
theorem Zm7 : TyOk Try.prog 178 ty178 := Z2 (by kernel_rfl) (by kernel_rfl)
theorem Zm8 : TyOk Try.prog 179 ty179 := Z2 (by kernel_rfl) (by kernel_rfl)
theorem Zm9 : TyOk Try.prog 180 ty180 := Z2 (by kernel_rfl) (by kernel_rfl)
theorem Zma : TyOk Try.prog 181 ty181 := Z2 (by kernel_rfl) (by kernel_rfl)
theorem Zmb : TyOk Try.prog 182 ty182 := Z2 (by kernel_rfl) (by kernel_rfl)
theorem Zmc : TyOk Try.prog 183 ty183 := Z2 (by kernel_rfl) (by kernel_rfl)
theorem Zmd : TyOk Try.prog 184 ty184 := Z2 (by kernel_rfl) (by kernel_rfl)
theorem Zme : TyOk Try.prog 185 ty185 := Z2 (by kernel_rfl) (by kernel_rfl)
theorem Zmf : TyOk Try.prog 186 ty186 := Z2 (by kernel_rfl) (by kernel_rfl)
theorem Zmg : TyOk Try.prog 187 ty187 := Z2 (by kernel_rfl) (by kernel_rfl)
theorem Zmh : TyOk Try.prog 188 ty188 := Z2 (by kernel_rfl) (by kernel_rfl)
theorem Zmi : TyOk Try.prog 189 ty189 := Z2 (by kernel_rfl) (by kernel_rfl)
theorem Zmj : TyOk Try.prog 190 ty190 := Z2 (by kernel_rfl) (by kernel_rfl)
theorem Zmk : TyOk Try.prog 191 ty191 := Z2 (by kernel_rfl) (by kernel_rfl)
theorem Zml : TyOk Try.prog 192 ty192 := Z2 (by kernel_rfl) (by kernel_rfl)
theorem Zmm : TyOk Try.prog 193 ty193 := Z2 (by kernel_rfl) (by kernel_rfl)
theorem Zmn : TyOk Try.prog 194 ty194 := Z2 (by kernel_rfl) (by kernel_rfl)
theorem Zmo : TyOk Try.prog 195 ty195 := Z2 (by kernel_rfl) (by kernel_rfl)
theorem Zmp : TyOk Try.prog 196 ty196 := Z2 (by kernel_rfl) (by kernel_rfl)
theorem Zmq : TyOk Try.prog 197 ty197 := Z2 (by kernel_rfl) (by kernel_rfl)
theorem Zmr : TyOk Try.prog 198 ty198 := Z2 (by kernel_rfl) (by kernel_rfl)
theorem Zms : TyOk Try.prog 199 ty199 := Z2 (by kernel_rfl) (by kernel_rfl)
theorem Zmt : TyOk Try.prog 200 ty200 := Z2 (by kernel_rfl) (by kernel_rfl)
theorem Zmu : TyOk Try.prog 201 ty201 := Z2 (by kernel_rfl) (by kernel_rfl)
theorem Zmv : TyOk Try.prog 202 ty202 := Z2 (by kernel_rfl) (by kernel_rfl)
theorem Zmw : TyOk Try.prog 203 ty203 := Z2 (by kernel_rfl) (by kernel_rfl)
theorem Zmx : TyOk Try.prog 204 ty204 := Z2 (by kernel_rfl) (by kernel_rfl)
theorem Zmy : TyOk Try.prog 205 ty205 := Z2 (by kernel_rfl) (by kernel_rfl)
theorem Zmz : TyOk Try.prog 206 ty206 := Z2 (by kernel_rfl) (by kernel_rfl)
theorem Zn0 : TyOk Try.prog 207 ty207 := Z2 (by kernel_rfl) (by kernel_rfl)
theorem Zn1 : TyOk Try.prog 208 ty208 := Z2 (by kernel_rfl) (by kernel_rfl)
theorem Zn2 : TyOk Try.prog 209 ty209 := Z2 (by kernel_rfl) (by kernel_rfl)
theorem Zn3 : TyOk Try.prog 210 ty210 := Z2 (by kernel_rfl) (by kernel_rfl)
theorem Zn4 : TyOk Try.prog 211 ty211 := Z2 (by kernel_rfl) (by kernel_rfl)
theorem Zn5 : TyOk Try.prog 212 ty212 := Z2 (by kernel_rfl) (by kernel_rfl)
theorem Zn6 : TyOk Try.prog 214 ty214 := Z2 (by kernel_rfl) (by kernel_rfl)
theorem Zn7 : TyOk Try.prog 215 ty215 := Z2 (by kernel_rfl) (by kernel_rfl)
theorem Zn8 : TyOk Try.prog 216 ty216 := Z2 (by kernel_rfl) (by kernel_rfl)
theorem Zn9 : TyOk Try.prog 217 ty217 := Z2 (by kernel_rfl) (by kernel_rfl)
theorem Zna : TyOk Try.prog 218 ty218 := Z2 (by kernel_rfl) (by kernel_rfl)
theorem Znb : TyOk Try.prog 219 ty219 := Z2 (by kernel_rfl) (by kernel_rfl)
theorem Znc : TyOk Try.prog 220 ty220 := Z2 (by kernel_rfl) (by kernel_rfl)
theorem Znd : TyOk Try.prog 221 ty221 := Z2 (by kernel_rfl) (by kernel_rfl)
theorem Zne : TyOk Try.prog 222 ty222 := Z2 (by kernel_rfl) (by kernel_rfl)
theorem Znf : TyOk Try.prog 223 ty223 := Z2 (by kernel_rfl) (by kernel_rfl)
theorem Zng : TyOk Try.prog 224 ty224 := Z2 (by kernel_rfl) (by kernel_rfl)
theorem Znh : TyOk Try.prog 225 ty225 := Z2 (by kernel_rfl) (by kernel_rfl)
theorem Zni : TyOk Try.prog 226 ty226 := Z2 (by kernel_rfl) (by kernel_rfl)
theorem Znj : TyOk Try.prog 227 ty227 := Z2 (by kernel_rfl) (by kernel_rfl)
theorem Znk : TyOk Try.prog 228 ty228 := Z2 (by kernel_rfl) (by kernel_rfl)
theorem Znl : TyOk Try.prog 229 ty229 := Z2 (by kernel_rfl) (by kernel_rfl)
theorem Znm : TyOk Try.prog 230 ty230 := Z2 (by kernel_rfl) (by kernel_rfl)
theorem Znn : TyOk Try.prog 231 ty231 := Z2 (by kernel_rfl) (by kernel_rfl)
theorem Zno : TyOk Try.prog 232 ty232 := Z2 (by kernel_rfl) (by kernel_rfl)
theorem Znp : TyOk Try.prog 233 ty233 := Z2 (by kernel_rfl) (by kernel_rfl)
theorem Znq : TyOk Try.prog 234 ty234 := Z2 (by kernel_rfl) (by kernel_rfl)
theorem Znr : TyOk Try.prog 237 ty237 := Z2 (by kernel_rfl) (by kernel_rfl)
theorem Zns : TyOk Try.prog 240 ty240 := Z2 (by kernel_rfl) (by kernel_rfl)
theorem Znt : TyOk Try.prog 241 ty241 := Z2 (by kernel_rfl) (by kernel_rfl)
theorem Znu : TyOk Try.prog 242 ty242 := Z2 (by kernel_rfl) (by kernel_rfl)
theorem Znv : TyOk Try.prog 243 ty243 := Z2 (by kernel_rfl) (by kernel_rfl)
theorem Znw : TyOk Try.prog 244 ty244 := Z2 (by kernel_rfl) (by kernel_rfl)
theorem Znx : TyOk Try.prog 245 ty245 := Z2 (by kernel_rfl) (by kernel_rfl)
theorem Zny : TyOk Try.prog 246 ty246 := Z2 (by kernel_rfl) (by kernel_rfl)
theorem Znz : TyOk Try.prog 247 ty247 := Z2 (by kernel_rfl) (by kernel_rfl)
theorem Zo0 : TyOk Try.prog 248 ty248 := Z2 (by kernel_rfl) (by kernel_rfl)
theorem Zxe : Try.prog.funcs[14]? = some Try.f14 /\ (Try.f14.name == "runtime.NumGoroutine") = false := ⟨Try.func14, by kernel_rfl⟩
theorem Zxf : Try.prog.funcs[20]? = some Try.f20 /\ (Try.f20.name == "runtime.NumGoroutine") = false := ⟨Try.func20, by kernel_rfl⟩
theorem Zxg : Try.prog.funcs[23]? = some Try.f23 /\ (Try.f23.name == "runtime.NumGoroutine") = false := ⟨Try.func23, by kernel_rfl⟩
theorem Zxh : Try.prog.funcs[24]? = some Try.f24 /\ (Try.f24.name == "runtime.NumGoroutine") = false := ⟨Try.func24, by kernel_rfl⟩
theorem Zxi : Try.prog.funcs[25]? = some Try.f25 /\ (Try.f25.name == "runtime.NumGoroutine") = false := ⟨Try.func25, by kernel_rfl⟩
theorem Zxj : Try.prog.funcs[31]? = some Try.f31 /\ (Try.f31.name == "runtime.NumGoroutine") = false := ⟨Try.func31, by kernel_rfl⟩
theorem Zxk : Try.prog.funcs[35]? = some Try.f35 /\ (Try.f35.name == "runtime.NumGoroutine") = false := ⟨Try.func35, by kernel_rfl⟩
theorem Zxl : Try.prog.funcs[36]? = some Try.f36 /\ (Try.f36.name == "runtime.NumGoroutine") = false := ⟨Try.func36, by kernel_rfl⟩
theorem Zxm : Try.prog.funcs[37]? = some Try.f37 /\ (Try.f37.name == "runtime.NumGoroutine") = false := ⟨Try.func37, by kernel_rfl⟩
theorem Zxn : Try.prog.funcs[38]? = some Try.f38 /\ (Try.f38.name == "runtime.NumGoroutine") = false := ⟨Try.func38, by kernel_rfl⟩
theorem Zxo : Try.prog.funcs[39]? = some Try.f39 /\ (Try.f39.name == "runtime.NumGoroutine") = false := ⟨Try.func39, by kernel_rfl⟩
theorem Zxp : Try.prog.funcs[41]? = some Try.f41 /\ (Try.f41.name == "runtime.NumGoroutine") = false := ⟨Try.func41, by kernel_rfl⟩
theorem Zxq : Try.prog.funcs[44]? = some Try.f44 /\ (Try.f44.name == "runtime.NumGoroutine") = false := ⟨Try.func44, by kernel_rfl⟩
theorem Zxr : Try.prog.funcs[49]? = some Try.f49 /\ (Try.f49.name == "runtime.NumGoroutine") = false := ⟨Try.func49, by kernel_rfl⟩
theorem Zxs : Try.prog.funcs[58]? = some Try.f58 /\ (Try.f58.name == "runtime.NumGoroutine") = false := ⟨Try.func58, by kernel_rfl⟩
theorem Zxt : Try.prog.funcs[70]? = some Try.f70 /\ (Try.f70.name == "runtime.NumGoroutine") = false := ⟨Try.func70, by kernel_rfl⟩
theorem Zxu : Try.prog.funcs[72]? = some Try.f72 /\ (Try.f72.name == "runtime.NumGoroutine") = false := ⟨Try.func72, by kernel_rfl⟩
theorem Zxv : Try.prog.funcs[83]? = some Try.f83 /\ (Try.f83.name == "runtime.NumGoroutine") = false := ⟨Try.func83, by kernel_rfl⟩
theorem Zxw : Try.prog.funcs[84]? = some Try.f84 /\ (Try.f84.name == "runtime.NumGoroutine") = false := ⟨Try.func84, by kernel_rfl⟩
theorem Zxx : Try.prog.funcs[85]? = some Try.f85 /\ (Try.f85.name == "runtime.NumGoroutine") = false := ⟨Try.func85, by kernel_rfl⟩
theorem Zxy : Try.prog.funcs[87]? = some Try.f87 /\ (Try.f87.name == "runtime.NumGoroutine") = false := ⟨Try.func87, by kernel_rfl⟩
theorem Zxz : Try.prog.funcs[88]? = some Try.f88 /\ (Try.f88.name == "runtime.NumGoroutine") = false := ⟨Try.func88, by kernel_rfl⟩
theorem Zy0 : Try.prog.funcs[94]? = some Try.f94 /\ (Try.f94.name == "runtime.NumGoroutine") = false := ⟨Try.func94, by kernel_rfl⟩
theorem Zy1 : Try.prog.funcs[95]? = some Try.f95 /\ (Try.f95.name == "runtime.NumGoroutine") = false := ⟨Try.func95, by kernel_rfl⟩
theorem Zy2 : Try.prog.funcs[96]? = some Try.f96 /\ (Try.f96.name == "runtime.NumGoroutine") = false := ⟨Try.func96, by kernel_rfl⟩
theorem Zy3 : Try.prog.funcs[97]? = some Try.f97 /\ (Try.f97.name == "runtime.NumGoroutine") = false := ⟨Try.func97, by kernel_rfl⟩
theorem Zy4 : Try.prog.funcs[98]? = some Try.f98 /\ (Try.f98.name == "runtime.NumGoroutine") = false := ⟨Try.func98, by kernel_rfl⟩
theorem Zy5 : Try.prog.funcs[99]? = some Try.f99 /\ (Try.f99.name == "runtime.NumGoroutine") = false := ⟨Try.func99, by kernel_rfl⟩
theorem Zo1 : Try.prog.funcs[100]? = some Try.f100 /\ (Try.f100.name == "runtime.NumGoroutine") = false := ⟨Try.func100, by kernel_rfl⟩
theorem Zo2 : Try.prog.funcs[101]? = some Try.f101 /\ (Try.f101.name == "runtime.NumGoroutine") = false := ⟨Try.func101, by kernel_rfl⟩
theorem Zo3 : Try.prog.funcs[102]? = some Try.f102 /\ (Try.f102.name == "runtime.NumGoroutine") = false := ⟨Try.func102, by kernel_rfl⟩
theorem Zo4 : Try.prog.funcs[103]? = some Try.f103 /\ (Try.f103.name == "runtime.NumGoroutine") = false := ⟨Try.func103, by kernel_rfl⟩
theorem Zo5 : Try.prog.funcs[104]? = some Try.f104 /\ (Try.f104.name == "runtime.NumGoroutine") = false := ⟨Try.func104, by kernel_rfl⟩
theorem Zo6 : Try.prog.funcs[105]? = some Try.f105 /\ (Try.f105.name == "runtime.NumGoroutine") = false := ⟨Try.func105, by kernel_rfl⟩
theorem Zo7 : Try.prog.funcs[106]? = some Try.f106 /\ (Try.f106.name == "runtime.NumGoroutine") = false := ⟨Try.func106, by kernel_rfl⟩
theorem Zo8 : Try.prog.funcs[107]? = some Try.f107 /\ (Try.f107.name == "runtime.NumGoroutine") = false := ⟨Try.func107, by kernel_rfl⟩
theorem Zo9 : Try.prog.funcs[108]? = some Try.f108 /\ (Try.f108.name == "runtime.NumGoroutine") = false := ⟨Try.func108, by kernel_rfl⟩
theorem Zoa : Try.prog.funcs[109]? = some Try.f109 /\ (Try.f109.name == "runtime.NumGoroutine") = false := ⟨Try.func109, by kernel_rfl⟩
theorem Zob : Try.prog.funcs[110]? = some Try.f110 /\ (Try.f110.name == "runtime.NumGoroutine") = false := ⟨Try.func110, by kernel_rfl⟩
theorem Zoc : Try.prog.funcs[111]? = some Try.f111 /\ (Try.f111.name == "runtime.NumGoroutine") = false := ⟨Try.func111, by kernel_rfl⟩
theorem Zod : Try.prog.funcs[112]? = some Try.f112 /\ (Try.f112.name == "runtime.NumGoroutine") = false := ⟨Try.func112, by kernel_rfl⟩
theorem Zoe : Try.prog.funcs[113]? = some Try.f113 /\ (Try.f113.name == "runtime.NumGoroutine") = false := ⟨Try.func113, by kernel_rfl⟩
theorem Zof : Try.prog.funcs[114]? = some Try.f114 /\ (Try.f114.name == "runtime.NumGoroutine") = false := ⟨Try.func114, by kernel_rfl⟩
theorem Zog : Try.prog.funcs[115]? = some Try.f115 /\ (Try.f115.name == "runtime.NumGoroutine") = false := ⟨Try.func115, by kernel_rfl⟩
theorem Zoh : Try.prog.funcs[116]? = some Try.f116 /\ (Try.f116.name == "runtime.NumGoroutine") = false := ⟨Try.func116, by kernel_rfl⟩
theorem Zoi : Try.prog.funcs[117]? = some Try.f117 /\ (Try.f117.name == "runtime.NumGoroutine") = false := ⟨Try.func117, by kernel_rfl⟩
theorem Zoj : Try.prog.funcs[118]? = some Try.f118 /\ (Try.f118.name == "runtime.NumGoroutine") = false := ⟨Try.func118, by kernel_rfl⟩
theorem Zok : Try.prog.funcs[126]? = some Try.f126 /\ (Try.f126.name == "runtime.NumGoroutine") = false := ⟨Try.func126, by kernel_rfl⟩
theorem Zol : Try.prog.funcs[133]? = some Try.f133 /\ (Try.f133.name == "runtime.NumGoroutine") = false := ⟨Try.func133, by kernel_rfl⟩
theorem Zom : Try.prog.funcs[146]? = some Try.f146 /\ (Try.f146.name == "runtime.NumGoroutine") = false := ⟨Try.func146, by kernel_rfl⟩
theorem Zon : Try.prog.funcs[147]? = some Try.f147 /\ (Try.f147.name == "runtime.NumGoroutine") = false := ⟨Try.func147, by kernel_rfl⟩
theorem Zoo : Try.prog.funcs[148]? = some Try.f148 /\ (Try.f148.name == "runtime.NumGoroutine") = false := ⟨Try.func148, by kernel_rfl⟩
theorem Zop : Try.prog.funcs[149]? = some Try.f149 /\ (Try.f149.name == "runtime.NumGoroutine") = false := ⟨Try.func149, by kernel_rfl⟩
theorem Zoq : Try.prog.funcs[150]? = some Try.f150 /\ (Try.f150.name == "runtime.NumGoroutine") = false := ⟨Try.func150, by kernel_rfl⟩
theorem Zor : Try.prog.funcs[151]? = some Try.f151 /\ (Try.f151.name == "runtime.NumGoroutine") = false := ⟨Try.func151, by kernel_rfl⟩
theorem Zos : Try.prog.funcs[152]? = some Try.f152 /\ (Try.f152.name == "runtime.NumGoroutine") = false := ⟨Try.func152, by kernel_rfl⟩
theorem Zot : Try.prog.funcs[153]? = some Try.f153 /\ (Try.f153.name == "runtime.NumGoroutine") = false := ⟨Try.func153, by kernel_rfl⟩
theorem Zou : Try.prog.funcs[154]? = some Try.f154 /\ (Try.f154.name == "runtime.NumGoroutine") = false := ⟨Try.func154, by kernel_rfl⟩
theorem Zov : Try.prog.funcs[155]? = some Try.f155 /\ (Try.f155.name == "runtime.NumGoroutine") = false := ⟨Try.func155, by kernel_rfl⟩
theorem Zow : Try.prog.funcs[156]? = some Try.f156 /\ (Try.f156.name == "runtime.NumGoroutine") = false := ⟨Try.func156, by kernel_rfl⟩
theorem Zox : Try.prog.funcs[157]? = some Try.f157 /\ (Try.f157.name == "runtime.NumGoroutine") = false := ⟨Try.func157, by kernel_rfl⟩
theorem Zoy : Try.prog.funcs[158]? = some Try.f158 /\ (Try.f158.name == "runtime.NumGoroutine") = false := ⟨Try.func158, by kernel_rfl⟩
theorem Zoz : Try.prog.funcs[159]? = some Try.f159 /\ (Try.f159.name == "runtime.NumGoroutine") = false := ⟨Try.func159, by kernel_rfl⟩
theorem Zp0 : Try.prog.funcs[164]? = some Try.f164 /\ (Try.f164.name == "runtime.NumGoroutine") = false := ⟨Try.func164, by kernel_rfl⟩
theorem Zp1 : Try.prog.funcs[165]? = some Try.f165 /\ (Try.f165.name == "runtime.NumGoroutine") = false := ⟨Try.func165, by kernel_rfl⟩
theorem Zp2 : Try.prog.funcs[171]? = some Try.f171 /\ (Try.f171.name == "runtime.NumGoroutine") = false := ⟨Try.func171, by kernel_rfl⟩
theorem Zp3 : Try.prog.funcs[178]? = some Try.f178 /\ (Try.f178.name == "runtime.NumGoroutine") = false := ⟨Try.func178, by kernel_rfl⟩
theorem Zp4 : Try.prog.funcs[179]? = some Try.f179 /\ (Try.f179.name == "runtime.NumGoroutine") = false := ⟨Try.func179, by kernel_rfl⟩
theorem Zp5 : Try.prog.funcs[180]? = some Try.f180 /\ (Try.f180.name == "runtime.NumGoroutine") = false := ⟨Try.func180, by kernel_rfl⟩
theorem Zp6 : Try.prog.funcs[181]? = some Try.f181 /\ (Try.f181.name == "runtime.NumGoroutine") = false := ⟨Try.func181, by kernel_rfl⟩
theorem Zy6 : AllNT (fun t i => TyOk Try.prog t i) tyT := ⟨Zku, ⟨Zwi, ⟨Zvp, ⟨Zvb, ⟨Zv4, ⟨tok4, ⟨tok2, ⟨tok1, trivial, trivial⟩, ⟨tok3, trivial, trivial⟩⟩, ⟨tok6, ⟨tok5, trivial, trivial⟩, ⟨tok9, trivial, trivial⟩⟩⟩, ⟨Zv8, ⟨Zv6, ⟨Zv5, trivial, trivial⟩, ⟨Zv7, trivial, trivial⟩⟩, ⟨Zva, ⟨Zv9, trivial, trivial⟩, trivial⟩⟩⟩, ⟨Zvi, ⟨Zvf, ⟨Zvd, ⟨Zvc, trivial, trivial⟩, ⟨Zve, trivial, trivial⟩⟩, ⟨Zvh, ⟨Zvg, trivial, trivial⟩, trivial⟩⟩, ⟨Zvm, ⟨Zvk, ⟨Zvj, trivial, trivial⟩, ⟨Zvl, trivial, trivial⟩⟩, ⟨Zvo, ⟨Zvn, trivial, trivial⟩, trivial⟩⟩⟩⟩, ⟨Zw4, ⟨Zvx, ⟨Zvt, ⟨Zvr, ⟨Zvq, trivial, trivial⟩, ⟨Zvs, trivial, trivial⟩⟩, ⟨Zvv, ⟨Zvu, trivial, trivial⟩, ⟨Zvw, trivial, trivial⟩⟩⟩, ⟨Zw1, ⟨Zvz, ⟨Zvy, trivial, trivial⟩, ⟨Zw0, trivial, trivial⟩⟩, ⟨Zw3, ⟨Zw2, trivial, trivial⟩, trivial⟩⟩⟩, ⟨Zwb, ⟨Zw8, ⟨Zw6, ⟨Zw5, trivial, trivial⟩, ⟨Zw7, trivial, trivial⟩⟩, ⟨Zwa, ⟨Zw9, trivial, trivial⟩, trivial⟩⟩, ⟨Zwf, ⟨Zwd, ⟨Zwc, trivial, trivial⟩, ⟨Zwe, trivial, trivial⟩⟩, ⟨Zwh, ⟨Zwg, trivial, trivial⟩, trivial⟩⟩⟩⟩⟩, ⟨Zxb, ⟨Zwx, ⟨Zwq, ⟨Zwm, ⟨Zwk, ⟨Zwj, trivial, trivial⟩, ⟨Zwl, trivial, trivial⟩⟩, ⟨Zwo, ⟨Zwn, trivial, trivial⟩, ⟨Zwp, trivial, trivial⟩⟩⟩, ⟨Zwu, ⟨Zws, ⟨Zwr, trivial, trivial⟩, ⟨Zwt, trivial, trivial⟩⟩, ⟨Zww, ⟨Zwv, trivial, trivial⟩, trivial⟩⟩⟩, ⟨Zx4, ⟨Zx1, ⟨Zwz, ⟨Zwy, trivial, trivial⟩, ⟨Zx0, trivial, trivial⟩⟩, ⟨Zx3, ⟨Zx2, trivial, trivial⟩, trivial⟩⟩, ⟨Zx8, ⟨Zx6, ⟨Zx5, trivial, trivial⟩, ⟨Zx7, trivial, trivial⟩⟩, ⟨Zxa, ⟨Zx9, trivial, trivial⟩, trivial⟩⟩⟩⟩, ⟨Zkg, ⟨Zk9, ⟨Zk5, ⟨Zxd, ⟨Zxc, trivial, trivial⟩, ⟨Zk4, trivial, trivial⟩⟩, ⟨Zk7, ⟨Zk6, trivial, trivial⟩, ⟨Zk8, trivial, trivial⟩⟩⟩, ⟨Zkd, ⟨Zkb, ⟨Zka, trivial, trivial⟩, ⟨Zkc, trivial, trivial⟩⟩, ⟨Zkf, ⟨Zke, trivial, trivial⟩, trivial⟩⟩⟩, ⟨Zkn, ⟨Zkk, ⟨Zki, ⟨Zkh, trivial, trivial⟩, ⟨Zkj, trivial, trivial⟩⟩, ⟨Zkm, ⟨Zkl, trivial, trivial⟩, trivial⟩⟩, ⟨Zkr, ⟨Zkp, ⟨Zko, trivial, trivial⟩, ⟨Zkq, trivial, trivial⟩⟩, ⟨Zkt, ⟨Zks, trivial, trivial⟩, trivial⟩⟩⟩⟩⟩⟩, ⟨Zmg, ⟨Zln, ⟨Zl9, ⟨Zl2, ⟨Zky, ⟨Zkw, ⟨Zkv, trivial, trivial⟩, ⟨Zkx, trivial, trivial⟩⟩, ⟨Zl0, ⟨Zkz, trivial, trivial⟩, ⟨Zl1, trivial, trivial⟩⟩⟩, ⟨Zl6, ⟨Zl4, ⟨Zl3, trivial, trivial⟩, ⟨Zl5, trivial, trivial⟩⟩, ⟨Zl8, ⟨Zl7, trivial, trivial⟩, trivial⟩⟩⟩, ⟨Zlg, ⟨Zld, ⟨Zlb, ⟨Zla, trivial, trivial⟩, ⟨Zlc, trivial, trivial⟩⟩, ⟨Zlf, ⟨Zle, trivial, trivial⟩, trivial⟩⟩, ⟨Zlk, ⟨Zli, ⟨Zlh, trivial, trivial⟩, ⟨Zlj, trivial, trivial⟩⟩, ⟨Zlm, ⟨Zll, trivial, trivial⟩, trivial⟩⟩⟩⟩, ⟨Zm2, ⟨Zlv, ⟨Zlr, ⟨Zlp, ⟨Zlo, trivial, trivial⟩, ⟨Zlq, trivial, trivial⟩⟩, ⟨Zlt, ⟨Zls, trivial, trivial⟩, ⟨Zlu, trivial, trivial⟩⟩⟩, ⟨Zlz, ⟨Zlx, ⟨Zlw, trivial, trivial⟩, ⟨Zly, trivial, trivial⟩⟩, ⟨Zm1, ⟨Zm0, trivial, trivial⟩, trivial⟩⟩⟩, ⟨Zm9, ⟨Zm6, ⟨Zm4, ⟨Zm3, trivial, trivial⟩, ⟨Zm5, trivial, trivial⟩⟩, ⟨Zm8, ⟨Zm7, trivial, trivial⟩, trivial⟩⟩, ⟨Zmd, ⟨Zmb, ⟨Zma, trivial, trivial⟩, ⟨Zmc, trivial, trivial⟩⟩, ⟨Zmf, ⟨Zme, trivial, trivial⟩, trivial⟩⟩⟩⟩⟩, ⟨Zn9, ⟨Zmv, ⟨Zmo, ⟨Zmk, ⟨Zmi, ⟨Zmh, trivial, trivial⟩, ⟨Zmj, trivial, trivial⟩⟩, ⟨Zmm, ⟨Zml, trivial, trivial⟩, ⟨Zmn, trivial, trivial⟩⟩⟩, ⟨Zms, ⟨Zmq, ⟨Zmp, trivial, trivial⟩, ⟨Zmr, trivial, trivial⟩⟩, ⟨Zmu, ⟨Zmt, trivial, trivial⟩, trivial⟩⟩⟩, ⟨Zn2, ⟨Zmz, ⟨Zmx, ⟨Zmw, trivial, trivial⟩, ⟨Zmy, trivial, trivial⟩⟩, ⟨Zn1, ⟨Zn0, trivial, trivial⟩, trivial⟩⟩, ⟨Zn6, ⟨Zn4, ⟨Zn3, trivial, trivial⟩, ⟨Zn5, trivial, trivial⟩⟩, ⟨Zn8, ⟨Zn7, trivial, trivial⟩, trivial⟩⟩⟩⟩, ⟨Znn, ⟨Zng, ⟨Znd, ⟨Znb, ⟨Zna, trivial, trivial⟩, ⟨Znc, trivial, trivial⟩⟩, ⟨Znf, ⟨Zne, trivial, trivial⟩, trivial⟩⟩, ⟨Znk, ⟨Zni, ⟨Znh, trivial, trivial⟩, ⟨Znj, trivial, trivial⟩⟩, ⟨Znm, ⟨Znl, trivial, trivial⟩, trivial⟩⟩⟩, ⟨Znu, ⟨Znr, ⟨Znp, ⟨Zno, trivial, trivial⟩, ⟨Znq, trivial, trivial⟩⟩, ⟨Znt, ⟨Zns, trivial, trivial⟩, trivial⟩⟩, ⟨Zny, ⟨Znw, ⟨Znv, trivial, trivial⟩, ⟨Znx, trivial, trivial⟩⟩, ⟨Zo0, ⟨Znz, trivial, trivial⟩, trivial⟩⟩⟩⟩⟩⟩⟩
theorem Zy7 : AllNT (fun f fn => Try.prog.funcs[f]? = some fn /\ (fn.name == "runtime.NumGoroutine") = false) fnT := ⟨Zo8, ⟨Zxv, ⟨Zxm, ⟨Zxi, ⟨Zxg, ⟨Zxf, ⟨Zxe, trivial, trivial⟩, trivial⟩, ⟨Zxh, trivial, trivial⟩⟩, ⟨Zxk, ⟨Zxj, trivial, trivial⟩, ⟨Zxl, trivial, trivial⟩⟩⟩, ⟨Zxr, ⟨Zxp, ⟨Zxo, ⟨Zxn, trivial, trivial⟩, trivial⟩, ⟨Zxq, trivial, trivial⟩⟩, ⟨Zxt, ⟨Zxs, trivial, trivial⟩, ⟨Zxu, trivial, trivial⟩⟩⟩⟩, ⟨Zy4, ⟨Zy0, ⟨Zxy, ⟨Zxx, ⟨Zxw, trivial, trivial⟩, trivial⟩, ⟨Zxz, trivial, trivial⟩⟩, ⟨Zy2, ⟨Zy1, trivial, trivial⟩, ⟨Zy3, trivial, trivial⟩⟩⟩, ⟨Zo4, ⟨Zo2, ⟨Zo1, ⟨Zy5, trivial, trivial⟩, trivial⟩, ⟨Zo3, trivial, trivial⟩⟩, ⟨Zo6, ⟨Zo5, trivial, trivial⟩, ⟨Zo7, trivial, trivial⟩⟩⟩⟩⟩, ⟨Zoq, ⟨Zoh, ⟨Zod, ⟨Zob, ⟨Zoa, ⟨Zo9, trivial, trivial⟩, trivial⟩, ⟨Zoc, trivial, trivial⟩⟩, ⟨Zof, ⟨Zoe, trivial, trivial⟩, ⟨Zog, trivial, trivial⟩⟩⟩, ⟨Zom, ⟨Zok, ⟨Zoj, ⟨Zoi, trivial, trivial⟩, trivial⟩, ⟨Zol, trivial, trivial⟩⟩, ⟨Zoo, ⟨Zon, trivial, trivial⟩, ⟨Zop, trivial, trivial⟩⟩⟩⟩, ⟨Zoz, ⟨Zov, ⟨Zot, ⟨Zos, ⟨Zor, trivial, trivial⟩, trivial⟩, ⟨Zou, trivial, trivial⟩⟩, ⟨Zox, ⟨Zow, trivial, trivial⟩, ⟨Zoy, trivial, trivial⟩⟩⟩, ⟨Zp3, ⟨Zp1, ⟨Zp0, trivial, trivial⟩, ⟨Zp2, trivial, trivial⟩⟩, ⟨Zp5, ⟨Zp4, trivial, trivial⟩, ⟨Zp6, trivial, trivial⟩⟩⟩⟩⟩⟩
theorem Zy8 : CfgOk Try.prog cfg := Zdn Zy7 Zy6 (by kernel_rfl)
theorem Zhz : CodesOk cfg := Zah (by kernel_rfl)
end Go.Proofs.Ytgnpnfkncbnjnaa
namespace Go.Proofs.Ytgnpnfkncbnjnaa
open Go Go.Am Go.ChangeShapes Go.WideShapes Go.ChangeAt Go.RowKit
set_option maxRecDepth 100000 in
theorem Z81 (os : Os) (started : os.Started) (H : Type) (enc : TypeId × Value -> H) :
  ReturnsInHanded {} Try.checked os 14 .any (Rows.pumpStaysSpec.pre6 enc Try.prog Try.f14 Rows.pumpStaysRow.domain false) (Rows.pumpStaysSpec.post enc Try.prog Try.f14 false true false false) := by
 refine returnsInHanded_of_change (C := Try.checked) Try.own started (by kernel_rfl) Try.func14
  (ChangeSpec.witness6 (enc := enc) (C := Try.checked) false ⟨#[], #[.slice none 0 0], []⟩ 8 (by kernel_rfl) (by kernel_rfl) (by kernel_rfl) (by kernel_rfl)) ?_
 intro W base args ds gs before hval0 hW hcnd _
 have hW' := hW
 obtain ⟨p, q, hA0, hV, rfl, hfz, hnd⟩ := hW
 have hA : DataW.TrodAll enc Try.prog W 0 (fun _ => true) true Try.f14.params.toList args.toList ds p := hA0
 rw [Try.params14] at hA
 obtain ⟨rfl, rfl⟩ := trodVars_none hV
 simp only [List.append_nil] at hW'
 have hlen : ds.length = 1 := Za7 _ _ _ _ hA
 have hsup : (([22] : List TypeId).all fun t => suppB Try.prog 12 t) = true := by as_aux_lemma => kernel_rfl
 have hpar : (([22] : List TypeId).all fun t => Try.prog.readableRec t && Nat.blt t Try.prog.types.size) = true := by as_aux_lemma => kernel_rfl
 refine (Z67 (d := 12) Zy8 Zhz hA (fun t ht => List.all_eq_true.1 hsup t ht) (fun j t v e1 e2 => hval0 j t v (by rw [Try.params14]; simpa using e1) (by simpa using e2)) fun L hl hc => Zda L hl hc).mono fun e W' ⟨he, hb⟩ => ?_
 subst he
 exact ⟨_, rfl, Zdo Try.laidOut (fun t ht => by rw [Try.params14] at ht; have := List.all_eq_true.1 hpar t ht; rw [Bool.and_eq_true, Nat.blt_eq] at this; exact this) rfl rfl Try.underlying4 hW' (by match ds, hlen with | [_], _ => rfl) hb⟩
set_option maxHeartbeats 4000000 in
theorem Z82 : joinedFacts Try.prog 14 Try.f14 Rows.pumpStaysSpec Rows.pumpStaysRow = true := by
 refine Zc3 Try.laidOut Try.rowed Try.noStops Try.noKnobs Try.plain Try.heard Try.enters Try.lifts Try.makes (by as_aux_lemma => kernel_rfl) (by as_aux_lemma => kernel_rfl) (by as_aux_lemma => kernel_rfl) (by as_aux_lemma => kernel_rfl) (by as_aux_lemma => kernel_rfl)
  (by as_aux_lemma => kernel_rfl) (by as_aux_lemma => kernel_rfl) (by as_aux_lemma => kernel_rfl) (by as_aux_lemma => kernel_rfl) ?_
 kernel_rfl
theorem stays_holds : Rows.PumpStaysSaid :=
 OpenClaim.holds_of_wide 14 Try.f14 rfl rfl rfl rfl rfl rfl rfl ⟨rfl, rfl, rfl, rfl, rfl⟩ rfl rfl rfl rfl rfl (by as_aux_lemma => kernel_rfl) Try.func14 Z82
  (of_decide_eq_true (by as_aux_lemma => kernel_rfl)) (by as_aux_lemma => unfold Func.isWrapper; first | (rw [if_pos (by decide +kernel)]; kernel_rfl) | (rw [if_neg (by decide +kernel)]; exact ⟨rfl, rfl⟩))
  (fun os started H enc _ => Z81 os started H enc)
end Go.Proofs.Ytgnpnfkncbnjnaa
