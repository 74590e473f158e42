/- The statement PumpSeals holds for every input, without further conditions: a part of its proof (an abstract machine for the loaded code, its soundness, and what the functions answer in it). -/
import Derived.Test.YtgnpnfkncbnjnaaP3
set_option linter.unusedSimpArgs false
set_option linter.unusedVariables false
set_option maxRecDepth 100000
namespace Go.Proofs.Ytgnpnfkncbnjnaa
attribute [local go_sem_proc] Int.reduceEq Int.reduceNeg Nat.reduceEqDiff Nat.reduceLT Nat.reduceAdd Nat.reduceSub Nat.reduceMul Int.reduceLE Int.reduceLT Int.reduceToNat Nat.reduceLeDiff
attribute [local go_sem] Int.toNat_natCast Bool.not_true Bool.not_false
open Go Go.Am
attribute [local congr] Za Z6 Z7
attribute [local go_sem] Go.Am.frozen Go.Am.freezeG Go.Am.freezeGs
variable {E : AV}
def cutR (q : Int) (r : Rg) : Rg := ⟨min2 r.lo q, min2 r.hi q⟩
def cutT (v : Vac) (g : Gs) (s : Bk) : Gs := ⟨g.free.map (cutR g.most), g.bound.map (cutR g.most), g.room, g.most, g.flashed⟩
theorem Xf (L : List Rg) {c : Nat} (h : c < L.length) : nth (L.flatMap rgC) (c * 2) = some (.int .i64 L[c].lo) := Z7q (g := rgC) (z := 2) Z19 L h (k := 0) (by decide)
theorem Xg (L : List Rg) {c : Nat} (h : c < L.length) : nth (L.flatMap rgC) (c * 2 + 1) = some (.int .i64 L[c].hi) := Z7q (g := rgC) (z := 2) Z19 L h (k := 1) (by decide)
theorem Zmj (L : List Rg) {c : Nat} (h : c < L.length) (y : Rg) : writeN (L.flatMap rgC) (c * 2) [.int .i64 y.lo, .int .i64 y.hi] = some ((L.set c y).flatMap rgC) := Zfb (g := rgC) (z := 2) Z19 L h y
theorem Jq (cs : List AV) (c : Nat) (v : AV) : nth (setNth cs (c * 2) v) (c * 2 + 1) = nth cs (c * 2 + 1) := Zbi cs v (by omega)
theorem Z2e (L : List Rg) {c : Nat} (h : c < L.length) (y : Rg) : setNth (setNth (L.flatMap rgC) (c * 2) (.int .i64 y.lo)) (c * 2 + 1) (.int .i64 y.hi) = (L.set c y).flatMap rgC := by
 have e := Zmj L h y
 simp only [writeN, Xf L h, Jq, Xg L h] at e
 injection e
theorem Z2f {v : Vac} {a b c : Nm} {g g' : Gs} (h1 : g'.free.length = g.free.length) (h2 : g'.bound.length = g.bound.length) (h3 : g'.room.length = g.room.length) (h4 : g'.most = g.most) (h5 : g'.flashed = g.flashed) : sysB E v a b c g' = sysB E v a b c g := by
 unfold sysB
 rw [h1, h2, h3, h4, h5]
theorem Zfy [hE : Emp E] {K : Nat} {X f b r : Nm} {v : Vac} {g : Gs} {s : Bk} {H : Heap} {n : Nat} {p : Nm} {j : Delta} (h : SysAt E H X f b r v g) (ha : Apart X f b r) (h1 : g.free ≠ []) (h2 : g.bound ≠ []) (hK : g.free.length + g.bound.length + 2 < K) (hl : g.free.length + g.bound.length <= 1000000) :
  acall cfg (K + 1) 151 [.ptr X 0, bkV s] ⟨H, n, p, false, j⟩ = .ret (.tuple [], ⟨sysPut E X f b r v (cutT v g s) H, n, p, false, j⟩) := by
 refine Z0p Ziu Zit h ha h1 h2 (List.length_map ..) (List.length_map ..) rfl fun H0 m hs hm => ?_
 refine Z9 rfl fun T hT' hA => ?_
 have a0 := hA 0 _ rfl
 have a1 := hA 1 _ rfl
 have hT : T.length = 51 := hT'
 clear hA hT'
 have g0 := hs.x
 unfold sysB at g0
 have k0 : ∀ X, hget (([m + 3], X) :: H0) [0] = hget H0 [0] := fun X => hc11 (by omega)
 simp -implicitDefEqProofs only [go_sem, a1]
 try simp only [Z3]
 refine Zc [[], [0], [1, 0], [2, 1, 0], [3, 2, 1, 0], [], [5], [6, 5], [7, 6, 5], [8, 7, 6, 5], [4, 3, 2, 1, 0, 9, 8, 7, 6, 5], []] [[], [], [], [], [], [], [], [], [], [], [], []] (by kernel_rfl) rfl rfl ?_
 simp -implicitDefEqProofs only [go_sem, Option.getD_some, a0, hT, g0, k0, Zb]
 simp only [Z3]
 refine Zj (fun k T s' => T.length = 51 /\ nth T 0 = some (.ptr [0] 0) /\ nth T 18 = some (.agg [.slice [1] 0 g.free.length g.free.length false, .slice [2] 0 g.bound.length g.bound.length false]) /\ ∃ (i m : Nat) (H : Heap) (F B : List Rg), nth T 19 = some (.int .i64 i) /\ i <= 2 /\ k = 2 - i /\ s' = ⟨H, m + 3, [], false, []⟩ /\ (g.room ≠ [] -> 1 <= m) /\ SysAt E H [0] [1] [2] [3] v ⟨F, B, g.room, g.most, g.flashed⟩ /\ F = (if i = 0 then g.free else g.free.map (cutR g.most)) /\ B = (if i = 2 then g.bound.map (cutR g.most) else g.bound)) (k := 2) (by omega) ?_ ?_
 ·exact ⟨by simp -implicitDefEqProofs only [go_sem, hT], by simp -implicitDefEqProofs only [go_sem, a0], by simp -implicitDefEqProofs only [go_sem, hT], 0, m + 2, _, g.free, g.bound, by simp -implicitDefEqProofs only [go_sem, hT] <;> rfl, by omega, rfl, rfl, fun e => by omega, ⟨by simp (disch := omega) only [hc11, Z0, lkn, Option.getD_none]; exact hs.x, by simp (disch := omega) only [hc11, Z0, lkn, Option.getD_none]; exact hs.f, by simp (disch := omega) only [hc11, Z0, lkn, Option.getD_none]; exact hs.b, fun e => by have := hm e; simp (disch := omega) only [hc11, Z0, lkn, Option.getD_none]; exact hs.r e⟩, rfl, rfl⟩
 clear a0 a1 hT T g0 k0 hs hm m H0
 rintro k T s' ⟨hT, a0, a18, i, m, H0, F, B, a19, hi, rfl, rfl, hm, hs, rfl, rfl⟩
 rcases (show i = 0 \/ i = 1 \/ i = 2 by omega) with rfl | rfl | rfl
 ·simp only [if_true] at hs
  have hs : SysAt E H0 [0] [1] [2] [3] v ⟨g.free, g.bound, g.room, g.most, g.flashed⟩ := hs
  have b19 : nth T 19 = some (.int .i64 0) := a19
  clear a19 hi
  have hin : inR 0 2 = some 0 := rfl
  simp -implicitDefEqProofs only [go_sem, a18, b19, hT, hin]
  simp only [Z3]
  refine Tr.Does.mono (Q := fun x => ∃ (T' : List AV) (m' : Nat) (H' : Heap), x = ((AExit.exit 2, T'), (⟨H', m' + 3, [], false, []⟩ : St)) /\ m <= m' /\ T'.length = 51 /\ nth T' 0 = some (.ptr [0] 0) /\ nth T' 18 = some (.agg [.slice [1] 0 g.free.length g.free.length false, .slice [2] 0 g.bound.length g.bound.length false]) /\ nth T' 19 = some (.int .i64 0) /\ hget H' [1] = some (rgB (g.free.map (cutR g.most))) /\ ∀ k, k < m + 3 -> k ≠ 1 -> hget H' [k] = hget H0 [k]) ?_ ?_
  ·refine Zj (fun k T s' => T.length = 51 /\ nth T 0 = some (.ptr [0] 0) /\ nth T 18 = some (.agg [.slice [1] 0 g.free.length g.free.length false, .slice [2] 0 g.bound.length g.bound.length false]) /\ nth T 19 = some (.int .i64 0) /\ nth T 5 = some (.slice [1] 0 g.free.length g.free.length false) /\ nth T 22 = some (.slice [1] 0 g.free.length g.free.length false) /\ nth T 23 = some (.int .i64 g.free.length) /\ ∃ (c m' : Nat) (H' : Heap), nth T 24 = some (.int .i64 c) /\ c <= g.free.length /\ k = g.free.length - c /\ s' = ⟨H', m' + 3, [], false, []⟩ /\ m <= m' /\ hget H' [1] = some (rgB ((g.free.take c).map (cutR g.most) ++ g.free.drop c)) /\ ∀ k, k < m + 3 -> k ≠ 1 -> hget H' [k] = hget H0 [k]) (k := g.free.length) (by omega) ?_ ?_
   ·exact ⟨by simp -implicitDefEqProofs only [go_sem, hT], by simp -implicitDefEqProofs only [go_sem, a0], by simp -implicitDefEqProofs only [go_sem, a18], by simp -implicitDefEqProofs only [go_sem, b19], by simp -implicitDefEqProofs only [go_sem, hT], by simp -implicitDefEqProofs only [go_sem, hT], by simp -implicitDefEqProofs only [go_sem, hT], 0, m, H0, by simp -implicitDefEqProofs only [go_sem, hT] <;> rfl, by omega, rfl, rfl, Nat.le_refl _, hs.f, fun _ _ _ => rfl⟩
   clear a0 a18 b19 hT T
   rintro k T s' ⟨hT, a0, a18, a19, a5, a22, a23, c, m', H', a24, hc, rfl, rfl, hmm, hb, hfr⟩
   have g0 := (hfr 0 (by omega) (by decide)).trans hs.x
   unfold sysB at g0
   simp only at g0
   simp -implicitDefEqProofs only [go_sem, a23, a24, hT]
   by_cases hcl : (c : Int) < (g.free.length : Int)
   ·have hc' : c < g.free.length := by omega
    have hinr : inR (c : Int) g.free.length = some c := Jr hc'
    obtain ⟨R, hR⟩ : ∃ R, R = (g.free.take c).map (cutR g.most) ++ g.free.drop c := ⟨_, rfl⟩
    have hRl : R.length = g.free.length := by rw [hR, List.length_append, List.length_map, List.length_take, List.length_drop]; omega
    have hRc : c < R.length := by omega
    have hRx : R[c] = g.free[c] := by subst hR; rw [List.getElem_append_right (by simp; omega)]; simp; congr 1; omega
    have hRs : R.set c (cutR g.most g.free[c]) = (g.free.take (c + 1)).map (cutR g.most) ++ g.free.drop (c + 1) := by
     subst hR
     rw [List.set_append_right _ _ (by simp; omega), List.take_succ_eq_append_getElem hc', List.map_append]
     have e : c - ((g.free.take c).map (cutR g.most)).length = 0 := by simp; omega
     rw [e, List.drop_eq_getElem_cons hc', List.set_cons_zero]
     simp
    have n0 := Xf R hRc
    have n1 := Xg R hRc
    have wr := Z2e R hRc (cutR g.most g.free[c])
    rw [hRs] at wr
    rw [<- hR] at hb
    rw [hRx] at n0 n1
    clear hR hRx
    generalize g.free[c] = x at *
    unfold rgB at hb
    have k1 : ∀ X, hget (([m' + 3], X) :: H') [1] = hget H' [1] := fun X => hc11 (by omega)
    have k2 : ∀ X, hget (([m' + 3], X) :: H') [0] = hget H' [0] := fun X => hc11 (by omega)
    simp -implicitDefEqProofs only [go_sem, a22, a24, hT, hcl, hinr, hb, n0, n1]
    have hkk : g.free.length - (c + 1) < g.free.length - c := by omega
    have k3 : ∀ X, hget (([m' + 3], X) :: H') [m' + 3] = some X := fun X => Z2 ..
    have hw1 : wrapF .i64 ((c : Int) + 1) = ((c + 1 : Nat) : Int) := Z5 (by omega) (by omega)
    simp only [cutR] at wr
    try simp only [Z3]
    refine Zc [[], [], [], [2], [], [4], [5, 4], [6, 5, 4], [7, 6, 5, 4], [3, 2, 8, 7, 6, 5, 4], [], [10], [], [12], [13, 12], [14, 13, 12], [15, 14, 13, 12], [11, 10, 16, 15, 14, 13, 12], [9, 3, 2, 8, 7, 6, 5, 4, 17, 11, 10, 16, 15, 14, 13, 12], [0, 1, 18, 9, 3, 2, 8, 7, 6, 5, 4, 17, 11, 10, 16, 15, 14, 13, 12], [19, 0, 1, 18, 9, 3, 2, 8, 7, 6, 5, 4, 17, 11, 10, 16, 15, 14, 13, 12]] [[], [], [], [], [], [], [], [], [], [], [], [], [], [], [], [], [], [], [], [], [[1]]] (by kernel_rfl) rfl rfl ?_
    simp -implicitDefEqProofs only [go_sem, Option.getD_some, a0, a18, a19, a5, a22, a23, a24, hT, hinr, hb, g0, k1, k2, k3, Z81, Jq, n0, n1, wr, hw1, Zb]
    refine ⟨g.free.length - (c + 1), hkk, trivial, trivial, trivial, trivial, trivial, trivial, trivial, c + 1, m' + 2, _, rfl, hc', rfl, rfl, by omega, ?_, fun k hk hne => ?_⟩
    all_goals clear hw1
    ·simp (disch := omega) only [hc11, Z0, Zd, Option.getD_some]; rfl
    ·simp (disch := omega) only [hc11, Z0, lkn, lk11, Option.getD_none]; exact hfr k hk hne
   ·have hce : c = g.free.length := by omega
    subst hce
    rw [List.take_length, List.drop_length, List.append_nil] at hb
    simp -implicitDefEqProofs only [go_sem, hcl]
    exact ⟨_, m', H', rfl, hmm, by simp -implicitDefEqProofs only [go_sem, hT], by simp -implicitDefEqProofs only [go_sem, a0], by simp -implicitDefEqProofs only [go_sem, a18], by simp -implicitDefEqProofs only [go_sem, a19], hb, hfr⟩
  clear a0 a18 b19 hT T
  rintro _ ⟨T, m', H', rfl, hmm, hT, a0, a18, a19, hb, hfr⟩
  simp -implicitDefEqProofs only [go_sem, a0, a18, a19, hT]
  refine ⟨2 - (0 + 1), by omega, trivial, trivial, trivial, 0 + 1, m', H', g.free.map (cutR g.most), g.bound, rfl, by omega, rfl, rfl, fun e => Nat.le_trans (hm e) hmm, ⟨?_, ?_, ?_, fun e => ?_⟩, rfl, rfl⟩
  ·exact (hfr 0 (by omega) (by decide)).trans (hs.x.trans (congrArg some (Z2f (List.length_map ..).symm rfl rfl rfl rfl)))
  ·exact hb
  ·exact (hfr 2 (by omega) (by decide)).trans hs.b
  ·have := hm e
   exact (hfr 3 (by omega) (by decide)).trans (hs.r e)
 ·have hs : SysAt E H0 [0] [1] [2] [3] v ⟨g.free.map (cutR g.most), g.bound, g.room, g.most, g.flashed⟩ := hs
  have b19 : nth T 19 = some (.int .i64 1) := a19
  clear a19 hi
  have hin : inR 1 2 = some 1 := rfl
  simp -implicitDefEqProofs only [go_sem, a18, b19, hT, hin]
  simp only [Z3]
  refine Tr.Does.mono (Q := fun x => ∃ (T' : List AV) (m' : Nat) (H' : Heap), x = ((AExit.exit 2, T'), (⟨H', m' + 3, [], false, []⟩ : St)) /\ m <= m' /\ T'.length = 51 /\ nth T' 0 = some (.ptr [0] 0) /\ nth T' 18 = some (.agg [.slice [1] 0 g.free.length g.free.length false, .slice [2] 0 g.bound.length g.bound.length false]) /\ nth T' 19 = some (.int .i64 1) /\ hget H' [2] = some (rgB (g.bound.map (cutR g.most))) /\ ∀ k, k < m + 3 -> k ≠ 2 -> hget H' [k] = hget H0 [k]) ?_ ?_
  ·refine Zj (fun k T s' => T.length = 51 /\ nth T 0 = some (.ptr [0] 0) /\ nth T 18 = some (.agg [.slice [1] 0 g.free.length g.free.length false, .slice [2] 0 g.bound.length g.bound.length false]) /\ nth T 19 = some (.int .i64 1) /\ nth T 5 = some (.slice [2] 0 g.bound.length g.bound.length false) /\ nth T 22 = some (.slice [2] 0 g.bound.length g.bound.length false) /\ nth T 23 = some (.int .i64 g.bound.length) /\ ∃ (c m' : Nat) (H' : Heap), nth T 24 = some (.int .i64 c) /\ c <= g.bound.length /\ k = g.bound.length - c /\ s' = ⟨H', m' + 3, [], false, []⟩ /\ m <= m' /\ hget H' [2] = some (rgB ((g.bound.take c).map (cutR g.most) ++ g.bound.drop c)) /\ ∀ k, k < m + 3 -> k ≠ 2 -> hget H' [k] = hget H0 [k]) (k := g.bound.length) (by omega) ?_ ?_
   ·exact ⟨by simp -implicitDefEqProofs only [go_sem, hT], by simp -implicitDefEqProofs only [go_sem, a0], by simp -implicitDefEqProofs only [go_sem, a18], by simp -implicitDefEqProofs only [go_sem, b19], by simp -implicitDefEqProofs only [go_sem, hT], by simp -implicitDefEqProofs only [go_sem, hT], by simp -implicitDefEqProofs only [go_sem, hT], 0, m, H0, by simp -implicitDefEqProofs only [go_sem, hT] <;> rfl, by omega, rfl, rfl, Nat.le_refl _, hs.b, fun _ _ _ => rfl⟩
   clear a0 a18 b19 hT T
   rintro k T s' ⟨hT, a0, a18, a19, a5, a22, a23, c, m', H', a24, hc, rfl, rfl, hmm, hb, hfr⟩
   have g0 := (hfr 0 (by omega) (by decide)).trans hs.x
   unfold sysB at g0
   simp only at g0
   simp -implicitDefEqProofs only [go_sem, a23, a24, hT]
   by_cases hcl : (c : Int) < (g.bound.length : Int)
   ·have hc' : c < g.bound.length := by omega
    have hinr : inR (c : Int) g.bound.length = some c := Jr hc'
    obtain ⟨R, hR⟩ : ∃ R, R = (g.bound.take c).map (cutR g.most) ++ g.bound.drop c := ⟨_, rfl⟩
    have hRl : R.length = g.bound.length := by rw [hR, List.length_append, List.length_map, List.length_take, List.length_drop]; omega
    have hRc : c < R.length := by omega
    have hRx : R[c] = g.bound[c] := by subst hR; rw [List.getElem_append_right (by simp; omega)]; simp; congr 1; omega
    have hRs : R.set c (cutR g.most g.bound[c]) = (g.bound.take (c + 1)).map (cutR g.most) ++ g.bound.drop (c + 1) := by
     subst hR
     rw [List.set_append_right _ _ (by simp; omega), List.take_succ_eq_append_getElem hc', List.map_append]
     have e : c - ((g.bound.take c).map (cutR g.most)).length = 0 := by simp; omega
     rw [e, List.drop_eq_getElem_cons hc', List.set_cons_zero]
     simp
    have n0 := Xf R hRc
    have n1 := Xg R hRc
    have wr := Z2e R hRc (cutR g.most g.bound[c])
    rw [hRs] at wr
    rw [<- hR] at hb
    rw [hRx] at n0 n1
    clear hR hRx
    generalize g.bound[c] = x at *
    unfold rgB at hb
    have k1 : ∀ X, hget (([m' + 3], X) :: H') [2] = hget H' [2] := fun X => hc11 (by omega)
    have k2 : ∀ X, hget (([m' + 3], X) :: H') [0] = hget H' [0] := fun X => hc11 (by omega)
    simp -implicitDefEqProofs only [go_sem, a22, a24, hT, hcl, hinr, hb, n0, n1]
    have hkk : g.bound.length - (c + 1) < g.bound.length - c := by omega
    have k3 : ∀ X, hget (([m' + 3], X) :: H') [m' + 3] = some X := fun X => Z2 ..
    have hw1 : wrapF .i64 ((c : Int) + 1) = ((c + 1 : Nat) : Int) := Z5 (by omega) (by omega)
    simp only [cutR] at wr
    try simp only [Z3]
    refine Zc [[], [], [], [2], [], [4], [5, 4], [6, 5, 4], [7, 6, 5, 4], [3, 2, 8, 7, 6, 5, 4], [], [10], [], [12], [13, 12], [14, 13, 12], [15, 14, 13, 12], [11, 10, 16, 15, 14, 13, 12], [9, 3, 2, 8, 7, 6, 5, 4, 17, 11, 10, 16, 15, 14, 13, 12], [0, 1, 18, 9, 3, 2, 8, 7, 6, 5, 4, 17, 11, 10, 16, 15, 14, 13, 12], [19, 0, 1, 18, 9, 3, 2, 8, 7, 6, 5, 4, 17, 11, 10, 16, 15, 14, 13, 12]] [[], [], [], [], [], [], [], [], [], [], [], [], [], [], [], [], [], [], [], [], [[2]]] (by kernel_rfl) rfl rfl ?_
    simp -implicitDefEqProofs only [go_sem, Option.getD_some, a0, a18, a19, a5, a22, a23, a24, hT, hinr, hb, g0, k1, k2, k3, Z81, Jq, n0, n1, wr, hw1, Zb]
    refine ⟨g.bound.length - (c + 1), hkk, trivial, trivial, trivial, trivial, trivial, trivial, trivial, c + 1, m' + 2, _, rfl, hc', rfl, rfl, by omega, ?_, fun k hk hne => ?_⟩
    all_goals clear hw1
    ·simp (disch := omega) only [hc11, Z0, Zd, Option.getD_some]; rfl
    ·simp (disch := omega) only [hc11, Z0, lkn, lk11, Option.getD_none]; exact hfr k hk hne
   ·have hce : c = g.bound.length := by omega
    subst hce
    rw [List.take_length, List.drop_length, List.append_nil] at hb
    simp -implicitDefEqProofs only [go_sem, hcl]
    exact ⟨_, m', H', rfl, hmm, by simp -implicitDefEqProofs only [go_sem, hT], by simp -implicitDefEqProofs only [go_sem, a0], by simp -implicitDefEqProofs only [go_sem, a18], by simp -implicitDefEqProofs only [go_sem, a19], hb, hfr⟩
  clear a0 a18 b19 hT T
  rintro _ ⟨T, m', H', rfl, hmm, hT, a0, a18, a19, hb, hfr⟩
  simp -implicitDefEqProofs only [go_sem, a0, a18, a19, hT]
  refine ⟨2 - (1 + 1), by omega, trivial, trivial, trivial, 1 + 1, m', H', g.free.map (cutR g.most), g.bound.map (cutR g.most), rfl, by omega, rfl, rfl, fun e => Nat.le_trans (hm e) hmm, ⟨?_, ?_, ?_, fun e => ?_⟩, rfl, rfl⟩
  ·exact (hfr 0 (by omega) (by decide)).trans (hs.x.trans (congrArg some (Z2f rfl (List.length_map ..).symm rfl rfl rfl)))
  ·exact (hfr 1 (by omega) (by decide)).trans hs.f
  ·exact hb
  ·have := hm e
   exact (hfr 3 (by omega) (by decide)).trans (hs.r e)
 ·have hs : SysAt E H0 [0] [1] [2] [3] v ⟨g.free.map (cutR g.most), g.bound.map (cutR g.most), g.room, g.most, g.flashed⟩ := hs
  have b19 : nth T 19 = some (.int .i64 2) := a19
  simp -implicitDefEqProofs only [go_sem, b19, hT, Try.results151]
  exact ⟨trivial, hs⟩
end Go.Proofs.Ytgnpnfkncbnjnaa
namespace Go.Proofs.Ytgnpnfkncbnjnaa
attribute [local go_sem_proc] Int.reduceEq Int.reduceNeg Nat.reduceEqDiff Nat.reduceLT Nat.reduceAdd Nat.reduceSub Nat.reduceMul Int.reduceLE Int.reduceLT Int.reduceToNat Nat.reduceLeDiff
attribute [local go_sem] Int.toNat_natCast Bool.not_true Bool.not_false
open Go Go.Am
attribute [local congr] Za Z6 Z7
attribute [local go_sem] Go.Am.frozen Go.Am.freezeG Go.Am.freezeGs
variable {E : AV}
theorem Z6o {α : Type} {G F : List α} (h : G.length = F.length) (i : Nat) : (G.take i ++ F.drop i).length = F.length := by
 rw [List.length_append, List.length_take, List.length_drop]; omega
theorem Ze0 {α : Type} {G F : List α} (h : G.length = F.length) {i : Nat} (hi : i < F.length) (hi2 : i < (G.take i ++ F.drop i).length) : (G.take i ++ F.drop i)[i] = F[i] := by
 rw [List.getElem_append_right (by rw [List.length_take]; omega), List.getElem_drop]
 congr 1
 rw [List.length_take]; omega
theorem Zjv {α : Type} {G F : List α} (h : G.length = F.length) {i : Nat} (hi : i < F.length) (hg : i < G.length) : (G.take i ++ F.drop i).set i G[i] = G.take (i + 1) ++ F.drop (i + 1) := by
 rw [List.set_append_right _ _ (by rw [List.length_take]; omega), List.take_succ_eq_append_getElem hg]
 have e : i - (G.take i).length = 0 := by rw [List.length_take]; omega
 rw [e, List.drop_eq_getElem_cons hi, List.set_cons_zero, List.append_assoc]
 rfl
theorem Z9k {G F : List Rg} (h : G.length = F.length) {i : Nat} (hi : i < F.length) (y : Rg) (hy : ∀ h2 : i < G.length, G[i] = y) : ∃ R, R = G.take i ++ F.drop i /\ R.length = F.length /\ nth (R.flatMap rgC) (i * 2) = some (.int .i64 F[i].lo) /\ nth (R.flatMap rgC) (i * 2 + 1) = some (.int .i64 F[i].hi) /\ setNth (setNth (R.flatMap rgC) (i * 2) (.int .i64 y.lo)) (i * 2 + 1) (.int .i64 y.hi) = (G.take (i + 1) ++ F.drop (i + 1)).flatMap rgC := by
 have hg : i < G.length := by omega
 have hl := Z6o h i
 have hi2 : i < (G.take i ++ F.drop i).length := by omega
 refine ⟨_, rfl, hl, ?_, ?_, ?_⟩
 ·rw [Xf _ hi2, Ze0 h hi hi2]
 ·rw [Xg _ hi2, Ze0 h hi hi2]
 ·rw [Z2e _ hi2, <- hy hg, Zjv h hi hg]
def rateP (h : Int) : Rg -> List Rel -> Rg
 | q, [] => q
 | q, b :: r => if h < b.frm then q else rateP h b.rate r
def relFr (h : Int) (x : Ves) (f b : Rg) : Rg := plusR f ⟨downN b.lo (rateP h ⟨0, 0⟩ x.bands).lo, upN b.hi (rateP h ⟨0, 0⟩ x.bands).hi⟩
def relBo (h : Int) (x : Ves) (b : Rg) : Rg := ⟨downN b.lo (wrapF .i64 (1000000 - (rateP h ⟨0, 0⟩ x.bands).hi)), upN b.hi (wrapF .i64 (1000000 - (rateP h ⟨0, 0⟩ x.bands).lo))⟩
def relF (h : Int) (vs : List Ves) (F B : List Rg) : List Rg := (vs.zip (F.zip B)).map fun t => relFr h t.1 t.2.1 t.2.2
def relB (h : Int) (vs : List Ves) (B : List Rg) : List Rg := (vs.zip B).map fun t => relBo h t.1 t.2
def relT (v : Vac) (g : Gs) (s : Bk) : Gs := ⟨relF s.heat v.vessels g.free g.bound, relB s.heat v.vessels g.bound, g.room, g.most, g.flashed⟩
theorem Z6p {h : Int} {vs : List Ves} {F B : List Rg} (h1 : F.length = vs.length) (h2 : B.length = vs.length) : (relF h vs F B).length = vs.length := by
 simp [relF, h1, h2]
theorem Zao {h : Int} {vs : List Ves} {B : List Rg} (h2 : B.length = vs.length) : (relB h vs B).length = vs.length := by
 simp [relB, h2]
theorem Zfz {h : Int} {vs : List Ves} {F B : List Rg} {i : Nat} (h0 : i < (relF h vs F B).length) (h1 : i < vs.length) (h2 : i < F.length) (h3 : i < B.length) : (relF h vs F B)[i] = relFr h vs[i] F[i] B[i] := by
 simp [relF]
theorem Zg0 {h : Int} {vs : List Ves} {B : List Rg} {i : Nat} (h0 : i < (relB h vs B).length) (h1 : i < vs.length) (h3 : i < B.length) : (relB h vs B)[i] = relBo h vs[i] B[i] := by
 simp [relB]
theorem Z82 [hE : Emp E] {K : Nat} {X f b r : Nm} {v : Vac} {g : Gs} {s : Bk} {H : Heap} {n : Nat} {p : Nm} {j : Delta} (h : SysAt E H X f b r v g) (ha : Apart X f b r) (h1 : g.free ≠ []) (hl1 : g.free.length = v.vessels.length) (hl2 : g.bound.length = v.vessels.length) (hK : v.vessels.length + 20 < K) (hl : v.vessels.length <= 1000000) (hbd : ∀ x ∈ v.vessels, x.bands.length <= 8) :
  acall cfg (K + 2) 148 [.ptr X 0, bkV s] ⟨H, n, p, false, j⟩ = .ret (.tuple [], ⟨sysPut E X f b r v (relT v g s) H, n, p, false, j⟩) := by
 have hGF := Z6p (h := s.heat) hl1 hl2
 have hGB := Zao (h := s.heat) hl2
 have h2 : g.bound ≠ [] := fun e => h1 (List.length_eq_zero_iff.1 (by rw [hl1, <- hl2, e]; rfl))
 refine Z0p Zio Zin h ha h1 h2 (by show (relF _ _ _ _).length = _; omega) (by show (relB _ _ _).length = _; omega) rfl fun H0 m hs hm => ?_
 refine Z9 rfl fun T hT' hA => ?_
 have a0 := hA 0 _ rfl
 have a1 := hA 1 _ rfl
 have hT : T.length = 92 := hT'
 clear hA hT'
 have g0 := hs.x
 unfold sysB at g0
 have k0 : ∀ X, hget (([m + 3], X) :: H0) [0] = hget H0 [0] := fun X => hc11 (by omega)
 simp -implicitDefEqProofs only [go_sem, a0, a1, hT, g0, k0]
 simp only [Z3]
 unfold relT
 refine Zj (fun k T s' => T.length = 92 /\ nth T 0 = some (.ptr [0] 0) /\ nth T 3 = some (.ptr [m + 3] 0) /\ nth T 14 = some (.lst (v.vessels.map vesV)) /\ nth T 15 = some (.int .i64 v.vessels.length) /\ ∃ (i m' : Nat) (H' : Heap), nth T 16 = some (.int .i64 i) /\ i <= v.vessels.length /\ k = v.vessels.length - i /\ s' = ⟨H', m' + 3, [], false, []⟩ /\ m < m' /\ hget H' [m + 3] = some (.cells [.int .i64 s.ticks, .int .i64 s.heat, .lst (s.shut.map iV), .bool s.flash] true 0) /\ SysAt E H' [0] [1] [2] [3] v ⟨(relF s.heat v.vessels g.free g.bound).take i ++ g.free.drop i, (relB s.heat v.vessels g.bound).take i ++ g.bound.drop i, g.room, g.most, g.flashed⟩) (k := v.vessels.length) (by omega) ?_ ?_
 ·exact ⟨by simp -implicitDefEqProofs only [go_sem, hT], by simp -implicitDefEqProofs only [go_sem, a0], by simp -implicitDefEqProofs only [go_sem, hT], by simp -implicitDefEqProofs only [go_sem, hT], by simp -implicitDefEqProofs only [go_sem, hT], 0, m + 1, _, by simp -implicitDefEqProofs only [go_sem, hT] <;> rfl, by omega, rfl, rfl, by omega, Z2 .., ⟨(k0 _).trans hs.x, (hc11 (by omega)).trans hs.f, (hc11 (by omega)).trans hs.b, fun e => (hc11 (by have := hm e; omega)).trans (hs.r e)⟩⟩
 clear a0 a1 hT T g0 k0 hs H0
 rintro k T s' ⟨hT, a0, a3, a14, a15, i, m', H0, a16, hi, rfl, rfl, hmm, hbk, hs⟩
 simp -implicitDefEqProofs only [go_sem, a15, a16, hT]
 by_cases hil : (i : Int) < (v.vessels.length : Int)
 ·have hi' : i < v.vessels.length := by omega
  have e1 := Zh (f := vesV) (l := v.vessels) (i := i) (z := 6) hi' rfl
  have hkk : v.vessels.length - (i + 1) < v.vessels.length - i := by omega
  have hbx := hbd _ (List.getElem_mem hi')
  obtain ⟨F, hF, lF, f0, f1, fw⟩ := Z9k (G := relF s.heat v.vessels g.free g.bound) (F := g.free) (by omega) (show i < g.free.length by omega) _ (fun h0 => Zfz h0 hi' (by omega) (by omega))
  obtain ⟨B, hB, lB, b0, b1, bw⟩ := Z9k (G := relB s.heat v.vessels g.bound) (F := g.bound) (by omega) (show i < g.bound.length by omega) _ (fun h0 => Zg0 h0 hi' (by omega))
  rw [<- hF, <- hB] at hs
  clear hF hB
  generalize hF' : (relF s.heat v.vessels g.free g.bound).take (i + 1) ++ g.free.drop (i + 1) = F' at fw
  generalize hB' : (relB s.heat v.vessels g.bound).take (i + 1) ++ g.bound.drop (i + 1) = B' at bw
  generalize v.vessels[i] = x at *
  generalize g.free[i] = fi at *
  generalize g.bound[i] = bi at *
  simp only [vesV] at e1
  have k1 : ∀ X Y, hget (([m' + 4], X) :: ([m' + 3], Y) :: H0) [m' + 3] = some Y := fun X Y => (hc11 (by omega)).trans (Z2 ..)
  simp -implicitDefEqProofs only [go_sem, a14, a16, hT, hil, e1, k1]
  simp only [Z3]
  refine Tr.Does.mono (Q := fun x' => ∃ (T' : List AV) (m2 : Nat) (H2 : Heap), x' = ((AExit.exit 2, T'), (⟨H2, m2 + 5, [], false, []⟩ : St)) /\ m' <= m2 /\ T'.length = 92 /\ nth T' 0 = some (.ptr [0] 0) /\ nth T' 3 = some (.ptr [m + 3] 0) /\ nth T' 4 = some (.int .i64 i) /\ nth T' 6 = some (.ptr [m' + 4] 0) /\ nth T' 14 = some (.lst (v.vessels.map vesV)) /\ nth T' 15 = some (.int .i64 v.vessels.length) /\ nth T' 16 = some (.int .i64 i) /\ hget H2 [m' + 4] = some (.cells [.int .i64 (rateP s.heat ⟨0, 0⟩ x.bands).lo, .int .i64 (rateP s.heat ⟨0, 0⟩ x.bands).hi] true 0) /\ ∀ k, k < m' + 3 -> hget H2 [k] = hget H0 [k]) ?_ ?_
  ·refine Zj (fun k T s' => T.length = 92 /\ nth T 0 = some (.ptr [0] 0) /\ nth T 3 = some (.ptr [m + 3] 0) /\ nth T 4 = some (.int .i64 i) /\ nth T 6 = some (.ptr [m' + 4] 0) /\ nth T 14 = some (.lst (v.vessels.map vesV)) /\ nth T 15 = some (.int .i64 v.vessels.length) /\ nth T 16 = some (.int .i64 i) /\ nth T 22 = some (.lst (x.bands.map relV)) /\ nth T 23 = some (.int .i64 x.bands.length) /\ ∃ (c m2 : Nat) (H2 : Heap) (q : Rg), nth T 24 = some (.int .i64 c) /\ c <= x.bands.length /\ k = x.bands.length - c /\ s' = ⟨H2, m2 + 5, [], false, []⟩ /\ m' <= m2 /\ hget H2 [m' + 4] = some (.cells [.int .i64 q.lo, .int .i64 q.hi] true 0) /\ (∀ k, k < m' + 3 -> hget H2 [k] = hget H0 [k]) /\ rateP s.heat ⟨0, 0⟩ x.bands = rateP s.heat q (x.bands.drop c)) (k := x.bands.length) (by omega) ?_ ?_
   ·exact ⟨by simp -implicitDefEqProofs only [go_sem, hT], by simp -implicitDefEqProofs only [go_sem, a0], by simp -implicitDefEqProofs only [go_sem, a3], by simp -implicitDefEqProofs only [go_sem, hT], by simp -implicitDefEqProofs only [go_sem, hT], by simp -implicitDefEqProofs only [go_sem, a14], by simp -implicitDefEqProofs only [go_sem, a15], by simp -implicitDefEqProofs only [go_sem, a16], by simp -implicitDefEqProofs only [go_sem, hT], by simp -implicitDefEqProofs only [go_sem, hT], 0, m', _, ⟨0, 0⟩, by simp -implicitDefEqProofs only [go_sem, hT] <;> rfl, by omega, rfl, rfl, Nat.le_refl _, Z2 .., fun k hk => (hc11 (by omega)).trans (hc11 (by omega)), rfl⟩
   clear a0 a3 a14 a15 a16 hT T k1
   rintro k T s' ⟨hT, a0, a3, a4, a6, a14, a15, a16, a22, a23, c, m2, H2, q, a24, hc, rfl, rfl, hm2, hq, hfr, hra⟩
   simp -implicitDefEqProofs only [go_sem, a23, a24, hT]
   by_cases hcl : (c : Int) < (x.bands.length : Int)
   ·have hc' : c < x.bands.length := by omega
    have e2 := Zh (f := relV) (l := x.bands) (i := c) (z := 3) hc' rfl
    have hk2 : x.bands.length - (c + 1) < x.bands.length - c := by omega
    rw [List.drop_eq_getElem_cons hc'] at hra
    generalize x.bands[c] = y at *
    simp only [rateP] at hra
    simp only [relV] at e2
    have k5 : ∀ X, hget (([m2 + 5], X) :: H2) [m2 + 5] = some X := fun X => Z2 ..
    have k3 : ∀ X, hget (([m2 + 5], X) :: H2) [m + 3] = _ := fun X => (hc11 (by omega)).trans ((hfr _ (by omega)).trans hbk)
    have k4 : ∀ X, hget (([m2 + 5], X) :: H2) [m' + 4] = _ := fun X => (hc11 (by omega)).trans hq
    by_cases cq : s.heat < y.frm
    ·rw [if_pos cq] at hra
     simp -implicitDefEqProofs only [go_sem, a3, a22, a24, hT, hcl, e2, k5, k3, cq]
     exact ⟨_, m2 + 1, _, rfl, by omega, by simp -implicitDefEqProofs only [go_sem, hT], by simp -implicitDefEqProofs only [go_sem, a0], by simp -implicitDefEqProofs only [go_sem, a3], by simp -implicitDefEqProofs only [go_sem, a4], by simp -implicitDefEqProofs only [go_sem, a6], by simp -implicitDefEqProofs only [go_sem, a14], by simp -implicitDefEqProofs only [go_sem, a15], by simp -implicitDefEqProofs only [go_sem, a16], by rw [k4, hra], fun k hk => (hc11 (by omega)).trans (hfr k hk)⟩
    ·rw [if_neg cq] at hra
     have hw1 : wrapF .i64 ((c : Int) + 1) = ((c + 1 : Nat) : Int) := Z5 (by omega) (by omega)
     have nm4 : (m2 + 5 = m' + 4) = False := eq_false (by omega)
     simp -implicitDefEqProofs only [go_sem, a0, a3, a4, a6, a14, a15, a16, a22, a23, a24, hT, hcl, e2, k5, k3, k4, cq, hw1, nm4]
     exact ⟨x.bands.length - (c + 1), hk2, trivial, trivial, trivial, trivial, trivial, trivial, trivial, trivial, trivial, trivial, c + 1, m2 + 1, _, y.rate, rfl, hc', rfl, rfl, by omega, (hc11 (by omega)).trans (hss hq), fun k hk => (hc11 (by omega)).trans ((hs11 (by omega)).trans (hfr k hk)), hra⟩
   ·have hce : c = x.bands.length := by omega
    subst hce
    rw [List.drop_length] at hra
    simp only [rateP] at hra
    simp -implicitDefEqProofs only [go_sem, hcl]
    exact ⟨_, m2, H2, rfl, hm2, by simp -implicitDefEqProofs only [go_sem, hT], by simp -implicitDefEqProofs only [go_sem, a0], by simp -implicitDefEqProofs only [go_sem, a3], by simp -implicitDefEqProofs only [go_sem, a4], by simp -implicitDefEqProofs only [go_sem, a6], by simp -implicitDefEqProofs only [go_sem, a14], by simp -implicitDefEqProofs only [go_sem, a15], by simp -implicitDefEqProofs only [go_sem, a16], by rw [hra]; exact hq, hfr⟩
  clear a0 a3 a14 a15 a16 hT T k1
  rintro _ ⟨T, m2, H2, rfl, hm2, hT, a0, a3, a4, a6, a14, a15, a16, hq, hfr⟩
  simp only [relFr, relBo] at fw bw
  generalize rateP s.heat ⟨0, 0⟩ x.bands = q at *
  have hinF : inR (i : Int) F.length = some i := Jr (by omega)
  have hinB : inR (i : Int) B.length = some i := Jr (by omega)
  have x0 := (hfr 0 (by omega)).trans hs.x
  have x1 := (hfr 1 (by omega)).trans hs.f
  have x2 := (hfr 2 (by omega)).trans hs.b
  have x3 := fun e => (hfr 3 (by have := hm e; omega)).trans (hs.r e)
  have xk := (hfr (m + 3) (by omega)).trans hbk
  have lF' : F'.length = F.length := by rw [<- hF', Z6o (by omega)]; omega
  have lB' : B'.length = B.length := by rw [<- hB', Z6o (by omega)]; omega
  have y0 : hget H2 [0] = some (sysB E v [1] [2] [3] ⟨F', B', g.room, g.most, g.flashed⟩) := x0.trans (congrArg some (Z2f lF'.symm lB'.symm rfl rfl rfl))
  clear hs hbk hfr
  unfold sysB at x0
  unfold rgB at x1 x2
  simp only at x0 x1 x2
  have k0 : ∀ X, hget (([m2 + 5], X) :: H2) [0] = hget H2 [0] := fun X => hc11 (by omega)
  have k1 : ∀ X, hget (([m2 + 5], X) :: H2) [1] = hget H2 [1] := fun X => hc11 (by omega)
  have k2 : ∀ X, hget (([m2 + 5], X) :: H2) [2] = hget H2 [2] := fun X => hc11 (by omega)
  have k4 : ∀ X, hget (([m2 + 5], X) :: H2) [m' + 4] = hget H2 [m' + 4] := fun X => hc11 (by omega)
  have k5 : ∀ X, hget (([m2 + 5], X) :: H2) [m2 + 5] = some X := fun X => Z2 ..
  have c1 := fun a b s => Z7n a b K s
  have c2 := fun a b s => Zdf a b K s
  have c3 := fun a b s => Z1n ⟨fi.lo, fi.hi⟩ ⟨a, b⟩ K s
  simp only [rgV] at c3
  have hw1 : wrapF .i64 ((i : Int) + 1) = ((i + 1 : Nat) : Int) := Z5 (by omega) (by omega)
  have nm4 : ∀ x r, lkD (([1], x) :: r) [m' + 4] = lkD r [m' + 4] := fun x r => lk11 (by omega)
  have nm5 : ∀ x r, lkD (([1], x) :: r) [m2 + 5] = lkD r [m2 + 5] := fun x r => lk11 (by omega)
  simp -implicitDefEqProofs only [go_sem, a0, a4, hT, x0, x2, hinB, b0, b1]
  try simp only [Z3]
  refine Zc [[], [0], [1, 0], [2, 1, 0], [3, 2, 1, 0], [], [], [6], [7, 6], [8, 7, 6], [9, 8, 7, 6], [], [10, 9, 8, 7, 6, 11], [12, 10, 9, 8, 7, 6, 11], [], [14], [], [16], [15, 14, 17, 16], [], [19], [], [21], [20, 19, 22, 21, 18, 15, 14, 17, 16], [23, 20, 19, 22, 21, 18, 15, 14, 17, 16], [13, 12, 10, 9, 8, 7, 6, 11, 24, 23, 20, 19, 22, 21, 18, 15, 14, 17, 16], [4, 3, 2, 1, 0, 5, 25, 13, 12, 10, 9, 8, 7, 6, 11, 24, 23, 20, 19, 22, 21, 18, 15, 14, 17, 16], [26, 4, 3, 2, 1, 0, 5, 25, 13, 12, 10, 9, 8, 7, 6, 11, 24, 23, 20, 19, 22, 21, 18, 15, 14, 17, 16]] [[], [], [], [], [], [], [], [], [], [], [], [], [], [], [], [], [], [], [], [], [], [], [], [], [], [], [], [[1]]] (by kernel_rfl) rfl rfl ?_
  simp -implicitDefEqProofs only [go_sem, Option.getD_some, a0, a4, a6, hT, x0, x1, hq, k0, k1, k4, k5, hinF, f0, f1, c1, c2, c3, Jq, fw, Zb]
  try simp only [Z3]
  refine Zc [[], [0], [1, 0], [2, 1, 0], [3, 2, 1, 0], [], [], [6], [], [8], [9, 8], [7, 6, 10, 9, 8], [], [12], [], [14], [15, 14], [13, 12, 16, 15, 14, 11, 7, 6, 10, 9, 8], [17, 13, 12, 16, 15, 14, 11, 7, 6, 10, 9, 8], [4, 3, 2, 1, 0, 5, 18, 17, 13, 12, 16, 15, 14, 11, 7, 6, 10, 9, 8], [19, 4, 3, 2, 1, 0, 5, 18, 17, 13, 12, 16, 15, 14, 11, 7, 6, 10, 9, 8]] [[], [], [], [], [], [], [], [], [], [], [], [], [], [], [], [], [], [], [], [], [[2]]] (by kernel_rfl) rfl rfl ?_
  simp -implicitDefEqProofs only [go_sem, Z0, lkn, lk11, Option.getD_some, Option.getD_none, a0, a3, a4, a6, a14, a15, a16, hT, x0, x2, hq, k0, k2, k4, k5, nm4, nm5, hinB, b0, b1, c1, c2, Jq, bw, hw1, Zb]
  refine ⟨v.vessels.length - (i + 1), hkk, trivial, trivial, trivial, trivial, trivial, i + 1, m2 + 5, _, rfl, hi', rfl, rfl, by omega, ?_, ?_⟩
  all_goals clear hw1
  ·simp (disch := omega) only [hc11, Z0, lkn, lk11, Option.getD_none]; exact xk
  ·rw [hF', hB']
   refine ⟨?_, ?_, ?_, fun e => ?_⟩
   ·simp (disch := omega) only [hc11, Z0, lkn, lk11, Option.getD_none]; exact y0
   ·simp (disch := omega) only [hc11, Z0, lkn, Zd, lk11, Option.getD_some, Option.getD_none]; rfl
   ·simp (disch := omega) only [hc11, Z0, lkn, Zd, lk11, Option.getD_some, Option.getD_none]; rfl
   ·have := hm e
    simp (disch := omega) only [hc11, Z0, lkn, lk11, Option.getD_none]; exact x3 e
 ·have hie : i = v.vessels.length := by omega
  subst hie
  simp -implicitDefEqProofs only [go_sem, hil, Try.results148]
  have e1 : (relF s.heat v.vessels g.free g.bound).take v.vessels.length ++ g.free.drop v.vessels.length = relF s.heat v.vessels g.free g.bound := by
   rw [List.drop_of_length_le (by omega), List.append_nil, List.take_of_length_le (by omega)]
  have e2 : (relB s.heat v.vessels g.bound).take v.vessels.length ++ g.bound.drop v.vessels.length = relB s.heat v.vessels g.bound := by
   rw [List.drop_of_length_le (by omega), List.append_nil, List.take_of_length_le (by omega)]
  rw [e1, e2] at hs
  exact ⟨trivial, hs⟩
end Go.Proofs.Ytgnpnfkncbnjnaa
namespace Go.Proofs.Ytgnpnfkncbnjnaa
attribute [local go_sem_proc] Int.reduceEq Int.reduceNeg Nat.reduceEqDiff Nat.reduceLT Nat.reduceAdd Nat.reduceSub Nat.reduceMul Int.reduceLE Int.reduceLT Int.reduceToNat Nat.reduceLeDiff
attribute [local go_sem] Int.toNat_natCast Bool.not_true Bool.not_false
open Go Go.Am
attribute [local congr] Za Z6 Z7
attribute [local go_sem] Go.Am.frozen Go.Am.freezeG Go.Am.freezeGs
variable {E : AV}
def getFr (t : Gtr) (f r : Rg) : Rg := ⟨wrapF .i64 (f.lo - min2 (upN f.lo t.part.hi) r.hi), wrapF .i64 (f.hi - min2 (downN f.hi t.part.lo) r.lo)⟩
def getRo (t : Gtr) (f r : Rg) : Rg := ⟨max2 0 (wrapF .i64 (r.lo - upN f.hi t.part.hi)), max2 0 (wrapF .i64 (r.hi - downN f.lo t.part.lo))⟩
def getF : List Gtr -> Nat -> List Rg -> List Rg -> List Rg × List Rg
 | [], _, F, R => (F, R)
 | t :: ts, i, F, R => getF ts (i + 1) (F.set t.at'.toNat (getFr t (F[t.at'.toNat]?.getD ⟨0, 0⟩) (R[i]?.getD ⟨0, 0⟩))) (R.set i (getRo t (F[t.at'.toNat]?.getD ⟨0, 0⟩) (R[i]?.getD ⟨0, 0⟩)))
theorem Z6q : ∀ (l : List Gtr) (i : Nat) (F R : List Rg), (getF l i F R).1.length = F.length /\ (getF l i F R).2.length = R.length
 | [], _, _, _ => ⟨rfl, rfl⟩
 | t :: ts, i, F, R => by
  unfold getF
  have := Z6q ts (i + 1) (F.set t.at'.toNat (getFr t (F[t.at'.toNat]?.getD ⟨0, 0⟩) (R[i]?.getD ⟨0, 0⟩))) (R.set i (getRo t (F[t.at'.toNat]?.getD ⟨0, 0⟩) (R[i]?.getD ⟨0, 0⟩)))
  simpa using this
def getT (v : Vac) (g : Gs) (s : Bk) : Gs := if g.flashed = true then ⟨(getF v.getters 0 g.free g.room).1, g.bound, (getF v.getters 0 g.free g.room).2, g.most, g.flashed⟩ else g
theorem Zg1 {b : Nm} {n : Nat} (h : 0 < n) : rowX E b n = .slice b 0 n n false := by cases n with | zero => omega | succ n => rfl
theorem Zg2 [hE : Emp E] {K : Nat} {X f b r : Nm} {v : Vac} {g : Gs} {s : Bk} {H : Heap} {n : Nat} {p : Nm} {j : Delta} (h : SysAt E H X f b r v g) (ha : Apart X f b r) (h1 : g.free ≠ []) (h2 : g.bound ≠ []) (hl1 : g.free.length = v.vessels.length) (hl3 : g.room.length = v.getters.length) (hK : v.getters.length + 20 < K) (hl : v.getters.length <= 1000000) (hat : ∀ t ∈ v.getters, 0 <= t.at' /\ t.at' < v.vessels.length) :
  acall cfg (K + 2) 150 [.ptr X 0, bkV s] ⟨H, n, p, false, j⟩ = .ret (.tuple [], ⟨sysPut E X f b r v (getT v g s) H, n, p, false, j⟩) := by
 have hgl := Z6q v.getters 0 g.free g.room
 refine Z0p Zis Zir h ha h1 h2 (by unfold getT; split <;> simp [hgl]) (by unfold getT; split <;> rfl) (by unfold getT; split <;> simp [hgl]) fun H0 m hs hm => ?_
 refine Z9 rfl fun T hT' hA => ?_
 have a0 := hA 0 _ rfl
 have a1 := hA 1 _ rfl
 have hT : T.length = 104 := hT'
 clear hA hT'
 have g0 := hs.x
 unfold sysB at g0
 have k0 : ∀ X, hget (([m + 3], X) :: H0) [0] = hget H0 [0] := fun X => hc11 (by omega)
 have hs' : ∀ X, SysAt E (([m + 3], X) :: H0) [0] [1] [2] [3] v g := fun X => ⟨(k0 _).trans hs.x, (hc11 (by omega)).trans hs.f, (hc11 (by omega)).trans hs.b, fun e => (hc11 (by have := hm e; omega)).trans (hs.r e)⟩
 unfold getT
 cases hfl : g.flashed with
 | false =>
  simp -implicitDefEqProofs only [go_sem, a0, a1, hT, g0, k0, hfl, Try.results150]
  exact ⟨trivial, hs' _⟩
 | true =>
  rw [if_pos rfl]
  simp -implicitDefEqProofs only [go_sem, a0, a1, hT, g0, k0, hfl]
  simp only [Z3]
  refine Zj (fun k T s' => T.length = 104 /\ nth T 0 = some (.ptr [0] 0) /\ nth T 18 = some (.lst (v.getters.map gtrV)) /\ nth T 19 = some (.int .i64 v.getters.length) /\ ∃ (i m' : Nat) (H' : Heap) (F R : List Rg), nth T 20 = some (.int .i64 i) /\ i <= v.getters.length /\ k = v.getters.length - i /\ s' = ⟨H', m' + 3, [], false, []⟩ /\ 1 <= m' /\ SysAt E H' [0] [1] [2] [3] v ⟨F, g.bound, R, g.most, true⟩ /\ F.length = g.free.length /\ R.length = g.room.length /\ getF v.getters 0 g.free g.room = getF (v.getters.drop i) i F R) (k := v.getters.length) (by omega) ?_ ?_
  ·exact ⟨by simp -implicitDefEqProofs only [go_sem, hT], by simp -implicitDefEqProofs only [go_sem, a0], by simp -implicitDefEqProofs only [go_sem, hT], by simp -implicitDefEqProofs only [go_sem, hT], 0, m + 1, _, g.free, g.room, by simp -implicitDefEqProofs only [go_sem, hT] <;> rfl, by omega, rfl, rfl, by omega, by have e := hs' (.cells [.int .i64 s.ticks, .int .i64 s.heat, .lst (s.shut.map iV), .bool s.flash] true 0); rw [show g = ⟨g.free, g.bound, g.room, g.most, true⟩ from by rw [<- hfl]] at e; exact e, rfl, rfl, rfl⟩
  clear a0 a1 hT T g0 k0 hs hs' H0
  rintro k T s' ⟨hT, a0, a18, a19, i, m', H0, F, R, a20, hi, rfl, rfl, hmm, hs, lF, lR, he⟩
  simp -implicitDefEqProofs only [go_sem, a19, a20, hT]
  by_cases hil : (i : Int) < (v.getters.length : Int)
  ·have hi' : i < v.getters.length := by omega
   have e1 := Zh (f := gtrV) (l := v.getters) (i := i) (z := 5) hi' rfl
   have hkk : v.getters.length - (i + 1) < v.getters.length - i := by omega
   have hax := hat _ (List.getElem_mem hi')
   rw [List.drop_eq_getElem_cons hi'] at he
   generalize v.getters[i] = x at *
   obtain ⟨a, hxa⟩ : ∃ a : Nat, x.at' = a := ⟨x.at'.toNat, by omega⟩
   have haF : a < F.length := by omega
   have hiR : i < R.length := by omega
   simp only [getF] at he
   rw [hxa, Int.toNat_natCast, List.getElem?_eq_getElem haF, List.getElem?_eq_getElem hiR, Option.getD_some, Option.getD_some] at he
   have f0 := Xf F haF
   have f1 := Xg F haF
   have fw := Z2e F haF (getFr x F[a] R[i])
   have r0 := Xf R hiR
   have r1 := Xg R hiR
   have rw' := Z2e R hiR (getRo x F[a] R[i])
   generalize F[a] = fi at *
   generalize R[i] = ri at *
   generalize hF' : F.set a (getFr x fi ri) = F' at *
   generalize hR' : R.set i (getRo x fi ri) = R' at *
   have lF' : F'.length = F.length := by rw [<- hF']; simp
   have lR' : R'.length = R.length := by rw [<- hR']; simp
   simp only [getFr, getRo] at fw rw'
   have hinF : inR (a : Int) F.length = some a := Jr haF
   have hinR : inR (i : Int) R.length = some i := Jr hiR
   have hrow : rowX E [3] R.length = .slice [3] 0 R.length R.length false := Zg1 (by omega)
   have hrne : R ≠ [] := fun e => by rw [e] at hiR; simp at hiR
   have x0 := hs.x
   have x1 := hs.f
   have x2 := hs.b
   have x3 := hs.r hrne
   have y0 : hget H0 [0] = some (sysB E v [1] [2] [3] ⟨F', g.bound, R', g.most, true⟩) := x0.trans (congrArg some (Z2f lF'.symm rfl lR'.symm rfl rfl))
   unfold sysB at x0
   unfold rgB at x1 x3
   simp only at x0 x1 x2 x3
   rw [hrow] at x0
   simp only [gtrV] at e1
   rw [hxa] at e1
   have c1 := fun a b s => Z7n a b K s
   have c2 := fun a b s => Zdf a b K s
   have k0 : ∀ X, hget (([m' + 3], X) :: H0) [0] = hget H0 [0] := fun X => hc11 (by omega)
   have k1 : ∀ X, hget (([m' + 3], X) :: H0) [1] = hget H0 [1] := fun X => hc11 (by omega)
   have k3 : ∀ X, hget (([m' + 3], X) :: H0) [3] = hget H0 [3] := fun X => hc11 (by omega)
   have k5 : ∀ X, hget (([m' + 3], X) :: H0) [m' + 3] = some X := fun X => Z2 ..
   have hw1 : wrapF .i64 ((i : Int) + 1) = ((i + 1 : Nat) : Int) := Z5 (by omega) (by omega)
   have hm0 : (m' = 0) = False := eq_false (by omega)
   have nm1 : ∀ x r, lkD (([1], x) :: r) [m' + 3] = lkD r [m' + 3] := fun x r => lk11 (by omega)
   simp -implicitDefEqProofs only [go_sem, a18, a20, hT, hil, e1]
   try simp only [Z3]
   refine Zc [[], [0], [1, 0], [2, 1, 0], [3, 2, 1, 0], [], [5], [4, 3, 2, 1, 0, 6, 5], [7, 4, 3, 2, 1, 0, 6, 5], [], [9], [10, 9], [11, 10, 9], [12, 11, 10, 9], [], [13, 12, 11, 10, 9, 14], [15, 13, 12, 11, 10, 9, 14], [], [], [8, 7, 4, 3, 2, 1, 0, 6, 5, 17, 18], [16, 15, 13, 12, 11, 10, 9, 14, 19, 8, 7, 4, 3, 2, 1, 0, 6, 5, 17, 18]] [[], [], [], [], [], [], [], [], [], [], [], [], [], [], [], [], [], [], [], [[m' + 4, 17, 0]], [[m' + 4, 18, 0]]] (by kernel_rfl) rfl rfl ?_
   simp -implicitDefEqProofs only [go_sem, Z0, lkn, Zd, Z46, Option.getD_some, Option.getD_none, a0, hT, x0, x1, x3, k0, k1, k3, k5, hinF, hinR, f0, f1, r0, r1, hd31, hm0, Zb]
   try simp only [Z3]
   refine Zc [[], [0], [1, 0], [2, 1, 0], [3, 2, 1, 0], [], [5], [], [7], [], [9], [], [11], [12, 11], [10, 9, 13, 12, 11], [], [15], [14, 10, 9, 13, 12, 11, 16, 15], [8, 7, 17, 14, 10, 9, 13, 12, 11, 16, 15], [], [19], [], [21], [], [23], [24, 23], [22, 21, 25, 24, 23, 14, 10, 9, 13, 12, 11], [], [27], [26, 22, 21, 25, 24, 23, 14, 10, 9, 13, 12, 11, 28, 27], [20, 19, 29, 26, 22, 21, 25, 24, 23, 14, 10, 9, 13, 12, 11, 28, 27], [18, 8, 7, 17, 16, 15, 30, 20, 19, 29, 26, 22, 21, 25, 24, 23, 14, 10, 9, 13, 12, 11, 28, 27], [4, 3, 2, 1, 0, 6, 5, 31, 18, 8, 7, 17, 16, 15, 30, 20, 19, 29, 26, 22, 21, 25, 24, 23, 14, 10, 9, 13, 12, 11, 28, 27], [32, 4, 3, 2, 1, 0, 6, 5, 31, 18, 8, 7, 17, 16, 15, 30, 20, 19, 29, 26, 22, 21, 25, 24, 23, 14, 10, 9, 13, 12, 11, 28, 27]] [[], [], [], [], [], [], [], [], [], [], [], [], [], [], [], [], [], [], [], [], [], [], [], [], [], [], [], [], [], [], [], [], [], [[1]]] (by kernel_rfl) rfl rfl ?_
   simp -implicitDefEqProofs only [go_sem, Z0, lkn, Zd, lk31, Z46, Option.getD_some, Option.getD_none, a0, hT, x0, x1, k0, k1, k5, hinF, f0, f1, c1, c2, Z81, Jq, fw, Zb]
   try simp only [Z3]
   refine Zc [[], [0], [1, 0], [2, 1, 0], [3, 2, 1, 0], [], [], [6], [], [8], [], [10], [11, 10], [9, 8, 12, 11, 10], [7, 6, 13, 9, 8, 12, 11, 10], [14, 7, 6, 13, 9, 8, 12, 11, 10], [], [16], [], [18], [], [20], [21, 20], [19, 18, 22, 21, 20, 13, 9, 8, 12, 11, 10], [17, 16, 23, 19, 18, 22, 21, 20, 13, 9, 8, 12, 11, 10], [24, 17, 16, 23, 19, 18, 22, 21, 20, 13, 9, 8, 12, 11, 10], [15, 14, 7, 6, 25, 24, 17, 16, 23, 19, 18, 22, 21, 20, 13, 9, 8, 12, 11, 10], [4, 3, 2, 1, 0, 5, 26, 15, 14, 7, 6, 25, 24, 17, 16, 23, 19, 18, 22, 21, 20, 13, 9, 8, 12, 11, 10], [27, 4, 3, 2, 1, 0, 5, 26, 15, 14, 7, 6, 25, 24, 17, 16, 23, 19, 18, 22, 21, 20, 13, 9, 8, 12, 11, 10]] [[], [], [], [], [], [], [], [], [], [], [], [], [], [], [], [], [], [], [], [], [], [], [], [], [], [], [], [], [[3]]] (by kernel_rfl) rfl rfl ?_
   simp -implicitDefEqProofs only [go_sem, Z0, lkn, Zd, lk11, lk13, lk31, Z46, Option.getD_some, Option.getD_none, a0, a18, a19, a20, hT, x0, x3, k0, k3, k5, nm1, hinR, r0, r1, c1, c2, Z1w, Jq, rw', hw1, Zb]
   refine ⟨v.getters.length - (i + 1), hkk, trivial, trivial, trivial, trivial, i + 1, m' + 4, _, F', R', rfl, hi', rfl, rfl, by omega, ?_, by rw [lF']; exact lF, by rw [lR']; exact lR, he⟩
   all_goals clear hw1
   refine ⟨?_, ?_, ?_, fun e => ?_⟩
   ·simp (disch := omega) only [hc11, Z0, lkn, lk11, lk31, Option.getD_none]; exact y0
   ·simp (disch := omega) only [hc11, Z0, lkn, Zd, lk11, lk31, Option.getD_some, Option.getD_none]; rfl
   ·simp (disch := omega) only [hc11, Z0, lkn, lk11, lk31, Option.getD_none]; exact x2
   ·simp (disch := omega) only [hc11, Z0, lkn, Zd, lk11, lk31, Option.getD_some, Option.getD_none]; rfl
  ·have hie : i = v.getters.length := by omega
   subst hie
   rw [List.drop_length] at he
   simp only [getF] at he
   rw [he]
   simp -implicitDefEqProofs only [go_sem, hil, Try.results150]
   exact ⟨trivial, hs⟩
end Go.Proofs.Ytgnpnfkncbnjnaa
namespace Go.Proofs.Ytgnpnfkncbnjnaa
attribute [local go_sem_proc] Int.reduceEq Int.reduceNeg Nat.reduceEqDiff Nat.reduceLT Nat.reduceAdd Nat.reduceSub Nat.reduceMul Int.reduceLE Int.reduceLT Int.reduceToNat Nat.reduceLeDiff
attribute [local go_sem] Int.toNat_natCast Bool.not_true Bool.not_false
open Go Go.Am
attribute [local congr] Za Z6 Z7
attribute [local go_sem] Go.Am.frozen Go.Am.freezeG Go.Am.freezeGs
variable {E : AV}
def mulR (f r : Rg) : Rg := ⟨wrapF .i64 (f.lo * r.lo), wrapF .i64 (f.hi * r.hi)⟩
theorem Z83 (x y : Int) (a : Nat) (r : Rg) (c2 c5 M : Nat) (es : List (Int × Rg)) (cs : List AV) (F : List Rg) (K : Nat) (H : Heap) (n : Nat) (hy : y = a) (ha : a < F.length) (h2 : hget H [c2] = some (.cells [.ptr [0] 0] true 0)) (h5 : hget H [c5] = some (.cells [.map [M]] true 0)) (hM : hget H [M] = some (.map (encE es) false)) (h0 : hget H [0] = some (.cells cs true 0)) (hcs : nth cs 5 = some (.slice [1] 0 F.length F.length false)) (h1 : hget H [1] = some (rgB F)) (l2 : c2 < n) (l5 : c5 < n) (lM : M < n) (l1 : 1 < n) (nM0 : M ≠ 0) (nM1 : M ≠ 1) (nM2 : M ≠ c2) (nM5 : M ≠ c5) :
  ∃ H' n', acall cfg (K + 2) 180 [.int .i64 x, .int .i64 y, rgV r, .ptr [c2] 0, .ptr [c5] 0] ⟨H, n, [], false, []⟩ = .ret (.tuple [], ⟨H', n', [], false, []⟩) /\ n <= n' /\ hget H' [M] = some (.map (encE (setS es x (plusR (getS es x) (mulR F[a] r)))) false) /\ (∀ k, k < n -> k ≠ M -> hget H' [k] = hget H [k]) /\ ∀ k a b, hget H' [k, a, b] = hget H [k, a, b] := by
 suffices h : (acall cfg (K + 2) 180 [.int .i64 x, .int .i64 y, rgV r, .ptr [c2] 0, .ptr [c5] 0] ⟨H, n, [], false, []⟩).Does fun q => ∃ H' n', q = (.tuple [], ⟨H', n', [], false, []⟩) /\ n <= n' /\ hget H' [M] = some (.map (encE (setS es x (plusR (getS es x) (mulR F[a] r)))) false) /\ (∀ k, k < n -> k ≠ M -> hget H' [k] = hget H [k]) /\ ∀ k a b, hget H' [k, a, b] = hget H [k, a, b] by
  obtain ⟨q, e, H', n', rfl, h⟩ := h
  exact ⟨H', n', e, h⟩
 subst hy
 rw [Z4n Zji Zjh]
 refine Z9 rfl fun T hT' hA => ?_
 have a0 := hA 0 _ rfl
 have a1 := hA 1 _ rfl
 have a2 := hA 2 _ rfl
 have a3 := hA 3 _ rfl
 have a4 := hA 4 _ rfl
 have hT : T.length = 34 := hT'
 clear hA hT'
 have f0 := Xf F ha
 have f1 := Xg F ha
 have hin : inR (a : Int) F.length = some a := Jr ha
 generalize F[a] = f at *
 unfold rgB at h1
 have k2 : ∀ X, hget (([n], X) :: H) [c2] = hget H [c2] := fun X => hc11 (by omega)
 have k0 : ∀ X, hget (([n], X) :: H) [0] = hget H [0] := fun X => hc11 (by omega)
 have k1 : ∀ X, hget (([n], X) :: H) [1] = hget H [1] := fun X => hc11 (by omega)
 have e2 : ∀ X Y, hget (([n + 1], Y) :: ([n], X) :: H) [c5] = hget H [c5] := fun X Y => (hc11 (by omega)).trans (hc11 (by omega))
 have e3 : ∀ X Y, hget (([n + 1], Y) :: ([n], X) :: H) [M] = hget H [M] := fun X Y => (hc11 (by omega)).trans (hc11 (by omega))
 have e4 : ∀ X Y, hget (([n + 1], Y) :: ([n], X) :: H) [n] = some X := fun X Y => (hc11 (by omega)).trans (Z2 ..)
 have e5 : ∀ X Y, hget (([n + 1], Y) :: ([n], X) :: H) [n + 1] = some Y := fun X Y => Z2 ..
 have hlk := fun (s : St) (hg : hget s.H [M] = some (.map (encE es) false)) => Zah (C := cfg.at 180) rfl (k := x) hg
 have hup := fun (s : St) (hg : hget s.H [M] = some (.map (encE es) false)) => Zjm (C := cfg.at 180) rfl (k := x) (x := plusR (getS es x) (mulR f r)) hg
 have hpl := fun s => Z1n (getS es x) (mulR f r) K s
 generalize hE : setS es x (plusR (getS es x) (mulR f r)) = es2 at *
 generalize plusR (getS es x) (mulR f r) = pp at *
 simp only [rgV, mulR] at hlk hup hpl
 simp -implicitDefEqProofs only [go_sem, a1, a2, a3, hT, k2, h2, k0, h0, hcs, hin, k1, h1, f0, f1]
 have ip : isPre [n + 1 + 1, 17] [M] = false := Go.Am.Yc _ _ (by omega)
 try simp only [Z3]
 refine Zc [[], [], [], [], [2, 3], [], [5], [], [7], [6, 5, 8, 7], [], [10], [], [12], [11, 10, 13, 12], [9, 6, 5, 8, 7, 14, 11, 10, 13, 12], [4, 2, 3, 15, 9, 6, 5, 8, 7, 14, 11, 10, 13, 12], [0, 1, 16, 4, 2, 3, 15, 9, 6, 5, 8, 7, 14, 11, 10, 13, 12]] [[], [], [], [], [], [], [], [], [], [], [], [], [], [], [], [], [], [[M]]] (by kernel_rfl) rfl rfl ?_
 simp -implicitDefEqProofs only [go_sem, Option.getD_some, a0, a4, hT, e2, e3, e4, e5, h5, hM, hlk, hup, hpl, ip, Zb, Try.results180]
 refine ⟨_, _, rfl, by omega, ?_, fun k hk hne => ?_, fun k a b => ?_⟩
 ·simp (disch := omega) only [hc11, Z0, Zd, Option.getD_some]
 ·simp (disch := omega) only [hc11, Z0, lkn, lk11, Option.getD_none]
 ·simp (disch := omega) only [hc13, Z0, lkn, lk13, Option.getD_none]
end Go.Proofs.Ytgnpnfkncbnjnaa
namespace Go.Proofs.Ytgnpnfkncbnjnaa
attribute [local go_sem_proc] Int.reduceEq Int.reduceNeg Nat.reduceEqDiff Nat.reduceLT Nat.reduceAdd Nat.reduceSub Nat.reduceMul Int.reduceLE Int.reduceLT Int.reduceToNat Nat.reduceLeDiff
attribute [local go_sem] Int.toNat_natCast Bool.not_true Bool.not_false
open Go Go.Am
attribute [local congr] Za Z6 Z7
attribute [local go_sem] Go.Am.frozen Go.Am.freezeG Go.Am.freezeGs
variable {E : AV}
def atR (F : List Rg) (a : Int) : Rg := F[a.toNat]?.getD ⟨0, 0⟩
theorem Z4a (F : List Rg) {a : Nat} (h : a < F.length) : atR F a = F[a] := by
 unfold atR; rw [Int.toNat_natCast, List.getElem?_eq_getElem h]; rfl
def begR (v : Vac) (shut : List Int) (F : List Rg) (i : Int) : Rg := mulR (atR F i) ⟨wrapF .i64 (1000000 - (outR v i shut).hi), wrapF .i64 (1000000 - (outR v i shut).lo)⟩
def flowS (F : List Rg) (shut : List Int) (x : Int) : Nat -> Rg -> List Pip -> Rg
 | _, acc, [] => acc
 | k, acc, p :: r => if (k : Int) ∈ shut then flowS F shut x (k + 1) acc r else
  flowS F shut x (k + 1) (if x = p.a then plusR (if x = p.b then plusR acc (mulR (atR F p.a) p.out) else acc) (mulR (atR F p.b) p.back) else (if x = p.b then plusR acc (mulR (atR F p.a) p.out) else acc)) r
def quoR (r : Rg) : Rg := ⟨wrapF .i64 (r.lo.tdiv 1000000), wrapF .i64 ((wrapF .i64 (wrapF .i64 (r.hi + 1000000) - 1)).tdiv 1000000)⟩
def flowG (v : Vac) (shut : List Int) (F : List Rg) : List Rg := (List.range F.length).map fun (i : Nat) => quoR (flowS F shut i 0 (begR v shut F i) v.pipes)
def leakR : List Rg -> List Inl -> List Rg
 | R, [] => R
 | R, l :: r => leakR (R.set l.at'.toNat (plusR (atR R l.at') l.gas)) r
theorem Z4b : ∀ (l : List Inl) (R : List Rg), (leakR R l).length = R.length
 | [], _ => rfl
 | x :: l, R => by unfold leakR; rw [Z4b l]; simp
theorem Jb (v : Vac) (shut : List Int) (F : List Rg) : (flowG v shut F).length = F.length := by simp [flowG]
def flowT (v : Vac) (g : Gs) (s : Bk) : Gs := ⟨leakR (flowG v s.shut g.free) v.leaks, g.bound, g.room, g.most, g.flashed⟩
structure Fl (E : AV) (m : Nat) (v : Vac) (g : Gs) (s : Bk) (H : Heap) : Prop where
 p : hget H [m + 3] = some (.cells [.ptr [0] 0] true 0)
 k : hget H [m + 4] = some (.cells [.int .i64 s.ticks, .int .i64 s.heat, .lst (s.shut.map iV), .bool s.flash] true 0)
 c : hget H [m + 7] = some (.cells [.map [m + 6]] true 0)
 l : hget H [m + 5, 6, 0] = some (.map (encE (leaveL v s.shut)) false)
 s : SysAt E H [0] [1] [2] [3] v g
theorem Fl.of {m : Nat} {v : Vac} {g : Gs} {s : Bk} {H H' : Heap} (h : Fl E m v g s H) (e : ∀ k, k < m + 8 -> k ≠ m + 6 -> hget H' [k] = hget H [k]) (e2 : hget H' [m + 5, 6, 0] = hget H [m + 5, 6, 0]) (hm : g.room ≠ [] -> 1 <= m) (h3 : 3 <= m + 3) : Fl E m v g s H' :=
 ⟨(e _ (by omega) (by omega)).trans h.p, (e _ (by omega) (by omega)).trans h.k, (e _ (by omega) (by omega)).trans h.c, e2.trans h.l,
  ⟨(e 0 (by omega) (by omega)).trans h.s.x, (e 1 (by omega) (by omega)).trans h.s.f, (e 2 (by omega) (by omega)).trans h.s.b, fun q => (e 3 (by omega) (by omega)).trans (h.s.r q)⟩⟩
theorem Ze1 [hE : Emp E] {K : Nat} {X f b r : Nm} {v : Vac} {g : Gs} {s : Bk} {H : Heap} {n : Nat} {p : Nm} {j : Delta} (h : SysAt E H X f b r v g) (ha : Apart X f b r) (h1 : g.free ≠ []) (h2 : g.bound ≠ []) (hl1 : g.free.length = v.vessels.length) (hK : v.vessels.length + 100 < K) (hl : v.vessels.length <= 1000000) (hv : v.Lens K) (hsh : s.shut.length < K) (hsh2 : s.shut.length <= 9223372036854775807)
  (hpp : ∀ q ∈ v.pipes, (0 <= q.a /\ q.a < v.vessels.length) /\ 0 <= q.b /\ q.b < v.vessels.length) (hll : ∀ q ∈ v.leaks, 0 <= q.at' /\ q.at' < v.vessels.length) :
  acall cfg (K + 4) 149 [.ptr X 0, bkV s] ⟨H, n, p, false, j⟩ = .ret (.tuple [], ⟨sysPut E X f b r v (flowT v g s) H, n, p, false, j⟩) := by
 refine Z0p Ziq Zip h ha h1 h2 (by show (leakR _ _).length = _; rw [Z4b, Jb]) rfl rfl fun H0 m hs hm => ?_
 refine Z9 rfl fun T hT' hA => ?_
 have a0 := hA 0 _ rfl
 have a1 := hA 1 _ rfl
 have hT : T.length = 148 := hT'
 clear hA hT'
 have g0 := hs.x
 unfold sysB at g0
 have q0 : ∀ X Y, hget (([m + 4], X) :: ([m + 3], Y) :: H0) [0] = hget H0 [0] := fun X Y => (hc11 (by omega)).trans (hc11 (by omega))
 have q3 : ∀ X Y, hget (([m + 4], X) :: ([m + 3], Y) :: H0) [m + 3] = some Y := fun X Y => (hc11 (by omega)).trans (Z2 ..)
 have q4 : ∀ X Y, hget (([m + 4], X) :: ([m + 3], Y) :: H0) [m + 4] = some X := fun X Y => Z2 ..
 have u1 : (m + 4 = m) = False := eq_false (by omega)
 have u2 : (m + 3 = m) = False := eq_false (by omega)
 have hlv := fun s' => Z2n v s.shut K s' hv hsh hsh2
 simp only [vacV] at hlv
 simp -implicitDefEqProofs only [go_sem, a0, a1]
 try simp only [Z3]
 refine Zc [[], [0], [1, 0], [2, 1, 0], [], [4], [3, 2, 1, 0, 5, 4], [6, 3, 2, 1, 0, 5, 4]] [[], [], [], [], [], [], [], []] (by kernel_rfl) rfl rfl ?_
 simp -implicitDefEqProofs only [go_sem, Z0, lkn, lk31, Option.getD_some, Option.getD_none, hT, g0, q0, q3, q4, hlv, u1, u2, Zb]
 have hF1 : ∀ B1 : Blk, Fl E m v g s (([m + 7], .cells [.map [m + 6]] true 0) :: ([m + 6], B1) :: redoH (([m + 4], .cells [.int .i64 s.ticks, .int .i64 s.heat, .lst (s.shut.map iV), .bool s.flash] true 0) :: ([m + 3], .cells [.ptr [0] 0] true 0) :: H0) [([m + 5, 6, 0], some (.map (encE (leaveL v s.shut)) false))]) := fun B1 =>
  ⟨by simp (disch := omega) only [Z2, hc11, Z0, lkn, lk31, Option.getD_none], by simp (disch := omega) only [Z2, hc11, Z0, lkn, lk31, Option.getD_none], Z2 .., by simp (disch := omega) only [hc13, Z0, Zd, Option.getD_some], ⟨by simp (disch := omega) only [hc11, Z0, lkn, lk31, Option.getD_none]; exact hs.x, by simp (disch := omega) only [hc11, Z0, lkn, lk31, Option.getD_none]; exact hs.f, by simp (disch := omega) only [hc11, Z0, lkn, lk31, Option.getD_none]; exact hs.b, fun e => by have := hm e; simp (disch := omega) only [hc11, Z0, lkn, lk31, Option.getD_none]; exact hs.r e⟩⟩
 simp only [Z3]
 refine Tr.Does.mono (Q := fun x => ∃ (T' : List AV) (m' : Nat) (H' : Heap) (es : List (Int × Rg)), x = ((AExit.exit 0, T'), (⟨H', m' + 8, [], false, []⟩ : St)) /\ m <= m' /\ T'.length = 148 /\ nth T' 2 = some (.ptr [m + 3] 0) /\ nth T' 3 = some (.ptr [m + 4] 0) /\ nth T' 5 = some (.ptr [m + 7] 0) /\ Fl E m v g s H' /\ hget H' [m + 6] = some (.map (encE es) false) /\ ∀ q : Nat, q < g.free.length -> getS es q = begR v s.shut g.free q) ?_ ?_
 ·refine Zj (fun k T s' => T.length = 148 /\ nth T 2 = some (.ptr [m + 3] 0) /\ nth T 3 = some (.ptr [m + 4] 0) /\ nth T 4 = some (.map [m + 5, 6, 0]) /\ nth T 5 = some (.ptr [m + 7] 0) /\ nth T 26 = some (.slice [1] 0 g.free.length g.free.length false) /\ nth T 27 = some (.int .i64 g.free.length) /\ ∃ (i m' : Nat) (H' : Heap) (es : List (Int × Rg)), nth T 28 = some (.int .i64 i) /\ i <= g.free.length /\ k = g.free.length - i /\ s' = ⟨H', m' + 8, [], false, []⟩ /\ m <= m' /\ Fl E m v g s H' /\ hget H' [m + 6] = some (.map (encE es) false) /\ ∀ q : Nat, q < i -> getS es q = begR v s.shut g.free q) (k := g.free.length) (by omega) ?_ ?_
  ·exact ⟨by simp -implicitDefEqProofs only [go_sem, hT], by simp -implicitDefEqProofs only [go_sem, hT], by simp -implicitDefEqProofs only [go_sem, hT], by simp -implicitDefEqProofs only [go_sem, hT], by simp -implicitDefEqProofs only [go_sem, hT], by simp -implicitDefEqProofs only [go_sem, hT], by simp -implicitDefEqProofs only [go_sem, hT], 0, m, _, [], by simp -implicitDefEqProofs only [go_sem, hT] <;> rfl, by omega, rfl, rfl, Nat.le_refl _, hF1 _, by simp (disch := omega) only [Z2, hc11]; rfl, fun q hq => absurd hq (by omega)⟩
  clear a0 a1 hT T g0 q0 q3 q4 hs H0 hF1
  rintro k T s' ⟨hT, a2, a3, a4, a5, a26, a27, i, m', H0, es, a28, hi, rfl, rfl, hmm, hF, hM, hq⟩
  simp -implicitDefEqProofs only [go_sem, a27, a28, hT]
  by_cases hil : (i : Int) < (g.free.length : Int)
  ·have hi' : i < g.free.length := by omega
   have hkk : g.free.length - (i + 1) < g.free.length - i := by omega
   have f0 := Xf g.free hi'
   have f1 := Xg g.free hi'
   have hin : inR (i : Int) g.free.length = some i := Jr hi'
   have hbg : begR v s.shut g.free i = mulR g.free[i] ⟨wrapF .i64 (1000000 - (outR v i s.shut).hi), wrapF .i64 (1000000 - (outR v i s.shut).lo)⟩ := by unfold begR; rw [Z4a _ hi']
   generalize g.free[i] = fi at *
   have x1 := hF.s.f
   unfold rgB at x1
   have hc := hF.c
   have hlL := hF.l
   have z1 : (m' + 1 = m) = False := eq_false (by omega)
   have z2 : (m' + 2 = m) = False := eq_false (by omega)
   have z4 : (m' + 4 = m) = False := eq_false (by omega)
   have z5 : (m' + 5 = m) = False := eq_false (by omega)
   have hlk := fun (st : St) (hg : hget st.H [m + 5, 6, 0] = some (.map (encE (leaveL v s.shut)) false)) => Zah (C := cfg.at 149) rfl (k := (i : Int)) hg
   rw [Z44] at hlk
   have hup := fun (st : St) (hg : hget st.H [m + 6] = some (.map (encE es) false)) => Zjm (C := cfg.at 149) rfl (k := (i : Int)) (x := begR v s.shut g.free i) hg
   have hes : ∀ q : Nat, q < i + 1 -> getS (setS es i (begR v s.shut g.free i)) q = begR v s.shut g.free q := fun q hq2 => by
    rw [Jn]
    by_cases e : (q : Int) = i
    ·rw [if_pos e, e]
    ·rw [if_neg e]; exact hq q (by omega)
   rw [hbg] at hup
   have hw1 : wrapF .i64 ((i : Int) + 1) = ((i + 1 : Nat) : Int) := Z5 (by omega) (by omega)
   simp only [rgV, mulR] at hlk hup
   simp -implicitDefEqProofs only [go_sem, a2, a3, a4, a5, a26, a27, a28, hT, hil, hin, x1, f0, f1, hc, hM, hlL, z1, z2, hlk, hup, hw1]
   exact ⟨g.free.length - (i + 1), hkk, trivial, trivial, trivial, trivial, trivial, trivial, trivial, i + 1, m' + 1, _, setS es i (begR v s.shut g.free i), rfl, hi', rfl, rfl, by omega, hF.of (fun k hk hne => (hc11 (by omega)).trans (hs11 (by omega))) (hc13.trans hs13) hm (by omega), (hc11 (by omega)).trans (by rw [hbg]; exact hss hM), hes⟩
  ·have hie : i = g.free.length := by omega
   subst hie
   simp -implicitDefEqProofs only [go_sem, hil]
   exact ⟨_, m', H0, es, rfl, hmm, by simp -implicitDefEqProofs only [go_sem, hT], by simp -implicitDefEqProofs only [go_sem, a2], by simp -implicitDefEqProofs only [go_sem, a3], by simp -implicitDefEqProofs only [go_sem, a5], hF, hM, hq⟩
 clear a0 a1 hT T g0 q0 q3 q4 hs H0 hF1
 rintro _ ⟨T, m', H0, es, rfl, hmm, hT, a2, a3, a5, hF, hM, hq⟩
 have x0 := hF.s.x
 have hp := hF.p
 have hpc := hF.c
 unfold sysB at x0
 simp -implicitDefEqProofs only [go_sem, a2, a5, hT, hp, x0]
 simp only [Z3]
 refine Tr.Does.mono (Q := fun x => ∃ (T' : List AV) (m' : Nat) (H' : Heap) (es : List (Int × Rg)), x = ((AExit.exit 2, T'), (⟨H', m' + 8, [], false, []⟩ : St)) /\ m <= m' /\ T'.length = 148 /\ nth T' 2 = some (.ptr [m + 3] 0) /\ nth T' 5 = some (.ptr [m + 7] 0) /\ Fl E m v g s H' /\ hget H' [m + 6] = some (.map (encE es) false) /\ ∀ q : Nat, q < g.free.length -> getS es q = flowS g.free s.shut q 0 (begR v s.shut g.free q) v.pipes) ?_ ?_
 ·refine Zj (fun k T s' => T.length = 148 /\ nth T 2 = some (.ptr [m + 3] 0) /\ nth T 3 = some (.ptr [m + 4] 0) /\ nth T 5 = some (.ptr [m + 7] 0) /\ nth T 8 = some (.func 180 [.ptr [m + 3] 0, .ptr [m + 7] 0]) /\ nth T 58 = some (.lst (v.pipes.map pipV)) /\ nth T 59 = some (.int .i64 v.pipes.length) /\ ∃ (i m' : Nat) (H' : Heap) (es : List (Int × Rg)), nth T 60 = some (.int .i64 i) /\ i <= v.pipes.length /\ k = v.pipes.length - i /\ s' = ⟨H', m' + 8, [], false, []⟩ /\ m <= m' /\ Fl E m v g s H' /\ hget H' [m + 6] = some (.map (encE es) false) /\ ∀ q : Nat, q < g.free.length -> flowS g.free s.shut q 0 (begR v s.shut g.free q) v.pipes = flowS g.free s.shut q i (getS es q) (v.pipes.drop i)) (k := v.pipes.length) (by have := hv.pip.1; omega) ?_ ?_
  ·exact ⟨by simp -implicitDefEqProofs only [go_sem, hT], by simp -implicitDefEqProofs only [go_sem, a2], by simp -implicitDefEqProofs only [go_sem, a3], by simp -implicitDefEqProofs only [go_sem, a5], by simp -implicitDefEqProofs only [go_sem, hT], by simp -implicitDefEqProofs only [go_sem, hT], by simp -implicitDefEqProofs only [go_sem, hT], 0, m', _, es, by simp -implicitDefEqProofs only [go_sem, hT] <;> rfl, by omega, rfl, rfl, hmm, hF, hM, fun q hq2 => by rw [hq q hq2]; rfl⟩
  clear a2 a3 a5 hT T x0 hp hpc hF hM hq H0 hmm
  rintro k T s' ⟨hT, a2, a3, a5, a8, a58, a59, i, m', H0, es, a60, hi, rfl, rfl, hmm, hF, hM, hq⟩
  simp -implicitDefEqProofs only [go_sem, a59, a60, hT]
  by_cases hil : (i : Int) < (v.pipes.length : Int)
  ·have hi' : i < v.pipes.length := by omega
   have e1 := Zh (f := pipV) (l := v.pipes) (i := i) (z := 6) hi' rfl
   have hkk : v.pipes.length - (i + 1) < v.pipes.length - i := by omega
   have hpx := hpp _ (List.getElem_mem hi')
   rw [List.drop_eq_getElem_cons hi'] at hq
   generalize v.pipes[i] = x at *
   simp only [flowS] at hq
   have hkc := hF.k
   have z4 : (m' + 4 = m) = False := eq_false (by omega)
   have z1 : (m' + 1 = m) = False := eq_false (by omega)
   have hco := fun st => Z1q s.shut i (K + 1) st (by omega) hsh2
   simp only [pipV] at e1
   have hw1 : wrapF .i64 ((i : Int) + 1) = ((i + 1 : Nat) : Int) := Z5 (by have := hv.pip.2; omega) (by have := hv.pip.2; omega)
   simp -implicitDefEqProofs only [go_sem, a3, a58, a60, hT, hil, e1, hkc, z4, hco]
   by_cases hin : (i : Int) ∈ s.shut
   ·simp only [if_pos hin] at hq
    simp -implicitDefEqProofs only [go_sem, a2, a3, a5, a8, a58, a59, a60, hT, hin, hw1]
    exact ⟨v.pipes.length - (i + 1), hkk, trivial, trivial, trivial, trivial, trivial, trivial, trivial, i + 1, m' + 1, _, es, rfl, hi', rfl, rfl, by omega, hF.of (fun k hk hne => hc11 (by omega)) hc13 hm (by omega), (hc11 (by omega)).trans hM, hq⟩
   ·simp only [if_neg hin] at hq
    obtain ⟨pa, hpa⟩ : ∃ q : Nat, x.a = q := ⟨x.a.toNat, by omega⟩
    obtain ⟨pb, hpb⟩ : ∃ q : Nat, x.b = q := ⟨x.b.toNat, by omega⟩
    have ha' : pa < g.free.length := by omega
    have hb' : pb < g.free.length := by omega
    have hF1 := hF.of (H' := ([m' + 8], .cells [.int .i64 x.a, .int .i64 x.b, .int .i64 x.out.lo, .int .i64 x.out.hi, .int .i64 x.back.lo, .int .i64 x.back.hi] true 0) :: H0) (fun k hk hne => hc11 (by omega)) hc13 hm (by omega)
    have hM1 : hget (([m' + 8], .cells [.int .i64 x.a, .int .i64 x.b, .int .i64 x.out.lo, .int .i64 x.out.hi, .int .i64 x.back.lo, .int .i64 x.back.hi] true 0) :: H0) [m + 6] = some (.map (encE es) false) := (hc11 (by omega)).trans hM
    have hx1 := hF1.s.x
    unfold sysB at hx1
    obtain ⟨H2, n2, hca, hn2, hM2, hfr, hfr3⟩ := Z83 x.b x.a pa x.out (m + 3) (m + 7) (m + 6) es _ g.free (K + 1) _ (m' + 9) hpa ha' hF1.p hF1.c hM1 hx1 rfl hF1.s.f (by omega) (by omega) (by omega) (by omega) (by omega) (by omega) (by omega) (by omega)
    have hF2 := hF1.of (H' := H2) (fun k hk hne => hfr k (by omega) hne) (hfr3 _ _ _) hm (by omega)
    have hP2 : hget H2 [m' + 8] = some (.cells [.int .i64 x.a, .int .i64 x.b, .int .i64 x.out.lo, .int .i64 x.out.hi, .int .i64 x.back.lo, .int .i64 x.back.hi] true 0) := (hfr _ (by omega) (by omega)).trans (Z2 ..)
    have hx2 := hF2.s.x
    unfold sysB at hx2
    obtain ⟨H3, n3, hcb, hn3, hM3, hfr', hfr3'⟩ := Z83 x.a x.b pb x.back (m + 3) (m + 7) (m + 6) _ _ g.free (K + 1) H2 n2 hpb hb' hF2.p hF2.c hM2 hx2 rfl hF2.s.f (by omega) (by omega) (by omega) (by omega) (by omega) (by omega) (by omega) (by omega)
    have hF3 := hF2.of (H' := H3) (fun k hk hne => hfr' k (by omega) hne) (hfr3' _ _ _) hm (by omega)
    obtain ⟨m3, rfl⟩ : ∃ q, n3 = q + 8 := ⟨n3 - 8, by omega⟩
    have hq2 : ∀ q : Nat, q < g.free.length -> flowS g.free s.shut q 0 (begR v s.shut g.free q) v.pipes = flowS g.free s.shut q (i + 1) (getS (setS (setS es x.b (plusR (getS es x.b) (mulR g.free[pa] x.out))) x.a (plusR (getS (setS es x.b (plusR (getS es x.b) (mulR g.free[pa] x.out))) x.a) (mulR g.free[pb] x.back))) q) (v.pipes.drop (i + 1)) := fun q hq2 => by
     rw [hq q hq2, Jn, hpa, hpb, Z4a _ ha', Z4a _ hb']
     by_cases e1 : (q : Int) = (pa : Int)
     ·rw [if_pos e1, if_pos e1, Jn, e1]
      by_cases e2 : (pa : Int) = (pb : Int)
      ·rw [if_pos e2, if_pos e2, e2]
      ·rw [if_neg e2, if_neg e2]
     ·rw [if_neg e1, if_neg e1, Jn]
      by_cases e2 : (q : Int) = (pb : Int)
      ·rw [if_pos e2, if_pos e2, e2]
      ·rw [if_neg e2, if_neg e2]
    simp only [rgV] at hca hcb
    clear hfr hfr' hfr3 hfr3' hx1 hx2 hF1 hF2 hM1 hM2 hq
    simp -implicitDefEqProofs only [go_sem, a2, a3, a5, a8, a58, a59, a60, hT, hin, hca, hP2, hcb, hw1]
    exact ⟨v.pipes.length - (i + 1), hkk, trivial, trivial, trivial, trivial, trivial, trivial, trivial, i + 1, m3, H3, _, rfl, hi', rfl, rfl, by omega, hF3, hM3, hq2⟩
  ·have hie : i = v.pipes.length := by omega
   subst hie
   rw [List.drop_length] at hq
   simp -implicitDefEqProofs only [go_sem, hil]
   exact ⟨_, m', H0, es, rfl, hmm, by simp -implicitDefEqProofs only [go_sem, hT], by simp -implicitDefEqProofs only [go_sem, a2], by simp -implicitDefEqProofs only [go_sem, a5], hF, hM, fun q hq2 => by rw [hq q hq2]; rfl⟩
 rintro _ ⟨T, m', H0, es, rfl, hmm, hT, a2, a5, hF, hM, hq⟩
 have x0 := hF.s.x
 have hp := hF.p
 unfold sysB at x0
 simp -implicitDefEqProofs only [go_sem, a2, hT, hp, x0]
 simp only [Z3]
 refine Tr.Does.mono (Q := fun x => ∃ (T' : List AV) (m' : Nat) (H' : Heap), x = ((AExit.exit 4, T'), (⟨H', m' + 8, [], false, []⟩ : St)) /\ m <= m' /\ T'.length = 148 /\ nth T' 2 = some (.ptr [m + 3] 0) /\ hget H' [m + 3] = some (.cells [.ptr [0] 0] true 0) /\ SysAt E H' [0] [1] [2] [3] v ⟨flowG v s.shut g.free, g.bound, g.room, g.most, g.flashed⟩) ?_ ?_
 ·have hGl := Jb v s.shut g.free
  refine Zj (fun k T s' => T.length = 148 /\ nth T 2 = some (.ptr [m + 3] 0) /\ nth T 5 = some (.ptr [m + 7] 0) /\ nth T 91 = some (.slice [1] 0 g.free.length g.free.length false) /\ nth T 92 = some (.int .i64 g.free.length) /\ ∃ (i m' : Nat) (H' : Heap), nth T 93 = some (.int .i64 i) /\ i <= g.free.length /\ k = g.free.length - i /\ s' = ⟨H', m' + 8, [], false, []⟩ /\ m <= m' /\ hget H' [m + 3] = some (.cells [.ptr [0] 0] true 0) /\ hget H' [m + 7] = some (.cells [.map [m + 6]] true 0) /\ hget H' [m + 6] = some (.map (encE es) false) /\ SysAt E H' [0] [1] [2] [3] v ⟨(flowG v s.shut g.free).take i ++ g.free.drop i, g.bound, g.room, g.most, g.flashed⟩) (k := g.free.length) (by omega) ?_ ?_
  ·exact ⟨by simp -implicitDefEqProofs only [go_sem, hT], by simp -implicitDefEqProofs only [go_sem, a2], by simp -implicitDefEqProofs only [go_sem, a5], by simp -implicitDefEqProofs only [go_sem, hT], by simp -implicitDefEqProofs only [go_sem, hT], 0, m', _, by simp -implicitDefEqProofs only [go_sem, hT] <;> rfl, by omega, rfl, rfl, hmm, hF.p, hF.c, hM, hF.s⟩
  clear a2 a5 hT T x0 hp hF hM hmm H0
  rintro k T s' ⟨hT, a2, a5, a91, a92, i, m', H0, a93, hi, rfl, rfl, hmm, hp, hc, hM, hs⟩
  simp -implicitDefEqProofs only [go_sem, a92, a93, hT]
  by_cases hil : (i : Int) < (g.free.length : Int)
  ·have hi' : i < g.free.length := by omega
   have hkk : g.free.length - (i + 1) < g.free.length - i := by omega
   obtain ⟨F, hF, lF, f0, f1, fw⟩ := Z9k (G := flowG v s.shut g.free) (F := g.free) hGl hi' (quoR (getS es i)) (fun h0 => by rw [hq i hi']; simp [flowG])
   rw [<- hF] at hs
   clear hF
   generalize hF' : (flowG v s.shut g.free).take (i + 1) ++ g.free.drop (i + 1) = F' at fw
   have lF' : F'.length = F.length := by rw [<- hF', Z6o hGl, lF]
   have x0 := hs.x
   have x1 := hs.f
   have x2 := hs.b
   have x3 := hs.r
   have y0 : hget H0 [0] = some (sysB E v [1] [2] [3] ⟨F', g.bound, g.room, g.most, g.flashed⟩) := x0.trans (congrArg some (Z2f lF'.symm rfl rfl rfl rfl))
   unfold sysB at x0
   unfold rgB at x1
   simp only at x0 x1 x2 x3
   have hin : inR (i : Int) F.length = some i := Jr (by omega)
   have hlk := fun (st : St) (hg : hget st.H [m + 6] = some (.map (encE es) false)) => Zah (C := cfg.at 149) rfl (k := (i : Int)) hg
   have hw1 : wrapF .i64 ((i : Int) + 1) = ((i + 1 : Nat) : Int) := Z5 (by omega) (by omega)
   generalize getS es i = q at *
   simp only [rgV] at hlk
   simp only [quoR] at fw
   simp -implicitDefEqProofs only [go_sem, a93, hT, hil]
   try simp only [Z3]
   refine Zc [[], [0], [1, 0], [2, 1, 0], [3, 2, 1, 0], [], [], [], [6, 7], [8, 6, 7], [9, 8, 6, 7], [], [], [11, 12], [13, 11, 12], [14, 13, 11, 12], [15, 14, 13, 11, 12], [16, 15, 14, 13, 11, 12], [10, 9, 8, 6, 7, 17, 16, 15, 14, 13, 11, 12], [4, 3, 2, 1, 0, 5, 18, 10, 9, 8, 6, 7, 17, 16, 15, 14, 13, 11, 12], [19, 4, 3, 2, 1, 0, 5, 18, 10, 9, 8, 6, 7, 17, 16, 15, 14, 13, 11, 12]] [[], [], [], [], [], [], [], [], [], [], [], [], [], [], [], [], [], [], [], [], [[1]]] (by kernel_rfl) rfl rfl ?_
   simp -implicitDefEqProofs only [go_sem, Option.getD_some, a2, a5, a91, a92, a93, hT, hp, hc, hM, x0, x1, hin, f0, f1, hlk, Jq, fw, hw1, Zb]
   refine ⟨g.free.length - (i + 1), hkk, trivial, trivial, trivial, trivial, trivial, i + 1, m' + 1, _, rfl, hi', rfl, rfl, by omega, ?_, ?_, ?_, ?_⟩
   all_goals clear hw1
   ·simp (disch := omega) only [Z0, lkn, lk11, Option.getD_none, hp]
   ·simp (disch := omega) only [Z0, lkn, lk11, Option.getD_none, hc]
   ·simp (disch := omega) only [Z0, lkn, lk11, Option.getD_none, hM]
   ·rw [hF']
    refine ⟨?_, ?_, ?_, fun e => ?_⟩
    ·simp (disch := omega) only [Z0, lkn, lk11, Option.getD_none]; exact y0
    ·simp (disch := omega) only [Z0, Zd, Option.getD_some]; rfl
    ·simp (disch := omega) only [Z0, lkn, lk11, Option.getD_none]; exact x2
    ·have := hm e
     simp (disch := omega) only [Z0, lkn, lk11, Option.getD_none]; exact x3 e
  ·have hie : i = g.free.length := by omega
   subst hie
   have e1 : (flowG v s.shut g.free).take g.free.length ++ g.free.drop g.free.length = flowG v s.shut g.free := by
    rw [List.drop_of_length_le (Nat.le_refl _), List.append_nil, List.take_of_length_le (by omega)]
   rw [e1] at hs
   simp -implicitDefEqProofs only [go_sem, hil]
   exact ⟨_, m', H0, rfl, hmm, by simp -implicitDefEqProofs only [go_sem, hT], by simp -implicitDefEqProofs only [go_sem, a2], hp, hs⟩
 clear a2 a5 hT T x0 hp hF hM hmm H0 hq es m'
 rintro _ ⟨T, m', H0, rfl, hmm, hT, a2, hp, hs⟩
 have x0 := hs.x
 unfold sysB at x0
 have hGl := Jb v s.shut g.free
 unfold flowT
 generalize flowG v s.shut g.free = G at *
 simp -implicitDefEqProofs only [go_sem, a2, hT, hp, x0]
 simp only [Z3]
 refine Zj (fun k T s' => T.length = 148 /\ nth T 2 = some (.ptr [m + 3] 0) /\ nth T 121 = some (.lst (v.leaks.map inlV)) /\ nth T 122 = some (.int .i64 v.leaks.length) /\ ∃ (i m' : Nat) (H' : Heap) (F : List Rg), nth T 123 = some (.int .i64 i) /\ i <= v.leaks.length /\ k = v.leaks.length - i /\ s' = ⟨H', m' + 8, [], false, []⟩ /\ m <= m' /\ hget H' [m + 3] = some (.cells [.ptr [0] 0] true 0) /\ SysAt E H' [0] [1] [2] [3] v ⟨F, g.bound, g.room, g.most, g.flashed⟩ /\ F.length = G.length /\ leakR G v.leaks = leakR F (v.leaks.drop i)) (k := v.leaks.length) (by have := hv.inl.1; omega) ?_ ?_
 ·exact ⟨by simp -implicitDefEqProofs only [go_sem, hT], by simp -implicitDefEqProofs only [go_sem, a2], by simp -implicitDefEqProofs only [go_sem, hT], by simp -implicitDefEqProofs only [go_sem, hT], 0, m', H0, G, by simp -implicitDefEqProofs only [go_sem, hT] <;> rfl, by omega, rfl, rfl, hmm, hp, hs, rfl, rfl⟩
 clear a2 hT T x0 hp hs hmm H0
 rintro k T s' ⟨hT, a2, a121, a122, i, m', H0, F, a123, hi, rfl, rfl, hmm, hp, hs, lF, he⟩
 simp -implicitDefEqProofs only [go_sem, a122, a123, hT]
 by_cases hil : (i : Int) < (v.leaks.length : Int)
 ·have hi' : i < v.leaks.length := by omega
  have e1 := Zh (f := inlV) (l := v.leaks) (i := i) (z := 3) hi' rfl
  have hkk : v.leaks.length - (i + 1) < v.leaks.length - i := by omega
  have hlx := hll _ (List.getElem_mem hi')
  rw [List.drop_eq_getElem_cons hi'] at he
  generalize v.leaks[i] = x at *
  obtain ⟨a, hxa⟩ : ∃ q : Nat, x.at' = q := ⟨x.at'.toNat, by omega⟩
  have haF : a < F.length := by omega
  simp only [leakR] at he
  rw [hxa, Int.toNat_natCast, Z4a _ haF] at he
  have f0 := Xf F haF
  have f1 := Xg F haF
  have fw := Z2e F haF (plusR F[a] x.gas)
  have hin : inR (a : Int) F.length = some a := Jr haF
  have hpl := fun st => Z1n F[a] x.gas (K + 2) st
  generalize F[a] = fi at *
  generalize hF' : F.set a (plusR fi x.gas) = F' at *
  have lF' : F'.length = F.length := by rw [<- hF']; simp
  generalize plusR fi x.gas = pp at *
  have x0 := hs.x
  have x1 := hs.f
  have x2 := hs.b
  have x3 := hs.r
  have y0 : hget H0 [0] = some (sysB E v [1] [2] [3] ⟨F', g.bound, g.room, g.most, g.flashed⟩) := x0.trans (congrArg some (Z2f lF'.symm rfl rfl rfl rfl))
  unfold sysB at x0
  unfold rgB at x1
  simp only at x0 x1 x2 x3
  simp only [inlV] at e1
  rw [hxa] at e1
  simp only [rgV] at hpl
  have hw1 : wrapF .i64 ((i : Int) + 1) = ((i + 1 : Nat) : Int) := Z5 (by have := hv.inl.2; omega) (by have := hv.inl.2; omega)
  have k3 : ∀ X, hget (([m' + 8], X) :: H0) [m + 3] = hget H0 [m + 3] := fun X => hc11 (by omega)
  have z5 : (m' + 5 = m) = False := eq_false (by omega)
  simp -implicitDefEqProofs only [go_sem, a121, a123, hT, hil, e1]
  try simp only [Z3]
  refine Zc [[], [0], [1, 0], [2, 1, 0], [3, 2, 1, 0], [], [5], [], [7], [8, 7], [9, 8, 7], [10, 9, 8, 7], [], [12], [11, 10, 9, 8, 7, 13, 12], [14, 11, 10, 9, 8, 7, 13, 12], [], [16], [15, 14, 11, 10, 9, 8, 7, 13, 12, 17, 16], [4, 3, 2, 1, 0, 6, 5, 18, 15, 14, 11, 10, 9, 8, 7, 13, 12, 17, 16], [19, 4, 3, 2, 1, 0, 6, 5, 18, 15, 14, 11, 10, 9, 8, 7, 13, 12, 17, 16]] [[], [], [], [], [], [], [], [], [], [], [], [], [], [], [], [], [], [], [], [], [[1]]] (by kernel_rfl) rfl rfl ?_
  simp -implicitDefEqProofs only [go_sem, Option.getD_some, a2, a121, a122, a123, hT, hp, k3, x0, x1, hin, f0, f1, hpl, Jq, fw, hw1, Zb]
  refine ⟨v.leaks.length - (i + 1), hkk, trivial, trivial, trivial, trivial, i + 1, m' + 2, _, F', rfl, hi', rfl, rfl, by omega, ?_, ?_, by omega, he⟩
  all_goals clear hw1
  ·simp (disch := omega) only [hc11, Z0, lkn, lk11, Option.getD_none, hp]
  ·refine ⟨?_, ?_, ?_, fun e => ?_⟩
   ·simp (disch := omega) only [hc11, Z0, lkn, lk11, Option.getD_none]; exact y0
   ·simp (disch := omega) only [hc11, Z0, Zd, Option.getD_some]; rfl
   ·simp (disch := omega) only [hc11, Z0, lkn, lk11, Option.getD_none]; exact x2
   ·have := hm e
    simp (disch := omega) only [hc11, Z0, lkn, lk11, Option.getD_none]; exact x3 e
 ·have hie : i = v.leaks.length := by omega
  subst hie
  rw [List.drop_length] at he
  simp only [leakR] at he
  rw [he]
  simp -implicitDefEqProofs only [go_sem, hil, Try.results149]
  exact ⟨trivial, hs⟩
end Go.Proofs.Ytgnpnfkncbnjnaa
namespace Go.Proofs.Ytgnpnfkncbnjnaa
attribute [local go_sem_proc] Int.reduceEq Int.reduceNeg Nat.reduceEqDiff Nat.reduceLT Nat.reduceAdd Nat.reduceSub Nat.reduceMul Int.reduceLE Int.reduceLT Int.reduceToNat Nat.reduceLeDiff
attribute [local go_sem] Int.toNat_natCast Bool.not_true Bool.not_false
open Go Go.Am
attribute [local congr] Za Z6 Z7
attribute [local go_sem] Go.Am.frozen Go.Am.freezeG Go.Am.freezeGs
variable {E : AV}
theorem Jc {H : Heap} {X f b r q : Nm} {v : Vac} {g : Gs} (h1 : X ≠ q) (h2 : f ≠ q) (h3 : b ≠ q) (h4 : g.room ≠ [] -> r ≠ q) : hget (sysPut E X f b r v g H) q = hget H q := by
 unfold sysPut
 cases hg : g.room with
 | nil =>
  show hget (hset (hset (hset H X _) f _) b _) q = _
  rw [Z1 _ _ h3, Z1 _ _ h2, Z1 _ _ h1]
 | cons a l =>
  show hget (hset (hset (hset (hset H X _) f _) b _) r _) q = _
  rw [Z1 _ _ (h4 (by rw [hg]; simp)), Z1 _ _ h3, Z1 _ _ h2, Z1 _ _ h1]
theorem Zg3 {v : Vac} (h : checkE v = 0) : firstE vesE v.vessels = 0 /\ partsE v = 0 := by
 unfold checkE at h
 split at h
 ·exact absurd h (by decide)
 ·split at h
  ·exact absurd h (by decide)
  ·split at h
   ·rename_i h2
    split at h
    ·rename_i h3; exact ⟨h2, h3⟩
    ·rename_i h3; exact absurd h h3
   ·rename_i h2; exact absurd h h2
structure Valid (v : Vac) : Prop where
 n1 : 1 <= v.vessels.length
 n8 : v.vessels.length <= 8
 p16 : v.pipes.length <= 16
 m8 : v.pumps.length <= 8
 l8 : v.leaks.length <= 8
 g8 : v.getters.length <= 8
 bd : ∀ x ∈ v.vessels, x.bands.length <= 8
 pip : ∀ q ∈ v.pipes, (0 <= q.a /\ q.a < v.vessels.length) /\ 0 <= q.b /\ q.b < v.vessels.length
 inl : ∀ q ∈ v.leaks, 0 <= q.at' /\ q.at' < v.vessels.length
 gtr : ∀ q ∈ v.getters, 0 <= q.at' /\ q.at' < v.vessels.length
theorem Z6r {v : Vac} (h : checkE v = 0) : Valid v := by
 obtain ⟨n1, n2, n3, n4, n5, n6⟩ := Z35 h
 obtain ⟨h1, h2⟩ := Zg3 h
 have hb : ∀ x ∈ v.vessels, x.bands.length <= 8 := fun x hx => by
  have h3 := Yj h1 x hx
  unfold vesE at h3
  split at h3
  ·split at h3
   ·split at h3
    ·split at h3
     ·exact absurd h3 (by decide)
     ·omega
    ·rename_i h4; exact absurd h3 h4
   ·rename_i h4; exact absurd h3 h4
  ·exact absurd h3 (by decide)
 unfold partsE at h2
 split at h2
 ·rename_i p1
  split at h2
  ·rename_i p2
   split at h2
   ·rename_i p3
    refine ⟨n1, n2, n3, n4, n5, n6, hb, fun q hq => ?_, fun q hq => ?_, fun q hq => ?_⟩
    ·have := Z6g (Yj p1 q hq); exact ⟨this.1, this.2.1⟩
    ·exact Z9c (Yj p3 q hq)
    ·have h4 := Yj h2 q hq
     unfold getE at h4
     split at h4
     ·rename_i h5; exact Z9c h5
     ·rename_i h5; exact absurd h4 h5
   ·rename_i p3; exact absurd h2 p3
  ·rename_i p2; exact absurd h2 p2
 ·rename_i p1; exact absurd h2 p1
theorem Valid.lens {v : Vac} (h : Valid v) (K : Nat) (hK : 20 < K) : v.Lens K :=
 ⟨⟨by have := h.n8; omega, by have := h.n8; omega⟩, ⟨by have := h.p16; omega, by have := h.p16; omega⟩, ⟨by have := h.m8; omega, by have := h.m8; omega⟩, ⟨by have := h.l8; omega, by have := h.l8; omega⟩, ⟨by have := h.g8; omega, by have := h.g8; omega⟩, fun x hx => by have := h.bd x hx; omega⟩
structure Fits (v : Vac) (g : Gs) : Prop where
 f : g.free.length = v.vessels.length
 b : g.bound.length = v.vessels.length
 r : g.room.length = v.getters.length
theorem Z5n {v : Vac} {g : Gs} (h : Fits v g) (s : Bk) : Fits v (beginT v g s) := ⟨h.f, h.b, h.r⟩
theorem Zap {v : Vac} {g : Gs} (h : Fits v g) (s : Bk) : Fits v (relT v g s) := ⟨Z6p h.f h.b, Zao h.b, h.r⟩
theorem Z84 {v : Vac} {g : Gs} (h : Fits v g) (s : Bk) : Fits v (flowT v g s) := ⟨by show (leakR _ _).length = _; rw [Z4b, Jb]; exact h.f, h.b, h.r⟩
theorem Zaq {v : Vac} {g : Gs} (h : Fits v g) (s : Bk) : Fits v (getT v g s) := by
 have e := Z6q v.getters 0 g.free g.room
 unfold getT
 split
 ·exact ⟨e.1.trans h.f, h.b, e.2.trans h.r⟩
 ·exact h
theorem Zar {v : Vac} {g : Gs} (h : Fits v g) (s : Bk) : Fits v (cutT v g s) := ⟨by show (List.map _ _).length = _; rw [List.length_map]; exact h.f, by show (List.map _ _).length = _; rw [List.length_map]; exact h.b, h.r⟩
def tickT (v : Vac) (g : Gs) (s : Bk) : Gs := cutT v (getT v (flowT v (relT v (beginT v g s) s) s) s) s
theorem Z4c {v : Vac} {g : Gs} (h : Fits v g) (s : Bk) : Fits v (tickT v g s) := Zar (Zaq (Z84 (Zap (Z5n h s) s) s) s) s
theorem Fits.ne {v : Vac} {g : Gs} (h : Fits v g) (hv : Valid v) : g.free ≠ [] /\ g.bound ≠ [] :=
 ⟨fun e => by have := h.f; rw [e] at this; have := hv.n1; simp at *; omega, fun e => by have := h.b; rw [e] at this; have := hv.n1; simp at *; omega⟩
def stepT (v : Vac) (g : Gs) (s : Bk) : Nat -> Gs
 | 0 => g
 | 1 => beginT v g s
 | 2 => relT v (beginT v g s) s
 | 3 => flowT v (relT v (beginT v g s) s) s
 | 4 => getT v (flowT v (relT v (beginT v g s) s) s) s
 | _ => tickT v g s
theorem Z0v : Apart [0] [1] [2] [3] := ⟨by decide, by decide, by decide, by decide, by decide, by decide⟩
theorem Ze2 [hE : Emp E] {K : Nat} {X f b r : Nm} {v : Vac} {g : Gs} {s : Bk} {H : Heap} {n : Nat} {p : Nm} {j : Delta} (h : SysAt E H X f b r v g) (ha : Apart X f b r) (hv : Valid v) (hf : Fits v g) (hK : 200 < K) (hsh : s.shut.length < K) (hsh2 : s.shut.length <= 9223372036854775807) :
  acall cfg (K + 6) 97 [.ptr X 0, bkV s] ⟨H, n, p, false, j⟩ = .ret (.tuple [], ⟨sysPut E X f b r v (tickT v g s) H, n, p, false, j⟩) := by
 have hft := Z4c hf s
 obtain ⟨hn1, hn2⟩ := hf.ne hv
 refine Z0p Zly Zlx h ha hn1 hn2 (by rw [hft.f, hf.f]) (by rw [hft.b, hf.b]) (by rw [hft.r, hf.r]) fun H0 m hs hm => ?_
 refine Z9 rfl fun T hT' hA => ?_
 have a0 := hA 0 _ rfl
 have a1 := hA 1 _ rfl
 have hT : T.length = 15 := hT'
 clear hA hT'
 simp -implicitDefEqProofs only [go_sem, a1]
 simp only [Z3]
 refine Zj (fun k T s' => T.length = 15 /\ nth T 0 = some (.ptr [0] 0) /\ nth T 3 = some (.ptr [m + 3] 0) /\ nth T 6 = some (.agg [.func 147 [], .func 148 [], .func 149 [], .func 150 [], .func 151 []]) /\ ∃ (i : Nat) (H' : Heap), nth T 7 = some (.int .i64 i) /\ i <= 5 /\ k = 5 - i /\ s' = ⟨H', m + 4, [], false, []⟩ /\ hget H' [m + 3] = some (.cells [.int .i64 s.ticks, .int .i64 s.heat, .lst (s.shut.map iV), .bool s.flash] true 0) /\ Fits v (stepT v g s i) /\ SysAt E H' [0] [1] [2] [3] v (stepT v g s i)) (k := 5) (by omega) ?_ ?_
 ·exact ⟨by simp -implicitDefEqProofs only [go_sem, hT], by simp -implicitDefEqProofs only [go_sem, a0], by simp -implicitDefEqProofs only [go_sem, hT], by simp -implicitDefEqProofs only [go_sem, hT], 0, _, by simp -implicitDefEqProofs only [go_sem, hT] <;> rfl, by omega, rfl, rfl, Z2 .., hf, ⟨(hc11 (by omega)).trans hs.x, (hc11 (by omega)).trans hs.f, (hc11 (by omega)).trans hs.b, fun e => (hc11 (by have := hm e; omega)).trans (hs.r e)⟩⟩
 have hroom : ∀ i, (stepT v g s i).room.length = v.getters.length -> ((stepT v g s i).room ≠ [] -> 1 <= m) := fun i e hne => hm fun e2 => hne (List.length_eq_zero_iff.1 (by rw [e, <- hf.r, e2]; rfl))
 clear a0 a1 hT T hs H0 hn1 hn2 hft
 rintro k T s' ⟨hT, a0, a3, a6, i, H0, a7, hi, rfl, rfl, hbk, hf', hs⟩
 obtain ⟨hn1, hn2⟩ := hf'.ne hv
 have hrm := hroom i hf'.r
 rcases (show i = 0 \/ i = 1 \/ i = 2 \/ i = 3 \/ i = 4 \/ i = 5 by omega) with rfl | rfl | rfl | rfl | rfl | rfl
 ·have b7 : nth T 7 = some (.int .i64 0) := a7
  have hin : inR 0 5 = some 0 := rfl
  have hw1 : wrapF .i64 (0 + 1) = 1 := rfl
  have hfn : Fits v (stepT v g s (0 + 1)) := Z5n hf' s
  have hsn : SysAt E (sysPut E [0] [1] [2] [3] v (stepT v g s (0 + 1)) H0) [0] [1] [2] [3] v (stepT v g s (0 + 1)) := Ja hs Z0v (by rw [hfn.r, hf'.r])
  have hbn : hget (sysPut E [0] [1] [2] [3] v (stepT v g s (0 + 1)) H0) [m + 3] = hget H0 [m + 3] := Jc (n11 (by omega)) (n11 (by omega)) (n11 (by omega)) (fun e => n11 (by have := hroom (0 + 1) hfn.r e; omega))
  rw [hbk] at hbn
  have hc' : ∀ n p j, acall cfg (K + 5) 147 [.ptr [0] 0, bkV s] ⟨H0, n, p, false, j⟩ = .ret (.tuple [], ⟨sysPut E [0] [1] [2] [3] v (stepT v g s (0 + 1)) H0, n, p, false, j⟩) := fun n p j => (Z9j hs Z0v hn1 hn2 (K := K + 4) (by have := hv.l8; omega) (by have := hv.l8; omega))
  generalize sysPut E [0] [1] [2] [3] v (stepT v g s (0 + 1)) H0 = H1 at *
  simp only [bkV] at hc'
  simp -implicitDefEqProofs only [go_sem, a0, a3, b7, a6, hT, hin, hbk, hc', hw1]
  exact ⟨5 - (0 + 1), by omega, trivial, trivial, trivial, trivial, 0 + 1, H1, rfl, by omega, rfl, rfl, hbn, hfn, hsn⟩
 ·have b7 : nth T 7 = some (.int .i64 1) := a7
  have hin : inR 1 5 = some 1 := rfl
  have hw1 : wrapF .i64 (1 + 1) = 2 := rfl
  have hfn : Fits v (stepT v g s (1 + 1)) := Zap hf' s
  have hsn : SysAt E (sysPut E [0] [1] [2] [3] v (stepT v g s (1 + 1)) H0) [0] [1] [2] [3] v (stepT v g s (1 + 1)) := Ja hs Z0v (by rw [hfn.r, hf'.r])
  have hbn : hget (sysPut E [0] [1] [2] [3] v (stepT v g s (1 + 1)) H0) [m + 3] = hget H0 [m + 3] := Jc (n11 (by omega)) (n11 (by omega)) (n11 (by omega)) (fun e => n11 (by have := hroom (1 + 1) hfn.r e; omega))
  rw [hbk] at hbn
  have hc' : ∀ n p j, acall cfg (K + 5) 148 [.ptr [0] 0, bkV s] ⟨H0, n, p, false, j⟩ = .ret (.tuple [], ⟨sysPut E [0] [1] [2] [3] v (stepT v g s (1 + 1)) H0, n, p, false, j⟩) := fun n p j => (Z82 hs Z0v hn1 hf'.f hf'.b (K := K + 3) (by have := hv.n8; omega) (by have := hv.n8; omega) hv.bd)
  generalize sysPut E [0] [1] [2] [3] v (stepT v g s (1 + 1)) H0 = H1 at *
  simp only [bkV] at hc'
  simp -implicitDefEqProofs only [go_sem, a0, a3, b7, a6, hT, hin, hbk, hc', hw1]
  exact ⟨5 - (1 + 1), by omega, trivial, trivial, trivial, trivial, 1 + 1, H1, rfl, by omega, rfl, rfl, hbn, hfn, hsn⟩
 ·have b7 : nth T 7 = some (.int .i64 2) := a7
  have hin : inR 2 5 = some 2 := rfl
  have hw1 : wrapF .i64 (2 + 1) = 3 := rfl
  have hfn : Fits v (stepT v g s (2 + 1)) := Z84 hf' s
  have hsn : SysAt E (sysPut E [0] [1] [2] [3] v (stepT v g s (2 + 1)) H0) [0] [1] [2] [3] v (stepT v g s (2 + 1)) := Ja hs Z0v (by rw [hfn.r, hf'.r])
  have hbn : hget (sysPut E [0] [1] [2] [3] v (stepT v g s (2 + 1)) H0) [m + 3] = hget H0 [m + 3] := Jc (n11 (by omega)) (n11 (by omega)) (n11 (by omega)) (fun e => n11 (by have := hroom (2 + 1) hfn.r e; omega))
  rw [hbk] at hbn
  have hc' : ∀ n p j, acall cfg (K + 5) 149 [.ptr [0] 0, bkV s] ⟨H0, n, p, false, j⟩ = .ret (.tuple [], ⟨sysPut E [0] [1] [2] [3] v (stepT v g s (2 + 1)) H0, n, p, false, j⟩) := fun n p j => (Ze1 hs Z0v hn1 hn2 hf'.f (K := K + 1) (by have := hv.n8; omega) (by have := hv.n8; omega) (hv.lens _ (by omega)) (by omega) hsh2 hv.pip hv.inl)
  generalize sysPut E [0] [1] [2] [3] v (stepT v g s (2 + 1)) H0 = H1 at *
  simp only [bkV] at hc'
  simp -implicitDefEqProofs only [go_sem, a0, a3, b7, a6, hT, hin, hbk, hc', hw1]
  exact ⟨5 - (2 + 1), by omega, trivial, trivial, trivial, trivial, 2 + 1, H1, rfl, by omega, rfl, rfl, hbn, hfn, hsn⟩
 ·have b7 : nth T 7 = some (.int .i64 3) := a7
  have hin : inR 3 5 = some 3 := rfl
  have hw1 : wrapF .i64 (3 + 1) = 4 := rfl
  have hfn : Fits v (stepT v g s (3 + 1)) := Zaq hf' s
  have hsn : SysAt E (sysPut E [0] [1] [2] [3] v (stepT v g s (3 + 1)) H0) [0] [1] [2] [3] v (stepT v g s (3 + 1)) := Ja hs Z0v (by rw [hfn.r, hf'.r])
  have hbn : hget (sysPut E [0] [1] [2] [3] v (stepT v g s (3 + 1)) H0) [m + 3] = hget H0 [m + 3] := Jc (n11 (by omega)) (n11 (by omega)) (n11 (by omega)) (fun e => n11 (by have := hroom (3 + 1) hfn.r e; omega))
  rw [hbk] at hbn
  have hc' : ∀ n p j, acall cfg (K + 5) 150 [.ptr [0] 0, bkV s] ⟨H0, n, p, false, j⟩ = .ret (.tuple [], ⟨sysPut E [0] [1] [2] [3] v (stepT v g s (3 + 1)) H0, n, p, false, j⟩) := fun n p j => (Zg2 hs Z0v hn1 hn2 hf'.f hf'.r (K := K + 3) (by have := hv.g8; omega) (by have := hv.g8; omega) hv.gtr)
  generalize sysPut E [0] [1] [2] [3] v (stepT v g s (3 + 1)) H0 = H1 at *
  simp only [bkV] at hc'
  simp -implicitDefEqProofs only [go_sem, a0, a3, b7, a6, hT, hin, hbk, hc', hw1]
  exact ⟨5 - (3 + 1), by omega, trivial, trivial, trivial, trivial, 3 + 1, H1, rfl, by omega, rfl, rfl, hbn, hfn, hsn⟩
 ·have b7 : nth T 7 = some (.int .i64 4) := a7
  have hin : inR 4 5 = some 4 := rfl
  have hw1 : wrapF .i64 (4 + 1) = 5 := rfl
  have hfn : Fits v (stepT v g s (4 + 1)) := Zar hf' s
  have hsn : SysAt E (sysPut E [0] [1] [2] [3] v (stepT v g s (4 + 1)) H0) [0] [1] [2] [3] v (stepT v g s (4 + 1)) := Ja hs Z0v (by rw [hfn.r, hf'.r])
  have hbn : hget (sysPut E [0] [1] [2] [3] v (stepT v g s (4 + 1)) H0) [m + 3] = hget H0 [m + 3] := Jc (n11 (by omega)) (n11 (by omega)) (n11 (by omega)) (fun e => n11 (by have := hroom (4 + 1) hfn.r e; omega))
  rw [hbk] at hbn
  have hc' : ∀ n p j, acall cfg (K + 5) 151 [.ptr [0] 0, bkV s] ⟨H0, n, p, false, j⟩ = .ret (.tuple [], ⟨sysPut E [0] [1] [2] [3] v (stepT v g s (4 + 1)) H0, n, p, false, j⟩) := fun n p j => (Zfy (g := stepT v g s 4) hs Z0v hn1 hn2 (K := K + 4) (by have := hf'.f; have := hf'.b; have := hv.n8; omega) (by have := hf'.f; have := hf'.b; have := hv.n8; omega))
  generalize sysPut E [0] [1] [2] [3] v (stepT v g s (4 + 1)) H0 = H1 at *
  simp only [bkV] at hc'
  simp -implicitDefEqProofs only [go_sem, a0, a3, b7, a6, hT, hin, hbk, hc', hw1]
  exact ⟨5 - (4 + 1), by omega, trivial, trivial, trivial, trivial, 4 + 1, H1, rfl, by omega, rfl, rfl, hbn, hfn, hsn⟩
 ·have b7 : nth T 7 = some (.int .i64 5) := a7
  simp -implicitDefEqProofs only [go_sem, b7, hT, Try.results97]
  exact ⟨trivial, hs⟩
end Go.Proofs.Ytgnpnfkncbnjnaa
namespace Go.Proofs.Ytgnpnfkncbnjnaa
open Go Go.Am
attribute [local congr] Za Z6 Z7
end Go.Proofs.Ytgnpnfkncbnjnaa
namespace Go.Proofs.Ytgnpnfkncbnjnaa
open Go Go.Am
attribute [local congr] Za Z6 Z7
theorem Zas {H : Heap} {d : Nat} {b : Nm} (l : List Rg) (hb : hget H b = some (rgB l)) : freezeG (freezeD H (d + 1)) H (.slice b 0 l.length l.length false) = some (.lst (l.map rgV)) := by
 cases l with
 | nil => rfl
 | cons a r => exact Z2a (g := rgC) (z := 2) Z19 (by decide) (f := rgV) (fun _ => rfl) (row := freezeD H (d + 1)) (H := H) (a :: r) (Zdv _) hb (a :: r).length false
def gasP (p : Gs × Int) : AV := .tuple [gsV p.1, .int .i64 p.2]
@[go_sem] theorem Zmk (p : Gs × Int) : (gasP p).flat = true := by
 unfold gasP; simp only [gsV, AV.flat, flats, Z96]
theorem Z9l (H : Heap) (e : Int) : Go.Am.frozen H (.tuple [.agg [.nils, .nils, .nils, .int .i64 0, .bool false], .int .i64 e]) = some (gasP (zeroG, e)) := rfl
end Go.Proofs.Ytgnpnfkncbnjnaa
namespace Go.Proofs.Ytgnpnfkncbnjnaa
attribute [local go_sem_proc] Int.reduceEq Int.reduceNeg Nat.reduceEqDiff Nat.reduceLT Nat.reduceAdd Nat.reduceSub Nat.reduceMul Int.reduceLE Int.reduceLT Int.reduceToNat Nat.reduceLeDiff
attribute [local go_sem] Int.toNat_natCast Bool.not_true Bool.not_false
open Go Go.Am
attribute [local congr] Za Z6 Z7
def runT {σ : Type} (nxt : σ -> Gs -> Option σ) (v : Vac) : σ -> Gs -> List Bk -> (σ × Gs) ⊕ (σ × Gs)
 | c, g, [] => .inl (c, g)
 | c, g, s :: r => match nxt c (tickT v g s) with | some c' => runT nxt v c' (tickT v g s) r | none => .inr (c, tickT v g s)
def flatT (l : List Bk) : List Bk := l.flatMap fun s => List.replicate s.ticks.toNat s
def allT {σ : Type} (nxt : σ -> Gs -> Option σ) (v : Vac) (c : σ) (l : List Bk) : (σ × Gs) ⊕ (σ × Gs) :=
 match nxt c (beginG v) with | some c' => runT nxt v c' (beginG v) (flatT l) | none => .inr (c, beginG v)
theorem Jd (s : Bk) (l : List Bk) : flatT (s :: l) = List.replicate s.ticks.toNat s ++ flatT l := rfl
theorem Zjw {a b k c k' c' : Nat} {x : Option Blk} {r : Delta} (h : c ≠ c') : lkD (([a, k, c], x) :: r) [b, k', c'] = lkD r [b, k', c'] := Ju fun e => h (by injection e with _ e; injection e with _ e; injection e)
theorem n33k {a b k c k' c' : Nat} (h : k ≠ k') : ([a, k, c] : Nm) ≠ [b, k', c'] := fun e => h (by injection e with _ e; injection e)
theorem n33c {a b k c k' c' : Nat} (h : c ≠ c') : ([a, k, c] : Nm) ≠ [b, k', c'] := fun e => h (by injection e with _ e; injection e with _ e; injection e)
theorem Z4d {b : Nm} {n : Nat} (h : 0 < n) : mutV b n = .slice b 0 n n false := by cases n with | zero => omega | succ n => rfl
structure Eats {σ : Type} (nxt : σ -> Gs -> Option σ) (v : Vac) (l bV bS : Nm) (stages : List Bk) (m K : Nat) (I : σ -> Heap -> Prop) (S : σ -> Gs -> Heap -> Prop) : Prop where
 eat : ∀ c g H n, m < n -> I c H -> SysAt .nils H [m, 4, 0] [m, 2, 0] [m, 2, 1] [m, 2, 2] v g -> Fits v g -> (∃ c' H' n', nxt c g = some c' /\ around cfg K l [.ptr [m, 4, 0] 0] ⟨H, n, [], false, []⟩ = .ret (.bool true, ⟨H', n', [], false, []⟩) /\ n <= n' /\ I c' H' /\ (∀ q, m < q -> q < n -> hget H' [q] = hget H [q]) /\ SysAt .nils H' [m, 4, 0] [m, 2, 0] [m, 2, 1] [m, 2, 2] v g) \/ (∃ H' n', nxt c g = none /\ around cfg K l [.ptr [m, 4, 0] 0] ⟨H, n, [], false, []⟩ = .ret (.bool false, ⟨H', n', [], false, []⟩) /\ n <= n' /\ S c g H')
 keep : ∀ c H H', I c H -> (∀ k, k < m -> hget H' [k] = hget H [k]) -> I c H'
 hv : ∀ c H, I c H -> hget H bV = some (vacC v)
 hs : ∀ c H, I c H -> hget H bS = some (.cells [.lst (stages.map bkV)] true 0)
theorem Zjx {σ : Type} {nxt : σ -> Gs -> Option σ} {v : Vac} {l bV bS : Nm} {stages : List Bk} {m K : Nat} {I : σ -> Heap -> Prop} {S : σ -> Gs -> Heap -> Prop} (he : Eats nxt v l bV bS stages m (K + 6) I S)
  (hva : Valid v) (hK : 300 < K) (hst : ∀ s ∈ stages, 0 <= s.ticks /\ s.ticks <= 2000 /\ s.shut.length <= 40) (hsl : stages.length <= 20) (hK2 : 2100 < K) (c0 : σ) (H : Heap) (h0 : I c0 H) :
  (acall cfg (K + 7) 152 [.yield l, .ptr bV 0, .ptr bS 0] ⟨H, m, [], false, []⟩).Does fun x => ∃ n, x.2 = ⟨x.2.H, n, [], false, []⟩ /\ m < n /\ (match allT nxt v c0 stages with | .inl (c, g) => I c x.2.H /\ SysAt .nils x.2.H [m, 4, 0] [m, 2, 0] [m, 2, 1] [m, 2, 2] v g | .inr (c, g) => S c g x.2.H) := by
 have hbg : ∀ H n p jr j, acall cfg (K + 6) 94 [vacV v] ⟨H, n, p, jr, j⟩ = .ret (gasM (p ++ [n]) (p ++ [n + 1]) (p ++ [n + 2]) (beginG v), gasS ⟨H, n, p, jr, j⟩ (beginG v)) := fun H n p jr j => Zbs v (K + 5) H n p jr j (hva.lens _ (by omega)) (by have := hva.n8; omega) (by have := hva.g8; omega) (fun e => by have := hva.n1; rw [e] at this; simp at this)
 rw [Y4]
 unfold enterA
 rw [Ziv]; simp only
 rw [show cfg.mode.get 152 = none from Ziw]; simp only
 refine Z9 rfl fun T hT' hA => ?_
 have a0 := hA 0 _ rfl
 have a1 := hA 1 _ rfl
 have a2 := hA 2 _ rfl
 have hT : T.length = 35 := hT'
 clear hA hT'
 have q1 := he.hv c0 H h0
 unfold vacC at q1
 simp only [vacV] at hbg
 simp -implicitDefEqProofs only [go_sem]
 simp only [Z3]
 have hfit : Fits v (beginG v) := ⟨by simp [beginG], by simp [beginG], by simp [beginG]⟩
 obtain ⟨p1, p2⟩ := hfit.ne hva
 refine Tr.Does.mono (Q := fun x => ∃ (T' : List AV) (H' : Heap), x = (T', (⟨H', m + 1, [], false, []⟩ : St)) /\ T'.length = 35 /\ nth T' 0 = some (.yield l) /\ nth T' 2 = some (.ptr bS 0) /\ nth T' 4 = some (.ptr [m, 4, 0] 0) /\ SysAt .nils H' [m, 4, 0] [m, 2, 0] [m, 2, 1] [m, 2, 2] v (beginG v) /\ ∀ k, k < m -> hget H' [k] = hget H [k]) ?_ ?_
 ·clear he
  generalize beginG v = g at *
  have hgm : ∀ a b c, gasM a b c g = .agg [.slice a 0 g.free.length g.free.length false, .slice b 0 g.bound.length g.bound.length false, mutV c g.room.length, .int .i64 g.most, .bool g.flashed] := fun a b c => by
   unfold gasM; rw [Z4d (List.length_pos_iff.2 p1), Z4d (List.length_pos_iff.2 p2)]
  simp only [hgm] at hbg
  rcases (show g.room = [] \/ ∃ a l, g.room = a :: l from by cases g.room with | nil => exact .inl rfl | cons a l => exact .inr ⟨a, l, rfl⟩) with hr | ⟨a, l', hr⟩
  ·have hgs : ∀ s, gasS s g = (s.new (rgB g.free)).new (rgB g.bound) := fun s => by unfold gasS; rw [hr]; rfl
   have hm0 : ∀ b, mutV b g.room.length = .nils := fun b => by rw [hr]; rfl
   simp only [hgs, hm0] at hbg
   try simp only [Z3]
   refine Zc [[], [], [1], [0, 2, 1], [3, 0, 2, 1], [4, 3, 0, 2, 1]] [[], [], [], [], [], []] (by kernel_rfl) rfl rfl ?_
   simp -implicitDefEqProofs only [go_sem, Option.getD_some, a1, hT, q1, hbg, Zb]
   refine ⟨_, _, rfl, by simp -implicitDefEqProofs only [go_sem, hT], by simp -implicitDefEqProofs only [go_sem, a0], by simp -implicitDefEqProofs only [go_sem, a2], by simp -implicitDefEqProofs only [go_sem, hT], ⟨?_, by simp (disch := omega) only [Z0, Zd, Z46, Option.getD_some, Zjw], by simp (disch := omega) only [Z0, Zd, Z46, Option.getD_some], fun e => ?_⟩, fun k hk => by simp (disch := omega) only [Z0, lkn, lk31, Option.getD_none]⟩
   ·rw [Z0, Zd, Option.getD_some]
    unfold sysB
    rw [show rowX .nils [m, 2, 2] g.room.length = .nils from by rw [hr]; rfl]
   ·exact absurd hr e
  ·have hgs : ∀ s, gasS s g = ((s.new (rgB g.free)).new (rgB g.bound)).new (rgB g.room) := fun s => by unfold gasS; rw [hr]; rfl
   have hm0 : ∀ b, mutV b g.room.length = .slice b 0 g.room.length g.room.length false := fun b => Z4d (by rw [hr]; simp)
   simp only [hgs, hm0] at hbg
   try simp only [Z3]
   refine Zc [[], [], [1], [0, 2, 1], [3, 0, 2, 1], [4, 3, 0, 2, 1]] [[], [], [], [], [], []] (by kernel_rfl) rfl rfl ?_
   simp -implicitDefEqProofs only [go_sem, Option.getD_some, a1, hT, q1, hbg, Zb]
   refine ⟨_, _, rfl, by simp -implicitDefEqProofs only [go_sem, hT], by simp -implicitDefEqProofs only [go_sem, a0], by simp -implicitDefEqProofs only [go_sem, a2], by simp -implicitDefEqProofs only [go_sem, hT], ⟨?_, by simp (disch := omega) only [Z0, Zd, Z46, Option.getD_some, Zjw], by simp (disch := omega) only [Z0, Zd, Z46, Option.getD_some, Zjw], fun e => ?_⟩, fun k hk => by simp (disch := omega) only [Z0, lkn, lk31, Option.getD_none]⟩
   ·rw [Z0, Zd, Option.getD_some]
    unfold sysB
    rw [show rowX .nils [m, 2, 2] g.room.length = .slice [m, 2, 2] 0 g.room.length g.room.length false from by rw [hr]; rfl]
   ·simp (disch := omega) only [Z0, Zd, Z46, Option.getD_some]
 clear a0 a1 a2 hT T hbg q1
 rintro _ ⟨T, H1, rfl, hT, a0, a2, a4, hs, hk⟩
 have hI := he.keep c0 H H1 h0 hk
 clear hk h0
 simp -implicitDefEqProofs only [go_sem, a0, a4, hT]
 rcases he.eat c0 (beginG v) H1 (m + 1) (by omega) hI hs hfit with ⟨c1, H2, n2, e1, e2, e3, hI2, hfr2, hs2⟩ | ⟨H2, n2, e1, e2, e3, e4⟩
 ·have hall : allT nxt v c0 stages = runT nxt v c1 (beginG v) (flatT stages) := by unfold allT; rw [e1]
  rw [hall]
  have g2 := he.hs c1 H2 hI2
  simp -implicitDefEqProofs only [go_sem, a2, hT, e2, g2]
  obtain ⟨R, hR⟩ : ∃ R, R = runT nxt v c1 (beginG v) (flatT stages) := ⟨_, rfl⟩
  rw [<- hR]
  simp only [Z3]
  have hR1 : R = runT nxt v c1 (beginG v) (flatT (stages.drop 0)) := hR
  refine Zj (fun k T s' => T.length = 35 /\ nth T 0 = some (.yield l) /\ nth T 4 = some (.ptr [m, 4, 0] 0) /\ nth T 16 = some (.lst (stages.map bkV)) /\ nth T 17 = some (.int .i64 stages.length) /\ ∃ (i n : Nat) (H : Heap) (c : σ) (g : Gs), nth T 18 = some (.int .i64 i) /\ i <= stages.length /\ k = stages.length - i /\ s' = ⟨H, n, [], false, []⟩ /\ m < n /\ I c H /\ SysAt .nils H [m, 4, 0] [m, 2, 0] [m, 2, 1] [m, 2, 2] v g /\ Fits v g /\ R = runT nxt v c g (flatT (stages.drop i))) (k := stages.length) (by omega) ?_ ?_
  ·exact ⟨by simp -implicitDefEqProofs only [go_sem, hT], by simp -implicitDefEqProofs only [go_sem, a0], by simp -implicitDefEqProofs only [go_sem, a4], by simp -implicitDefEqProofs only [go_sem, hT], by simp -implicitDefEqProofs only [go_sem, hT], 0, n2, H2, c1, beginG v, by simp -implicitDefEqProofs only [go_sem, hT] <;> rfl, by omega, rfl, rfl, by omega, hI2, hs2, hfit, hR1⟩
  clear a0 a2 a4 hT T hI2 hs2 hfr2 hs hI e1 e2 e3 g2 hR1 hR p1 p2 hfit hall H1 H2
  rintro k T s' ⟨hT, a0, a4, a16, a17, i, n, H, c, g, a18, hi, rfl, rfl, hmn, hI, hs, hfit, hR⟩
  simp -implicitDefEqProofs only [go_sem, a17, a18, hT]
  by_cases hil : (i : Int) < (stages.length : Int)
  ·have hi' : i < stages.length := by omega
   have x1 := Zh (f := bkV) (l := stages) (i := i) (z := 4) hi' rfl
   have hkk : stages.length - (i + 1) < stages.length - i := by omega
   have hsx := hst _ (List.getElem_mem hi')
   rw [List.drop_eq_getElem_cons hi'] at hR
   generalize stages[i] = x at *
   rw [Jd] at hR
   simp only [bkV] at x1
   obtain ⟨q, hq⟩ : ∃ q : Nat, x.ticks = q := ⟨x.ticks.toNat, by omega⟩
   rw [hq, Int.toNat_natCast] at hR
   rw [hq] at x1
   have k1 : ∀ X, hget (([n], X) :: H) [n] = some X := fun X => Z2 ..
   have hw1 : wrapF .i64 ((i : Int) + 1) = ((i + 1 : Nat) : Int) := Z5 (by omega) (by omega)
   simp -implicitDefEqProofs only [go_sem, a16, a18, hT, hil, x1, k1]
   simp only [Z3]
   refine Tr.Does.mono (Q := fun y => (∃ (T' : List AV) (n : Nat) (H : Heap) (c : σ) (g : Gs), y = ((AExit.exit 2, T'), (⟨H, n, [], false, []⟩ : St)) /\ T'.length = 35 /\ nth T' 0 = some (.yield l) /\ nth T' 4 = some (.ptr [m, 4, 0] 0) /\ nth T' 16 = some (.lst (stages.map bkV)) /\ nth T' 17 = some (.int .i64 stages.length) /\ nth T' 18 = some (.int .i64 i) /\ m < n /\ I c H /\ SysAt .nils H [m, 4, 0] [m, 2, 0] [m, 2, 1] [m, 2, 2] v g /\ Fits v g /\ R = runT nxt v c g (flatT (stages.drop (i + 1)))) \/ (∃ (T' : List AV) (n : Nat) (H : Heap) (c : σ) (g : Gs), y = ((AExit.ret, T'), (⟨H, n, [], false, []⟩ : St)) /\ m < n /\ R = .inr (c, g) /\ S c g H)) ?_ ?_
   ·refine Zj (fun k T s' => T.length = 35 /\ nth T 0 = some (.yield l) /\ nth T 4 = some (.ptr [m, 4, 0] 0) /\ nth T 6 = some (.ptr [n] 0) /\ nth T 16 = some (.lst (stages.map bkV)) /\ nth T 17 = some (.int .i64 stages.length) /\ nth T 18 = some (.int .i64 i) /\ nth T 23 = some (.int .i64 q) /\ ∃ (u n' : Nat) (H : Heap) (c : σ) (g : Gs), nth T 24 = some (.int .i64 u) /\ u <= q /\ k = q - u /\ s' = ⟨H, n', [], false, []⟩ /\ n < n' /\ hget H [n] = some (.cells [.int .i64 q, .int .i64 x.heat, .lst (x.shut.map iV), .bool x.flash] true 0) /\ I c H /\ SysAt .nils H [m, 4, 0] [m, 2, 0] [m, 2, 1] [m, 2, 2] v g /\ Fits v g /\ R = runT nxt v c g (List.replicate (q - u) x ++ flatT (stages.drop (i + 1)))) (k := q) (by omega) ?_ ?_
    ·exact ⟨by simp -implicitDefEqProofs only [go_sem, hT], by simp -implicitDefEqProofs only [go_sem, a0], by simp -implicitDefEqProofs only [go_sem, a4], by simp -implicitDefEqProofs only [go_sem, hT], by simp -implicitDefEqProofs only [go_sem, a16], by simp -implicitDefEqProofs only [go_sem, a17], by simp -implicitDefEqProofs only [go_sem, a18], by simp -implicitDefEqProofs only [go_sem, hT], 0, n + 1, _, c, g, by simp -implicitDefEqProofs only [go_sem, hT] <;> rfl, by omega, rfl, rfl, by omega, Z2 .., he.keep c H _ hI (fun k hk => hc11 (by omega)), ⟨hc13.trans hs.x, hc13.trans hs.f, hc13.trans hs.b, fun e => hc13.trans (hs.r e)⟩, hfit, hR⟩
    clear a0 a4 a16 a17 a18 hT T hs hI hR hfit k1 x1 hw1 H c g
    rintro k T s' ⟨hT, a0, a4, a6, a16, a17, a18, a23, u, n', H, c, g, a24, hu, rfl, rfl, hnn, hst0, hI, hs, hfit, hR⟩
    simp -implicitDefEqProofs only [go_sem, a23, a24, hT]
    by_cases huq : (u : Int) < (q : Int)
    ·have hfit2 := Z4c hfit x
     have htc := fun n => Ze2 (K := K) (n := n) (p := []) (j := []) (s := x) hs ⟨n33k (by decide), n33k (by decide), n33k (by decide), n33c (by decide), n33c (by decide), n33c (by decide)⟩ hva hfit (by omega) (by omega) (by omega)
     have hs3 := Ja (g' := tickT v g x) hs ⟨n33k (by decide), n33k (by decide), n33k (by decide), n33c (by decide), n33c (by decide), n33c (by decide)⟩ (by rw [hfit2.r, hfit.r])
     have hfr : ∀ k, hget (sysPut .nils [m, 4, 0] [m, 2, 0] [m, 2, 1] [m, 2, 2] v (tickT v g x) H) [k] = hget H [k] := fun k => Jc n31 n31 n31 (fun _ => n31)
     generalize sysPut .nils [m, 4, 0] [m, 2, 0] [m, 2, 1] [m, 2, 2] v (tickT v g x) H = H3 at *
     have hI3 := he.keep c H H3 hI (fun k _ => hfr k)
     have hst3 := (hfr n).trans hst0
     have hrep : q - u = (q - (u + 1)) + 1 := by omega
     rw [hrep, List.replicate_succ] at hR
     have hR2 : R = match nxt c (tickT v g x) with | some c' => runT nxt v c' (tickT v g x) (List.replicate (q - (u + 1)) x ++ flatT (stages.drop (i + 1))) | none => .inr (c, tickT v g x) := hR
     have hw2 : wrapF .i64 ((u : Int) + 1) = ((u + 1 : Nat) : Int) := Z5 (by omega) (by omega)
     have hk3 : q - (u + 1) < q - u := by clear hw2; omega
     have hu3 : u + 1 <= q := by clear hw2; omega
     simp only [bkV, hq] at htc
     rcases he.eat c (tickT v g x) H3 n' (by clear hw2; omega) hI3 hs3 hfit2 with ⟨c', H4, n4, e1, e2, e3, hI4, hf4, hs4⟩ | ⟨H4, n4, e1, e2, e3, e4⟩
     ·rw [e1] at hR2
      simp only at hR2
      have hst4 := (hf4 n (by clear hw2; omega) (by clear hw2; omega)).trans hst3
      have hn4 : n < n4 := by clear hw2; omega
      simp -implicitDefEqProofs only [go_sem, a0, a4, a6, a16, a17, a18, a23, a24, hT, huq, hst0, htc, e2, hw2]
      exact ⟨q - (u + 1), hk3, trivial, trivial, trivial, trivial, trivial, trivial, trivial, trivial, u + 1, n4, H4, c', _, rfl, hu3, rfl, rfl, hn4, hst4, hI4, hs4, hfit2, hR2⟩
     ·rw [e1] at hR2
      simp only at hR2
      have hn4 : m < n4 := by clear hw2; omega
      simp -implicitDefEqProofs only [go_sem, a0, a4, a6, hT, huq, hst0, htc, e2]
      exact .inr ⟨_, n4, H4, c, _, rfl, hn4, hR2, e4⟩
    ·have hue : u = q := by omega
     subst hue
     rw [Nat.sub_self] at hR
     simp -implicitDefEqProofs only [go_sem, huq]
     exact .inl ⟨_, n', H, c, g, rfl, by simp -implicitDefEqProofs only [go_sem, hT], by simp -implicitDefEqProofs only [go_sem, a0], by simp -implicitDefEqProofs only [go_sem, a4], by simp -implicitDefEqProofs only [go_sem, a16], by simp -implicitDefEqProofs only [go_sem, a17], by simp -implicitDefEqProofs only [go_sem, a18], by omega, hI, hs, hfit, hR⟩
   clear a0 a4 a16 a17 a18 hT T hs hI hR hfit k1 x1 H c g
   rintro _ (⟨T, n', H, c, g, rfl, hT, a0, a4, a16, a17, a18, hnn, hI, hs, hfit, hR⟩ | ⟨T, n', H, c, g, rfl, hnn, hR, hS⟩)
   ·simp -implicitDefEqProofs only [go_sem, a0, a4, a16, a17, a18, hT, hw1]
    exact ⟨stages.length - (i + 1), hkk, trivial, trivial, trivial, trivial, trivial, i + 1, n', H, c, g, rfl, hi', rfl, rfl, hnn, hI, hs, hfit, hR⟩
   ·simp -implicitDefEqProofs only [go_sem, Try.results152]
    rw [hR]
    exact ⟨n', rfl, hnn, hS⟩
  ·have hie : i = stages.length := by omega
   subst hie
   rw [List.drop_length] at hR
   simp -implicitDefEqProofs only [go_sem, hil, Try.results152]
   rw [hR]
   exact ⟨n, rfl, hmn, hI, hs⟩
 ·have hall : allT nxt v c0 stages = .inr (c0, beginG v) := by unfold allT; rw [e1]
  rw [hall]
  simp -implicitDefEqProofs only [go_sem, hT, e2, Try.results152]
  exact ⟨n2, rfl, by omega, e4⟩
end Go.Proofs.Ytgnpnfkncbnjnaa
namespace Go.Proofs.Ytgnpnfkncbnjnaa
attribute [local go_sem_proc] Int.reduceEq Int.reduceNeg Nat.reduceEqDiff Nat.reduceLT Nat.reduceAdd Nat.reduceSub Nat.reduceMul Int.reduceLE Int.reduceLT Int.reduceToNat Nat.reduceLeDiff
attribute [local go_sem] Int.toNat_natCast Bool.not_true Bool.not_false
open Go Go.Am
attribute [local congr] Za Z6 Z7
attribute [local go_sem] Go.Am.frozen Go.Am.freezeG Go.Am.freezeGs
def runsS (v : Vac) : Int -> List Bk -> Int
 | q, [] => if 2000 < q then 14 else 0
 | q, s :: r => if stageE v s = 0 then runsS v (wrapF .i64 (q + s.ticks)) r else stageE v s
def runsE (v : Vac) (l : List Bk) : Int := if checkE v = 0 then if 20 < l.length then 8 else runsS v 0 l else checkE v
def BkL (K : Nat) (l : List Bk) : Prop := l.length <= 9223372036854775807 /\ ∀ s ∈ l, s.shut.length < K /\ s.shut.length <= 9223372036854775807
theorem Z4e (v : Vac) (l : List Bk) (K : Nat) (s : St) (hK : 100 < K) (hv : v.Lens K) (hl : BkL K l) : acall cfg (K + 12) 98 [vacV v, .lst (l.map bkV)] s = .ret (.int .i64 (runsE v l), s) := by
 refine Jt Zm0 Zlz (by first | rfl | simp -implicitDefEqProofs only [redoH, redo1, go_sem]) (by first | rfl | simp -implicitDefEqProofs only [go_sem]) (by first | rfl | simp -implicitDefEqProofs only [redoH, redo1, go_sem]) ?_
 refine Z9 rfl fun T hT' hA => ?_
 have a0 := hA 0 _ rfl
 have a1 := hA 1 _ rfl
 have hT : T.length = 37 := hT'
 clear hA hT'
 have hc := fun s => Z5j v (K + 2) s (by omega) (hv.more 2)
 simp only [vacV] at hc
 unfold runsE
 by_cases c0 : checkE v = 0
 ·rw [if_pos c0]
  have hlq : ((20 : Int) < (l.length : Int)) = (20 < l.length) := by rw [eq_iff_iff]; omega
  by_cases c1 : 20 < l.length
  ·rw [if_pos c1]
   simp -implicitDefEqProofs only [go_sem, a0, a1, hT, hc, c0, hlq, c1, Try.results98]
  ·rw [if_neg c1]
   simp -implicitDefEqProofs only [go_sem, a0, a1, hT, hc, c0, hlq, c1]
   simp only [Z3]
   refine Zj (fun k T s' => T.length = 37 /\ nth T 2 = some (.ptr [0] 0) /\ nth T 18 = some (.lst (l.map bkV)) /\ nth T 19 = some (.int .i64 l.length) /\ ∃ (i m : Nat) (q : Int) (H : Heap), nth T 20 = some (.int .i64 i) /\ nth T 6 = some (.int .i64 q) /\ i <= l.length /\ k = l.length - i /\ s' = ⟨H, m + 1, [], false, []⟩ /\ hget H [0] = some (vacC v) /\ runsS v 0 l = runsS v q (l.drop i)) (k := l.length) (by omega) ?_ ?_
   ·exact ⟨by simp -implicitDefEqProofs only [go_sem, hT], by simp -implicitDefEqProofs only [go_sem, hT], by simp -implicitDefEqProofs only [go_sem, hT], by simp -implicitDefEqProofs only [go_sem, hT], 0, 0, 0, _, by simp -implicitDefEqProofs only [go_sem, hT] <;> rfl, by simp -implicitDefEqProofs only [go_sem, hT], by omega, rfl, rfl, rfl, rfl⟩
   clear a0 a1 hT T
   rintro k T s' ⟨hT, a2, a18, a19, i, m, q, H, a20, a6, hi, rfl, rfl, g0, he⟩
   simp -implicitDefEqProofs only [go_sem, a19, a20, hT]
   by_cases hil : (i : Int) < (l.length : Int)
   ·have hi' : i < l.length := by omega
    have e1 := Zh (f := bkV) (l := l) (i := i) (z := 4) hi' rfl
    have hkk : l.length - (i + 1) < l.length - i := by omega
    have hx := hl.2 _ (List.getElem_mem hi')
    rw [List.drop_eq_getElem_cons hi'] at he
    generalize l[i] = x at *
    simp only [runsS] at he
    have hst := fun s => Zbn v x (K + 9) s (by omega) hx.2 hv.pip.2
    have k0 : ∀ X, hget (([m + 1], X) :: H) [0] = hget H [0] := fun X => hc11 (by omega)
    have k1 : ∀ X, hget (([m + 1], X) :: H) [m + 1] = some X := fun X => Z2 ..
    have hw1 : wrapF .i64 ((i : Int) + 1) = ((i + 1 : Nat) : Int) := Z5 (by omega) (by omega)
    have g0' := g0
    unfold vacC at g0
    simp only [bkV, vacV] at e1 hst
    by_cases c2 : stageE v x = 0
    ·rw [if_pos c2] at he
     simp -implicitDefEqProofs only [go_sem, a2, a6, a18, a19, a20, hT, hil, e1, k0, k1, g0, hst, c2, hw1]
     exact ⟨l.length - (i + 1), hkk, trivial, trivial, trivial, trivial, i + 1, m + 1, _, _, rfl, rfl, hi', rfl, rfl, (k0 _).trans g0', he⟩
    ·rw [if_neg c2] at he
     simp -implicitDefEqProofs only [go_sem, a2, a18, a20, hT, hil, e1, k0, k1, g0, hst, c2, Try.results98]
     rw [he]
   ·have hie : i = l.length := by omega
    subst hie
    rw [List.drop_length] at he
    simp only [runsS] at he
    rw [he]
    by_cases c2 : 2000 < q
    ·simp -implicitDefEqProofs only [go_sem, a6, hT, hil, c2, Try.results98, if_true]
    ·simp -implicitDefEqProofs only [go_sem, a6, hT, hil, c2, Try.results98, if_false]
 ·rw [if_neg c0]
  simp -implicitDefEqProofs only [go_sem, a0, hT, hc, c0, Try.results98]
end Go.Proofs.Ytgnpnfkncbnjnaa
namespace Go.Proofs.Ytgnpnfkncbnjnaa
open Go Go.Am
section
variable {C : Cfg} {call : FuncId -> List AV -> M AV} {rnd : Nm -> List AV -> M AV} {K : Nat}
theorem Je {l : Nm} {args T T' : List AV} {s : St} {ps : List Nat} {a b : Code} {st0 : LoopState} {pend : Option Code} {Q : AV × St -> Prop} (h : hget s.H l = some (.loop T ps a b st0 pend)) (hs : setAll T ps args = some T')
  (ha : (exec C (acall C K) (around C K) (K + 1) a T' s).Does fun x => x.1.1 = .normal /\ ∃ T1 ps1 a1 b1 pend1, hget x.2.H l = some (.loop T1 ps1 a1 b1 .ready pend1) /\ (exec C (acall C K) (around C K) (K + 1) b x.1.2 (x.2.put l (.loop T1 ps1 a1 b1 .busy pend1))).Does fun z => ∃ T2 ps2 a2 b2 st2 pend2, hget z.2.H l = some (.loop T2 ps2 a2 b2 st2 pend2) /\
   match jumpOf z.1.1 with | none => Q (.bool true, z.2.put l (.loop T2 ps2 a2 b2 .ready none)) | some j => Q (.bool false, z.2.put l (.loop T2 ps2 a2 b2 .done (some j)))) :
  (around C (K + 1) l args s).Does Q := by
 rw [Z0w]
 unfold roundA
 rw [Z8, Yb, h]
 simp only [Tr.bind_ret, hs]
 rw [Z8, Z3]
 refine ha.mono ?_
 rintro ⟨⟨e, T1⟩, s1⟩ ⟨rfl, T2, ps1, a1, b1, pend1, h1, h2⟩
 simp only at h1 h2 ⊢
 rw [Z8, Yb, h1]
 simp only [Tr.bind_ret]
 rw [Z8, Y7, h1]
 simp only [Tr.bind_ret]
 rw [Z8, Z3]
 refine h2.mono ?_
 rintro ⟨⟨e, T3⟩, s3⟩ ⟨T4, ps2, a2, b2, st2, pend2, h3, h4⟩
 simp only at h3 h4 ⊢
 rw [Z8, Yb, h3]
 simp only [Tr.bind_ret]
 cases hj : jumpOf e with
 | none => rw [hj] at h4; simp only at h4 ⊢; rw [Z8, Y7, h3]; simp only [Tr.bind_ret, Ya]; exact ⟨_, rfl, h4⟩
 | some j => rw [hj] at h4; simp only at h4 ⊢; rw [Z8, Y7, h3]; simp only [Tr.bind_ret, Ya]; exact ⟨_, rfl, h4⟩
theorem Zbt {f : Operand} {g : FuncId} {caps T : List AV} {ps : Array Nat} {a b : Code} {s : St} {Q : X × St -> Prop} (hf : evA T f = some (.func g caps))
  (hc : (call g (.yield s.name :: caps) (s.new (.loop T ps.toList a b .ready none))).Does fun x => ∃ T' ps' a' b' st pend e, hget x.2.H s.name = some (.loop T' ps' a' b' st pend) /\ st ≠ .busy /\ exitOf pend = some e /\ Q ((e, T), x.2.put s.name (.loop T' ps' a' b' .exhausted pend))) :
  (exec C call rnd K (.rangeFunc f ps a b) T s).Does Q := by
 show ((match evA T f with
   | some fv => rangeFuncA call fv ps.toList a b T
   | none => M.fail) s).Does Q
 rw [hf]
 simp only
 unfold rangeFuncA
 rw [Z8, X2]
 simp only [Tr.bind_ret]
 rw [Z8, Z3]
 refine hc.mono ?_
 rintro ⟨x, s1⟩ ⟨T', ps', a', b', st, pend, e, h1, h2, h3, h4⟩
 simp only at h1 h4 ⊢
 rw [Z8, Yb, h1]
 simp only [Tr.bind_ret]
 cases st with
 | busy => exact absurd rfl h2
 | ready => simp only [h3]; rw [Z8, Y7, h1]; simp only [Tr.bind_ret, Ya]; exact ⟨_, rfl, h4⟩
 | done => simp only [h3]; rw [Z8, Y7, h1]; simp only [Tr.bind_ret, Ya]; exact ⟨_, rfl, h4⟩
 | exhausted => simp only [h3]; rw [Z8, Y7, h1]; simp only [Tr.bind_ret, Ya]; exact ⟨_, rfl, h4⟩
end
theorem Z85 {np : Int} : ∀ {l : List Int} {last : Int}, shutE np last l = 0 -> -1 <= last -> l ≠ [] -> l.length + last < np
 | [], _, _, _, h => absurd rfl h
 | a :: r, last, h, hl, _ => by
  unfold shutE at h
  split at h
  ·rename_i h1
   have h1 : 0 <= a /\ a <= np - 1 := by unfold fromB at h1; rw [decide_eq_true_iff] at h1; exact h1
   split at h
   ·exact absurd h (by decide)
   ·by_cases e : r = []
    ·subst e; rw [List.length_cons, List.length_nil]; omega
    ·have := Z85 h (by omega) e
     rw [List.length_cons]; omega
  ·exact absurd h (by decide)
theorem Z4f {v : Vac} {s : Bk} (hv : Valid v) (h : stageE v s = 0) : 0 <= s.ticks /\ s.ticks <= 2000 /\ s.shut.length <= 40 := by
 unfold stageE at h
 split at h
 ·rename_i h1
  have h2 : 0 <= s.ticks /\ s.ticks <= 2000 := by have := h1.1; unfold fromB at this; rw [decide_eq_true_iff] at this; exact this
  refine ⟨h2.1, h2.2, ?_⟩
  by_cases e : s.shut = []
  ·rw [e]; exact Nat.zero_le _
  ·have := Z85 h (by decide) e
   have := hv.p16
   omega
 ·exact absurd h (by decide)
theorem Z0q {v : Vac} : ∀ {l : List Bk} {q : Int}, runsS v q l = 0 -> ∀ s ∈ l, stageE v s = 0
 | [], _, _, _, h => nomatch h
 | a :: r, q, h, s, hs => by
  unfold runsS at h
  split at h
  ·rename_i h1
   rcases List.mem_cons.1 hs with rfl | hs
   ·exact h1
   ·exact Z0q h s hs
  ·rename_i h1; exact absurd h h1
theorem Z1x {v : Vac} {l : List Bk} (h : runsE v l = 0) : checkE v = 0 /\ l.length <= 20 /\ runsS v 0 l = 0 := by
 unfold runsE at h
 split at h
 ·rename_i h1
  split at h
  ·exact absurd h (by decide)
  ·exact ⟨h1, by omega, h⟩
 ·rename_i h1; exact absurd h h1
theorem Z1a {σ : Type} {K N : Nat} {f : Operand} {T : List AV} {ps : Array Nat} {a b : Code} {n0 : Nat} {H0 : Heap} {Q : X × St -> Prop} {bV bS : Nm} {v : Vac} {stages : List Bk} {fr : FuncId}
  (nxt : σ -> Gs -> Option σ) (Iof : Blk -> σ -> Heap -> Prop) (S : σ -> Gs -> Heap -> Prop) (c0 : σ) (hf : evA T f = some (.func 152 [.ptr bV 0, .ptr bS 0]))
  (hv : Valid v) (hK : 2100 < K) (hst : ∀ s ∈ stages, 0 <= s.ticks /\ s.ticks <= 2000 /\ s.shut.length <= 40) (hsl : stages.length <= 20)
  (P : List AV -> Prop) (hP : P T) (hh : ∀ T, P T -> ∀ L, L = Blk.loop T ps.toList a b .ready none ->
   (Eats nxt v [n0] bV bS stages (n0 + 1) (K + 6) (Iof L) S) /\ (Iof L c0 (([n0], L) :: H0)) /\ (∀ c H, Iof L c H -> hget H [n0] = some L) /\
   (∀ c g H n, allT nxt v c0 stages = .inl (c, g) -> Iof L c H -> SysAt .nils H [n0 + 1, 4, 0] [n0 + 1, 2, 0] [n0 + 1, 2, 1] [n0 + 1, 2, 2] v g -> n0 + 1 < n -> Q ((.normal, T), ⟨hset H [n0] (.loop T ps.toList a b .exhausted none), n, [], false, []⟩)) /\
   (∀ c g H n, allT nxt v c0 stages = .inr (c, g) -> S c g H -> n0 + 1 < n -> ∃ T' ps' a' b' st pend e, hget H [n0] = some (.loop T' ps' a' b' st pend) /\ st ≠ .busy /\ exitOf pend = some e /\ Q ((e, T), ⟨hset H [n0] (.loop T' ps' a' b' .exhausted pend), n, [], false, []⟩))) :
  (exec (cfg.at fr) (acall cfg (K + 7)) (around cfg (K + 7)) N (.rangeFunc f ps a b) T ⟨H0, n0, [], false, []⟩).Does Q := by
 obtain ⟨he, h0, hL, hi, hs⟩ := hh T hP _ rfl
 refine Zbt hf ?_
 refine (Zjx (m := n0 + 1) he hv (by omega) hst hsl hK c0 _ h0).mono ?_
 rintro ⟨x, s⟩ ⟨n, e, hn, h⟩
 simp only at e h
 rw [e]
 cases hall : allT nxt v c0 stages with
 | inl p =>
  obtain ⟨c, g⟩ := p
  rw [hall] at h
  simp only at h
  exact ⟨T, ps.toList, a, b, .ready, none, .normal, hL _ _ h.1, by decide, rfl, hi c g _ n hall h.1 h.2 hn⟩
 | inr p =>
  obtain ⟨c, g⟩ := p
  rw [hall] at h
  exact hs c g _ n hall h hn
end Go.Proofs.Ytgnpnfkncbnjnaa
namespace Go.Proofs.Ytgnpnfkncbnjnaa
open Go Go.Am
attribute [local congr] Za Z6 Z7
end Go.Proofs.Ytgnpnfkncbnjnaa
namespace Go.Proofs.Ytgnpnfkncbnjnaa
open Go Go.Am
attribute [local congr] Za Z6 Z7
noncomputable def gasPut (f b r : Nm) (g : Gs) (H : Heap) : Heap := match g.room with
 | [] => putsH [f, b] [rgB g.free, rgB g.bound] H
 | _ :: _ => putsH [f, b, r] [rgB g.free, rgB g.bound, rgB g.room] H
structure Apart3 (f b r : Nm) : Prop where
 fb : f ≠ b
 fr : f ≠ r
 br : b ≠ r
theorem Ze3 {H : Heap} {f b r : Nm} {g g' : Gs} (h : GasAt H f b r g) (ha : Apart3 f b r) (h1 : g.free ≠ []) (h2 : g.bound ≠ []) (hr : g'.room.length = g.room.length) : GasAt (gasPut f b r g' H) f b r g' := by
 have hf := h.f h1
 have hb := h.b h2
 unfold gasPut
 cases hg : g'.room with
 | nil =>
  show GasAt (hset (hset H f _) b _) f b r g'
  exact ⟨fun _ => by rw [Z1 _ _ (Ne.symm ha.fb)]; exact hss hf, fun _ => hss ((Z1 _ _ ha.fb).trans hb), fun e => absurd hg e⟩
 | cons a l =>
  have hr2 := h.r (fun e => by rw [hg, e] at hr; simp at hr)
  show GasAt (hset (hset (hset H f _) b _) r _) f b r g'
  exact ⟨fun _ => by rw [Z1 _ _ (Ne.symm ha.fr), Z1 _ _ (Ne.symm ha.fb)]; exact hss hf, fun _ => by rw [Z1 _ _ (Ne.symm ha.br)]; exact hss ((Z1 _ _ ha.fb).trans hb),
   fun _ => by rw [hg]; exact hss ((Z1 _ _ ha.br).trans ((Z1 _ _ ha.fr).trans hr2))⟩
theorem Ze4 {H : Heap} {f b r q : Nm} {g : Gs} (h2 : f ≠ q) (h3 : b ≠ q) (h4 : g.room ≠ [] -> r ≠ q) : hget (gasPut f b r g H) q = hget H q := by
 unfold gasPut
 cases hg : g.room with
 | nil =>
  show hget (hset (hset H f _) b _) q = _
  rw [Z1 _ _ h3, Z1 _ _ h2]
 | cons a l =>
  show hget (hset (hset (hset H f _) b _) r _) q = _
  rw [Z1 _ _ (h4 (by rw [hg]; simp)), Z1 _ _ h3, Z1 _ _ h2]
end Go.Proofs.Ytgnpnfkncbnjnaa
namespace Go.Proofs.Ytgnpnfkncbnjnaa
open Go Go.Am
attribute [local congr] Za Z6 Z7
end Go.Proofs.Ytgnpnfkncbnjnaa
namespace Go.Proofs.Ytgnpnfkncbnjnaa
open Go Go.Am
attribute [local congr] Za Z6 Z7
end Go.Proofs.Ytgnpnfkncbnjnaa
namespace Go.Proofs.Ytgnpnfkncbnjnaa
open Go Go.Am
attribute [local congr] Za Z6 Z7
end Go.Proofs.Ytgnpnfkncbnjnaa
namespace Go.Proofs.Ytgnpnfkncbnjnaa
open Go Go.Am
attribute [local congr] Za Z6 Z7
structure RAt (H : Heap) (f b r : Nm) (v : Vac) (g : Gs) (s : Bk) : Prop where
 v : hget H [0] = some (vacC v)
 c : hget H [1] = some (.cells [mutV f g.free.length, mutV b g.bound.length, mutV r g.room.length, .int .i64 g.most, .bool g.flashed] true 0)
 k : hget H [2] = some (.cells [.int .i64 s.ticks, .int .i64 s.heat, .lst (s.shut.map iV), .bool s.flash] true 0)
 z : hget H [3] = some (.cells [.nils, .nils, .nils, .int .i64 0, .bool false] true 0)
 g : GasAt H f b r g
theorem RAt.put {H : Heap} {f b r : Nm} {v : Vac} {g g' : Gs} {s : Bk} (h : RAt H f b r v g s) (ha : Apart3 f b r) (h1 : g.free ≠ []) (h2 : g.bound ≠ []) (l1 : g'.free.length = g.free.length) (l2 : g'.bound.length = g.bound.length) (l3 : g'.room.length = g.room.length) (e1 : g'.most = g.most) (e2 : g'.flashed = g.flashed) (n0 : ∀ i, i < 4 -> f ≠ [i] /\ b ≠ [i] /\ r ≠ [i]) : RAt (gasPut f b r g' H) f b r v g' s := by
 have q : ∀ i, i < 4 -> hget (gasPut f b r g' H) [i] = hget H [i] := fun i hi => Ze4 (n0 i hi).1 (n0 i hi).2.1 (fun _ => (n0 i hi).2.2)
 exact ⟨(q 0 (by omega)).trans h.v, by rw [l1, l2, l3, e1, e2]; exact (q 1 (by omega)).trans h.c, (q 2 (by omega)).trans h.k, (q 3 (by omega)).trans h.z, Ze3 h.g ha h1 h2 l3⟩
end Go.Proofs.Ytgnpnfkncbnjnaa
namespace Go.Proofs.Ytgnpnfkncbnjnaa
open Go Go.Am
attribute [local congr] Za Z6 Z7
end Go.Proofs.Ytgnpnfkncbnjnaa
namespace Go.Proofs.Ytgnpnfkncbnjnaa
attribute [local go_sem_proc] Int.reduceEq Int.reduceNeg Nat.reduceEqDiff Nat.reduceLT Nat.reduceAdd Nat.reduceSub Nat.reduceMul Int.reduceLE Int.reduceLT Int.reduceToNat Nat.reduceLeDiff
attribute [local go_sem] Int.toNat_natCast Bool.not_true Bool.not_false
open Go Go.Am
attribute [local congr] Za Z6 Z7
structure StgG (k : Int) (q : Nat) (s : Bk) : Prop where
 t : 0 <= s.ticks /\ s.ticks <= k
 h : 0 <= s.heat /\ s.heat < 900
 n : s.shut.length <= q
 o : s.shut.Pairwise (· < ·)
 s : ∀ x ∈ s.shut, 0 <= x /\ x < q
def Asc (n : Int) (l : List Int) : Prop := (∀ x ∈ l, 0 <= x /\ x < n) /\ l.Pairwise (· < ·)
theorem Zg4 {n n' : Int} {l : List Int} (h : Asc n l) (hn : n <= n') : Asc n' l := ⟨fun x hx => by have := h.1 x hx; omega, h.2⟩
theorem Zg5 {n n' : Int} {l : List Int} (h : Asc n l) (h0 : 0 <= n) (hn : n < n') : Asc n' (l ++ [n]) := by
 refine ⟨fun x hx => ?_, List.pairwise_append.2 ⟨h.2, List.pairwise_singleton .., fun a ha b hb => ?_⟩⟩
 ·rcases List.mem_append.1 hx with hx | hx
  ·have := h.1 x hx; omega
  ·rw [List.mem_singleton] at hx; omega
 ·rw [List.mem_singleton] at hb; have := h.1 a ha; omega
theorem bs22 (f : FuncId) (a : Int) (s : St) : buildSliceA (cfg.at f) true 22 1 [(0, .int .i64 a)] s = .ret (.lst [.int .i64 a], s) := by
 simp -implicitDefEqProofs only [go_sem, Go.Am.buildSliceA]
theorem Z2t (v : Vac) (hp : v.pipes.length <= 1000000) (k : Int) (hk : 0 <= k /\ k <= 1000000) (w : Int) (u : Nat) (K : Nat) (hK : v.pipes.length + 20 < K) :
  ∃ s w', StgG k v.pipes.length s /\ ∀ (b : Nm) (st : St), hget st.H b = some (.cells [.int .u64 w] true u) -> acall cfg (K + 10) 24 [.ptr b 0, vacV v, .int .i64 k] st = .ret (bkV s, st.put b (.cells [.int .u64 w'] true u)) := by
 have key : ∃ s w', StgG k v.pipes.length s /\ (bodyA (cfg.at 24) (acall cfg (K + 9)) (around cfg (K + 9)) (K + 9 + 1) Try.f24 [.ptr [0] 0, vacV v, .int .i64 k] ⟨[([0], .cells [.int .u64 w] true u)], 1, [], false, []⟩).Does fun x => x.1.shut = bkV s /\ hget x.2.H [0] = some (.cells [.int .u64 w'] true u) := by
  suffices h : (bodyA (cfg.at 24) (acall cfg (K + 9)) (around cfg (K + 9)) (K + 9 + 1) Try.f24 [.ptr [0] 0, vacV v, .int .i64 k] ⟨[([0], .cells [.int .u64 w] true u)], 1, [], false, []⟩).Does fun x => ∃ s w', StgG k v.pipes.length s /\ x.1.shut = bkV s /\ hget x.2.H [0] = some (.cells [.int .u64 w'] true u) by
   obtain ⟨x, e, s, w', h1, h2, h3⟩ := h
   exact ⟨s, w', h1, x, e, h2, h3⟩
  refine Z9 rfl fun T hT' hA => ?_
  have a0 := hA 0 _ rfl
  have a1 := hA 1 _ rfl
  have a2 := hA 2 _ rfl
  have hT : T.length = 34 := hT'
  clear hA hT'
  have hk1 : wrapF .i64 (k + 1) = k + 1 := Z5 (by omega) (by omega)
  have ut1 := fun H m jr j hd => Js (H := H) (m := m) (u := u) (p := []) (jr := jr) (j := j) (k + 1) (K + 7) hd (by omega)
  have ut2 := fun H m jr j hd => Js (H := H) (m := m) (u := u) (p := []) (jr := jr) (j := j) 900 (K + 7) hd (by decide)
  have ot := fun H m jr j hd => Zjq (H := H) (m := m) (u := u) (p := []) (jr := jr) (j := j) 4 (K + 6) hd (by decide)
  have d0 : isD u [([0], .cells [.int .u64 w] true u)] := ⟨w, rfl⟩
  simp -implicitDefEqProofs (maxDischargeDepth := 9) only [go_sem, Zdy, Z6j, Xx, Z1s, a0, a1, a2, hT, hk1, ut1, ut2, ot, d0]
  have r1 := Zy w (k + 1) (by omega)
  have r2 := Zy (nextW w) 900 (by decide)
  generalize uptoN w (k + 1) = tk at *
  generalize uptoN (nextW w) 900 = ht at *
  generalize oneB (nextW (nextW w)) 4 = fl at *
  generalize nextW (nextW (nextW w)) = w1 at *
  clear ut1 ut2 ot d0 hk1
  simp only [Z3]
  refine Zj (fun l T s' => T.length = 34 /\ nth T 0 = some (.ptr [0] 0) /\ nth T 4 = some (.ptr [1] 0) /\ nth T 6 = some (.ptr [2] 0) /\ nth T 7 = some (.ptr [3] 0) /\ ∃ (i m c : Nat) (H : Heap) (row : List Int), nth T 8 = some (.int .i64 i) /\ i <= v.pipes.length /\ l = v.pipes.length - i /\ s' = ⟨H, m + 4, [], false, []⟩ /\ isD u H /\ hget H [1] = some (vacC v) /\ hget H [2] = some (.cells [.int .i64 0, .int .i64 0, .nils, .bool false] true 0) /\ hget H [3] = some (.cells [.int .i64 tk, .int .i64 ht, ownV [c + 4] (row.map iV), .bool fl] true 0) /\ (row.map iV ≠ [] -> c < m /\ hget H [c + 4] = some (.tok row.length 1)) /\ row.length <= i /\ Asc i row) (k := v.pipes.length) (by omega) ?_ ?_
  ·exact ⟨by simp -implicitDefEqProofs only [go_sem, hT], by simp -implicitDefEqProofs only [go_sem, a0], by simp -implicitDefEqProofs only [go_sem, hT], by simp -implicitDefEqProofs only [go_sem, hT], by simp -implicitDefEqProofs only [go_sem, hT], 0, 0, 0, _, [], by simp -implicitDefEqProofs only [go_sem, hT] <;> rfl, by omega, rfl, rfl, ⟨_, rfl⟩, rfl, rfl, rfl, fun e => absurd rfl e, Nat.le_refl _, (fun x hx => nomatch hx), List.Pairwise.nil⟩
  clear a0 a1 a2 hT T
  rintro l T s' ⟨hT, a0, a4, a6, a7, i, m, c, H, row, a8, hi, rfl, rfl, hd, g1, g2, g3, gt, hrl, hrx⟩
  unfold vacC at g1
  simp -implicitDefEqProofs only [go_sem, a4, a8, hT, g1]
  by_cases hil : (i : Int) < (v.pipes.length : Int)
  ·have hi' : i < v.pipes.length := by omega
   have hkk : v.pipes.length - (i + 1) < v.pipes.length - i := by omega
   have ot := Zjq (H := H) (m := m + 4) (u := u) (p := []) (jr := false) (j := []) 4 (K + 6) hd (by decide)
   generalize oneB (dW H) 4 = ob at *
   generalize nextW (dW H) = w2 at *
   have hd2 : isD u (hset H [0] (.cells [.int .u64 w2] true u)) := Ys hd
   have q1 : hget (hset H [0] (.cells [.int .u64 w2] true u)) [1] = hget H [1] := hs11 (by decide)
   have q2 : hget (hset H [0] (.cells [.int .u64 w2] true u)) [2] = hget H [2] := hs11 (by decide)
   have q3 : hget (hset H [0] (.cells [.int .u64 w2] true u)) [3] = hget H [3] := hs11 (by decide)
   have qt : ∀ c, hget (hset H [0] (.cells [.int .u64 w2] true u)) [c + 4] = hget H [c + 4] := fun c => hs11 (by omega)
   rw [g1] at q1
   rw [g2] at q2
   rw [g3] at q3
   have qt' : row.map iV ≠ [] -> c < m /\ hget (hset H [0] (.cells [.int .u64 w2] true u)) [c + 4] = some (.tok row.length 1) := fun e => ⟨(gt e).1, (qt c).trans (gt e).2⟩
   generalize hset H [0] (.cells [.int .u64 w2] true u) = H1 at *
   clear hd g1 g2 g3 gt qt
   have hroom : (row.length + 1) * 8 <= 140737488355328 := by omega
   have hrl2 : row.length <= i + 1 := by omega
   have hw1 : wrapF .i64 ((i : Int) + 1) = ((i + 1 : Nat) : Int) := Z5 (by omega) (by omega)
   have bs := fun a s => bs22 24 a s
   cases ob with
   | false =>
    simp -implicitDefEqProofs only [go_sem, a0, a4, a6, a7, a8, hT, hil, ot, hw1]
    exact ⟨v.pipes.length - (i + 1), hkk, trivial, trivial, trivial, trivial, trivial, i + 1, m, c, H1, row, rfl, hi', rfl, rfl, hd2, q1, q2, q3, qt', hrl2, Zg4 hrx (by clear hw1; omega)⟩
   | true =>
    have hap := Yi (C := cfg.at 24) (sT := 22) (b := [c + 4]) (l := row.map iV) (x := iV i) (H := H1) (n := m + 4) (p := []) (jr := false) (j := []) (z := 1) Zm4 Zpb rfl rfl rfl rfl rfl rfl (by rw [List.length_map]; exact hroom) (fun hx => by rw [List.length_map]; exact (qt' hx).2)
    have hown : ∀ b, ownV b (row.map iV ++ [iV i]) = .own b (row.map iV ++ [iV i]) := fun b => by cases row.map iV <;> rfl
    have hrm : (row ++ [(i : Int)]).map iV = row.map iV ++ [iV i] := by simp
    simp only [List.nil_append, List.length_map] at hap
    rw [hown] at hap
    have x3 : hget (dropTok (row.map iV) [c + 4] H1) [3] = hget H1 [3] := Y3 _ _ (n11 (by clear hw1; omega))
    have x0 : hget (dropTok (row.map iV) [c + 4] H1) [0] = hget H1 [0] := Y3 _ _ (n11 (by clear hw1; omega))
    have x1 : hget (dropTok (row.map iV) [c + 4] H1) [1] = hget H1 [1] := Y3 _ _ (n11 (by clear hw1; omega))
    have x2 : hget (dropTok (row.map iV) [c + 4] H1) [2] = hget H1 [2] := Y3 _ _ (n11 (by clear hw1; omega))
    generalize dropTok (row.map iV) [c + 4] H1 = H2 at *
    rw [q3] at x3
    have k3 : ∀ q X, hget (([q + 4], X) :: H2) [3] = hget H2 [3] := fun q X => hc11 (by clear hw1; omega)
    simp only [iV] at hap
    simp -implicitDefEqProofs only [go_sem, a0, a4, a6, a7, a8, hT, hil, ot, bs, q3, hap, x3, k3, hw1]
    refine ⟨v.pipes.length - (i + 1), hkk, trivial, trivial, trivial, trivial, trivial, i + 1, m + 1, m, _, row ++ [(i : Int)], rfl, hi', rfl, rfl, ?_, ?_, ?_, ?_, fun _ => ⟨by omega, ?_⟩, ?_, ?_⟩
    all_goals clear hw1
    ·obtain ⟨w9, hw9⟩ := hd2
     exact ⟨w9, (hc11 (by omega)).trans ((hs11 (by decide)).trans (x0.trans hw9))⟩
    ·exact (hc11 (by omega)).trans ((hs11 (by decide)).trans (x1.trans q1))
    ·exact (hc11 (by omega)).trans ((hs11 (by decide)).trans (x2.trans q2))
    ·rw [hrm, hown]; exact (hc11 (by omega)).trans (hss x3)
    ·rw [List.length_append]; exact Z2 ..
    ·simp; omega
    ·exact Zg5 hrx (by omega) (by omega)
  ·have e2 : ∀ Z, hget (hset H [2] Z) [2] = some Z := fun Z => hss g2
   have e0 : ∀ Z, hget (hset H [2] Z) [0] = hget H [0] := fun Z => hs11 (by decide)
   have hsh : ∀ b, (ownV b (row.map iV)).shut = .lst (row.map iV) := fun b => Xj b _
   simp -implicitDefEqProofs only [go_sem, a6, a7, hT, hil, g3, g2, e2, e0, hsh, Try.results24]
   exact ⟨⟨tk, ht, row, fl⟩, dW H, ⟨⟨r1.1, by show tk <= k; omega⟩, r2, by show row.length <= _; omega, hrx.2, fun x hx => by have := hrx.1 x hx; omega⟩, rfl, Jo hd⟩
 obtain ⟨s, w', hg, hd⟩ := key
 refine ⟨s, w', hg, fun b st hb => ?_⟩
 exact Z5g (v := bkV s) Zl4 Zl3 hb rfl (by simp only [vacV, renV, renVs, X5, X6, X7, X8, X9]) rfl rfl rfl rfl (by rfl) (by simp only [bkV, renV, renVs, fl_i]) hd
end Go.Proofs.Ytgnpnfkncbnjnaa
namespace Go.Proofs.Ytgnpnfkncbnjnaa
open Go Go.Am
theorem Y9 {r : Rg} {m : Int} : spansE r m = 0 ↔ RgG m r := by
 unfold spansE
 constructor
 ·intro h
  split at h
  ·exact absurd h (by decide)
  ·split at h
   ·exact absurd h (by decide)
   ·split at h
    ·exact absurd h (by decide)
    ·exact ⟨by omega, by omega, by omega⟩
 ·rintro ⟨h1, h2, h3⟩
  rw [if_neg (by omega), if_neg (by omega), if_neg (by omega)]
theorem Zz {n lo hi : Int} : fromB n lo hi = true ↔ lo <= n /\ n <= hi := by unfold fromB; rw [decide_eq_true_iff]
theorem Yg {α : Type} {f : α -> Int} : ∀ {l : List α}, firstE f l = 0 ↔ ∀ a ∈ l, f a = 0
 | [] => ⟨(fun _ _ h => nomatch h), fun _ => rfl⟩
 | a :: r => by
  unfold firstE
  by_cases h : f a = 0
  ·rw [if_pos h, Yg]; simp [h]
  ·rw [if_neg h]; simp [h]
theorem Z5o {n a most : Int} {r : Rg} : atE n a r most = 0 ↔ (0 <= a /\ a < n) /\ RgG most r := by
 unfold atE
 by_cases h : fromB a 0 (n - 1) = true
 ·rw [if_pos h, Y9]
  rw [Zz] at h
  constructor
  ·intro g; exact ⟨by omega, g⟩
  ·exact And.right
 ·rw [if_neg h]
  rw [Zz] at h
  constructor
  ·intro g; exact absurd g (by decide)
  ·rintro ⟨g, _⟩; exact absurd (show 0 <= a /\ a <= n - 1 by omega) h
structure PipB (n : Int) (p : Pip) : Prop where
 a : 0 <= p.a /\ p.a < n
 b : 0 <= p.b /\ p.b < n
 ab : p.a ≠ p.b
 out : RgG 1000000 p.out
 back : RgG 1000000 p.back
theorem Ze5 {n : Int} {p : Pip} : pipE n p = 0 ↔ PipB n p := by
 unfold pipE
 by_cases h : fromB p.a 0 (n - 1) = true /\ fromB p.b 0 (n - 1) = true
 ·rw [if_pos h]
  rw [Zz, Zz] at h
  by_cases e : p.a = p.b
  ·rw [if_pos e]
   constructor
   ·intro g; exact absurd g (by decide)
   ·intro g; exact absurd e g.ab
  ·rw [if_neg e]
   by_cases g : spansE p.out 1000000 = 0
   ·rw [if_pos g, Y9]
    exact ⟨fun k => ⟨by omega, by omega, e, Y9.1 g, k⟩, fun k => k.back⟩
   ·rw [if_neg g]
    exact ⟨fun k => absurd k g, fun k => absurd (Y9.2 k.out) g⟩
 ·rw [if_neg h]
  constructor
  ·intro g; exact absurd g (by decide)
  ·intro g; exact absurd ⟨Zz.2 (by have := g.a; omega), Zz.2 (by have := g.b; omega)⟩ h
def BandsB : Bool -> Int -> List Rel -> Prop
 | _, _, [] => True
 | first, last, b :: r => (0 <= b.frm /\ b.frm <= 2000) /\ (first = false -> last < b.frm) /\ RgG 1000000 b.rate /\ BandsB false b.frm r
theorem Z86 : ∀ {l : List Rel} {i : Nat} {last : Int}, bandsE i last l = 0 ↔ BandsB (decide (i = 0)) last l
 | [], _, _ => ⟨fun _ => trivial, fun _ => rfl⟩
 | b :: r, i, last => by
  unfold bandsE BandsB
  by_cases h : fromB b.frm 0 2000 = true
  ·rw [if_pos h]
   rw [Zz] at h
   by_cases e : 0 < i /\ b.frm <= last
   ·rw [if_pos e]
    constructor
    ·intro g; exact absurd g (by decide)
    ·rintro ⟨_, g, _⟩
     have := g (by simp; omega)
     omega
   ·rw [if_neg e]
    by_cases g : spansE b.rate 1000000 = 0
    ·rw [if_pos g, Z86]
     rw [show decide (i + 1 = 0) = false by simp]
     constructor
     ·intro k; exact ⟨h, fun q => by simp at q; omega, Y9.1 g, k⟩
     ·rintro ⟨_, _, _, k⟩; exact k
    ·rw [if_neg g]
     constructor
     ·intro k; exact absurd k g
     ·rintro ⟨_, _, k, _⟩; exact absurd (Y9.2 k) g
  ·rw [if_neg h]
   constructor
   ·intro g; exact absurd g (by decide)
   ·rintro ⟨k, _⟩; exact absurd (Zz.2 k) h
structure VesB (x : Ves) : Prop where
 vol : 1 <= x.vol /\ x.vol <= 1000000
 free : RgG 1000000000 x.free
 bound : RgG 1000000000 x.bound
 len : x.bands.length <= 8
 bands : BandsB true 0 x.bands
theorem Ze6 {x : Ves} : vesE x = 0 ↔ VesB x := by
 unfold vesE
 by_cases h : fromB x.vol 1 1000000 = true
 ·rw [if_pos h]
  rw [Zz] at h
  by_cases h1 : spansE x.free 1000000000 = 0
  ·rw [if_pos h1]
   by_cases h2 : spansE x.bound 1000000000 = 0
   ·rw [if_pos h2]
    by_cases h3 : 8 < x.bands.length
    ·rw [if_pos h3]
     constructor
     ·intro g; exact absurd g (by decide)
     ·intro g; have := g.len; omega
    ·rw [if_neg h3, Z86]
     exact ⟨fun g => ⟨h, Y9.1 h1, Y9.1 h2, by omega, g⟩, fun g => g.bands⟩
   ·rw [if_neg h2]
    exact ⟨fun g => absurd g h2, fun g => absurd (Y9.2 g.bound) h2⟩
  ·rw [if_neg h1]
   exact ⟨fun g => absurd g h1, fun g => absurd (Y9.2 g.free) h1⟩
 ·rw [if_neg h]
  constructor
  ·intro g; exact absurd g (by decide)
  ·intro g; exact absurd (Zz.2 g.vol) h
def sumI {α : Type} (f : α -> Int) : List α -> Int
 | [] => 0
 | a :: r => f a + sumI f r
theorem Zt {α : Type} (f : α -> Int) (a : α) (r : List α) : sumI f (a :: r) = f a + sumI f r := rfl
theorem Z6s {α : Type} (f : α -> Int) : sumI f [] = 0 := rfl
theorem Xc {α : Type} {f : α -> Int} : ∀ {l : List α}, (∀ a ∈ l, 0 <= f a) -> 0 <= sumI f l
 | [], _ => Int.le_refl _
 | a :: r, h => by have := Xc (l := r) fun b hb => h b (List.mem_cons_of_mem _ hb); have := h a List.mem_cons_self; simp only [Zt]; omega
theorem Z4g {α : Type} {f g : α -> Int} : ∀ {l : List α}, (∀ a ∈ l, f a <= g a) -> sumI f l <= sumI g l
 | [], _ => Int.le_refl _
 | a :: r, h => by have := Z4g (l := r) fun b hb => h b (List.mem_cons_of_mem _ hb); have := h a List.mem_cons_self; simp only [Zt]; omega
theorem Xy {α : Type} {f : α -> Int} {q : Int} : ∀ {l : List α}, (∀ a ∈ l, f a <= q) -> sumI f l <= q * l.length
 | [], _ => by simp [sumI]
 | a :: r, h => by
  have h1 := Xy (l := r) fun b hb => h b (List.mem_cons_of_mem _ hb)
  have h2 := h a List.mem_cons_self
  rw [Zt, List.length_cons, Int.natCast_add, Int.mul_add]; simp only [Int.natCast_one, Int.mul_one]; omega
def openP (shut : List Int) : Nat -> List Pip -> List Pip
 | _, [] => []
 | k, p :: r => if (k : Int) ∈ shut then openP shut (k + 1) r else p :: openP shut (k + 1) r
theorem Z0a {shut : List Int} : ∀ {k : Nat} {l : List Pip} {p : Pip}, p ∈ openP shut k l -> p ∈ l
 | k, [], p, h => h
 | k, q :: r, p, h => by
  unfold openP at h
  split at h
  ·exact List.mem_cons_of_mem _ (Z0a h)
  ·rcases List.mem_cons.1 h with rfl | h
   ·exact List.mem_cons_self
   ·exact List.mem_cons_of_mem _ (Z0a h)
theorem Z4h {shut : List Int} : ∀ (k : Nat) (l : List Pip), (openP shut k l).length <= l.length
 | k, [] => Nat.le_refl _
 | k, q :: r => by
  unfold openP
  have := Z4h (shut := shut) (k + 1) r
  split
  ·rw [List.length_cons]; omega
  ·rw [List.length_cons, List.length_cons]; omega
theorem Z4i : ∀ (k : Nat) (l : List Pip), openP [] k l = l
 | k, [] => rfl
 | k, q :: r => by unfold openP; rw [if_neg (by simp), Z4i]
theorem Z87 {shut : List Int} {f : Pip -> Int} : ∀ {k : Nat} {l : List Pip}, (∀ p ∈ l, 0 <= f p) -> sumI f (openP shut k l) <= sumI f l
 | k, [], _ => Int.le_refl _
 | k, q :: r, h => by
  have h1 := Z87 (shut := shut) (k := k + 1) (l := r) fun b hb => h b (List.mem_cons_of_mem _ hb)
  have h2 := h q List.mem_cons_self
  unfold openP
  split
  ·simp only [Zt]; omega
  ·simp only [Zt]; omega
def pLo (x : Int) (p : Pip) : Int := (if p.a = x then p.out.lo else 0) + (if p.b = x then p.back.lo else 0)
def pHi (x : Int) (p : Pip) : Int := (if p.a = x then p.out.hi else 0) + (if p.b = x then p.back.hi else 0)
def mLo (x : Int) (p : Pmp) : Int := if p.at' = x then p.part.lo else 0
def mHi (x : Int) (p : Pmp) : Int := if p.at' = x then p.part.hi else 0
theorem pb {n : Int} {p : Pip} (h : PipB n p) (x : Int) : 0 <= pLo x p /\ pLo x p <= pHi x p /\ pHi x p <= 2000000 := by
 have := h.out; have := h.back
 obtain ⟨a1, a2, a3⟩ := h.out
 obtain ⟨b1, b2, b3⟩ := h.back
 unfold pLo pHi
 split <;> split <;> omega
theorem mb {p : Pmp} (h : RgG 1000000 p.part) (x : Int) : 0 <= mLo x p /\ mLo x p <= mHi x p /\ mHi x p <= 1000000 := by
 obtain ⟨a1, a2, a3⟩ := h
 unfold mLo mHi
 split <;> omega
theorem J3 {a b : Rg} (h1 : 0 <= a.lo) (h2 : 0 <= a.hi) (h3 : 0 <= b.lo) (h4 : 0 <= b.hi) (h5 : a.lo + b.lo <= 9223372036854775807) (h6 : a.hi + b.hi <= 9223372036854775807) : plusR a b = ⟨a.lo + b.lo, a.hi + b.hi⟩ := by
 unfold plusR
 rw [Z5 (by omega) h5, Z5 (by omega) h6]
theorem Z2g {n x : Int} {shut : List Int} : ∀ {l : List Pip} {k : Nat} {acc : Rg}, (∀ p ∈ l, PipB n p) -> 0 <= acc.lo -> acc.lo <= acc.hi -> acc.hi + 2000000 * l.length <= 1000000000000 -> outP x shut k acc l = ⟨acc.lo + sumI (pLo x) (openP shut k l), acc.hi + sumI (pHi x) (openP shut k l)⟩
 | [], k, acc, _, _, _, _ => by simp [outP, openP, sumI]
 | p :: r, k, acc, h, h1, h2, h3 => by
  have hr : ∀ q ∈ r, PipB n q := fun q hq => h q (List.mem_cons_of_mem _ hq)
  have hp := h p List.mem_cons_self
  obtain ⟨a1, a2, a3⟩ := hp.out
  obtain ⟨b1, b2, b3⟩ := hp.back
  rw [List.length_cons, Int.natCast_add] at h3
  simp only [Int.natCast_one] at h3
  unfold outP openP
  by_cases c : (k : Int) ∈ shut
  ·rw [if_pos c, if_pos c]
   exact Z2g hr h1 h2 (by omega)
  ·rw [if_neg c, if_neg c]
   have e1 : plusR acc p.out = ⟨acc.lo + p.out.lo, acc.hi + p.out.hi⟩ := J3 h1 (by omega) a1 (by omega) (by omega) (by omega)
   by_cases c1 : p.a = x
   ·by_cases c2 : p.b = x
    ·rw [if_pos c2, if_pos c1, e1]
     rw [J3 (by show 0 <= acc.lo + p.out.lo; omega) (by show 0 <= acc.hi + p.out.hi; omega) b1 (by omega) (by show acc.lo + p.out.lo + _ <= _; omega) (by show acc.hi + p.out.hi + _ <= _; omega)]
     rw [Z2g hr (by show 0 <= acc.lo + p.out.lo + p.back.lo; omega) (by show acc.lo + p.out.lo + p.back.lo <= acc.hi + p.out.hi + p.back.hi; omega) (by show acc.hi + p.out.hi + p.back.hi + _ <= _; omega)]
     simp only [Zt, pLo, pHi]
     rw [if_pos c1, if_pos c2, if_pos c1, if_pos c2]
     congr 1 <;> (try simp only) <;> omega
    ·rw [if_neg c2, if_pos c1, e1]
     rw [Z2g hr (by show 0 <= acc.lo + p.out.lo; omega) (by show acc.lo + p.out.lo <= acc.hi + p.out.hi; omega) (by show acc.hi + p.out.hi + _ <= _; omega)]
     simp only [Zt, pLo, pHi]
     rw [if_pos c1, if_neg c2, if_pos c1, if_neg c2]
     congr 1 <;> (try simp only) <;> omega
   ·by_cases c2 : p.b = x
    ·rw [if_pos c2, if_neg c1]
     rw [J3 h1 (by omega) b1 (by omega) (by omega) (by omega)]
     rw [Z2g hr (by show 0 <= acc.lo + p.back.lo; omega) (by show acc.lo + p.back.lo <= acc.hi + p.back.hi; omega) (by show acc.hi + p.back.hi + _ <= _; omega)]
     simp only [Zt, pLo, pHi]
     rw [if_neg c1, if_pos c2, if_neg c1, if_pos c2]
     congr 1 <;> (try simp only) <;> omega
    ·rw [if_neg c2, if_neg c1]
     rw [Z2g hr h1 h2 (by omega)]
     simp only [Zt, pLo, pHi]
     rw [if_neg c1, if_neg c2, if_neg c1, if_neg c2]
     congr 1 <;> (try simp only) <;> omega
theorem Z9m {x : Int} : ∀ {l : List Pmp} {acc : Rg}, (∀ p ∈ l, RgG 1000000 p.part) -> 0 <= acc.lo -> acc.lo <= acc.hi -> acc.hi + 1000000 * l.length <= 1000000000000 -> outM x acc l = ⟨acc.lo + sumI (mLo x) l, acc.hi + sumI (mHi x) l⟩
 | [], acc, _, _, _, _ => by simp [outM, sumI]
 | p :: r, acc, h, h1, h2, h3 => by
  have hr : ∀ q ∈ r, RgG 1000000 q.part := fun q hq => h q (List.mem_cons_of_mem _ hq)
  obtain ⟨a1, a2, a3⟩ := h p List.mem_cons_self
  rw [List.length_cons, Int.natCast_add] at h3
  simp only [Int.natCast_one] at h3
  unfold outM
  by_cases c1 : p.at' = x
  ·rw [if_pos c1, J3 h1 (by omega) a1 (by omega) (by omega) (by omega)]
   rw [Z9m hr (by show 0 <= acc.lo + p.part.lo; omega) (by show acc.lo + p.part.lo <= acc.hi + p.part.hi; omega) (by show acc.hi + p.part.hi + _ <= _; omega)]
   simp only [Zt, mLo, mHi]
   rw [if_pos c1, if_pos c1]
   congr 1 <;> (try simp only) <;> omega
  ·rw [if_neg c1]
   rw [Z9m hr h1 h2 (by omega)]
   simp only [Zt, mLo, mHi]
   rw [if_neg c1, if_neg c1]
   congr 1 <;> (try simp only) <;> omega
def outLo (v : Vac) (x : Int) (ps : List Pip) : Int := sumI (pLo x) ps + sumI (mLo x) v.pumps
def outHi (v : Vac) (x : Int) (ps : List Pip) : Int := sumI (pHi x) ps + sumI (mHi x) v.pumps
structure VB (v : Vac) : Prop where
 n1 : 1 <= v.vessels.length
 n8 : v.vessels.length <= 8
 p16 : v.pipes.length <= 16
 m8 : v.pumps.length <= 8
 l8 : v.leaks.length <= 8
 g8 : v.getters.length <= 8
 ves : ∀ x ∈ v.vessels, VesB x
 pip : ∀ p ∈ v.pipes, PipB v.vessels.length p
 pmp : ∀ q ∈ v.pumps, (0 <= q.at' /\ q.at' < v.vessels.length) /\ RgG 1000000 q.part
 inl : ∀ q ∈ v.leaks, (0 <= q.at' /\ q.at' < v.vessels.length) /\ RgG 100000 q.gas
 gtr : ∀ q ∈ v.getters, ((0 <= q.at' /\ q.at' < v.vessels.length) /\ RgG 1000000 q.part) /\ RgG 1000000000 q.room
 out : ∀ i : Nat, i < v.vessels.length -> outHi v i v.pipes <= 1000000
theorem Ze7 {v : Vac} {n x : Int} {shut : List Int} (h1 : ∀ p ∈ v.pipes, PipB n p) (h2 : ∀ q ∈ v.pumps, RgG 1000000 q.part) (h3 : v.pipes.length <= 16) (h4 : v.pumps.length <= 8) : outR v x shut = ⟨outLo v x (openP shut 0 v.pipes), outHi v x (openP shut 0 v.pipes)⟩ := by
 unfold outR
 have hm : ∀ p ∈ openP shut 0 v.pipes, PipB n p := fun p hp => h1 p (Z0a hp)
 have b1 : 0 <= sumI (pLo x) (openP shut 0 v.pipes) := Xc fun p hp => (pb (hm p hp) x).1
 have b2 : sumI (pLo x) (openP shut 0 v.pipes) <= sumI (pHi x) (openP shut 0 v.pipes) := Z4g fun p hp => (pb (hm p hp) x).2.1
 have b3 : sumI (pHi x) (openP shut 0 v.pipes) <= 2000000 * (openP shut 0 v.pipes).length := Xy fun p hp => (pb (hm p hp) x).2.2
 have b4 := Z4h (shut := shut) 0 v.pipes
 rw [Z2g h1 (Int.le_refl _) (Int.le_refl _) (by show 0 + _ <= _; omega)]
 rw [Z9m h2 (by show 0 <= 0 + _; omega) (by show 0 + _ <= 0 + _; omega) (by show 0 + _ + _ <= _; omega)]
 unfold outLo outHi
 congr 1 <;> (try simp only) <;> omega
theorem VB.outR_eq {v : Vac} (h : VB v) (x : Int) (shut : List Int) : outR v x shut = ⟨outLo v x (openP shut 0 v.pipes), outHi v x (openP shut 0 v.pipes)⟩ :=
 Ze7 h.pip (fun q hq => (h.pmp q hq).2) h.p16 h.m8
theorem Z2h {v : Vac} : ∀ {k i : Nat}, outB v i k = false ↔ ∀ j : Nat, i <= j -> j < i + k -> (outR v j []).hi <= 1000000
 | 0, i => ⟨fun _ j h1 h2 => absurd h2 (by omega), fun _ => rfl⟩
 | k + 1, i => by
  unfold outB
  rw [Bool.or_eq_false_iff, Z2h]
  constructor
  ·rintro ⟨h1, h2⟩ j h3 h4
   rw [decide_eq_false_iff_not] at h1
   by_cases e : j = i
   ·subst e; omega
   ·exact h2 j (by omega) (by omega)
  ·intro h
   exact ⟨by rw [decide_eq_false_iff_not]; have := h i (Nat.le_refl _) (by omega); omega, fun j h1 h2 => h j (by omega) (by omega)⟩
theorem Z1y {v : Vac} : checkE v = 0 ↔ VB v := by
 constructor
 ·intro h
  obtain ⟨h1, h2, h3, h4, h5, h6⟩ := Z35 h
  unfold checkE at h
  rw [if_neg (by omega)] at h
  split at h
  ·exact absurd h (by decide)
  ·split at h
   ·rename_i g1
    split at h
    ·rename_i g2
     unfold partsE at g2
     split at g2
     ·rename_i p1
      split at g2
      ·rename_i p2
       split at g2
       ·rename_i p3
        have q1 := fun p hp => Ze5.1 (Yg.1 p1 p hp)
        have q2 := fun p hp => Z5o.1 (Yg.1 p2 p hp)
        have q3 := fun p hp => Z5o.1 (Yg.1 p3 p hp)
        have q4 : ∀ p ∈ v.getters, ((0 <= p.at' /\ p.at' < v.vessels.length) /\ RgG 1000000 p.part) /\ RgG 1000000000 p.room := fun p hp => by
         have := Yg.1 g2 p hp
         unfold getE at this
         split at this
         ·rename_i k1; exact ⟨Z5o.1 k1, Y9.1 this⟩
         ·rename_i k1; exact absurd this k1
        refine ⟨h1, h2, h3, h4, h5, h6, fun x hx => Ze6.1 (Yg.1 g1 x hx), q1, q2, q3, q4, fun i hi => ?_⟩
        split at h
        ·exact absurd h (by decide)
        ·rename_i k1
         have k2 := Z2h.1 (Bool.not_eq_true _ ▸ k1) i (Nat.zero_le _) (by omega)
         rw [Ze7 q1 (fun q hq => (q2 q hq).2) h3 h4, Z4i] at k2
         exact k2
       ·rename_i p3; exact absurd g2 p3
      ·rename_i p2; exact absurd g2 p2
     ·rename_i p1; exact absurd g2 p1
    ·rename_i g2; exact absurd h g2
   ·rename_i g1; exact absurd h g1
 ·intro h
  have h0 := h.n1; have h1 := h.n8; have h2 := h.p16; have h3 := h.m8; have h4 := h.l8; have h5 := h.g8
  unfold checkE
  rw [if_neg (by omega), if_neg (by unfold overB; simp only [Bool.or_eq_true, decide_eq_true_eq]; omega), if_pos (Yg.2 fun x hx => Ze6.2 (h.ves x hx))]
  have hp : partsE v = 0 := by
   unfold partsE
   rw [if_pos (Yg.2 fun p hp => Ze5.2 (h.pip p hp)), if_pos (Yg.2 fun p hp => Z5o.2 (h.pmp p hp)), if_pos (Yg.2 fun p hp => Z5o.2 (h.inl p hp))]
   refine Yg.2 fun p hp => ?_
   unfold getE
   rw [if_pos (Z5o.2 (h.gtr p hp).1)]
   exact Y9.2 (h.gtr p hp).2
  rw [if_pos hp, if_neg]
  rw [Bool.not_eq_true]
  refine Z2h.2 fun j _ hj => ?_
  rw [h.outR_eq, Z4i]
  exact h.out j (by omega)
theorem Z88 {k : Int} (hk : k <= 2001) : ∀ {l : List Rel} {first : Bool} {last : Int}, BandsG k l -> (first = false -> ∀ b ∈ l, last < b.frm) -> BandsB first last l
 | [], _, _, _, _ => trivial
 | b :: r, first, last, ⟨g1, g2, g3, g4, g5⟩, h => ⟨⟨g1, by omega⟩, fun e => h e b List.mem_cons_self, ⟨g4.lo, g4.le, by have := g4.hi; omega⟩, Z88 hk g5 fun _ b hb => g3 b hb⟩
theorem Zbu {v : Vac} (h : VacG v) : VB v := by
 have hq : ∀ p ∈ v.pipes, PipB v.vessels.length p := fun p hp => by
  have := h.pip p hp
  exact ⟨this.a, this.b, this.ab, ⟨this.out.lo, this.out.le, by have := this.out.hi; omega⟩, ⟨this.back.lo, this.back.le, by have := this.back.hi; omega⟩⟩
 have hm : ∀ p ∈ v.pumps, (0 <= p.at' /\ p.at' < v.vessels.length) /\ RgG 1000000 p.part := fun p hp => by
  have := h.pmp p hp
  exact ⟨this.at', ⟨this.part.lo, this.part.le, by have := this.part.hi; omega⟩⟩
 refine ⟨h.n1, by have := h.n4; omega, by have := h.np; omega, by have := h.nm; omega, by have := h.nl; omega, by have := h.ng; omega, fun x hx => ?_, hq, hm, fun p hp => ?_, fun p hp => ?_, fun i hi => ?_⟩
 ·have := h.ves x hx
  exact ⟨by have := this.vol; omega, ⟨this.free.lo, this.free.le, by have := this.free.hi; omega⟩, ⟨this.bound.lo, this.bound.le, by have := this.bound.hi; omega⟩, by have := this.len; omega, Z88 (by decide) this.bands fun e => by cases e⟩
 ·have := h.inl p hp
  exact ⟨this.at', ⟨this.gas.lo, this.gas.le, by have := this.gas.hi; omega⟩⟩
 ·have := h.gtr p hp
  exact ⟨⟨this.at', ⟨this.part.lo, this.part.le, by have := this.part.hi; omega⟩⟩, ⟨this.room.lo, this.room.le, by have := this.room.hi; omega⟩⟩
 ·have h1 : sumI (pHi i) v.pipes <= 120000 * v.pipes.length := Xy fun p hp => by
   have := h.pip p hp
   have a1 := this.out.hi
   have a2 := this.back.hi
   have a3 := this.out.lo; have a4 := this.out.le; have a5 := this.back.lo; have a6 := this.back.le
   have a7 := this.ab
   unfold pHi
   split
   ·rw [if_neg (by omega)]; omega
   ·split <;> omega
  have h2 : sumI (mHi i) v.pumps <= 200000 * v.pumps.length := Xy fun p hp => by
   have := (h.pmp p hp).part.hi
   have := (h.pmp p hp).part.lo
   have := (h.pmp p hp).part.le
   unfold mHi
   split <;> omega
  have := h.np
  have := h.nm
  unfold outHi
  omega
theorem Z9n {v : Vac} {g : Gs} : belongsE v g = 0 ↔ VB v /\ Fits v g /\ (∀ r ∈ g.free, RgG 68719476736 r) /\ (∀ r ∈ g.bound, RgG 68719476736 r) /\ (∀ r ∈ g.room, RgG 68719476736 r) /\ 0 <= g.most /\ g.most <= 68719476736 := by
 constructor
 ·intro h
  obtain ⟨h1, h2, h3, h4, h5, h6⟩ := Z2r h
  have h7 := fun r hr => Y9.1 (h5 r hr)
  refine ⟨Z1y.1 h1, ⟨h2, h3, h4⟩, fun r hr => h7 r ?_, fun r hr => h7 r ?_, fun r hr => h7 r ?_, Zz.1 h6⟩
  all_goals (unfold gasL; simp [hr])
 ·rintro ⟨h1, ⟨h2, h3, h4⟩, h5, h6, h7, h8⟩
  unfold belongsE
  rw [if_pos (Z1y.2 h1), if_neg (by rintro (h | h | h) <;> contradiction), if_pos (Yg.2 fun r hr => Y9.2 ?_), if_pos (Zz.2 h8)]
  unfold gasL at hr
  rcases List.mem_append.1 hr with hr | hr
  ·rcases List.mem_append.1 hr with hr | hr
   ·exact h5 r hr
   ·exact h6 r hr
  ·exact h7 r hr
end Go.Proofs.Ytgnpnfkncbnjnaa
namespace Go.Proofs.Ytgnpnfkncbnjnaa
open Go Go.Am
def dn (n q : Int) : Int := n * q / 1000000
def ups (n q : Int) : Int := (n * q + 999999) / 1000000
theorem Z89 {n q N : Int} (h0 : 0 <= n) (h1 : n <= N) (q0 : 0 <= q) (q1 : q <= 1000000) : 0 <= n * q /\ n * q <= N * 1000000 :=
 ⟨Int.mul_nonneg h0 q0, Int.mul_le_mul h1 q1 q0 (by omega)⟩
theorem Z5p {n q : Int} (h0 : 0 <= n) (q0 : 0 <= q) (q1 : q <= 1000000) : 0 <= n * q /\ n * q <= n * 1000000 := Z89 h0 (Int.le_refl _) q0 q1
theorem Zbv {n q : Int} (h0 : 0 <= n) (q0 : 0 <= q) (q1 : q <= 1000000) : 0 <= dn n q /\ dn n q <= n := by
 have := Z5p h0 q0 q1
 unfold dn
 omega
theorem Z8a {n q : Int} (h0 : 0 <= n) (q0 : 0 <= q) (q1 : q <= 1000000) : 0 <= ups n q /\ ups n q <= n := by
 have := Z5p h0 q0 q1
 unfold ups
 omega
theorem Zat {n n' q q' : Int} (h0 : 0 <= n) (h1 : n <= n') (q0 : 0 <= q) (q1 : q <= q') : dn n q <= ups n' q' := by
 have : n * q <= n' * q' := Int.mul_le_mul h1 q1 q0 (by omega)
 unfold dn ups
 omega
theorem Z36 {n q : Int} (h0 : 0 <= n) (h1 : n <= 5000000000000) (q0 : 0 <= q) (q1 : q <= 1000000) : downN n q = dn n q := by
 have hb := Z89 h0 h1 q0 q1
 have hd := Zbv h0 q0 q1
 unfold downN
 rw [Z5 (x := n * q) (by omega) (by omega), Int.tdiv_eq_ediv_of_nonneg hb.1]
 unfold dn at *
 exact Z5 (by omega) (by omega)
theorem Zau {n q : Int} (h0 : 0 <= n) (h1 : n <= 5000000000000) (q0 : 0 <= q) (q1 : q <= 1000000) : upN n q = ups n q := by
 have hb := Z89 h0 h1 q0 q1
 have hd := Z8a h0 q0 q1
 unfold upN
 rw [Z5 (x := n * q) (by omega) (by omega), Z5 (x := n * q + 1000000) (by omega) (by omega), Z5 (x := n * q + 1000000 - 1) (by omega) (by omega)]
 rw [show n * q + 1000000 - 1 = n * q + 999999 by omega, Int.tdiv_eq_ediv_of_nonneg (by omega)]
 unfold ups at *
 exact Z5 (by omega) (by omega)
def Row (m : Int) (F : List Rg) : Prop := ∀ r ∈ F, RgG m r
theorem Row.at {m : Int} {F : List Rg} (h : Row m F) (hm : 0 <= m) (a : Int) : RgG m (atR F a) := by
 unfold atR
 cases e : F[a.toNat]? with
 | none => exact Zfu m hm
 | some r => exact h r (List.mem_of_getElem? e)
theorem RgG.mono {m m' : Int} {r : Rg} (h : RgG m r) (hm : m <= m') : RgG m' r := ⟨h.lo, h.le, Int.le_trans h.hi hm⟩
theorem Ze8 {h : Int} : ∀ {l : List Rel} {q : Rg} {f : Bool} {last : Int}, RgG 1000000 q -> BandsB f last l -> RgG 1000000 (rateP h q l)
 | [], q, _, _, hq, _ => hq
 | b :: r, q, f, last, hq, ⟨_, _, h3, h4⟩ => by
  unfold rateP
  split
  ·exact hq
  ·exact Ze8 h3 h4
theorem Zg6 {h : Int} {x : Ves} {f b : Rg} (hx : VesB x) (hf : RgG 68719476736 f) (hb : RgG 68719476736 b) : relFr h x f b = ⟨f.lo + dn b.lo (rateP h ⟨0, 0⟩ x.bands).lo, f.hi + ups b.hi (rateP h ⟨0, 0⟩ x.bands).hi⟩ /\ RgG 137438953472 (relFr h x f b) := by
 obtain ⟨q1, q2, q3⟩ := Ze8 (h := h) (Zfu 1000000 (by decide)) hx.bands
 unfold relFr
 generalize rateP h ⟨0, 0⟩ x.bands = q at *
 obtain ⟨f1, f2, f3⟩ := hf
 obtain ⟨b1, b2, b3⟩ := hb
 have d1 := Zbv b1 q1 (by omega)
 have d2 := Z8a (n := b.hi) (q := q.hi) (by omega) (by omega) q3
 have d3 := Zat b1 b2 q1 q2
 rw [Z36 b1 (by omega) q1 (by omega), Zau (by omega) (by omega) (by omega) q3]
 rw [J3 f1 (by omega) d1.1 d2.1 (by show f.lo + dn _ _ <= _; omega) (by show f.hi + ups _ _ <= _; omega)]
 exact ⟨rfl, by show 0 <= f.lo + dn _ _; omega, by show f.lo + dn _ _ <= f.hi + ups _ _; omega, by show f.hi + ups _ _ <= _; omega⟩
theorem Zg7 {h : Int} {x : Ves} {b : Rg} (hx : VesB x) (hb : RgG 68719476736 b) : relBo h x b = ⟨dn b.lo (1000000 - (rateP h ⟨0, 0⟩ x.bands).hi), ups b.hi (1000000 - (rateP h ⟨0, 0⟩ x.bands).lo)⟩ /\ RgG 68719476736 (relBo h x b) /\ (relBo h x b).lo <= b.lo /\ (relBo h x b).hi <= b.hi := by
 obtain ⟨q1, q2, q3⟩ := Ze8 (h := h) (Zfu 1000000 (by decide)) hx.bands
 unfold relBo
 generalize rateP h ⟨0, 0⟩ x.bands = q at *
 obtain ⟨b1, b2, b3⟩ := hb
 rw [Z5 (x := 1000000 - q.hi) (by omega) (by omega), Z5 (x := 1000000 - q.lo) (by omega) (by omega)]
 have d1 := Zbv (n := b.lo) (q := 1000000 - q.hi) b1 (by omega) (by omega)
 have d2 := Z8a (n := b.hi) (q := 1000000 - q.lo) (by omega) (by omega) (by omega)
 have d3 := Zat (n := b.lo) (n' := b.hi) (q := 1000000 - q.hi) (q' := 1000000 - q.lo) b1 b2 (by omega) (by omega)
 rw [Z36 b1 (by omega) (by omega) (by omega), Zau (by omega) (by omega) (by omega) (by omega)]
 exact ⟨rfl, ⟨d1.1, d3, by show ups _ _ <= _; omega⟩, d1.2, d2.2⟩
theorem Zav : ∀ {l : List Inl} {m : Int}, (∀ q ∈ l, RgG 100000 q.gas) -> 0 <= m -> m <= 68719476736 -> m <= leakF m l /\ leakF m l <= 68719476736
 | [], m, _, _, h => ⟨Int.le_refl _, h⟩
 | q :: r, m, hg, h0, h1 => by
  obtain ⟨g1, g2, g3⟩ := hg q List.mem_cons_self
  unfold leakF
  rw [Z5 (x := m + q.gas.hi) (by omega) (by omega)]
  have hm : m <= min2 68719476736 (m + q.gas.hi) /\ min2 68719476736 (m + q.gas.hi) <= 68719476736 := by unfold min2; split <;> omega
  have := Zav (l := r) (m := min2 68719476736 (m + q.gas.hi)) (fun q hq => hg q (List.mem_cons_of_mem _ hq)) (by omega) hm.2
  omega
def fLo (F : List Rg) (x : Int) (p : Pip) : Int := (if x = p.b then (atR F p.a).lo * p.out.lo else 0) + (if x = p.a then (atR F p.b).lo * p.back.lo else 0)
def fHi (F : List Rg) (x : Int) (p : Pip) : Int := (if x = p.b then (atR F p.a).hi * p.out.hi else 0) + (if x = p.a then (atR F p.b).hi * p.back.hi else 0)
theorem Z4j {f r : Rg} (hf : RgG 137438953472 f) (hr : RgG 1000000 r) : mulR f r = ⟨f.lo * r.lo, f.hi * r.hi⟩ /\ RgG 137438953472000000 (mulR f r) := by
 obtain ⟨f1, f2, f3⟩ := hf
 obtain ⟨r1, r2, r3⟩ := hr
 have b1 := Z89 f1 (show f.lo <= 137438953472 by omega) r1 (by omega)
 have b2 := Z89 (show 0 <= f.hi by omega) f3 (show 0 <= r.hi by omega) r3
 have b3 : f.lo * r.lo <= f.hi * r.hi := Int.mul_le_mul f2 r2 r1 (by omega)
 unfold mulR
 rw [Z5 (x := f.lo * r.lo) (by omega) (by omega), Z5 (x := f.hi * r.hi) (by omega) (by omega)]
 exact ⟨rfl, b1.1, b3, b2.2⟩
theorem fb {n : Int} {F : List Rg} {p : Pip} (hF : Row 137438953472 F) (hp : PipB n p) (x : Int) : 0 <= fLo F x p /\ fLo F x p <= fHi F x p /\ fHi F x p <= 137438953472000000 := by
 obtain ⟨e1, a1, a2, a3⟩ := Z4j (hF.at (by decide) p.a) hp.out
 obtain ⟨e2, b1, b2, b3⟩ := Z4j (hF.at (by decide) p.b) hp.back
 rw [e1] at a1 a2 a3
 rw [e2] at b1 b2 b3
 simp only at a1 a2 a3 b1 b2 b3
 have := hp.ab
 unfold fLo fHi
 split
 ·rw [if_neg (by omega), if_neg (by omega)]; omega
 ·split <;> omega
theorem Z1z {n x : Int} {F : List Rg} {shut : List Int} (hF : Row 137438953472 F) : ∀ {l : List Pip} {k : Nat} {acc : Rg}, (∀ p ∈ l, PipB n p) -> 0 <= acc.lo -> acc.lo <= acc.hi -> acc.hi + 137438953472000000 * l.length <= 9223372036854775807 -> flowS F shut x k acc l = ⟨acc.lo + sumI (fLo F x) (openP shut k l), acc.hi + sumI (fHi F x) (openP shut k l)⟩
 | [], k, acc, _, _, _, _ => by simp [flowS, openP, sumI]
 | p :: r, k, acc, h, h1, h2, h3 => by
  have hr : ∀ q ∈ r, PipB n q := fun q hq => h q (List.mem_cons_of_mem _ hq)
  have hp := h p List.mem_cons_self
  obtain ⟨e1, a1, a2, a3⟩ := Z4j (hF.at (by decide) p.a) hp.out
  obtain ⟨e2, b1, b2, b3⟩ := Z4j (hF.at (by decide) p.b) hp.back
  rw [e1] at a1 a2 a3
  rw [e2] at b1 b2 b3
  simp only at a1 a2 a3 b1 b2 b3
  have hab := hp.ab
  rw [List.length_cons, Int.natCast_add] at h3
  simp only [Int.natCast_one] at h3
  unfold flowS openP
  by_cases c : (k : Int) ∈ shut
  ·rw [if_pos c, if_pos c]
   exact Z1z hF hr h1 h2 (by omega)
  ·rw [if_neg c, if_neg c, e1, e2]
   by_cases c1 : x = p.a
   ·have c2 : ¬ x = p.b := by omega
    rw [if_pos c1, if_neg c2]
    rw [J3 h1 (by omega) b1 (by show 0 <= (atR F p.b).hi * _; omega) (by show acc.lo + (atR F p.b).lo * _ <= _; omega) (by show acc.hi + (atR F p.b).hi * _ <= _; omega)]
    rw [Z1z hF hr (by show 0 <= acc.lo + (atR F p.b).lo * _; omega) (by show acc.lo + (atR F p.b).lo * _ <= acc.hi + (atR F p.b).hi * _; omega) (by show acc.hi + (atR F p.b).hi * _ + _ <= _; omega)]
    simp only [Zt, fLo, fHi]
    rw [if_neg c2, if_pos c1, if_neg c2, if_pos c1]
    congr 1 <;> (try simp only) <;> omega
   ·rw [if_neg c1]
    by_cases c2 : x = p.b
    ·rw [if_pos c2]
     rw [J3 h1 (by omega) a1 (by show 0 <= (atR F p.a).hi * _; omega) (by show acc.lo + (atR F p.a).lo * _ <= _; omega) (by show acc.hi + (atR F p.a).hi * _ <= _; omega)]
     rw [Z1z hF hr (by show 0 <= acc.lo + (atR F p.a).lo * _; omega) (by show acc.lo + (atR F p.a).lo * _ <= acc.hi + (atR F p.a).hi * _; omega) (by show acc.hi + (atR F p.a).hi * _ + _ <= _; omega)]
     simp only [Zt, fLo, fHi]
     rw [if_pos c2, if_neg c1, if_pos c2, if_neg c1]
     congr 1 <;> (try simp only) <;> omega
    ·rw [if_neg c2]
     rw [Z1z hF hr h1 h2 (by omega)]
     simp only [Zt, fLo, fHi]
     rw [if_neg c2, if_neg c1, if_neg c2, if_neg c1]
     congr 1 <;> (try simp only) <;> omega
def floLo (v : Vac) (ps : List Pip) (F : List Rg) (x : Int) : Int := (atR F x).lo * (1000000 - outHi v x ps) + sumI (fLo F x) ps
def floHi (v : Vac) (ps : List Pip) (F : List Rg) (x : Int) : Int := (atR F x).hi * (1000000 - outLo v x ps) + sumI (fHi F x) ps
theorem VB.outs {v : Vac} (h : VB v) (shut : List Int) {i : Nat} (hi : i < v.vessels.length) : 0 <= outLo v i (openP shut 0 v.pipes) /\ outLo v i (openP shut 0 v.pipes) <= outHi v i (openP shut 0 v.pipes) /\ outHi v i (openP shut 0 v.pipes) <= 1000000 := by
 have hm : ∀ p ∈ openP shut 0 v.pipes, PipB v.vessels.length p := fun p hp => h.pip p (Z0a hp)
 have b1 : 0 <= sumI (pLo i) (openP shut 0 v.pipes) := Xc fun p hp => (pb (hm p hp) i).1
 have b2 : sumI (pLo i) (openP shut 0 v.pipes) <= sumI (pHi i) (openP shut 0 v.pipes) := Z4g fun p hp => (pb (hm p hp) i).2.1
 have b3 : sumI (pHi i) (openP shut 0 v.pipes) <= sumI (pHi i) v.pipes := Z87 fun p hp => by have := pb (h.pip p hp) i; omega
 have c1 : 0 <= sumI (mLo i) v.pumps := Xc fun p hp => (mb (h.pmp p hp).2 i).1
 have c2 : sumI (mLo i) v.pumps <= sumI (mHi i) v.pumps := Z4g fun p hp => (mb (h.pmp p hp).2 i).2.1
 have := h.out i hi
 unfold outLo outHi at *
 omega
theorem Zjy {v : Vac} (h : VB v) {F : List Rg} (hF : Row 137438953472 F) (hl : F.length = v.vessels.length) (shut : List Int) {i : Nat} (hi : i < F.length) :
  (flowG v shut F)[i]? = some ⟨floLo v (openP shut 0 v.pipes) F i / 1000000, (floHi v (openP shut 0 v.pipes) F i + 999999) / 1000000⟩ /\ 0 <= floLo v (openP shut 0 v.pipes) F i /\ floLo v (openP shut 0 v.pipes) F i <= floHi v (openP shut 0 v.pipes) F i /\ floHi v (openP shut 0 v.pipes) F i <= 4600000000000000000 := by
 obtain ⟨o1, o2, o3⟩ := h.outs shut (show i < v.vessels.length by omega)
 have hm : ∀ p ∈ openP shut 0 v.pipes, PipB v.vessels.length p := fun p hp => h.pip p (Z0a hp)
 have b1 : 0 <= sumI (fLo F i) (openP shut 0 v.pipes) := Xc fun p hp => (fb hF (hm p hp) i).1
 have b2 : sumI (fLo F i) (openP shut 0 v.pipes) <= sumI (fHi F i) (openP shut 0 v.pipes) := Z4g fun p hp => (fb hF (hm p hp) i).2.1
 have b3 : sumI (fHi F i) (openP shut 0 v.pipes) <= 137438953472000000 * (openP shut 0 v.pipes).length := Xy fun p hp => (fb hF (hm p hp) i).2.2
 have b4 := Z4h (shut := shut) 0 v.pipes
 have b5 := h.p16
 have hg : (flowG v shut F)[i]? = some (quoR (flowS F shut i 0 (begR v shut F i) v.pipes)) := by
  unfold flowG
  rw [List.getElem?_map, List.getElem?_range hi]; rfl
 rw [hg]
 have hb : begR v shut F i = ⟨(atR F i).lo * (1000000 - outHi v i (openP shut 0 v.pipes)), (atR F i).hi * (1000000 - outLo v i (openP shut 0 v.pipes))⟩ /\ RgG 137438953472000000 (begR v shut F i) := by
  unfold begR
  rw [h.outR_eq]
  simp only
  rw [Z5 (x := 1000000 - outHi v i (openP shut 0 v.pipes)) (by omega) (by omega), Z5 (x := 1000000 - outLo v i (openP shut 0 v.pipes)) (by omega) (by omega)]
  exact Z4j (hF.at (by decide) i) ⟨by show 0 <= 1000000 - _; omega, by show 1000000 - _ <= 1000000 - _; omega, by show 1000000 - _ <= _; omega⟩
 obtain ⟨e1, c1, c2, c3⟩ := hb
 rw [Z1z hF h.pip c1 c2 (by omega), e1]
 rw [e1] at c1 c2 c3
 simp only at c1 c2 c3
 unfold floLo floHi
 simp only
 generalize (atR F i).lo * (1000000 - outHi v i (openP shut 0 v.pipes)) = A at *
 generalize (atR F i).hi * (1000000 - outLo v i (openP shut 0 v.pipes)) = B at *
 generalize sumI (fLo F i) (openP shut 0 v.pipes) = C at *
 generalize sumI (fHi F i) (openP shut 0 v.pipes) = D at *
 refine ⟨?_, by omega, by omega, by omega⟩
 unfold quoR
 simp only
 rw [Z5 (x := B + D + 1000000) (by omega) (by omega), Z5 (x := B + D + 1000000 - 1) (by omega) (by omega), show B + D + 1000000 - 1 = B + D + 999999 by omega, Int.tdiv_eq_ediv_of_nonneg (by omega), Int.tdiv_eq_ediv_of_nonneg (by omega)]
 rw [Z5 (x := (A + C) / 1000000) (by omega) (by omega), Z5 (x := (B + D + 999999) / 1000000) (by omega) (by omega)]
theorem Zg8 {v : Vac} (h : VB v) {F : List Rg} (hF : Row 137438953472 F) (hl : F.length = v.vessels.length) (shut : List Int) : Row 4600000000000 (flowG v shut F) := by
 intro r hr
 obtain ⟨i, hi, e⟩ := List.mem_iff_getElem.1 hr
 rw [Jb] at hi
 obtain ⟨e1, c1, c2, c3⟩ := Zjy h hF hl shut hi
 rw [List.getElem?_eq_getElem (by rw [Jb]; exact hi), e] at e1
 injection e1 with e1
 subst e1
 refine ⟨?_, ?_, ?_⟩ <;> simp only <;> omega
theorem Z8b {n : Nat} : ∀ {l : List Inl} {R : List Rg} {m : Int}, (∀ q ∈ l, (0 <= q.at' /\ q.at' < n) /\ RgG 100000 q.gas) -> 0 <= m -> m + 100000 * l.length <= 5000000000000 -> Row m R -> Row (m + 100000 * l.length) (leakR R l)
 | [], R, m, _, _, _, h => fun r hr => (h r hr).mono (by simp)
 | q :: l, R, m, hq, hm, hb, h => by
  have h1 := (hq q List.mem_cons_self).2
  have h2 := h.at hm q.at'
  unfold leakR
  rw [List.length_cons, Int.natCast_add] at hb ⊢
  simp only [Int.natCast_one] at hb ⊢
  obtain ⟨a1, a2, a3⟩ := h1
  obtain ⟨b1, b2, b3⟩ := h2
  have e := J3 (a := atR R q.at') (b := q.gas) b1 (by omega) a1 (by omega) (by omega) (by omega)
  refine fun r hr => (Z8b (l := l) (m := m + 100000) (fun p hp => hq p (List.mem_cons_of_mem _ hp)) (by omega) (by omega) ?_ r hr).mono (by omega)
  intro r hr
  rcases List.mem_or_eq_of_mem_set hr with hr | rfl
  ·exact (h r hr).mono (by omega)
  ·rw [e]; exact ⟨by show 0 <= (atR R q.at').lo + _; omega, by show (atR R q.at').lo + _ <= (atR R q.at').hi + _; omega, by show (atR R q.at').hi + _ <= _; omega⟩
theorem Zg9 {t : Gtr} {f r : Rg} (ht : RgG 1000000 t.part) (hf : RgG 5000000000000 f) (hr : RgG 68719476736 r) : getFr t f r = ⟨f.lo - min2 (ups f.lo t.part.hi) r.hi, f.hi - min2 (dn f.hi t.part.lo) r.lo⟩ /\ RgG 5000000000000 (getFr t f r) := by
 obtain ⟨t1, t2, t3⟩ := ht
 obtain ⟨f1, f2, f3⟩ := hf
 obtain ⟨r1, r2, r3⟩ := hr
 have u1 := Z8a (n := f.lo) (q := t.part.hi) f1 (by omega) t3
 have d1 := Zbv (n := f.hi) (q := t.part.lo) (by omega) t1 (by omega)
 have d2 := Zbv (n := f.lo) (q := t.part.lo) (by omega) t1 (by omega)
 have d3 : dn f.lo t.part.lo <= ups f.lo t.part.hi := Zat f1 (Int.le_refl _) t1 t2
 have d4 : f.lo - dn f.lo t.part.lo <= f.hi - dn f.hi t.part.lo := by
  have hm : (f.hi - f.lo) * t.part.lo <= (f.hi - f.lo) * 1000000 := Int.mul_le_mul_of_nonneg_left (by omega) (by omega)
  rw [Int.sub_mul, Int.sub_mul] at hm
  unfold dn
  omega
 unfold getFr
 rw [Zau f1 (by omega) (by omega) t3, Z36 (by omega) f3 t1 (by omega)]
 have m1 : 0 <= min2 (ups f.lo t.part.hi) r.hi /\ min2 (ups f.lo t.part.hi) r.hi <= ups f.lo t.part.hi := by unfold min2; split <;> omega
 have m2 : 0 <= min2 (dn f.hi t.part.lo) r.lo /\ min2 (dn f.hi t.part.lo) r.lo <= dn f.hi t.part.lo := by unfold min2; split <;> omega
 rw [Z5 (x := f.lo - _) (by omega) (by omega), Z5 (x := f.hi - _) (by omega) (by omega)]
 refine ⟨rfl, by show 0 <= f.lo - _; omega, ?_, by show f.hi - _ <= _; omega⟩
 show f.lo - min2 _ _ <= f.hi - min2 _ _
 unfold min2
 split <;> split <;> omega
theorem Zga {t : Gtr} {f r : Rg} (ht : RgG 1000000 t.part) (hf : RgG 5000000000000 f) (hr : RgG 68719476736 r) : getRo t f r = ⟨max2 0 (r.lo - ups f.hi t.part.hi), max2 0 (r.hi - dn f.lo t.part.lo)⟩ /\ RgG 68719476736 (getRo t f r) /\ (getRo t f r).lo <= r.lo /\ (getRo t f r).hi <= r.hi := by
 obtain ⟨t1, t2, t3⟩ := ht
 obtain ⟨f1, f2, f3⟩ := hf
 obtain ⟨r1, r2, r3⟩ := hr
 have u1 := Z8a (n := f.hi) (q := t.part.hi) (by omega) (by omega) t3
 have d2 := Zbv (n := f.lo) (q := t.part.lo) (by omega) t1 (by omega)
 have d3 : dn f.lo t.part.lo <= ups f.hi t.part.hi := Zat f1 f2 t1 t2
 unfold getRo
 rw [Zau (by omega) f3 (by omega) t3, Z36 f1 (by omega) t1 (by omega)]
 rw [Z5 (x := r.lo - _) (by omega) (by omega), Z5 (x := r.hi - _) (by omega) (by omega)]
 refine ⟨rfl, ⟨?_, ?_, ?_⟩, ?_, ?_⟩ <;> simp only <;> unfold max2 <;> (repeat' split) <;> omega
theorem Zaw : ∀ {l : List Gtr} {k : Nat} {F R : List Rg}, (∀ t ∈ l, RgG 1000000 t.part) -> Row 5000000000000 F -> Row 68719476736 R -> Row 5000000000000 (getF l k F R).1 /\ Row 68719476736 (getF l k F R).2 /\ ∀ i, (atR (getF l k F R).2 i).lo <= (atR R i).lo /\ (atR (getF l k F R).2 i).hi <= (atR R i).hi
 | [], k, F, R, _, h1, h2 => ⟨h1, h2, fun i => ⟨Int.le_refl _, Int.le_refl _⟩⟩
 | t :: ts, k, F, R, ht, h1, h2 => by
  have e1 := (Zg9 (ht t List.mem_cons_self) (h1.at (by decide) t.at') (h2.at (by decide) (k : Int))).2
  have e2 := (Zga (ht t List.mem_cons_self) (h1.at (by decide) t.at') (h2.at (by decide) (k : Int))).2
  unfold getF
  rw [show F[t.at'.toNat]?.getD ⟨0, 0⟩ = atR F t.at' from rfl, show R[k]?.getD ⟨0, 0⟩ = atR R (k : Int) from rfl]
  have r1 : Row 5000000000000 (F.set t.at'.toNat (getFr t (atR F t.at') (atR R (k : Int)))) := fun r hr => by
   rcases List.mem_or_eq_of_mem_set hr with hr | rfl
   ·exact h1 r hr
   ·exact e1
  have r2 : Row 68719476736 (R.set k (getRo t (atR F t.at') (atR R (k : Int)))) := fun r hr => by
   rcases List.mem_or_eq_of_mem_set hr with hr | rfl
   ·exact h2 r hr
   ·exact e2.1
  have h3 := Zaw (l := ts) (k := k + 1) (fun t ht' => ht t (List.mem_cons_of_mem _ ht')) r1 r2
  refine ⟨h3.1, h3.2.1, fun i => ?_⟩
  have h4 := h3.2.2 i
  have h5 : (atR (R.set k (getRo t (atR F t.at') (atR R (k : Int)))) i).lo <= (atR R i).lo /\ (atR (R.set k (getRo t (atR F t.at') (atR R (k : Int)))) i).hi <= (atR R i).hi := by
   by_cases e : i.toNat = k
   ·have q : atR R (k : Int) = atR R i := by unfold atR; rw [Int.toNat_natCast, e]
    by_cases hk : k < R.length
    ·have : atR (R.set k (getRo t (atR F t.at') (atR R (k : Int)))) i = getRo t (atR F t.at') (atR R (k : Int)) := by
      show (R.set k _)[i.toNat]?.getD _ = _
      rw [e, List.getElem?_set_self hk]; rfl
     rw [this, <- q]
     exact e2.2
    ·rw [List.set_eq_of_length_le (by omega)]
     exact ⟨Int.le_refl _, Int.le_refl _⟩
   ·have : atR (R.set k (getRo t (atR F t.at') (atR R (k : Int)))) i = atR R i := by
     unfold atR
     rw [List.getElem?_set_ne (fun q => e q.symm)]
    rw [this]
    exact ⟨Int.le_refl _, Int.le_refl _⟩
  omega
theorem Zax {q m : Int} (hq : 0 <= q) {F : List Rg} (h : Row m F) : Row (min2 m q) (F.map (cutR q)) := by
 intro r hr
 obtain ⟨f, hf, rfl⟩ := List.mem_map.1 hr
 obtain ⟨a1, a2, a3⟩ := h f hf
 refine ⟨?_, ?_, ?_⟩ <;> simp only [cutR] <;> unfold min2 <;> (repeat' split) <;> omega
structure GB (v : Vac) (g : Gs) : Prop where
 fits : Fits v g
 f : Row 68719476736 g.free
 b : Row 68719476736 g.bound
 r : Row 68719476736 g.room
 m : 0 <= g.most /\ g.most <= 68719476736
theorem Zbw {v : Vac} {g : Gs} : belongsE v g = 0 ↔ VB v /\ GB v g := by
 rw [Z9n]
 exact ⟨fun ⟨a, b, c, d, e, f⟩ => ⟨a, b, c, d, e, f⟩, fun ⟨a, b⟩ => ⟨a, b.fits, b.f, b.b, b.r, b.m⟩⟩
theorem Zgb {v : Vac} (hv : VB v) {h : Int} {F B : List Rg} (h1 : Row 68719476736 F) (h2 : Row 68719476736 B) : Row 137438953472 (relF h v.vessels F B) /\ Row 68719476736 (relB h v.vessels B) := by
 constructor
 ·intro r hr
  obtain ⟨t, ht, rfl⟩ := List.mem_map.1 hr
  obtain ⟨x, y⟩ := t
  have a := List.of_mem_zip ht
  have b := List.of_mem_zip (show (y.1, y.2) ∈ _ from a.2)
  exact (Zg6 (hv.ves _ a.1) (h1 _ b.1) (h2 _ b.2)).2
 ·intro r hr
  obtain ⟨t, ht, rfl⟩ := List.mem_map.1 hr
  obtain ⟨x, y⟩ := t
  have a := List.of_mem_zip ht
  exact (Zg7 (hv.ves _ a.1) (h2 _ a.2)).2.1
theorem Zgc {v : Vac} (hv : VB v) {F : List Rg} (hF : Row 137438953472 F) (hl : F.length = v.vessels.length) (shut : List Int) : Row 5000000000000 (leakR (flowG v shut F) v.leaks) := by
 have h8 := hv.l8
 have := Z8b (n := v.vessels.length) (l := v.leaks) (m := 4600000000000) hv.inl (by decide) (by omega) (Zg8 hv hF hl shut)
 exact fun r hr => (this r hr).mono (by omega)
structure Steps (v : Vac) (g : Gs) (s : Bk) : Prop where
 m1 : g.most <= (beginT v g s).most /\ (beginT v g s).most <= 68719476736
 f2 : Row 137438953472 (relT v (beginT v g s) s).free
 b2 : Row 68719476736 (relT v (beginT v g s) s).bound
 f3 : Row 5000000000000 (flowT v (relT v (beginT v g s) s) s).free
 f4 : Row 5000000000000 (getT v (flowT v (relT v (beginT v g s) s) s) s).free
 r4 : Row 68719476736 (getT v (flowT v (relT v (beginT v g s) s) s) s).room
 r4l : ∀ i, (atR (getT v (flowT v (relT v (beginT v g s) s) s) s).room i).lo <= (atR g.room i).lo /\ (atR (getT v (flowT v (relT v (beginT v g s) s) s) s).room i).hi <= (atR g.room i).hi
theorem Zgd {v : Vac} {g : Gs} (hv : VB v) (h : GB v g) (s : Bk) : Steps v g s := by
 have m1 := Zav (l := v.leaks) (m := g.most) (fun q hq => (hv.inl q hq).2) h.m.1 h.m.2
 have r2 := Zgb (h := s.heat) hv h.f h.b
 have f3 := Zgc hv r2.1 (Z6p h.fits.f h.fits.b) s.shut
 have h4 : Row 5000000000000 (getT v (flowT v (relT v (beginT v g s) s) s) s).free /\ Row 68719476736 (getT v (flowT v (relT v (beginT v g s) s) s) s).room /\ ∀ i, (atR (getT v (flowT v (relT v (beginT v g s) s) s) s).room i).lo <= (atR g.room i).lo /\ (atR (getT v (flowT v (relT v (beginT v g s) s) s) s).room i).hi <= (atR g.room i).hi := by
  unfold getT
  split
  ·exact Zaw (fun t ht => (hv.gtr t ht).1.2) f3 h.r
  ·exact ⟨f3, h.r, fun i => ⟨Int.le_refl _, Int.le_refl _⟩⟩
 exact ⟨m1, r2.1, r2.2, f3, h4.1, h4.2.1, h4.2.2⟩
theorem Z8c (v : Vac) (g : Gs) (s : Bk) : (getT v g s).most = g.most /\ (getT v g s).bound = g.bound /\ (getT v g s).flashed = g.flashed := by unfold getT; split <;> exact ⟨rfl, rfl, rfl⟩
theorem Ze9 (v : Vac) (g : Gs) (s : Bk) : (tickT v g s).most = leakF g.most v.leaks := (Z8c v (flowT v (relT v (beginT v g s) s) s) s).1
theorem Zea {v : Vac} {g : Gs} (hv : VB v) (h : GB v g) (s : Bk) : GB v (tickT v g s) /\ Row (tickT v g s).most (tickT v g s).free := by
 have st := Zgd hv h s
 have hm := Ze9 v g s
 have h1 := st.m1
 have h0 := h.m.1
 have e1 : (getT v (flowT v (relT v (beginT v g s) s) s) s).most = leakF g.most v.leaks := hm
 have hmm : g.most <= leakF g.most v.leaks /\ leakF g.most v.leaks <= 68719476736 := h1
 have f5 : Row (min2 5000000000000 (leakF g.most v.leaks)) (tickT v g s).free := by
  have := Zax (q := leakF g.most v.leaks) (by omega) st.f4
  rw [<- e1] at this ⊢
  exact this
 have b5 : Row (min2 68719476736 (leakF g.most v.leaks)) (tickT v g s).bound := by
  have hb : Row 68719476736 (getT v (flowT v (relT v (beginT v g s) s) s) s).bound := by rw [(Z8c _ _ _).2.1]; exact st.b2
  have := Zax (q := leakF g.most v.leaks) (by omega) hb
  rw [<- e1] at this ⊢
  exact this
 have k1 : min2 5000000000000 (leakF g.most v.leaks) = leakF g.most v.leaks := by unfold min2; rw [if_pos (by omega)]
 have k2 : min2 68719476736 (leakF g.most v.leaks) <= 68719476736 := by unfold min2; split <;> omega
 rw [k1] at f5
 refine ⟨⟨Z4c h.fits s, fun r hr => (f5 r hr).mono hmm.2, fun r hr => (b5 r hr).mono k2, st.r4, by rw [hm]; omega⟩, by rw [hm]; exact f5⟩
end Go.Proofs.Ytgnpnfkncbnjnaa
namespace Go.Proofs.Ytgnpnfkncbnjnaa
attribute [local go_sem_proc] Int.reduceEq Int.reduceNeg Nat.reduceEqDiff Nat.reduceLT Nat.reduceAdd Nat.reduceSub Nat.reduceMul Int.reduceLE Int.reduceLT Int.reduceToNat Nat.reduceLeDiff
attribute [local go_sem] Int.toNat_natCast Bool.not_true Bool.not_false
open Go Go.Am
attribute [local congr] Za Z6 Z7
def runG (v : Vac) (l : List Bk) : Gs := (flatT l).foldl (tickT v) (beginG v)
def runE (v : Vac) (l : List Bk) : Gs × Int := if runsE v l = 0 then (runG v l, 0) else (zeroG, runsE v l)
theorem Z8d (v : Vac) : ∀ (l : List Bk) (g : Gs), runT (fun (_ : Bool) _ => some true) v true g l = .inl (true, l.foldl (tickT v) g)
 | [], g => rfl
 | s :: r, g => by
  show runT (fun (_ : Bool) _ => some true) v true (tickT v g s) r = _
  rw [Z8d v r]; rfl
theorem Z8e (v : Vac) (c : Bool) (l : List Bk) : allT (fun (_ : Bool) _ => some true) v c l = .inl (true, runG v l) := by
 show runT (fun (_ : Bool) _ => some true) v true (beginG v) (flatT l) = _
 rw [Z8d]; rfl
theorem Zjz {H : Heap} {d : Nat} {b : Nm} (l : List Rg) (hb : l ≠ [] -> hget H b = some (rgB l)) : freezeG (freezeD H (d + 1)) H (rowX .nils b l.length) = some (.lst (l.map rgV)) := by
 cases l with
 | nil => rfl
 | cons a r => exact Z2a (g := rgC) (z := 2) Z19 (by decide) (f := rgV) (fun _ => rfl) (row := freezeD H (d + 1)) (H := H) (a :: r) (Zdv _) (hb (by simp)) (a :: r).length false
theorem Z9o {H : Heap} {f b r : Nm} {g : Gs} {e : Int} (h1 : hget H f = some (rgB g.free)) (h2 : hget H b = some (rgB g.bound)) (h3 : g.room ≠ [] -> hget H r = some (rgB g.room)) : Go.Am.frozen H (.tuple [.agg [.slice f 0 g.free.length g.free.length false, .slice b 0 g.bound.length g.bound.length false, rowX .nils r g.room.length, .int .i64 g.most, .bool g.flashed], .int .i64 e]) = some (gasP (g, e)) := by
 have h4 : freezeG (freezeD H 6) H (.tuple [.agg [.slice f 0 g.free.length g.free.length false, .slice b 0 g.bound.length g.bound.length false, rowX .nils r g.room.length, .int .i64 g.most, .bool g.flashed], .int .i64 e]) = some (.tuple [gsV g, .int .i64 e]) := by
  show (match freezeGs (freezeD H 6) H [.agg [.slice f 0 g.free.length g.free.length false, .slice b 0 g.bound.length g.bound.length false, rowX .nils r g.room.length, .int .i64 g.most, .bool g.flashed], .int .i64 e] with | some l => some (AV.tuple l) | none => none) = _
  have h5 : freezeG (freezeD H 6) H (.agg [.slice f 0 g.free.length g.free.length false, .slice b 0 g.bound.length g.bound.length false, rowX .nils r g.room.length, .int .i64 g.most, .bool g.flashed]) = some (gsV g) := by
   show (match freezeGs (freezeD H 6) H [.slice f 0 g.free.length g.free.length false, .slice b 0 g.bound.length g.bound.length false, rowX .nils r g.room.length, .int .i64 g.most, .bool g.flashed] with | some l => some (AV.agg l) | none => none) = _
   simp only [freezeGs, Zas g.free h1, Zas g.bound h2, Zjz g.room h3]
   rfl
  simp only [freezeGs, h5]
  rfl
 unfold Go.Am.frozen
 rw [h4]
 have h5 : (AV.tuple [gsV g, .int .i64 e]).flat = true := by simp only [gsV, AV.flat, flats, Z96]
 simp only [h5]
 rfl
theorem Z9p (v : Vac) (l : List Bk) (K : Nat) (H : Heap) (n : Nat) : acall cfg (K + 1) 99 [vacV v, .lst (l.map bkV)] ⟨H, n, [], false, []⟩ = .ret (.func 152 [.ptr [n] 0, .ptr [n + 1] 0], ⟨([n + 1], .cells [.lst (l.map bkV)] true 0) :: ([n], vacC v) :: H, n + 2, [], false, []⟩) := by
 suffices h : (acall cfg (K + 1) 99 [vacV v, .lst (l.map bkV)] ⟨H, n, [], false, []⟩).Does fun x => x = (.func 152 [.ptr [n] 0, .ptr [n + 1] 0], ⟨([n + 1], .cells [.lst (l.map bkV)] true 0) :: ([n], vacC v) :: H, n + 2, [], false, []⟩) by
  obtain ⟨a, e, rfl⟩ := h; exact e
 rw [Z4n Zm2 Zm1]
 refine Z9 rfl fun T hT' hA => ?_
 have a0 := hA 0 _ rfl
 have a1 := hA 1 _ rfl
 have hT : T.length = 6 := hT'
 clear hA hT'
 unfold vacV at a0
 unfold vacC
 simp -implicitDefEqProofs only [go_sem, a0, a1, hT, Try.results99]
theorem Zge (v : Vac) (l : List Bk) (K : Nat) (s : St) (hK : 3000 < K) (hv : v.Lens K) (hl : BkL K l) : acall cfg (K + 14) 37 [vacV v, .lst (l.map bkV)] s = .ret (gasP (runE v l), s) := by
 refine Jt Zgs Zgr (by first | rfl | simp -implicitDefEqProofs only [redoH, redo1, go_sem]) (by first | rfl | simp -implicitDefEqProofs only [go_sem]) (by first | rfl | simp -implicitDefEqProofs only [go_sem]) ?_
 refine Z9 rfl fun T hT' hA => ?_
 have a0 := hA 0 _ rfl
 have a1 := hA 1 _ rfl
 have hT : T.length = 25 := hT'
 clear hA hT'
 have hr := fun s => Z4e v l (K + 1) s (by omega) (hv.more 1) ⟨hl.1, fun x hx => by have := hl.2 x hx; omega⟩
 simp only [vacV] at hr
 unfold runE
 by_cases c0 : runsE v l = 0
 ·rw [if_pos c0]
  obtain ⟨hz, hl20, hrs⟩ := Z1x c0
  have hva := Z6r hz
  have hst : ∀ s ∈ l, 0 <= s.ticks /\ s.ticks <= 2000 /\ s.shut.length <= 40 := fun s hs => Z4f hva (Z0q hrs s hs)
  have h99 := fun H n => Z9p v l (K + 12) H n
  simp only [vacV] at h99
  simp -implicitDefEqProofs only [go_sem, a0, a1, hT, hr, c0, h99]
  simp only [Z3]
  refine Z1a (nxt := fun (_ : Bool) _ => some true) (fun L c H => hget H [0] = some (vacC v) /\ hget H [1] = some (.cells [.nils, .nils, .nils, .int .i64 0, .bool false] true 0) /\ hget H [2] = some (.cells [if c = true then .ptr [6, 4, 0] 0 else .nilp] true 0) /\ hget H [3] = some (vacC v) /\ hget H [4] = some (.cells [.lst (l.map bkV)] true 0) /\ hget H [5] = some L) (fun _ _ _ => False) false (by simp -implicitDefEqProofs only [go_sem, hT] <;> rfl) hva (by omega) hst hl20
   (P := fun T => T.length = 25 /\ nth T 7 = some (.ptr [2] 0) /\ nth T 4 = some (.ptr [1] 0)) (by exact ⟨by simp -implicitDefEqProofs only [go_sem, hT], by simp -implicitDefEqProofs only [go_sem, hT], by simp -implicitDefEqProofs only [go_sem, hT]⟩) ?_
  clear a0 a1 hT T hr h99
  rintro T ⟨hT, a7, a4⟩ L hL
  refine ⟨⟨?_, ?_, ?_, ?_⟩, ?_, ?_, ?_, ?_⟩
  ·intro c g H n hn hI hs hf
   left
   obtain ⟨i0, i1, i2, i3, i4, i5⟩ := hI
   subst hL
   suffices hd : (around cfg (K + 11 + 1) [5] [.ptr [6, 4, 0] 0] ⟨H, n, [], false, []⟩).Does fun x => ∃ H', x = (.bool true, (⟨H', n, [], false, []⟩ : St)) /\ (∀ q : Nm, q ≠ [2] -> q ≠ [5] -> hget H' q = hget H q) /\ hget H' [2] = some (.cells [.ptr [6, 4, 0] 0] true 0) /\ hget H' [5] = hget H [5] by
    obtain ⟨x, e, H', rfl, k1, k2, k3⟩ := hd
    exact ⟨true, H', n, rfl, e, Nat.le_refl _, ⟨(k1 _ (by decide) (by decide)).trans i0, (k1 _ (by decide) (by decide)).trans i1, k2, (k1 _ (by decide) (by decide)).trans i3, (k1 _ (by decide) (by decide)).trans i4, k3.trans i5⟩, fun q h1 h2 => k1 _ (n11 (by omega)) (n11 (by omega)),
     ⟨(k1 _ n31 n31).trans hs.x, (k1 _ n31 n31).trans hs.f, (k1 _ n31 n31).trans hs.b, fun e => (k1 _ n31 n31).trans (hs.r e)⟩⟩
   refine Je i5 rfl ?_
   simp -implicitDefEqProofs only [go_sem, a7, hT]
   refine ⟨trivial, _, _, _, _, _, i5, ?_⟩
   have k2 : ∀ Y, hget (hset H [5] Y) [2] = hget H [2] := fun Y => hs11 (by decide)
   have k5 : ∀ X Y, hget (hset (hset H [5] Y) [2] X) [5] = some Y := fun X Y => (hs11 (by decide)).trans (hss i5)
   simp -implicitDefEqProofs only [go_sem, i2, k2]
   refine ⟨_, _, _, _, _, _, k5 _ _, ?_⟩
   simp -implicitDefEqProofs only [go_sem, jumpOf]
   refine ⟨_, rfl, fun q h1 h2 => ?_, ?_, ?_⟩
   ·rw [Z1 _ _ (Ne.symm h2), Z1 _ _ (Ne.symm h1), Z1 _ _ (Ne.symm h2)]
   ·rw [Z1 _ _ (by decide)]
    exact hss ((k2 _).trans i2)
   ·rw [hss (k5 _ _), i5]
  ·rintro c H H' ⟨i0, i1, i2, i3, i4, i5⟩ hk
   exact ⟨(hk 0 (by omega)).trans i0, (hk 1 (by omega)).trans i1, (hk 2 (by omega)).trans i2, (hk 3 (by omega)).trans i3, (hk 4 (by omega)).trans i4, (hk 5 (by omega)).trans i5⟩
  ·exact fun c H h => h.2.2.2.1
  ·exact fun c H h => h.2.2.2.2.1
  ·exact ⟨rfl, rfl, rfl, rfl, rfl, rfl⟩
  ·exact fun c H h => h.2.2.2.2.2
  ·intro c g H n hall hI hs hn
   rw [Z8e] at hall
   injection hall with hall
   obtain ⟨rfl, rfl⟩ := Prod.mk.inj hall
   obtain ⟨i0, i1, i2, i3, i4, i5⟩ := hI
   have hs : SysAt .nils H [6, 4, 0] [6, 2, 0] [6, 2, 1] [6, 2, 2] v (runG v l) := hs
   have i2 : hget H [2] = some (.cells [.ptr [6, 4, 0] 0] true 0) := i2
   have k2 : ∀ Y, hget (hset H [5] Y) [2] = hget H [2] := fun Y => hs11 (by decide)
   have k1 : ∀ Y, hget (hset H [5] Y) [1] = hget H [1] := fun Y => hs11 (by decide)
   have k6 : ∀ Y, hget (hset H [5] Y) [6, 4, 0] = hget H [6, 4, 0] := fun Y => hs13
   have k3 : ∀ X Y, hget (hset (hset H [5] Y) [1] X) [1] = some X := fun X Y => hss ((k1 Y).trans i1)
   have g4 := hs.x
   unfold sysB at g4
   simp -implicitDefEqProofs only [go_sem, a7, a4, hT, i1, i2, k1, k2, k3, k6, g4, Try.results37]
   exact Z9o (hs13.trans (hs13.trans hs.f)) (hs13.trans (hs13.trans hs.b)) (fun e => hs13.trans (hs13.trans (hs.r e)))
  ·intro c g H n hall
   rw [Z8e] at hall
   cases hall
 ·rw [if_neg c0]
  simp -implicitDefEqProofs only [go_sem, a0, a1, hT, hr, c0, Try.results37]
  exact Z9l _ _
end Go.Proofs.Ytgnpnfkncbnjnaa
namespace Go.Proofs.Ytgnpnfkncbnjnaa
attribute [local go_sem_proc] Int.reduceEq Int.reduceNeg Nat.reduceEqDiff Nat.reduceLT Nat.reduceAdd Nat.reduceSub Nat.reduceMul Int.reduceLE Int.reduceLT Int.reduceToNat Nat.reduceLeDiff
attribute [local go_sem] Int.toNat_natCast Bool.not_true Bool.not_false
open Go Go.Am
attribute [local congr] Za Z6 Z7
def gasY (f b r : Nm) (g : Gs) : AV := .agg [.slice f 0 g.free.length g.free.length false, .slice b 0 g.bound.length g.bound.length false, rowX (.lst []) r g.room.length, .int .i64 g.most, .bool g.flashed]
def bsOf (f b r : Nm) (g : Gs) : List Nm := match g.room with | [] => [f, b] | _ :: _ => [f, b, r]
def xsOf (g : Gs) : List Blk := match g.room with | [] => [rgB g.free, rgB g.bound] | _ :: _ => [rgB g.free, rgB g.bound, rgB g.room]
theorem Z5q (v : Vac) (g : Gs) (x : Nat) (K : Nat) (H0 : Heap) (k : Nat) (R : AV) (hk : 1 <= k) (h1 : x < v.vessels.length) (h2 : x < g.free.length) (hvol : 1 <= v.vessels[x].vol) (hf : hget H0 [0] = some (rgB g.free)) (hR : R.sc = true) (hR' : R.cells = [R]) (hRo : R.okc = true) :
  (bodyA (cfg.at 131) (acall cfg K) (around cfg K) (K + 1) Try.f131 [vacV v, .agg [.slice [0] 0 g.free.length g.free.length false, .slice [1] 0 g.bound.length g.bound.length false, R, .int .i64 g.most, .bool g.flashed], .int .i64 x] ⟨H0, k, [], false, []⟩).Does fun y => y.1 = rgV (pressR g.free[x] v.vessels[x].vol) /\ ∀ q, q < k -> hget y.2.H [q] = hget H0 [q] := by
 refine Z9 rfl fun T hT' hA => ?_
 have a0 := hA 0 _ rfl
 have a1 := hA 1 _ rfl
 have a2 := hA 2 _ rfl
 have hT : T.length = 34 := hT'
 clear hA hT'
 have e1 := Zh (f := vesV) (l := v.vessels) (i := x) (z := 6) h1 rfl
 have f0 := Xf g.free h2
 have f1 := Xg g.free h2
 have hin : inR (x : Int) g.free.length = some x := Jr h2
 unfold rgB at hf
 generalize v.vessels[x] = y at *
 generalize g.free[x] = f at *
 generalize g.free.flatMap rgC = cs at *
 have hn0 : ¬ y.vol = 0 := by omega
 simp only [vesV] at e1
 unfold vacV at a0
 have p1 : ∀ X Y Z, hget (([k + 2], X) :: ([k + 1], Y) :: ([k], Z) :: H0) [k + 1] = some Y := fun X Y Z => by rw [hc11 (by omega)]; exact Z2 ..
 have p0 : ∀ X Y Z, hget (([k + 2], X) :: ([k + 1], Y) :: ([k], Z) :: H0) [k] = some Z := fun X Y Z => by rw [hc11 (by omega), hc11 (by omega)]; exact Z2 ..
 have p2 : ∀ X Y Z, hget (([k + 2], X) :: ([k + 1], Y) :: ([k], Z) :: H0) [k + 2] = some X := fun X Y Z => Z2 ..
 have pf : ∀ X Y Z, hget (([k + 2], X) :: ([k + 1], Y) :: ([k], Z) :: H0) [0] = hget H0 [0] := fun X Y Z => by rw [hc11 (by omega), hc11 (by omega), hc11 (by omega)]
 have u1 : (k + 1 + 1 = k) = False := eq_false (by omega)
 have u2 : (k + 1 = k) = False := eq_false (by omega)
 have u3 : (k + 1 + 1 = k + 1) = False := eq_false (by omega)
 have ip : isPre [k + 4, 14] [k + 2] = false := Go.Am.Yc _ _ (by omega)
 simp -implicitDefEqProofs only [go_sem, a0, a1]
 try simp only [Z3]
 refine Zc [[], [0], [], [1, 0, 2], [3, 1, 0, 2], [], [5], [], [6, 5, 7], [8, 6, 5, 7], [9, 8, 6, 5, 7], [], [4, 3, 1, 0, 2, 11], [10, 9, 8, 6, 5, 7, 12, 4, 3, 1, 0, 2, 11]] [[], [], [], [], [], [], [], [], [], [], [], [], [[k + 3, 11, 0]], []] (by kernel_rfl) rfl rfl ?_
 simp -implicitDefEqProofs only [go_sem, Z0, Zd, Option.getD_some, a2, hT, e1, f0, f1, hin, hf, p0, p1, pf, u1, u2, Zb]
 try simp only [Z3]
 refine Zc [[], [0], [1, 0], [], [2, 1, 0, 3], [], [5], [6, 5], [], [7, 6, 5, 8], [9, 7, 6, 5, 8], [], [10, 9, 7, 6, 5, 8, 11], [4, 2, 1, 0, 3, 12, 10, 9, 7, 6, 5, 8, 11], [13, 4, 2, 1, 0, 3, 12, 10, 9, 7, 6, 5, 8, 11]] [[], [], [], [], [], [], [], [], [], [], [], [], [], [], [[k + 2]]] (by kernel_rfl) rfl rfl ?_
 simp -implicitDefEqProofs only [go_sem, Z0, lkn, Zd, lk31, Option.getD_some, Option.getD_none, hT, hn0, p2, ip, Zb, Try.results131]
 refine ⟨rfl, fun q hq => ?_⟩
 rw [if_neg (by omega), if_neg (by omega), if_neg (by omega), lk11 (by omega), lkn]; rfl
theorem Z2u {v : Vac} {g : Gs} {f b r : Nm} {x K : Nat} {H : Heap} {n : Nat} {p : Nm} {jr : Bool} {j : Delta} (h1 : x < v.vessels.length) (h2 : x < g.free.length) (hvol : 1 <= v.vessels[x].vol) (hf : hget H f = some (rgB g.free)) (hb : hget H b = some (rgB g.bound)) (hr : g.room ≠ [] -> hget H r = some (rgB g.room))
  (fb : f ≠ b) (fr : f ≠ r) (br : b ≠ r) :
  acall cfg (K + 1) 131 [vacV v, gasY f b r g, .int .i64 x] ⟨H, n, p, jr, j⟩ = .ret (rgV (pressR g.free[x] v.vessels[x].vol), ⟨H, n, p, jr, backJ jr (bsOf f b r g) (xsOf g) j⟩) := by
 have efb := Ze fb
 have efr := Ze fr
 have ebr := Ze br
 have ebf := Ze (Ne.symm fb)
 have erf := Ze (Ne.symm fr)
 have erb := Ze (Ne.symm br)
 have nb : ∀ op L r, namesB op (rgB L) r = r := fun op L r => (Xk L).nm op r
 have cells1 : ∀ L, ∃ cs, rgB L = .cells cs true 2 := fun L => ⟨_, rfl⟩
 unfold bsOf xsOf gasY
 cases hg : g.room with
 | nil =>
  simp only [List.length_nil]
  have hbd := Z5q v g x K [([0], rgB g.free), ([1], rgB g.bound)] 2 (.lst []) (by decide) h1 h2 hvol rfl rfl rfl rfl
  refine Yo (bs := [f, b]) (xs := [rgB g.free, rgB g.bound]) (xs' := [rgB g.free, rgB g.bound]) (args' := [vacV v, .agg [.slice [0] 0 g.free.length g.free.length false, .slice [1] 0 g.bound.length g.bound.length false, .lst [], .int .i64 g.most, .bool g.flashed], .int .i64 x]) Z95 Z94 ?_ ?_ ?_ rfl ?_ ?_ ?_ (fun _ => rfl) ?_ ?_ rfl ?_ ?_
  ·show lendM (199 + 1) [f, b] [] [] _ = _
   rw [Ye 199 rfl hf, nb]
   show lendM (198 + 1) [b] [f] [_] _ = _
   rw [Ye 198 (by simp only [memNm, ebf]) hb, nb]
   exact Zs 197 _ _ _
  ·simp only [getAll, hf, hb]
  ·simp only [nodupN, memNm, efb]
  ·show renVs [(f, [0]), (b, [1])] _ = _
   simp only [vacV, rowX, renVs, renV, lookN, Zf, ebf, X5, X6, X7, X8, X9, flats]
  ·show renBs [(f, [0]), (b, [1])] _ = _
   simp only [renBs, Z2s]
  ·show namesB true (rgB g.free) (namesB true (rgB g.bound) []) = namesB true (rgB g.free) (namesB true (rgB g.bound) [])
   rfl
  ·show ∀ c ∈ namesB true (rgB g.free) (namesB true (rgB g.bound) []), _
   rw [nb, nb]; intro c hc; cases hc
  ·show (namesB true (rgB g.free) (namesB true (rgB g.bound) [])).length < _
   rw [nb, nb]; decide
  ·show renBs [([0], f), ([1], b)] _ = _
   simp only [renBs, Z2s]
  ·refine Tr.Does.mono hbd ?_
   rintro y ⟨e1, e2⟩
   refine ⟨e1, ?_⟩
   show getAll y.2.H [[0], [1]] = _
   have q0 : hget y.2.H [0] = some (rgB g.free) := (e2 0 (by decide)).trans rfl
   have q1 : hget y.2.H [1] = some (rgB g.bound) := (e2 1 (by decide)).trans rfl
   simp only [getAll, q0, q1]
 | cons a l =>
  have hr' := hr (by rw [hg]; simp)
  rw [hg] at hr'
  simp only [List.length_cons]
  have hbd := Z5q v g x K [([0], rgB g.free), ([1], rgB g.bound), ([2], rgB (a :: l))] 3 (.slice [2] 0 (l.length + 1) (l.length + 1) false) (by decide) h1 h2 hvol rfl rfl rfl rfl
  refine Yo (bs := [f, b, r]) (xs := [rgB g.free, rgB g.bound, rgB (a :: l)]) (xs' := [rgB g.free, rgB g.bound, rgB (a :: l)]) (args' := [vacV v, .agg [.slice [0] 0 g.free.length g.free.length false, .slice [1] 0 g.bound.length g.bound.length false, .slice [2] 0 (l.length + 1) (l.length + 1) false, .int .i64 g.most, .bool g.flashed], .int .i64 x]) Z95 Z94 ?_ ?_ ?_ rfl ?_ ?_ ?_ (fun _ => rfl) ?_ ?_ rfl ?_ ?_
  ·show lendM (199 + 1) [f, b, r] [] [] _ = _
   rw [Ye 199 rfl hf, nb]
   show lendM (198 + 1) [b, r] [f] [_] _ = _
   rw [Ye 198 (by simp only [memNm, ebf]) hb, nb]
   show lendM (197 + 1) [r] [f, b] [_, _] _ = _
   rw [Ye 197 (by simp only [memNm, erf, erb]) hr', nb]
   exact Zs 196 _ _ _
  ·simp only [getAll, hf, hb, hr']
  ·simp only [nodupN, memNm, efb, efr, ebr]
  ·show renVs [(f, [0]), (b, [1]), (r, [2])] _ = _
   simp only [vacV, rowX, renVs, renV, lookN, Zf, ebf, erf, erb, X5, X6, X7, X8, X9]
  ·show renBs [(f, [0]), (b, [1]), (r, [2])] _ = _
   simp only [renBs, Z2s]
  ·rfl
  ·show ∀ c ∈ namesB true (rgB g.free) (namesB true (rgB g.bound) (namesB true (rgB (a :: l)) [])), _
   rw [nb, nb, nb]; intro c hc; cases hc
  ·show (namesB true (rgB g.free) (namesB true (rgB g.bound) (namesB true (rgB (a :: l)) []))).length < _
   rw [nb, nb, nb]; decide
  ·show renBs [([0], f), ([1], b), ([2], r)] _ = _
   simp only [renBs, Z2s]
  ·refine Tr.Does.mono hbd ?_
   rintro y ⟨e1, e2⟩
   refine ⟨e1, ?_⟩
   show getAll y.2.H [[0], [1], [2]] = _
   have q0 : hget y.2.H [0] = some (rgB g.free) := (e2 0 (by decide)).trans rfl
   have q1 : hget y.2.H [1] = some (rgB g.bound) := (e2 1 (by decide)).trans rfl
   have q2 : hget y.2.H [2] = some (rgB (a :: l)) := (e2 2 (by decide)).trans rfl
   simp only [getAll, q0, q1, q2]
end Go.Proofs.Ytgnpnfkncbnjnaa
namespace Go.Proofs.Ytgnpnfkncbnjnaa
attribute [local go_sem_proc] Int.reduceEq Int.reduceNeg Nat.reduceEqDiff Nat.reduceLT Nat.reduceAdd Nat.reduceSub Nat.reduceMul Int.reduceLE Int.reduceLT Int.reduceToNat Nat.reduceLeDiff
attribute [local go_sem] Int.toNat_natCast Bool.not_true Bool.not_false
open Go Go.Am
attribute [local congr] Za Z6 Z7
def volN (v : Vac) (x : Nat) : Int := (v.vessels[x]?.map Ves.vol).getD 1
def prN (v : Vac) (x : Nat) (g : Gs) : Int := (pressR (atR g.free x) (volN v x)).hi
def peakN (v : Vac) (x : Nat) (c : Int) (g : Gs) : Option Int := some (max2 c (prN v x g))
def outT {σ : Type} : (σ × Gs) ⊕ (σ × Gs) -> σ
 | .inl p => p.1
 | .inr p => p.1
def peakV (v : Vac) (x : Nat) (l : List Bk) : Int := outT (allT (peakN v x) v 0 l)
def peakE (v : Vac) (l : List Bk) (x : Int) : Int × Int := if runsE v l = 0 then if fromB x 0 (v.vessels.length - 1) = true then (peakV v x.toNat l, 0) else (0, 7) else (0, runsE v l)
theorem Zay {v : Vac} {x : Nat} : ∀ (l : List Bk) (c : Int) (g : Gs), ∃ c' g', runT (peakN v x) v c g l = .inl (c', g')
 | [], c, g => ⟨c, g, rfl⟩
 | s :: r, c, g => Zay r _ _
theorem Z8f {v : Vac} {x : Nat} {g : Gs} (h1 : x < v.vessels.length) (h2 : x < g.free.length) : prN v x g = (pressR g.free[x] v.vessels[x].vol).hi := by
 unfold prN volN
 rw [Z4a _ h2, List.getElem?_eq_getElem h1]
 rfl
theorem Zgy {v : Vac} (h : checkE v = 0) {x : Nat} (hx : x < v.vessels.length) : 1 <= v.vessels[x].vol /\ v.vessels[x].vol <= 1000000 := ((Z1y.1 h).ves _ (List.getElem_mem hx)).vol
theorem hcur : cfg.cur = some [] := rfl
theorem Zeb (v : Vac) (l : List Bk) (x : Int) (K : Nat) (s : St) (hK : 3000 < K) (hv : v.Lens K) (hl : BkL K l) : acall cfg (K + 14) 65 [vacV v, .lst (l.map bkV), .int .i64 x] s = .ret (sealV (peakE v l x), s) := by
 refine Jt Zle Zld (by first | rfl | simp -implicitDefEqProofs only [redoH, redo1, go_sem]) (by first | rfl | simp -implicitDefEqProofs only [go_sem]) (by first | rfl | simp -implicitDefEqProofs only [redoH, redo1, go_sem]) ?_
 refine Z9 rfl fun T hT' hA => ?_
 have a0 := hA 0 _ rfl
 have a1 := hA 1 _ rfl
 have a2 := hA 2 _ rfl
 have hT : T.length = 39 := hT'
 clear hA hT'
 have hr := fun s => Z4e v l (K + 1) s (by omega) (hv.more 1) ⟨hl.1, fun x hx => by have := hl.2 x hx; omega⟩
 have hfc := fun s => X4 x 0 (v.vessels.length - 1) (K + 12) s
 have hw1 : wrapF .i64 ((v.vessels.length : Int) - 1) = (v.vessels.length : Int) - 1 := Z5 (by omega) (by have := hv.ves.2; omega)
 simp only [vacV] at hr
 unfold peakE sealV
 by_cases c0 : runsE v l = 0
 ·rw [if_pos c0]
  obtain ⟨hz, hl20, hrs⟩ := Z1x c0
  have hva := Z6r hz
  have hst : ∀ s ∈ l, 0 <= s.ticks /\ s.ticks <= 2000 /\ s.shut.length <= 40 := fun s hs => Z4f hva (Z0q hrs s hs)
  by_cases c1 : fromB x 0 (v.vessels.length - 1) = true
  ·rw [if_pos c1]
   have hx := Zz.1 c1
   obtain ⟨y, rfl⟩ : ∃ y : Nat, x = y := ⟨x.toNat, by omega⟩
   have hyl : y < v.vessels.length := by omega
   have hvo := Zgy hz hyl
   have h99 := fun H n => Z9p v l (K + 12) H n
   simp only [vacV] at h99
   simp -implicitDefEqProofs only [go_sem, a0, a1, a2, hT, hr, c0, hw1, hfc, c1, h99]
   simp only [Z3]
   refine Z1a (nxt := peakN v y) (fun L c H => hget H [0] = some (vacC v) /\ hget H [1] = some (.cells [.int .i64 y] true 0) /\ hget H [2] = some (.cells [.int .i64 c] true 0) /\ hget H [3] = some (vacC v) /\ hget H [4] = some (.cells [.lst (l.map bkV)] true 0) /\ hget H [5] = some L) (fun _ _ _ => False) 0 (by simp -implicitDefEqProofs only [go_sem, hT] <;> rfl) hva (by omega) hst hl20
    (P := fun T => T.length = 39 /\ nth T 3 = some (.ptr [0] 0) /\ nth T 5 = some (.ptr [1] 0) /\ nth T 9 = some (.ptr [2] 0)) (by exact ⟨by simp -implicitDefEqProofs only [go_sem, hT], by simp -implicitDefEqProofs only [go_sem, hT], by simp -implicitDefEqProofs only [go_sem, hT], by simp -implicitDefEqProofs only [go_sem, hT]⟩) ?_
   clear a0 a1 a2 hT T hr h99 hfc
   rintro T ⟨hT, a3, a5, a9⟩ L hL
   refine ⟨⟨?_, ?_, ?_, ?_⟩, ?_, ?_, ?_, ?_⟩
   ·intro c g H n hn hI hs hf
    left
    obtain ⟨i0, i1, i2, i3, i4, i5⟩ := hI
    subst hL
    have hs' : SysAt .nils H [6, 4, 0] [6, 2, 0] [6, 2, 1] [6, 2, 2] v g := hs
    suffices hd : (around cfg (K + 11 + 1) [5] [.ptr [6, 4, 0] 0] ⟨H, n, [], false, []⟩).Does fun x => ∃ H', x = (.bool true, (⟨H', n + 1, [], false, []⟩ : St)) /\ (∀ q : Nm, q ≠ [2] -> q ≠ [5] -> hget H' q = hget H q) /\ hget H' [2] = some (.cells [.int .i64 (max2 c (prN v y g))] true 0) /\ hget H' [5] = hget H [5] by
     obtain ⟨x, e, H', rfl, k1, k2, k3⟩ := hd
     exact ⟨_, H', n + 1, rfl, e, Nat.le_succ _, ⟨(k1 _ (by decide) (by decide)).trans i0, (k1 _ (by decide) (by decide)).trans i1, k2, (k1 _ (by decide) (by decide)).trans i3, (k1 _ (by decide) (by decide)).trans i4, k3.trans i5⟩, fun q h1 h2 => k1 _ (n11 (by omega)) (n11 (by omega)),
      ⟨(k1 _ n31 n31).trans hs.x, (k1 _ n31 n31).trans hs.f, (k1 _ n31 n31).trans hs.b, fun e => (k1 _ n31 n31).trans (hs.r e)⟩⟩
    refine Je i5 rfl ?_
    simp -implicitDefEqProofs only [go_sem, hT]
    refine ⟨trivial, _, _, _, _, _, i5, ?_⟩
    have hyf : y < g.free.length := by rw [hf.f]; exact hyl
    have hpr := fun H n p jr j hf hb hr => Z2u (v := v) (g := g) (f := [6, 2, 0]) (b := [6, 2, 1]) (r := [6, 2, 2]) (x := y) (K := K + 10) (H := H) (n := n) (p := p) (jr := jr) (j := j) hyl hyf hvo.1 hf hb hr (by decide) (by decide) (by decide)
    rw [Z8f hyl hyf]
    generalize pressR g.free[y] v.vessels[y].vol = P at *
    have g3 := hs'.x
    unfold sysB at g3
    unfold gasY bsOf xsOf at hpr
    have i0' := i0
    unfold vacC at i0
    have q2 : ∀ Y, hget (hset H [5] Y) [2] = hget H [2] := fun Y => hs11 (by decide)
    have q0 : ∀ Y, hget (hset H [5] Y) [0] = hget H [0] := fun Y => hs11 (by decide)
    have q1 : ∀ Y, hget (hset H [5] Y) [1] = hget H [1] := fun Y => hs11 (by decide)
    have q6 : ∀ Y, hget (hset H [5] Y) [6, 4, 0] = hget H [6, 4, 0] := fun Y => hs13
    have qf : ∀ Y, hget (hset H [5] Y) [6, 2, 0] = some (rgB g.free) := fun Y => hs13.trans hs'.f
    have qb : ∀ Y, hget (hset H [5] Y) [6, 2, 1] = some (rgB g.bound) := fun Y => hs13.trans hs'.b
    have qr : ∀ Y, g.room ≠ [] -> hget (hset H [5] Y) [6, 2, 2] = some (rgB g.room) := fun Y e => hs13.trans (hs'.r e)
    simp only [vacV] at hpr
    have ip0 : isPre [n, 7] [6, 2, 0] = false := Go.Am.Yc _ _ (by omega)
    have ip1 : isPre [n, 7] [6, 2, 1] = false := Go.Am.Yc _ _ (by omega)
    have ip2 : isPre [n, 7] [6, 2, 2] = false := Go.Am.Yc _ _ (by omega)
    have ip3 : isPre [n, 10] [2] = false := Go.Am.Yc _ _ (by omega)
    cases hg : g.room with
    | nil =>
     rw [hg] at hpr g3
     simp only [List.length_nil, rowX, backJ, ne_eq, not_true_eq_false, false_implies, forall_const] at hpr g3
     have kd : ∀ Y, hget (hdel (hdel (hset H [5] Y) [6, 2, 1]) [6, 2, 0]) [2] = hget H [2] := fun Y => by simp (disch := omega) only [hs11, hd31]
     simp -implicitDefEqProofs only [go_sem]
     try simp only [Z3]
     refine Zc [[], [], [], [2], [3, 2], [4, 3, 2], [], [1, 5, 4, 3, 2, 6], [7, 1, 5, 4, 3, 2, 6], [0, 8, 7, 1, 5, 4, 3, 2, 6], [9, 0, 8, 7, 1, 5, 4, 3, 2, 6]] [[], [], [], [], [], [], [], [[6, 2, 1], [6, 2, 0]], [], [], [[2]]] (by kernel_rfl) rfl rfl ?_
     simp -implicitDefEqProofs only [go_sem, Z0, lkn, lk11, lk31, Option.getD_some, Option.getD_none, AV.shut, shuts, a3, a5, a9, hT, hcur, i0, i1, i2, q0, q1, q2, q6, qf, qb, kd, ip0, ip1, ip3, g3, hpr, Z1w, Zb]
     refine ⟨_, _, _, _, _, _, hss i5, ?_⟩
     simp -implicitDefEqProofs only [go_sem, jumpOf]
     refine ⟨_, rfl, fun q h1 h2 => ?_, ?_, ?_⟩
     ·rw [Z1 _ _ (Ne.symm h2), Z0, Ju (Ne.symm h1)]
      by_cases e1 : q = [6, 2, 1]
      ·subst e1; rw [Zd, Option.getD_some, hs'.b]
      rw [Ju (Ne.symm e1)]
      by_cases e0 : q = [6, 2, 0]
      ·subst e0; rw [Zd, Option.getD_some, hs'.f]
      rw [Ju (Ne.symm e0), lkn, Option.getD_none]
      exact Z1 _ _ (Ne.symm h2)
     ·rw [Z1 _ _ (by decide), Z0, Zd]; rfl
     ·rw [i5]; refine hss (Y := ?_) ?_
      rotate_left
      ·rw [Z0]; simp (disch := omega) only [lkn, lk11, lk31, Option.getD_none]; exact hss i5
    | cons a l' =>
     have qr' : ∀ Y, hget (hset H [5] Y) [6, 2, 2] = some (rgB (a :: l')) := fun Y => by rw [qr Y (by rw [hg]; simp), hg]
     rw [hg] at hpr g3
     simp only [List.length_cons, rowX, backJ, ne_eq, reduceCtorEq, not_false_eq_true, forall_const] at hpr g3
     have kd : ∀ Y, hget (hdel (hdel (hdel (hset H [5] Y) [6, 2, 2]) [6, 2, 1]) [6, 2, 0]) [2] = hget H [2] := fun Y => by simp (disch := omega) only [hs11, hd31]
     simp -implicitDefEqProofs only [go_sem]
     try simp only [Z3]
     refine Zc [[], [], [], [2], [3, 2], [4, 3, 2], [], [1, 5, 4, 3, 2, 6], [7, 1, 5, 4, 3, 2, 6], [0, 8, 7, 1, 5, 4, 3, 2, 6], [9, 0, 8, 7, 1, 5, 4, 3, 2, 6]] [[], [], [], [], [], [], [], [[6, 2, 2], [6, 2, 1], [6, 2, 0]], [], [], [[2]]] (by kernel_rfl) rfl rfl ?_
     simp -implicitDefEqProofs only [go_sem, Z0, lkn, lk11, lk31, Option.getD_some, Option.getD_none, AV.shut, shuts, a3, a5, a9, hT, hcur, i0, i1, i2, q0, q1, q2, q6, qf, qb, qr', kd, ip0, ip1, ip2, ip3, g3, hpr, Z1w, Zb]
     refine ⟨_, _, _, _, _, _, hss i5, ?_⟩
     simp -implicitDefEqProofs only [go_sem, jumpOf]
     refine ⟨_, rfl, fun q h1 h2 => ?_, ?_, ?_⟩
     ·rw [Z1 _ _ (Ne.symm h2), Z0, Ju (Ne.symm h1)]
      by_cases e2 : q = [6, 2, 2]
      ·subst e2; rw [Zd, Option.getD_some, hs'.r (by rw [hg]; simp), hg]
      rw [Ju (Ne.symm e2)]
      by_cases e1 : q = [6, 2, 1]
      ·subst e1; rw [Zd, Option.getD_some, hs'.b]
      rw [Ju (Ne.symm e1)]
      by_cases e0 : q = [6, 2, 0]
      ·subst e0; rw [Zd, Option.getD_some, hs'.f]
      rw [Ju (Ne.symm e0), lkn, Option.getD_none]
      exact Z1 _ _ (Ne.symm h2)
     ·rw [Z1 _ _ (by decide), Z0, Zd]; rfl
     ·rw [i5]; refine hss (Y := ?_) ?_
      rotate_left
      ·rw [Z0]; simp (disch := omega) only [lkn, lk11, lk31, Option.getD_none]; exact hss i5
   ·rintro c H H' ⟨i0, i1, i2, i3, i4, i5⟩ hk
    exact ⟨(hk 0 (by omega)).trans i0, (hk 1 (by omega)).trans i1, (hk 2 (by omega)).trans i2, (hk 3 (by omega)).trans i3, (hk 4 (by omega)).trans i4, (hk 5 (by omega)).trans i5⟩
   ·exact fun c H h => h.2.2.2.1
   ·exact fun c H h => h.2.2.2.2.1
   ·exact ⟨rfl, rfl, rfl, rfl, rfl, rfl⟩
   ·exact fun c H h => h.2.2.2.2.2
   ·intro c g H n hall hI hs hn
    obtain ⟨i0, i1, i2, i3, i4, i5⟩ := hI
    have hc : peakV v y l = c := by unfold peakV; rw [hall]; rfl
    have k2 : ∀ Y, hget (hset H [5] Y) [2] = hget H [2] := fun Y => hs11 (by decide)
    simp -implicitDefEqProofs only [go_sem, a9, hT, i2, k2, Try.results65, hc]
    rfl
   ·intro c g H n hall
    obtain ⟨c', g', e⟩ := Zay (v := v) (x := y) (flatT l) (max2 0 (prN v y (beginG v))) (beginG v)
    rw [show allT (peakN v y) v 0 l = runT (peakN v y) v (max2 0 (prN v y (beginG v))) (beginG v) (flatT l) from rfl, e] at hall
    cases hall
  ·rw [if_neg c1]
   simp -implicitDefEqProofs only [go_sem, a0, a1, a2, hT, hr, c0, hw1, hfc, c1, Try.results65]
   rfl
 ·rw [if_neg c0]
  simp -implicitDefEqProofs only [go_sem, a0, a1, a2, hT, hr, c0, Try.results65]
  rfl
end Go.Proofs.Ytgnpnfkncbnjnaa
namespace Go.Proofs.Ytgnpnfkncbnjnaa
attribute [local go_sem_proc] Int.reduceEq Int.reduceNeg Nat.reduceEqDiff Nat.reduceLT Nat.reduceAdd Nat.reduceSub Nat.reduceMul Int.reduceLE Int.reduceLT Int.reduceToNat Nat.reduceLeDiff
attribute [local go_sem] Int.toNat_natCast Bool.not_true Bool.not_false
open Go Go.Am
attribute [local congr] Za Z6 Z7
def holdN (v : Vac) (x : Nat) (limit : Int) (c : Int) (g : Gs) : Option Int := if 0 <= c /\ prN v x g <= limit then none else some (wrapF .i64 (c + 1))
def ticksW : Int -> List Bk -> Int
 | q, [] => q
 | q, s :: r => ticksW (wrapF .i64 (q + s.ticks)) r
def holdV (v : Vac) (x : Nat) (limit : Int) (l : List Bk) : Int × Int := match allT (holdN v x limit) v (wrapF .i64 (0 - ticksW 0 l.dropLast)) l with
 | .inl _ => (0, 15)
 | .inr (c, _) => (c, 0)
def holdE (v : Vac) (l : List Bk) (x limit : Int) : Int × Int := if runsE v l = 0 then if fromB x 0 (v.vessels.length - 1) = true then if limit < 0 then (0, 2) else if l = [] then (0, 6) else holdV v x.toNat limit l else (0, 7) else (0, runsE v l)
theorem Zk0 (f : FuncId) (l : List Bk) (q : Nat) (h : q <= l.length) (s : St) : sliceOp (cfg.at f) 73 (.lst (l.map bkV)) none (some (.int .i64 (q : Int))) none s = .ret (.lst ((l.take q).map bkV), s) := by
 have hd : (cfg.at f).desc 73 = some (.slice 42) := by show cfg.desc 73 = _; unfold Cfg.desc; rw [Zkw]; rfl
 have ht : (cfg.at f).ty.get 42 = some ty42 := Z7k
 unfold sliceOp
 rw [hd]; simp only
 rw [ht]
 unfold cutA
 have hz : okZ ty42.size (l.map bkV) = true := X3 (f := bkV) (fun _ => rfl) l
 have hb : bounds2 (l.map bkV).length (l.map bkV).length none (some (.int .i64 (q : Int))) = some (0, q) := by
  have h2 : inB (q : Int) (l.map bkV).length = some q := by
   unfold inB
   rw [show decide ((0 : Int) <= (q : Int)) = true by simp, show decide ((q : Int) <= ((l.map bkV).length : Int)) = true by simp; omega]; simp
  unfold bounds2
  rw [show boundA (l.map bkV).length (l.map bkV).length (some (.int .i64 (q : Int))) = some q from h2]; rfl
 simp only [hz, hb, List.drop_zero, <- List.map_take, Ya]
theorem Zec (v : Vac) (l : List Bk) (x limit : Int) (K : Nat) (s : St) (hK : 3000 < K) (hv : v.Lens K) (hl : BkL K l) : acall cfg (K + 14) 67 [vacV v, .lst (l.map bkV), .int .i64 x, .int .i64 limit] s = .ret (sealV (holdE v l x limit), s) := by
 refine Jt Zlg Zlf (by first | rfl | simp -implicitDefEqProofs only [redoH, redo1, go_sem]) (by first | rfl | simp -implicitDefEqProofs only [go_sem]) (by first | rfl | simp -implicitDefEqProofs only [redoH, redo1, go_sem]) ?_
 refine Z9 rfl fun T hT' hA => ?_
 have a0 := hA 0 _ rfl
 have a1 := hA 1 _ rfl
 have a2 := hA 2 _ rfl
 have a3 := hA 3 _ rfl
 have hT : T.length = 75 := hT'
 clear hA hT'
 have hr := fun s => Z4e v l (K + 1) s (by omega) (hv.more 1) ⟨hl.1, fun x hx => by have := hl.2 x hx; omega⟩
 have hfc := fun s => X4 x 0 (v.vessels.length - 1) (K + 12) s
 have hw1 : wrapF .i64 ((v.vessels.length : Int) - 1) = (v.vessels.length : Int) - 1 := Z5 (by omega) (by have := hv.ves.2; omega)
 simp only [vacV] at hr
 unfold holdE sealV
 by_cases c0 : runsE v l = 0
 ·rw [if_pos c0]
  obtain ⟨hz, hl20, hrs⟩ := Z1x c0
  have hva := Z6r hz
  have hst : ∀ s ∈ l, 0 <= s.ticks /\ s.ticks <= 2000 /\ s.shut.length <= 40 := fun s hs => Z4f hva (Z0q hrs s hs)
  by_cases c1 : fromB x 0 (v.vessels.length - 1) = true
  ·rw [if_pos c1]
   have hx := Zz.1 c1
   by_cases c2 : limit < 0
   ·rw [if_pos c2]
    simp -implicitDefEqProofs only [go_sem, a0, a1, a2, a3, hT, hr, c0, hw1, hfc, c1, c2, Try.results67]
    rfl
   ·rw [if_neg c2]
    by_cases c3 : l = []
    ·rw [if_pos c3]
     have hq0 : ((l.length : Int) = 0) = True := eq_true (by rw [c3]; rfl)
     clear c3
     simp -implicitDefEqProofs only [go_sem, a0, a1, a2, a3, hT, hr, c0, hw1, hfc, c1, c2, hq0, Try.results67]
     rfl
    ·rw [if_neg c3]
     obtain ⟨y, rfl⟩ : ∃ y : Nat, x = y := ⟨x.toNat, by omega⟩
     have hyl : y < v.vessels.length := by omega
     have hvo := Zgy hz hyl
     have hlen : 1 <= l.length := by rcases l with _ | ⟨a, r⟩; exact absurd rfl c3; simp
     have hw2 : wrapF .i64 ((l.length : Int) - 1) = ((l.length - 1 : Nat) : Int) := by rw [Z5 (by omega) (by omega)]; omega
     have hq0 : ((l.length : Int) = 0) = False := eq_false (by omega)
     have hsl := fun s => Zk0 67 l (l.length - 1) (by omega) s
     simp -implicitDefEqProofs only [go_sem, a0, a1, a2, a3, hT, hr, c0, hw1, hfc, c1, c2, hq0, hw2, hsl]
     rw [show l.take (l.length - 1) = l.dropLast from (List.dropLast_eq_take ..).symm]
     have hdl : l.dropLast.length = l.length - 1 := List.length_dropLast ..
     have hds : ∀ s ∈ l.dropLast, 0 <= s.ticks /\ s.ticks <= 2000 := fun s hs => by have := hst s (List.dropLast_subset _ hs); omega
     simp only [Z3]
     refine Tr.Does.mono (Q := fun z => ∃ (T' : List AV) (n' : Nat) (H' : Heap), z = ((AExit.exit 1, T'), (⟨H', n' + 5, [], false, []⟩ : St)) /\ T'.length = 75 /\ nth T' 1 = some (.lst (l.map bkV)) /\ nth T' 4 = some (.ptr [0] 0) /\ nth T' 6 = some (.ptr [1] 0) /\ nth T' 7 = some (.ptr [2] 0) /\ nth T' 8 = some (.ptr [3] 0) /\ nth T' 9 = some (.ptr [4] 0) /\ nth T' 11 = some (.int .i64 (ticksW 0 l.dropLast)) /\ hget H' [0] = some (vacC v) /\ hget H' [1] = some (.cells [.int .i64 y] true 0) /\ hget H' [2] = some (.cells [.int .i64 limit] true 0) /\ hget H' [3] = some (.cells [.int .i64 0] true 0) /\ hget H' [4] = some (.cells [.int .i64 0] true 0)) ?_ ?_
     ·generalize l.dropLast = D at *
      refine Zj (fun k T s' => T.length = 75 /\ nth T 1 = some (.lst (l.map bkV)) /\ nth T 4 = some (.ptr [0] 0) /\ nth T 6 = some (.ptr [1] 0) /\ nth T 7 = some (.ptr [2] 0) /\ nth T 8 = some (.ptr [3] 0) /\ nth T 9 = some (.ptr [4] 0) /\ nth T 41 = some (.lst (D.map bkV)) /\ nth T 42 = some (.int .i64 D.length) /\ ∃ (i n' : Nat) (H' : Heap) (q : Int), nth T 43 = some (.int .i64 i) /\ nth T 11 = some (.int .i64 q) /\ i <= D.length /\ k = D.length - i /\ s' = ⟨H', n' + 5, [], false, []⟩ /\ hget H' [0] = some (vacC v) /\ hget H' [1] = some (.cells [.int .i64 y] true 0) /\ hget H' [2] = some (.cells [.int .i64 limit] true 0) /\ hget H' [3] = some (.cells [.int .i64 0] true 0) /\ hget H' [4] = some (.cells [.int .i64 0] true 0) /\ ticksW 0 D = ticksW q (D.drop i)) (k := D.length) (by omega) ?_ ?_
      ·exact ⟨by simp -implicitDefEqProofs only [go_sem, hT], by simp -implicitDefEqProofs only [go_sem, a1], by simp -implicitDefEqProofs only [go_sem, hT], by simp -implicitDefEqProofs only [go_sem, hT], by simp -implicitDefEqProofs only [go_sem, hT], by simp -implicitDefEqProofs only [go_sem, hT], by simp -implicitDefEqProofs only [go_sem, hT], by simp -implicitDefEqProofs only [go_sem, hT], by simp -implicitDefEqProofs only [go_sem, hT], 0, 0, _, 0, by simp -implicitDefEqProofs only [go_sem, hT] <;> rfl, by simp -implicitDefEqProofs only [go_sem, hT], by omega, rfl, rfl, rfl, rfl, rfl, rfl, rfl, rfl⟩
      clear a0 a1 a2 a3 hT T hr hfc hsl
      rintro k T s' ⟨hT, a1, a4, a6, a7, a8, a9, a41, a42, i, n', H, q, a43, a11, hi, rfl, rfl, g0, g1, g2, g3, g4, he⟩
      simp -implicitDefEqProofs only [go_sem, a42, a43, hT]
      by_cases hil : (i : Int) < (D.length : Int)
      ·have hi' : i < D.length := by omega
       have e1 := Zh (f := bkV) (l := D) (i := i) (z := 4) hi' rfl
       have hkk : D.length - (i + 1) < D.length - i := by omega
       rw [List.drop_eq_getElem_cons hi'] at he
       generalize D[i] = z at *
       simp only [ticksW] at he
       simp only [bkV] at e1
       have hw3 : wrapF .i64 ((i : Int) + 1) = ((i + 1 : Nat) : Int) := Z5 (by omega) (by omega)
       have k1 : ∀ X, hget (([n' + 5], X) :: H) [n' + 5] = some X := fun X => Z2 ..
       have kk : ∀ m X, m < 5 -> hget (([n' + 5], X) :: H) [m] = hget H [m] := fun m X h => hc11 (by omega)
       simp -implicitDefEqProofs only [go_sem, a1, a4, a6, a7, a8, a9, a11, a41, a42, a43, hT, hil, e1, k1, hw3]
       exact ⟨D.length - (i + 1), hkk, trivial, trivial, trivial, trivial, trivial, trivial, trivial, trivial, trivial, i + 1, n' + 1, _, _, rfl, rfl, hi', rfl, rfl, (kk 0 _ (by decide)).trans g0, (kk 1 _ (by decide)).trans g1, (kk 2 _ (by decide)).trans g2, (kk 3 _ (by decide)).trans g3, (kk 4 _ (by decide)).trans g4, he⟩
      ·have hie : i = D.length := by omega
       subst hie
       rw [List.drop_length] at he
       simp only [ticksW] at he
       simp -implicitDefEqProofs only [go_sem, hil]
       exact ⟨_, n', H, rfl, by simp -implicitDefEqProofs only [go_sem, hT], by simp -implicitDefEqProofs only [go_sem, a1], by simp -implicitDefEqProofs only [go_sem, a4], by simp -implicitDefEqProofs only [go_sem, a6], by simp -implicitDefEqProofs only [go_sem, a7], by simp -implicitDefEqProofs only [go_sem, a8], by simp -implicitDefEqProofs only [go_sem, a9], by simp -implicitDefEqProofs only [go_sem, a11, he], g0, g1, g2, g3, g4⟩
     clear a0 a1 a2 a3 hT T hr hfc hsl
     rintro _ ⟨T, n', H, rfl, hT, a1, a4, a6, a7, a8, a9, a11, g0, g1, g2, g3, g4⟩
     have h99 := fun H n => Z9p v l (K + 12) H n
     simp only [vacV] at h99
     obtain ⟨q0, hq0'⟩ : ∃ q0, q0 = wrapF .i64 (0 - ticksW 0 l.dropLast) := ⟨_, rfl⟩
     rw [show holdV v y limit l = (match allT (holdN v y limit) v q0 l with | .inl _ => (0, 15) | .inr (c, _) => (c, 0)) from by rw [hq0']; rfl]
     unfold vacC at g0
     have g0' := g0
     have f0 : ∀ X, hget (([n' + 5], X) :: H) [0] = hget H [0] := fun X => hc11 (by omega)
     simp -implicitDefEqProofs only [go_sem, a1, a4, a11, hT, f0, g0, <- hq0', h99]
     simp only [Z3]
     refine Z1a (nxt := holdN v y limit) (fun L c H => hget H [0] = some (vacC v) /\ hget H [1] = some (.cells [.int .i64 y] true 0) /\ hget H [2] = some (.cells [.int .i64 limit] true 0) /\ (hget H [3] = some (.cells [.int .i64 0] true 0) /\ hget H [4] = some (.cells [.int .i64 0] true 0)) /\ hget H [n' + 5] = some (.cells [.int .i64 c] true 0) /\ hget H [n' + 6] = some (vacC v) /\ hget H [n' + 7] = some (.cells [.lst (l.map bkV)] true 0) /\ hget H [n' + 8] = some L) (fun c g H => hget H [3] = some (.cells [.int .i64 c] true 0) /\ hget H [4] = some (.cells [.int .i64 0] true 0) /\ ∃ T' ps' a' b', hget H [n' + 8] = some (.loop T' ps' a' b' .done (some .ret))) q0 (by simp -implicitDefEqProofs only [go_sem, hT] <;> rfl) hva (by omega) hst hl20
      (P := fun T => T.length = 75 /\ nth T 4 = some (.ptr [0] 0) /\ nth T 6 = some (.ptr [1] 0) /\ nth T 7 = some (.ptr [2] 0) /\ nth T 8 = some (.ptr [3] 0) /\ nth T 9 = some (.ptr [4] 0) /\ nth T 14 = some (.ptr [n' + 5] 0)) (by exact ⟨by simp -implicitDefEqProofs only [go_sem, hT], by simp -implicitDefEqProofs only [go_sem, a4], by simp -implicitDefEqProofs only [go_sem, a6], by simp -implicitDefEqProofs only [go_sem, a7], by simp -implicitDefEqProofs only [go_sem, a8], by simp -implicitDefEqProofs only [go_sem, a9], by simp -implicitDefEqProofs only [go_sem, hT]⟩) ?_
     clear a1 a4 a6 a7 a8 a9 a11 hT T h99 hq0' f0
     rintro T ⟨hT, a4, a6, a7, a8, a9, a14⟩ L hL
     refine ⟨⟨?_, ?_, ?_, ?_⟩, ?_, ?_, ?_, ?_⟩
     ·intro c g H n hn hI hs hf
      obtain ⟨i0, i1, i2, ⟨i3, i4⟩, i5, i6, i7, i8⟩ := hI
      subst hL
      have hs' : SysAt .nils H [n' + 9, 4, 0] [n' + 9, 2, 0] [n' + 9, 2, 1] [n' + 9, 2, 2] v g := hs
      have hyf : y < g.free.length := by rw [hf.f]; exact hyl
      have hpr := fun H n p jr j hf hb hr => Z2u (v := v) (g := g) (f := [n' + 9, 2, 0]) (b := [n' + 9, 2, 1]) (r := [n' + 9, 2, 2]) (x := y) (K := K + 10) (H := H) (n := n) (p := p) (jr := jr) (j := j) hyl hyf hvo.1 hf hb hr (n33c (by decide)) (n33c (by decide)) (n33c (by decide))
      unfold holdN
      rw [Z8f hyl hyf]
      generalize pressR g.free[y] v.vessels[y].vol = P at *
      have g3 := hs'.x
      unfold sysB at g3
      unfold gasY bsOf xsOf at hpr
      have i0' := i0
      unfold vacC at i0
      have q0 : ∀ Y, hget (hset H [n' + 8] Y) [0] = hget H [0] := fun Y => hs11 (by omega)
      have q1 : ∀ Y, hget (hset H [n' + 8] Y) [1] = hget H [1] := fun Y => hs11 (by omega)
      have q2 : ∀ Y, hget (hset H [n' + 8] Y) [2] = hget H [2] := fun Y => hs11 (by omega)
      have q3 : ∀ Y, hget (hset H [n' + 8] Y) [3] = hget H [3] := fun Y => hs11 (by omega)
      have q4 : ∀ Y, hget (hset H [n' + 8] Y) [4] = hget H [4] := fun Y => hs11 (by omega)
      have q5 : ∀ Y, hget (hset H [n' + 8] Y) [n' + 5] = hget H [n' + 5] := fun Y => hs11 (by omega)
      have q6 : ∀ Y, hget (hset H [n' + 8] Y) [n' + 9, 4, 0] = hget H [n' + 9, 4, 0] := fun Y => hs13
      have qf : ∀ Y, hget (hset H [n' + 8] Y) [n' + 9, 2, 0] = some (rgB g.free) := fun Y => hs13.trans hs'.f
      have qb : ∀ Y, hget (hset H [n' + 8] Y) [n' + 9, 2, 1] = some (rgB g.bound) := fun Y => hs13.trans hs'.b
      have qr : ∀ Y, g.room ≠ [] -> hget (hset H [n' + 8] Y) [n' + 9, 2, 2] = some (rgB g.room) := fun Y e => hs13.trans (hs'.r e)
      have ip0 : isPre [n, 9] [n' + 9, 2, 0] = false := Go.Am.Yc _ _ (by omega)
      have ip1 : isPre [n, 9] [n' + 9, 2, 1] = false := Go.Am.Yc _ _ (by omega)
      have ip2 : isPre [n, 9] [n' + 9, 2, 2] = false := Go.Am.Yc _ _ (by omega)
      simp only [vacV] at hpr
      by_cases hcc : 0 <= c
      ·by_cases hpl : P.hi <= limit
       ·have hcond : 0 <= c /\ P.hi <= limit := ⟨hcc, hpl⟩
        suffices hd : (around cfg (K + 11 + 1) [n' + 8] [.ptr [n' + 9, 4, 0] 0] ⟨H, n, [], false, []⟩).Does fun x => ∃ H', x = (.bool false, (⟨H', n + 1, [], false, []⟩ : St)) /\ hget H' [3] = some (.cells [.int .i64 c] true 0) /\ hget H' [4] = some (.cells [.int .i64 0] true 0) /\ ∃ T' ps' a' b', hget H' [n' + 8] = some (.loop T' ps' a' b' .done (some .ret)) by
         obtain ⟨x, e, H', rfl, k1, k2, k3⟩ := hd
         right
         exact ⟨H', n + 1, by rw [if_pos hcond], e, Nat.le_succ _, k1, k2, k3⟩
        refine Je i8 rfl ?_
        simp -implicitDefEqProofs only [go_sem, hT]
        refine ⟨trivial, _, _, _, _, _, i8, ?_⟩
        cases hg : g.room with
        | nil =>
         rw [hg] at hpr g3
         simp only [List.length_nil, rowX, backJ, ne_eq, not_true_eq_false, false_implies, forall_const] at hpr g3
         have kd : ∀ Y, hget (hdel (hdel (hset H [n' + 8] Y) [n' + 9, 2, 1]) [n' + 9, 2, 0]) [2] = hget H [2] := fun Y => by simp (disch := omega) only [hs11, hd31]
         have kr : ∀ Y k, k ≠ n' + 8 -> hget (redoH (hset H [n' + 8] Y) [([n' + 9, 2, 1], some (rgB g.bound)), ([n' + 9, 2, 0], some (rgB g.free))]) [k] = hget H [k] := fun Y k hk => by rw [Z0]; simp (disch := omega) only [hs11, lkn, lk31, Option.getD_none]
         have k5 : ∀ Y, hget (redoH (hset H [n' + 8] Y) [([n' + 9, 2, 1], some (rgB g.bound)), ([n' + 9, 2, 0], some (rgB g.free))]) [n' + 5] = hget H [n' + 5] := fun Y => kr Y _ (by omega)
         have k3 : ∀ Y, hget (redoH (hset H [n' + 8] Y) [([n' + 9, 2, 1], some (rgB g.bound)), ([n' + 9, 2, 0], some (rgB g.free))]) [3] = hget H [3] := fun Y => kr Y _ (by omega)
         have k4 : ∀ X Y, hget (hset (redoH (hset H [n' + 8] Y) [([n' + 9, 2, 1], some (rgB g.bound)), ([n' + 9, 2, 0], some (rgB g.free))]) [3] X) [4] = hget H [4] := fun X Y => (hs11 (by decide)).trans (kr Y _ (by omega))
         have k8 : ∀ Y, hget (redoH (hset H [n' + 8] Y) [([n' + 9, 2, 1], some (rgB g.bound)), ([n' + 9, 2, 0], some (rgB g.free))]) [n' + 8] = some Y := fun Y => by rw [Z0]; simp (disch := omega) only [lkn, lk31, Option.getD_none]; exact hss i8
         simp -implicitDefEqProofs only [go_sem]
         try simp only [Z3]
         refine Zc [[], [0], [1, 0], [2, 1, 0], [2, 1, 0], [4, 2, 1, 0], [5, 4, 2, 1, 0], [6, 5, 4, 2, 1, 0], [2, 1, 0], [3, 7, 6, 5, 4, 8, 2, 1, 0], [9, 3, 7, 6, 5, 4, 8, 2, 1, 0], [2, 1, 0], [10, 9, 3, 7, 6, 5, 4, 8, 11, 2, 1, 0], [12, 10, 9, 3, 7, 6, 5, 4, 8, 11, 2, 1, 0]] [[], [], [], [], [], [], [], [], [], [[n' + 9, 2, 1], [n' + 9, 2, 0]], [], [], [], []] (by kernel_rfl) rfl rfl ?_
         simp -implicitDefEqProofs only [go_sem, hcur, AV.shut, shuts, a4, a6, a7, a14, hT, i0, i1, i2, i5, q0, q1, q2, q5, q6, qf, qb, kd, ip0, ip1, g3, hpr, hcc, hpl, Zb]
         simp -implicitDefEqProofs only [go_sem, a8, a9, hT, i3, i4, i5, k3, k4, k5]
         refine ⟨_, _, _, _, _, _, (hs11 (by omega)).trans ((hs11 (by omega)).trans (k8 _)), ?_⟩
         simp -implicitDefEqProofs only [go_sem, jumpOf]
         refine ⟨_, rfl, ?_, ?_, _, _, _, _, hss ((hs11 (by omega)).trans ((hs11 (by omega)).trans (k8 _)))⟩
         ·rw [Z1 _ _ (n11 (by omega)), Z1 _ _ (n11 (by decide))]; exact hss ((k3 _).trans i3)
         ·rw [Z1 _ _ (n11 (by omega))]; exact hss ((k4 _ _).trans i4)
        | cons a l' =>
         have qr' : ∀ Y, hget (hset H [n' + 8] Y) [n' + 9, 2, 2] = some (rgB (a :: l')) := fun Y => by rw [qr Y (by rw [hg]; simp), hg]
         rw [hg] at hpr g3
         simp only [List.length_cons, rowX, backJ, ne_eq, reduceCtorEq, not_false_eq_true, forall_const] at hpr g3
         have kd : ∀ Y, hget (hdel (hdel (hdel (hset H [n' + 8] Y) [n' + 9, 2, 2]) [n' + 9, 2, 1]) [n' + 9, 2, 0]) [2] = hget H [2] := fun Y => by simp (disch := omega) only [hs11, hd31]
         have kr : ∀ Y k, k ≠ n' + 8 -> hget (redoH (hset H [n' + 8] Y) [([n' + 9, 2, 2], some (rgB (a :: l'))), ([n' + 9, 2, 1], some (rgB g.bound)), ([n' + 9, 2, 0], some (rgB g.free))]) [k] = hget H [k] := fun Y k hk => by rw [Z0]; simp (disch := omega) only [hs11, lkn, lk31, Option.getD_none]
         have k5 : ∀ Y, hget (redoH (hset H [n' + 8] Y) [([n' + 9, 2, 2], some (rgB (a :: l'))), ([n' + 9, 2, 1], some (rgB g.bound)), ([n' + 9, 2, 0], some (rgB g.free))]) [n' + 5] = hget H [n' + 5] := fun Y => kr Y _ (by omega)
         have k3 : ∀ Y, hget (redoH (hset H [n' + 8] Y) [([n' + 9, 2, 2], some (rgB (a :: l'))), ([n' + 9, 2, 1], some (rgB g.bound)), ([n' + 9, 2, 0], some (rgB g.free))]) [3] = hget H [3] := fun Y => kr Y _ (by omega)
         have k4 : ∀ X Y, hget (hset (redoH (hset H [n' + 8] Y) [([n' + 9, 2, 2], some (rgB (a :: l'))), ([n' + 9, 2, 1], some (rgB g.bound)), ([n' + 9, 2, 0], some (rgB g.free))]) [3] X) [4] = hget H [4] := fun X Y => (hs11 (by decide)).trans (kr Y _ (by omega))
         have k8 : ∀ Y, hget (redoH (hset H [n' + 8] Y) [([n' + 9, 2, 2], some (rgB (a :: l'))), ([n' + 9, 2, 1], some (rgB g.bound)), ([n' + 9, 2, 0], some (rgB g.free))]) [n' + 8] = some Y := fun Y => by rw [Z0]; simp (disch := omega) only [lkn, lk31, Option.getD_none]; exact hss i8
         simp -implicitDefEqProofs only [go_sem]
         try simp only [Z3]
         refine Zc [[], [0], [1, 0], [2, 1, 0], [2, 1, 0], [4, 2, 1, 0], [5, 4, 2, 1, 0], [6, 5, 4, 2, 1, 0], [2, 1, 0], [3, 7, 6, 5, 4, 8, 2, 1, 0], [9, 3, 7, 6, 5, 4, 8, 2, 1, 0], [2, 1, 0], [10, 9, 3, 7, 6, 5, 4, 8, 11, 2, 1, 0], [12, 10, 9, 3, 7, 6, 5, 4, 8, 11, 2, 1, 0]] [[], [], [], [], [], [], [], [], [], [[n' + 9, 2, 2], [n' + 9, 2, 1], [n' + 9, 2, 0]], [], [], [], []] (by kernel_rfl) rfl rfl ?_
         simp -implicitDefEqProofs only [go_sem, hcur, AV.shut, shuts, a4, a6, a7, a14, hT, i0, i1, i2, i5, q0, q1, q2, q5, q6, qf, qb, qr', kd, ip0, ip1, ip2, g3, hpr, hcc, hpl, Zb]
         simp -implicitDefEqProofs only [go_sem, a8, a9, hT, i3, i4, i5, k3, k4, k5]
         refine ⟨_, _, _, _, _, _, (hs11 (by omega)).trans ((hs11 (by omega)).trans (k8 _)), ?_⟩
         simp -implicitDefEqProofs only [go_sem, jumpOf]
         refine ⟨_, rfl, ?_, ?_, _, _, _, _, hss ((hs11 (by omega)).trans ((hs11 (by omega)).trans (k8 _)))⟩
         ·rw [Z1 _ _ (n11 (by omega)), Z1 _ _ (n11 (by decide))]; exact hss ((k3 _).trans i3)
         ·rw [Z1 _ _ (n11 (by omega))]; exact hss ((k4 _ _).trans i4)
       ·have hcond : ¬ (0 <= c /\ P.hi <= limit) := fun h => hpl h.2
        suffices hd : (around cfg (K + 11 + 1) [n' + 8] [.ptr [n' + 9, 4, 0] 0] ⟨H, n, [], false, []⟩).Does fun x => ∃ H', x = (.bool true, (⟨H', n + 1, [], false, []⟩ : St)) /\ (∀ q : Nm, q ≠ [n' + 5] -> q ≠ [n' + 8] -> hget H' q = hget H q) /\ hget H' [n' + 5] = some (.cells [.int .i64 (wrapF .i64 (c + 1))] true 0) /\ hget H' [n' + 8] = hget H [n' + 8] by
         obtain ⟨x, e, H', rfl, k1, k2, k3⟩ := hd
         left
         exact ⟨_, H', n + 1, by rw [if_neg hcond], e, Nat.le_succ _, ⟨(k1 _ (n11 (by omega)) (n11 (by omega))).trans i0', (k1 _ (n11 (by omega)) (n11 (by omega))).trans i1, (k1 _ (n11 (by omega)) (n11 (by omega))).trans i2, ⟨(k1 _ (n11 (by omega)) (n11 (by omega))).trans i3, (k1 _ (n11 (by omega)) (n11 (by omega))).trans i4⟩, k2, (k1 _ (n11 (by omega)) (n11 (by omega))).trans i6, (k1 _ (n11 (by omega)) (n11 (by omega))).trans i7, k3.trans i8⟩,
          fun q h1 h2 => k1 _ (n11 (by omega)) (n11 (by omega)), ⟨(k1 _ n31 n31).trans hs.x, (k1 _ n31 n31).trans hs.f, (k1 _ n31 n31).trans hs.b, fun e => (k1 _ n31 n31).trans (hs.r e)⟩⟩
        refine Je i8 rfl ?_
        simp -implicitDefEqProofs only [go_sem, hT]
        refine ⟨trivial, _, _, _, _, _, i8, ?_⟩
        cases hg : g.room with
        | nil =>
         rw [hg] at hpr g3
         simp only [List.length_nil, rowX, backJ, ne_eq, not_true_eq_false, false_implies, forall_const] at hpr g3
         have kd : ∀ Y, hget (hdel (hdel (hset H [n' + 8] Y) [n' + 9, 2, 1]) [n' + 9, 2, 0]) [2] = hget H [2] := fun Y => by simp (disch := omega) only [hs11, hd31]
         have kr : ∀ Y k, k ≠ n' + 8 -> hget (redoH (hset H [n' + 8] Y) [([n' + 9, 2, 1], some (rgB g.bound)), ([n' + 9, 2, 0], some (rgB g.free))]) [k] = hget H [k] := fun Y k hk => by rw [Z0]; simp (disch := omega) only [hs11, lkn, lk31, Option.getD_none]
         have k5 : ∀ Y, hget (redoH (hset H [n' + 8] Y) [([n' + 9, 2, 1], some (rgB g.bound)), ([n' + 9, 2, 0], some (rgB g.free))]) [n' + 5] = hget H [n' + 5] := fun Y => kr Y _ (by omega)
         have k3 : ∀ Y, hget (redoH (hset H [n' + 8] Y) [([n' + 9, 2, 1], some (rgB g.bound)), ([n' + 9, 2, 0], some (rgB g.free))]) [3] = hget H [3] := fun Y => kr Y _ (by omega)
         have k4 : ∀ X Y, hget (hset (redoH (hset H [n' + 8] Y) [([n' + 9, 2, 1], some (rgB g.bound)), ([n' + 9, 2, 0], some (rgB g.free))]) [3] X) [4] = hget H [4] := fun X Y => (hs11 (by decide)).trans (kr Y _ (by omega))
         have k8 : ∀ Y, hget (redoH (hset H [n' + 8] Y) [([n' + 9, 2, 1], some (rgB g.bound)), ([n' + 9, 2, 0], some (rgB g.free))]) [n' + 8] = some Y := fun Y => by rw [Z0]; simp (disch := omega) only [lkn, lk31, Option.getD_none]; exact hss i8
         simp -implicitDefEqProofs only [go_sem]
         try simp only [Z3]
         refine Zc [[], [0], [1, 0], [2, 1, 0], [2, 1, 0], [4, 2, 1, 0], [5, 4, 2, 1, 0], [6, 5, 4, 2, 1, 0], [2, 1, 0], [3, 7, 6, 5, 4, 8, 2, 1, 0], [9, 3, 7, 6, 5, 4, 8, 2, 1, 0], [2, 1, 0], [10, 9, 3, 7, 6, 5, 4, 8, 11, 2, 1, 0], [12, 10, 9, 3, 7, 6, 5, 4, 8, 11, 2, 1, 0]] [[], [], [], [], [], [], [], [], [], [[n' + 9, 2, 1], [n' + 9, 2, 0]], [], [], [], []] (by kernel_rfl) rfl rfl ?_
         simp -implicitDefEqProofs only [go_sem, hcur, AV.shut, shuts, a4, a6, a7, a14, hT, i0, i1, i2, i5, q0, q1, q2, q5, q6, qf, qb, kd, ip0, ip1, g3, hpr, hcc, hpl, Zb]
         simp -implicitDefEqProofs only [go_sem, a14, hT, i5, k5]
         refine ⟨_, _, _, _, _, _, (hs11 (by omega)).trans (k8 _), ?_⟩
         simp -implicitDefEqProofs only [go_sem, jumpOf]
         refine ⟨_, rfl, fun q h1 h2 => ?_, ?_, ?_⟩
         ·rw [Z1 _ _ (Ne.symm h2), Z1 _ _ (Ne.symm h1), Z0]
          by_cases e1 : q = [n' + 9, 2, 1]
          ·subst e1; rw [Zd, Option.getD_some, hs'.b]
          rw [Ju (Ne.symm e1)]
          by_cases e0 : q = [n' + 9, 2, 0]
          ·subst e0; rw [Zd, Option.getD_some, hs'.f]
          rw [Ju (Ne.symm e0), lkn, Option.getD_none]
          exact Z1 _ _ (Ne.symm h2)
         ·rw [Z1 _ _ (n11 (by omega))]; exact hss ((k5 _).trans i5)
         ·rw [i8]; exact hss ((hs11 (by omega)).trans (k8 _))
        | cons a l' =>
         have qr' : ∀ Y, hget (hset H [n' + 8] Y) [n' + 9, 2, 2] = some (rgB (a :: l')) := fun Y => by rw [qr Y (by rw [hg]; simp), hg]
         rw [hg] at hpr g3
         simp only [List.length_cons, rowX, backJ, ne_eq, reduceCtorEq, not_false_eq_true, forall_const] at hpr g3
         have kd : ∀ Y, hget (hdel (hdel (hdel (hset H [n' + 8] Y) [n' + 9, 2, 2]) [n' + 9, 2, 1]) [n' + 9, 2, 0]) [2] = hget H [2] := fun Y => by simp (disch := omega) only [hs11, hd31]
         have kr : ∀ Y k, k ≠ n' + 8 -> hget (redoH (hset H [n' + 8] Y) [([n' + 9, 2, 2], some (rgB (a :: l'))), ([n' + 9, 2, 1], some (rgB g.bound)), ([n' + 9, 2, 0], some (rgB g.free))]) [k] = hget H [k] := fun Y k hk => by rw [Z0]; simp (disch := omega) only [hs11, lkn, lk31, Option.getD_none]
         have k5 : ∀ Y, hget (redoH (hset H [n' + 8] Y) [([n' + 9, 2, 2], some (rgB (a :: l'))), ([n' + 9, 2, 1], some (rgB g.bound)), ([n' + 9, 2, 0], some (rgB g.free))]) [n' + 5] = hget H [n' + 5] := fun Y => kr Y _ (by omega)
         have k3 : ∀ Y, hget (redoH (hset H [n' + 8] Y) [([n' + 9, 2, 2], some (rgB (a :: l'))), ([n' + 9, 2, 1], some (rgB g.bound)), ([n' + 9, 2, 0], some (rgB g.free))]) [3] = hget H [3] := fun Y => kr Y _ (by omega)
         have k4 : ∀ X Y, hget (hset (redoH (hset H [n' + 8] Y) [([n' + 9, 2, 2], some (rgB (a :: l'))), ([n' + 9, 2, 1], some (rgB g.bound)), ([n' + 9, 2, 0], some (rgB g.free))]) [3] X) [4] = hget H [4] := fun X Y => (hs11 (by decide)).trans (kr Y _ (by omega))
         have k8 : ∀ Y, hget (redoH (hset H [n' + 8] Y) [([n' + 9, 2, 2], some (rgB (a :: l'))), ([n' + 9, 2, 1], some (rgB g.bound)), ([n' + 9, 2, 0], some (rgB g.free))]) [n' + 8] = some Y := fun Y => by rw [Z0]; simp (disch := omega) only [lkn, lk31, Option.getD_none]; exact hss i8
         simp -implicitDefEqProofs only [go_sem]
         try simp only [Z3]
         refine Zc [[], [0], [1, 0], [2, 1, 0], [2, 1, 0], [4, 2, 1, 0], [5, 4, 2, 1, 0], [6, 5, 4, 2, 1, 0], [2, 1, 0], [3, 7, 6, 5, 4, 8, 2, 1, 0], [9, 3, 7, 6, 5, 4, 8, 2, 1, 0], [2, 1, 0], [10, 9, 3, 7, 6, 5, 4, 8, 11, 2, 1, 0], [12, 10, 9, 3, 7, 6, 5, 4, 8, 11, 2, 1, 0]] [[], [], [], [], [], [], [], [], [], [[n' + 9, 2, 2], [n' + 9, 2, 1], [n' + 9, 2, 0]], [], [], [], []] (by kernel_rfl) rfl rfl ?_
         simp -implicitDefEqProofs only [go_sem, hcur, AV.shut, shuts, a4, a6, a7, a14, hT, i0, i1, i2, i5, q0, q1, q2, q5, q6, qf, qb, qr', kd, ip0, ip1, ip2, g3, hpr, hcc, hpl, Zb]
         simp -implicitDefEqProofs only [go_sem, a14, hT, i5, k5]
         refine ⟨_, _, _, _, _, _, (hs11 (by omega)).trans (k8 _), ?_⟩
         simp -implicitDefEqProofs only [go_sem, jumpOf]
         refine ⟨_, rfl, fun q h1 h2 => ?_, ?_, ?_⟩
         ·rw [Z1 _ _ (Ne.symm h2), Z1 _ _ (Ne.symm h1), Z0]
          by_cases e2 : q = [n' + 9, 2, 2]
          ·subst e2; rw [Zd, Option.getD_some, hs'.r (by rw [hg]; simp), hg]
          rw [Ju (Ne.symm e2)]
          by_cases e1 : q = [n' + 9, 2, 1]
          ·subst e1; rw [Zd, Option.getD_some, hs'.b]
          rw [Ju (Ne.symm e1)]
          by_cases e0 : q = [n' + 9, 2, 0]
          ·subst e0; rw [Zd, Option.getD_some, hs'.f]
          rw [Ju (Ne.symm e0), lkn, Option.getD_none]
          exact Z1 _ _ (Ne.symm h2)
         ·rw [Z1 _ _ (n11 (by omega))]; exact hss ((k5 _).trans i5)
         ·rw [i8]; exact hss ((hs11 (by omega)).trans (k8 _))
      ·have hcond : ¬ (0 <= c /\ P.hi <= limit) := fun h => hcc h.1
       suffices hd : (around cfg (K + 11 + 1) [n' + 8] [.ptr [n' + 9, 4, 0] 0] ⟨H, n, [], false, []⟩).Does fun x => ∃ H', x = (.bool true, (⟨H', n + 1, [], false, []⟩ : St)) /\ (∀ q : Nm, q ≠ [n' + 5] -> q ≠ [n' + 8] -> hget H' q = hget H q) /\ hget H' [n' + 5] = some (.cells [.int .i64 (wrapF .i64 (c + 1))] true 0) /\ hget H' [n' + 8] = hget H [n' + 8] by
        obtain ⟨x, e, H', rfl, k1, k2, k3⟩ := hd
        left
        exact ⟨_, H', n + 1, by rw [if_neg hcond], e, Nat.le_succ _, ⟨(k1 _ (n11 (by omega)) (n11 (by omega))).trans i0', (k1 _ (n11 (by omega)) (n11 (by omega))).trans i1, (k1 _ (n11 (by omega)) (n11 (by omega))).trans i2, ⟨(k1 _ (n11 (by omega)) (n11 (by omega))).trans i3, (k1 _ (n11 (by omega)) (n11 (by omega))).trans i4⟩, k2, (k1 _ (n11 (by omega)) (n11 (by omega))).trans i6, (k1 _ (n11 (by omega)) (n11 (by omega))).trans i7, k3.trans i8⟩,
         fun q h1 h2 => k1 _ (n11 (by omega)) (n11 (by omega)), ⟨(k1 _ n31 n31).trans hs.x, (k1 _ n31 n31).trans hs.f, (k1 _ n31 n31).trans hs.b, fun e => (k1 _ n31 n31).trans (hs.r e)⟩⟩
       refine Je i8 rfl ?_
       simp -implicitDefEqProofs only [go_sem, hT]
       refine ⟨trivial, _, _, _, _, _, i8, ?_⟩
       have kL : ∀ X Y, hget (hset (redoH (hset H [n' + 8] Y) []) [n' + 5] X) [n' + 8] = some Y := fun X Y => (hs11 (by omega)).trans (by rw [Z0, lkn, Option.getD_none]; exact hss i8)
       have k5 : ∀ Y, hget (redoH (hset H [n' + 8] Y) []) [n' + 5] = hget H [n' + 5] := fun Y => by rw [Z0, lkn, Option.getD_none]; exact q5 Y
       simp -implicitDefEqProofs only [go_sem]
       try simp only [Z3]
       refine Zc [[], [0], [1, 0], [2, 1, 0], [2, 1, 0], [4, 2, 1, 0], [5, 4, 2, 1, 0], [6, 5, 4, 2, 1, 0], [2, 1, 0], [3, 7, 6, 5, 4, 8, 2, 1, 0], [9, 3, 7, 6, 5, 4, 8, 2, 1, 0], [2, 1, 0], [10, 9, 3, 7, 6, 5, 4, 8, 11, 2, 1, 0], [12, 10, 9, 3, 7, 6, 5, 4, 8, 11, 2, 1, 0]] [[], [], [], [], [], [], [], [], [], [], [], [], [], []] (by kernel_rfl) rfl rfl ?_
       simp -implicitDefEqProofs only [go_sem, a14, hT, i5, q5, hcc, Zb]
       simp -implicitDefEqProofs only [go_sem, a14, hT, i5, k5]
       refine ⟨_, _, _, _, _, _, kL _ _, ?_⟩
       simp -implicitDefEqProofs only [go_sem, jumpOf]
       refine ⟨_, rfl, fun q h1 h2 => ?_, ?_, ?_⟩
       ·rw [Z1 _ _ (Ne.symm h2), Z1 _ _ (Ne.symm h1), Z0, lkn, Option.getD_none, Z1 _ _ (Ne.symm h2)]
       ·rw [Z1 _ _ (n11 (by omega))]; exact hss ((k5 _).trans i5)
       ·rw [i8]; exact hss (kL _ _)
     ·rintro c H H' ⟨i0, i1, i2, ⟨i3, i4⟩, i5, i6, i7, i8⟩ hk
      exact ⟨(hk 0 (by omega)).trans i0, (hk 1 (by omega)).trans i1, (hk 2 (by omega)).trans i2, ⟨(hk 3 (by omega)).trans i3, (hk 4 (by omega)).trans i4⟩, (hk _ (by omega)).trans i5, (hk _ (by omega)).trans i6, (hk _ (by omega)).trans i7, (hk _ (by omega)).trans i8⟩
     ·exact fun c H h => h.2.2.2.2.2.1
     ·exact fun c H h => h.2.2.2.2.2.2.1
     ·refine ⟨?_, ?_, ?_, ⟨?_, ?_⟩, ?_, ?_, ?_, Z2 ..⟩
      ·simp (disch := omega) only [hc11]; exact g0'
      ·simp (disch := omega) only [hc11]; exact g1
      ·simp (disch := omega) only [hc11]; exact g2
      ·simp (disch := omega) only [hc11]; exact g3
      ·simp (disch := omega) only [hc11]; exact g4
      ·simp (disch := omega) only [Z2, hc11]
      ·simp (disch := omega) only [Z2, hc11]
      ·simp (disch := omega) only [Z2, hc11]
     ·exact fun c H h => h.2.2.2.2.2.2.2
     ·intro c g H n hall hI hs hn
      obtain ⟨i0, i1, i2, ⟨i3, i4⟩, i5, i6, i7, i8⟩ := hI
      have k3 : ∀ Y, hget (hset H [n' + 8] Y) [3] = hget H [3] := fun Y => hs11 (by omega)
      have k4 : ∀ X Y, hget (hset (hset H [n' + 8] Y) [3] X) [4] = hget H [4] := fun X Y => (hs11 (by decide)).trans (hs11 (by omega))
      have k5 : ∀ X Y Z, hget (hset (hset (hset H [n' + 8] Y) [3] X) [4] Z) [3] = some X := fun X Y Z => (hs11 (by decide)).trans (hss ((hs11 (by omega)).trans i3))
      have k6 : ∀ X Y Z, hget (hset (hset (hset H [n' + 8] Y) [3] X) [4] Z) [4] = some Z := fun X Y Z => hss ((hs11 (by decide)).trans ((hs11 (by omega)).trans i4))
      rw [hall]
      simp -implicitDefEqProofs only [go_sem, a8, a9, i3, i4, k3, k4, k5, k6, Try.results67]
      rfl
     ·intro c g H n hall hS hn
      obtain ⟨s3, s4, T', ps', a', b', s8⟩ := hS
      have k3 : ∀ Y, hget (hset H [n' + 8] Y) [3] = hget H [3] := fun Y => hs11 (by omega)
      have k4 : ∀ Y, hget (hset H [n' + 8] Y) [4] = hget H [4] := fun Y => hs11 (by omega)
      rw [hall]
      refine ⟨T', ps', a', b', .done, some .ret, .ret, s8, by decide, rfl, ?_⟩
      simp -implicitDefEqProofs only [go_sem, a8, a9, s3, s4, k3, k4, Try.results67]
      rfl
  ·rw [if_neg c1]
   simp -implicitDefEqProofs only [go_sem, a0, a1, a2, a3, hT, hr, c0, hw1, hfc, c1, Try.results67]
   rfl
 ·rw [if_neg c0]
  simp -implicitDefEqProofs only [go_sem, a0, a1, a2, a3, hT, hr, c0, Try.results67]
  rfl
end Go.Proofs.Ytgnpnfkncbnjnaa
namespace Go.Proofs.Ytgnpnfkncbnjnaa
open Go Go.Am
attribute [local congr] Za Z6 Z7
attribute [local go_sem] Go.Am.frozen Go.Am.freezeG Go.Am.freezeGs
end Go.Proofs.Ytgnpnfkncbnjnaa
namespace Go.Proofs.Ytgnpnfkncbnjnaa
open Go Go.Am
attribute [local congr] Za Z6 Z7
end Go.Proofs.Ytgnpnfkncbnjnaa
namespace Go.Proofs.Ytgnpnfkncbnjnaa
open Go Go.Am
theorem Yu {v : Vac} {s : Bk} (h : stageE v s = 0) : 0 <= s.ticks /\ s.ticks <= 2000 := by
 unfold stageE at h
 split at h
 ·rename_i h1; exact Zz.1 h1.1
 ·exact absurd h (by decide)
theorem Zgf {v : Vac} {l : List Bk} (h : ∀ s ∈ l, stageE v s = 0) : 0 <= sumI Bk.ticks l /\ sumI Bk.ticks l <= 2000 * l.length :=
 ⟨Xc fun s hs => (Yu (h s hs)).1, Xy fun s hs => (Yu (h s hs)).2⟩
theorem Z4k {v : Vac} : ∀ {l : List Bk} {q : Int}, 0 <= q -> q + 2000 * l.length <= 1000000 -> (runsS v q l = 0 ↔ (∀ s ∈ l, stageE v s = 0) /\ q + sumI Bk.ticks l <= 2000)
 | [], q, _, _ => by
  unfold runsS
  rw [Z6s]
  by_cases h : 2000 < q
  ·rw [if_pos h]; constructor
   ·intro g; exact absurd g (by decide)
   ·rintro ⟨_, g⟩; omega
  ·rw [if_neg h]; exact ⟨fun _ => ⟨fun s hs => (nomatch hs), by omega⟩, fun _ => rfl⟩
 | a :: r, q, h0, h1 => by
  unfold runsS
  rw [List.length_cons, Int.natCast_add] at h1
  simp only [Int.natCast_one] at h1
  by_cases h : stageE v a = 0
  ·have ht := Yu h
   rw [if_pos h, Z5 (by omega) (by omega), Z4k (by omega) (by omega), Zt]
   constructor
   ·rintro ⟨g1, g2⟩
    refine ⟨fun s hs => ?_, by omega⟩
    rcases List.mem_cons.1 hs with rfl | hs
    ·exact h
    ·exact g1 s hs
   ·rintro ⟨g1, g2⟩
    exact ⟨fun s hs => g1 s (List.mem_cons_of_mem _ hs), by omega⟩
  ·rw [if_neg h]
   constructor
   ·intro g; exact absurd g h
   ·rintro ⟨g, _⟩; exact absurd (g a List.mem_cons_self) h
theorem Zgg {v : Vac} {l : List Bk} : runsE v l = 0 ↔ checkE v = 0 /\ l.length <= 20 /\ (∀ s ∈ l, stageE v s = 0) /\ sumI Bk.ticks l <= 2000 := by
 constructor
 ·intro h
  obtain ⟨h1, h2, h3⟩ := Z1x h
  obtain ⟨h4, h5⟩ := (Z4k (by decide) (by omega)).1 h3
  exact ⟨h1, h2, h4, by omega⟩
 ·rintro ⟨h1, h2, h3, h4⟩
  unfold runsE
  rw [if_pos h1, if_neg (by omega)]
  exact (Z4k (by decide) (by omega)).2 ⟨h3, by omega⟩
theorem Z8g {v : Vac} : ∀ {l : List Bk} {q : Int}, (∀ s ∈ l, stageE v s = 0) -> 0 <= q -> q + 2000 * l.length <= 1000000 -> ticksW q l = q + sumI Bk.ticks l
 | [], q, _, _, _ => by unfold ticksW; rw [Z6s]; omega
 | a :: r, q, h, h0, h1 => by
  have ht := Yu (h a List.mem_cons_self)
  rw [List.length_cons, Int.natCast_add] at h1
  simp only [Int.natCast_one] at h1
  unfold ticksW
  rw [Z5 (by omega) (by omega), Z8g (fun s hs => h s (List.mem_cons_of_mem _ hs)) (by omega) (by omega), Zt]
  omega
theorem Z4l {v : Vac} : ∀ {l : List Bk}, (∀ s ∈ l, stageE v s = 0) -> ((flatT l).length : Int) = sumI Bk.ticks l
 | [], _ => rfl
 | a :: r, h => by
  have ht := Yu (h a List.mem_cons_self)
  rw [Jd, List.length_append, List.length_replicate, Zt, Int.natCast_add, Z4l fun s hs => h s (List.mem_cons_of_mem _ hs)]
  omega
theorem Z0b (l r : List Bk) : flatT (l ++ r) = flatT l ++ flatT r := by unfold flatT; rw [List.flatMap_append]
def chk {σ : Type} (nxt : σ -> Gs -> Option σ) (v : Vac) (c : σ) (g : Gs) (l : List Bk) : (σ × Gs) ⊕ (σ × Gs) := match nxt c g with
 | some c' => runT nxt v c' g l
 | none => .inr (c, g)
theorem Zaz {σ : Type} {nxt : σ -> Gs -> Option σ} {v : Vac} {c : σ} {g : Gs} {s : Bk} {r : List Bk} : chk nxt v c g (s :: r) = match nxt c g with
  | some c' => chk nxt v c' (tickT v g s) r
  | none => .inr (c, g) := by
 unfold chk
 cases nxt c g with
 | none => rfl
 | some c' =>
  simp only
  show (match nxt c' (tickT v g s) with | some c'' => runT nxt v c'' (tickT v g s) r | none => .inr (c', tickT v g s)) = _
  rfl
theorem Zgh {σ : Type} {nxt : σ -> Gs -> Option σ} {v : Vac} {c : σ} {l : List Bk} : allT nxt v c l = chk nxt v c (beginG v) (flatT l) := rfl
theorem Z5r {v : Vac} {x : Nat} {limit : Int} (M : List Bk) : ∀ (L : List Bk) (g : Gs) (c : Int), c = -(L.length : Int) -> L.length <= 1000000 -> chk (holdN v x limit) v c g (L ++ M) = chk (holdN v x limit) v 0 (L.foldl (tickT v) g) M
 | [], g, c, hc, _ => by
  have : c = 0 := by simpa using hc
  subst this; rfl
 | s :: r, g, c, hc, hl => by
  rw [List.length_cons] at hc hl
  rw [List.cons_append, Zaz]
  have hn : holdN v x limit c g = some (c + 1) := by
   unfold holdN
   rw [if_neg (by omega), Z5 (by omega) (by omega)]
  rw [hn]
  simp only
  rw [Z5r M r (tickT v g s) (c + 1) (by omega) (by omega), List.foldl_cons]
theorem Z8h {f : Rg} {vol : Int} (hf : RgG 68719476736 f) (h1 : 1 <= vol) (h2 : vol <= 1000000) : pressR f vol = ⟨1000 * f.lo / vol, (1000 * f.hi + vol - 1) / vol⟩ /\ 0 <= 1000 * f.lo / vol /\ 1000 * f.lo / vol <= (1000 * f.hi + vol - 1) / vol /\ (1000 * f.hi + vol - 1) / vol <= 68719477736000 := by
 obtain ⟨f1, f2, f3⟩ := hf
 have b1 : 0 <= 1000 * f.lo / vol := Int.ediv_nonneg (by omega) (by omega)
 have b2 : 1000 * f.lo / vol <= (1000 * f.hi + vol - 1) / vol := Int.ediv_le_ediv (by omega) (by omega)
 have b3 : (1000 * f.hi + vol - 1) / vol <= 1000 * f.hi + vol - 1 := Int.ediv_le_self _ (by omega)
 unfold pressR
 rw [Z5 (x := 1000 * f.lo) (by omega) (by omega), Z5 (x := 1000 * f.hi) (by omega) (by omega), Z5 (x := 1000 * f.hi + vol) (by omega) (by omega), Z5 (x := 1000 * f.hi + vol - 1) (by omega) (by omega)]
 rw [Int.tdiv_eq_ediv_of_nonneg (by omega), Int.tdiv_eq_ediv_of_nonneg (by omega)]
 rw [Z5 (x := 1000 * f.lo / vol) (by omega) (by omega), Z5 (x := (1000 * f.hi + vol - 1) / vol) (by omega) (by omega)]
 exact ⟨rfl, b1, b2, by omega⟩
theorem Zb0 : ∀ {l : List Ves} {m : Int}, (∀ x ∈ l, VesB x) -> 0 <= m -> m + 2000000000 * l.length <= 68719476736 -> m <= mostF m l /\ mostF m l <= m + 2000000000 * l.length /\ mostF m l = m + sumI (fun x => x.free.hi + x.bound.hi) l
 | [], m, _, _, _ => ⟨Int.le_refl _, by simp [mostF], by rw [Z6s]; show m = m + 0; omega⟩
 | x :: r, m, h, h0, h1 => by
  have hx := h x List.mem_cons_self
  obtain ⟨a1, a2, a3⟩ := hx.free
  obtain ⟨b1, b2, b3⟩ := hx.bound
  rw [List.length_cons, Int.natCast_add] at h1 ⊢
  simp only [Int.natCast_one] at h1 ⊢
  unfold mostF
  rw [Z5 (x := m + (x.free.hi + x.bound.hi)) (by omega) (by omega)]
  obtain ⟨g1, g2, g3⟩ := Zb0 (l := r) (m := m + (x.free.hi + x.bound.hi)) (fun y hy => h y (List.mem_cons_of_mem _ hy)) (by omega) (by omega)
  rw [Zt]
  omega
theorem Z20 {v : Vac} (h : VB v) : GB v (beginG v) := by
 have h8 := h.n8
 obtain ⟨m1, m2, _⟩ := Zb0 (l := v.vessels) (m := 0) h.ves (by decide) (by omega)
 refine ⟨⟨by simp [beginG], by simp [beginG], by simp [beginG]⟩, fun r hr => ?_, fun r hr => ?_, fun r hr => ?_, m1, by show mostF 0 v.vessels <= _; omega⟩
 ·obtain ⟨x, hx, rfl⟩ := List.mem_map.1 hr
  exact (h.ves x hx).free.mono (by decide)
 ·obtain ⟨x, hx, rfl⟩ := List.mem_map.1 hr
  exact (h.ves x hx).bound.mono (by decide)
 ·obtain ⟨x, hx, rfl⟩ := List.mem_map.1 hr
  exact (h.gtr x hx).2.mono (by decide)
theorem Z6t {v : Vac} (h : VB v) : ∀ {l : List Bk} {g : Gs}, GB v g -> GB v (l.foldl (tickT v) g)
 | [], g, hg => hg
 | s :: r, g, hg => Z6t (l := r) (g := tickT v g s) h (Zea h hg s).1
theorem Zgz {v : Vac} (h : VB v) {g : Gs} (hg : GB v g) {x : Nat} (hx : x < v.vessels.length) : 0 <= prN v x g := by
 have hx2 : x < g.free.length := by rw [hg.fits.f]; exact hx
 rw [Z8f hx hx2]
 have hv := (h.ves _ (List.getElem_mem hx)).vol
 obtain ⟨e, b1, b2, b3⟩ := Z8h (hg.f _ (List.getElem_mem hx2)) hv.1 hv.2
 rw [e]; show 0 <= (1000 * g.free[x].hi + _ - 1) / _; omega
theorem Z5s {v : Vac} (h : VB v) {x : Nat} (hx : x < v.vessels.length) (l : List Bk) : peakV v x l = outT (runT (peakN v x) v (prN v x (beginG v)) (beginG v) (flatT l)) := by
 have := Zgz h (Z20 h) hx
 have e : peakN v x 0 (beginG v) = some (prN v x (beginG v)) := by
  unfold peakN max2
  split
  ·rfl
  ·congr 1; omega
 unfold peakV allT
 rw [e]
theorem Zed {v : Vac} {x : Nat} {limit : Int} {l D : List Bk} {z : Bk} (hl : l = D ++ [z]) (h : ∀ s ∈ l, stageE v s = 0) (hn : l.length <= 20) : holdV v x limit l = match chk (holdN v x limit) v 0 (runG v D) (List.replicate z.ticks.toNat z) with
  | .inl _ => (0, 15)
  | .inr (c, _) => (c, 0) := by
 have hD : ∀ s ∈ D, stageE v s = 0 := fun s hs => h s (by rw [hl]; exact List.mem_append_left _ hs)
 have hDl : D.length <= 20 := by rw [hl] at hn; simp at hn; omega
 have hd : l.dropLast = D := by rw [hl]; simp
 have ht := Zgf hD
 unfold holdV
 rw [hd, Z8g hD (by decide) (by omega), Z5 (by omega) (by omega), Zgh]
 have hf : flatT l = flatT D ++ List.replicate z.ticks.toNat z := by
  rw [hl, Z0b]; congr 1; rw [Jd]; simp [flatT]
 rw [hf, Z5r _ (flatT D) (beginG v) _ (by rw [Z4l hD]; omega) (by have := Z4l hD; omega)]
 rfl
end Go.Proofs.Ytgnpnfkncbnjnaa
namespace Go.Proofs.Ytgnpnfkncbnjnaa
open Go Go.Am
attribute [local congr] Za Z6 Z7
attribute [local go_sem] Go.Am.frozen Go.Am.freezeG Go.Am.freezeGs
end Go.Proofs.Ytgnpnfkncbnjnaa
namespace Go.Proofs.Ytgnpnfkncbnjnaa
open Go Go.Am
attribute [local congr] Za Z6 Z7
attribute [local go_sem] Go.Am.frozen Go.Am.freezeG Go.Am.freezeGs
end Go.Proofs.Ytgnpnfkncbnjnaa
