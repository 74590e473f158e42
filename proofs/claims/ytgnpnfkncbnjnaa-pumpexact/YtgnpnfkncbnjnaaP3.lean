/- The statement PumpExact holds for every input, without further conditions: a part of its proof (an abstract machine for the loaded code, its soundness, and what the functions answer in it). -/
import Derived.Test.YtgnpnfkncbnjnaaP2
set_option linter.unusedSimpArgs false
set_option linter.unusedVariables false
set_option maxRecDepth 100000
namespace Go.Proofs.Ytgnpnfkncbnjnaa
attribute [local go_sem_proc] Int.reduceEq Int.reduceNeg Nat.reduceEqDiff Nat.reduceLT Nat.reduceAdd Nat.reduceSub Nat.reduceMul Int.reduceLE Int.reduceLT Int.reduceToNat Nat.reduceLeDiff
attribute [local go_sem] Int.toNat_natCast Bool.not_true Bool.not_false
open Go Go.Am
attribute [local congr] Z7 Z5 Z6
attribute [local go_sem] Go.Am.buildSliceA Go.Am.frozen Go.Am.freezeG Go.Am.freezeGs Go.Am.minmax
theorem Zca (l : List Ves) (bl bf : Nm) (nblbf : bl ≠ bf) (K : Nat) (H : Heap) (n : Nat) (p : Nm) (jr : Bool) (j : Delta) (hbl : hget H bl = some (.cells [.lst (l.map vesV)] true 0)) (hbf : hget H bf = some (.cells [.func 113 []] true 0)) (hK : 20 < K) (hl : l.length < K) (hl2 : l.length <= 9223372036854775807) (hb : ∀ v ∈ l, v.bands.length <= 9223372036854775807) :
  acall cfg (K + 4) 153 [.ptr bl 0, .ptr bf 0] ⟨H, n, p, jr, j⟩ = .ret (.int .i64 (firstE vesE l), ⟨H, n, p, jr, backJ jr [bl, bf] [.cells [.lst (l.map vesV)] true 0, .cells [.func 113 []] true 0] j⟩) := by
 have eblbf := Za nblbf
 have ebfbl := Za (Ne.symm nblbf)
 refine Ys (bs := [bl, bf]) (xs := [.cells [.lst (l.map vesV)] true 0, .cells [.func 113 []] true 0]) (args' := [.ptr [0] 0, .ptr [1] 0]) (xs' := [.cells [.lst (l.map vesV)] true 0, .cells [.func 113 []] true 0]) Zf6 Zf5 (by show lendM (199 + 1) [bl, bf] [] [] _ = _; rw [Yd 199 rfl hbl]; show lendM (198 + 1) [bf] [bl] [_] _ = _; rw [Yd 198 (by simp only [memNm, ebfbl]) hbf]; exact Y1 197 _ _ _) (by simp only [getAll, hbl, hbf]) (by simp only [nodupN, memNm, eblbf]) rfl (by show renVs [(bl, [0]), (bf, [1])] _ = _; simp only [renVs, renV, lookN, Ze, ebfbl])
  (by show renBs [(bl, [0]), (bf, [1])] _ = _; simp only [renBs, renB, renVs, renV, Z0r]) rfl (fun _ => rfl) (fun c h => by cases h) (show (0 : Nat) < 200 by decide) rfl (by show renBs [([0], bl), ([1], bf)] _ = _; simp only [renBs, renB, renVs, renV, Z0r]) ?_
 refine Z9 rfl fun T hT' hA => ?_
 have a0 := hA 0 _ rfl
 have a1 := hA 1 _ rfl
 have hT : T.length = 19 := hT'
 clear hA hT'
 have hz : zipB (namesFrom [] 0 [bl, bf].length) [Blk.cells [.lst (l.map vesV)] true 0, Blk.cells [.func 113 []] true 0] = [([0], .cells [.lst (l.map vesV)] true 0), ([1], .cells [.func 113 []] true 0)] := rfl
 have hl3 : [bl, bf].length = 2 := rfl
 rw [hz, hl3]
 simp -implicitDefEqProofs only [go_sem, a0, hT]
 simp only [Z4]
 refine Zm (fun k T s' => T.length = 19 /\ nth T 1 = some (.ptr [1] 0) /\ nth T 6 = some (.lst (l.map vesV)) /\ nth T 7 = some (.int .i64 l.length) /\ ∃ (i n : Nat) (H : Heap), nth T 8 = some (.int .i64 i) /\ i <= l.length /\ k = l.length - i /\ s' = ⟨H, n + 2, [], false, []⟩ /\ hget H [0] = some (.cells [.lst (l.map vesV)] true 0) /\ hget H [1] = some (.cells [.func 113 []] true 0) /\ firstE vesE l = firstE vesE (l.drop i)) (k := l.length) (by omega) ?_ ?_
 ·exact ⟨by simp -implicitDefEqProofs only [go_sem, hT], by simp -implicitDefEqProofs only [go_sem, a1], by simp -implicitDefEqProofs only [go_sem, hT], by simp -implicitDefEqProofs only [go_sem, hT], 0, 0, _, by simp -implicitDefEqProofs only [go_sem, hT] <;> rfl, by omega, rfl, rfl, rfl, rfl, rfl⟩
 clear a0 a1 hT T
 rintro k T s' ⟨hT, a1, a6, a7, i, n, H, a8, hi, rfl, rfl, g0, g1, he⟩
 have hy : getAll H (namesFrom [] 0 2) = some [.cells [.lst (l.map vesV)] true 0, .cells [.func 113 []] true 0] := by show getAll H [[0], [1]] = _; simp only [getAll, g0, g1]
 simp -implicitDefEqProofs only [go_sem, a7, a8, hT]
 by_cases hil : (i : Int) < (l.length : Int)
 ·have hi' : i < l.length := by omega
  have e1 := Zg (f := vesV) (l := l) (i := i) (z := 6) hi' rfl
  have hkk : l.length - (i + 1) < l.length - i := by omega
  have hbi := hb (l[i]) (List.getElem_mem hi')
  rw [List.drop_eq_getElem_cons hi'] at he
  have hw1 : wrapF .i64 ((i : Int) + 1) = ((i + 1 : Nat) : Int) := Z8 (by omega) (by omega)
  generalize l[i] = x at *
  simp only [firstE] at he
  have k0 : ∀ X, hget (([n + 2], X) :: H) [0] = _ := fun X => (Z1 _ _ (Y2 (by omega))).trans g0
  have k1 : ∀ X, hget (([n + 2], X) :: H) [1] = _ := fun X => (Z1 _ _ (Y2 (by omega))).trans g1
  have hy2 : ∀ X, getAll (([n + 2], X) :: H) (namesFrom [] 0 2) = some [.cells [.lst (l.map vesV)] true 0, .cells [.func 113 []] true 0] := fun X => by show getAll _ [[0], [1]] = _; simp only [getAll, k0 X, k1 X]
  have hc := fun s => Z6v x (K + 1) s (by omega) hbi
  simp only [vesV] at hc
  simp only [vesV] at e1
  by_cases c1 : vesE x = 0
  ·rw [if_pos c1] at he
   simp -implicitDefEqProofs only [go_sem, a1, a6, a7, a8, hT, hil, e1, hc, c1, hw1, k1]
   exact ⟨l.length - (i + 1), hkk, trivial, trivial, trivial, trivial, i + 1, n + 1, _, rfl, hi', rfl, rfl, k0 _, k1 _, he⟩
  ·rw [if_neg c1] at he
   simp -implicitDefEqProofs only [go_sem, a1, a6, a8, hT, hil, e1, hc, c1, k1, he, Try.results153]
   exact ⟨trivial, hy2 _⟩
 ·have hie : i = l.length := by omega
  subst hie
  rw [List.drop_length] at he
  simp only [firstE] at he
  simp -implicitDefEqProofs only [go_sem, hT, hil, he, Try.results153]
  exact ⟨trivial, hy⟩
theorem Zcb (l : List Pip) (N : Int) (bl bf b3 : Nm) (nblbf : bl ≠ bf) (nblb3 : bl ≠ b3) (nbfb3 : bf ≠ b3) (K : Nat) (H : Heap) (n : Nat) (p : Nm) (jr : Bool) (j : Delta) (hbl : hget H bl = some (.cells [.lst (l.map pipV)] true 0)) (hbf : hget H bf = some (.cells [.func 107 [.ptr b3 0]] true 0)) (hb3 : hget H b3 = some (.cells [.int .i64 N] true 0)) (h1 : 0 <= N) (h2 : N <= 9223372036854775807) (hK : 20 < K) (hl : l.length < K) (hl2 : l.length <= 9223372036854775807) :
  acall cfg (K + 4) 154 [.ptr bl 0, .ptr bf 0] ⟨H, n, p, jr, j⟩ = .ret (.int .i64 (firstE (pipE N) l), ⟨H, n, p, jr, backJ jr [bl, bf, b3] [.cells [.lst (l.map pipV)] true 0, .cells [.func 107 [.ptr b3 0]] true 0, .cells [.int .i64 N] true 0] j⟩) := by
 have eblbf := Za nblbf
 have ebfbl := Za (Ne.symm nblbf)
 have eblb3 := Za nblb3
 have eb3bl := Za (Ne.symm nblb3)
 have ebfb3 := Za nbfb3
 have eb3bf := Za (Ne.symm nbfb3)
 refine Ys (bs := [bl, bf, b3]) (xs := [.cells [.lst (l.map pipV)] true 0, .cells [.func 107 [.ptr b3 0]] true 0, .cells [.int .i64 N] true 0]) (args' := [.ptr [0] 0, .ptr [1] 0]) (xs' := [.cells [.lst (l.map pipV)] true 0, .cells [.func 107 [.ptr [2] 0]] true 0, .cells [.int .i64 N] true 0]) Zf8 Zf7 (by show lendM (199 + 1) [bl, bf] [] [] _ = _; rw [Yd 199 rfl hbl]; show lendM (198 + 1) [bf] [bl] [_] _ = _; rw [Yd 198 (by simp only [memNm, ebfbl]) hbf]; show lendM (197 + 1) [b3] [bl, bf] _ _ = _; rw [Yd 197 (by simp only [memNm, eb3bl, eb3bf]) hb3]; exact Y1 196 _ _ _) (by simp only [getAll, hbl, hbf, hb3]) (by simp only [nodupN, memNm, eblbf, eblb3, ebfb3]) rfl (by show renVs [(bl, [0]), (bf, [1]), (b3, [2])] _ = _; simp only [renVs, renV, lookN, Ze, ebfbl])
  (by show renBs [(bl, [0]), (bf, [1]), (b3, [2])] _ = _; simp only [renBs, renB, renVs, renV, lookN, Z0s, Ze, eb3bl, eb3bf]) rfl (fun _ => rfl) (fun c h => by rcases List.mem_cons.1 h with rfl | h; rfl; cases h) (show (1 : Nat) < 200 by decide) rfl (by show renBs [([0], bl), ([1], bf), ([2], b3)] _ = _; simp only [renBs, renB, renVs, renV, Z0s]; rfl) ?_
 refine Z9 rfl fun T hT' hA => ?_
 have a0 := hA 0 _ rfl
 have a1 := hA 1 _ rfl
 have hT : T.length = 19 := hT'
 clear hA hT'
 have hz : zipB (namesFrom [] 0 [bl, bf, b3].length) [Blk.cells [.lst (l.map pipV)] true 0, Blk.cells [.func 107 [.ptr [2] 0]] true 0, Blk.cells [.int .i64 N] true 0] = [([0], .cells [.lst (l.map pipV)] true 0), ([1], .cells [.func 107 [.ptr [2] 0]] true 0), ([2], .cells [.int .i64 N] true 0)] := rfl
 have hl3 : [bl, bf, b3].length = 3 := rfl
 rw [hz, hl3]
 simp -implicitDefEqProofs only [go_sem, a0, hT]
 simp only [Z4]
 refine Zm (fun k T s' => T.length = 19 /\ nth T 1 = some (.ptr [1] 0) /\ nth T 6 = some (.lst (l.map pipV)) /\ nth T 7 = some (.int .i64 l.length) /\ ∃ (i n : Nat) (H : Heap), nth T 8 = some (.int .i64 i) /\ i <= l.length /\ k = l.length - i /\ s' = ⟨H, n + 3, [], false, []⟩ /\ hget H [0] = some (.cells [.lst (l.map pipV)] true 0) /\ hget H [1] = some (.cells [.func 107 [.ptr [2] 0]] true 0) /\ hget H [2] = some (.cells [.int .i64 N] true 0) /\ firstE (pipE N) l = firstE (pipE N) (l.drop i)) (k := l.length) (by omega) ?_ ?_
 ·exact ⟨by simp -implicitDefEqProofs only [go_sem, hT], by simp -implicitDefEqProofs only [go_sem, a1], by simp -implicitDefEqProofs only [go_sem, hT], by simp -implicitDefEqProofs only [go_sem, hT], 0, 0, _, by simp -implicitDefEqProofs only [go_sem, hT] <;> rfl, by omega, rfl, rfl, rfl, rfl, rfl, rfl⟩
 clear a0 a1 hT T
 rintro k T s' ⟨hT, a1, a6, a7, i, n, H, a8, hi, rfl, rfl, g0, g1, g2, he⟩
 have hy : getAll H (namesFrom [] 0 3) = some [.cells [.lst (l.map pipV)] true 0, .cells [.func 107 [.ptr [2] 0]] true 0, .cells [.int .i64 N] true 0] := by show getAll H [[0], [1], [2]] = _; simp only [getAll, g0, g1, g2]
 simp -implicitDefEqProofs only [go_sem, a7, a8, hT]
 by_cases hil : (i : Int) < (l.length : Int)
 ·have hi' : i < l.length := by omega
  have e1 := Zg (f := pipV) (l := l) (i := i) (z := 6) hi' rfl
  have hkk : l.length - (i + 1) < l.length - i := by omega
  rw [List.drop_eq_getElem_cons hi'] at he
  have hw1 : wrapF .i64 ((i : Int) + 1) = ((i + 1 : Nat) : Int) := Z8 (by omega) (by omega)
  generalize l[i] = x at *
  simp only [firstE] at he
  have k0 : ∀ X, hget (([n + 3], X) :: H) [0] = _ := fun X => (Z1 _ _ (Y2 (by omega))).trans g0
  have k1 : ∀ X, hget (([n + 3], X) :: H) [1] = _ := fun X => (Z1 _ _ (Y2 (by omega))).trans g1
  have k2 : ∀ X, hget (([n + 3], X) :: H) [2] = _ := fun X => (Z1 _ _ (Y2 (by omega))).trans g2
  have hy2 : ∀ X, getAll (([n + 3], X) :: H) (namesFrom [] 0 3) = some [.cells [.lst (l.map pipV)] true 0, .cells [.func 107 [.ptr [2] 0]] true 0, .cells [.int .i64 N] true 0] := fun X => by show getAll _ [[0], [1], [2]] = _; simp only [getAll, k0 X, k1 X, k2 X]
  have hc := fun X => Zau x N [2] (K + 1) (([n + 3], X) :: H) (n + 3 + 1) [] false [] (k2 X) h1 h2
  simp only [pipV, Y7] at hc
  by_cases c1 : pipE N x = 0
  ·rw [if_pos c1] at he
   simp -implicitDefEqProofs only [go_sem, a1, a6, a7, a8, hT, hil, e1, hc, c1, hw1, k1]
   exact ⟨l.length - (i + 1), hkk, trivial, trivial, trivial, trivial, i + 1, n + 1, _, rfl, hi', rfl, rfl, k0 _, k1 _, k2 _, he⟩
  ·rw [if_neg c1] at he
   simp -implicitDefEqProofs only [go_sem, a1, a6, a8, hT, hil, e1, hc, c1, k1, he, Try.results154]
   exact ⟨trivial, hy2 _⟩
 ·have hie : i = l.length := by omega
  subst hie
  rw [List.drop_length] at he
  simp only [firstE] at he
  simp -implicitDefEqProofs only [go_sem, hT, hil, he, Try.results154]
  exact ⟨trivial, hy⟩
theorem Zcc (l : List Pmp) (N : Int) (bl bf b4 b3 : Nm) (nblbf : bl ≠ bf) (nblb4 : bl ≠ b4) (nblb3 : bl ≠ b3) (nbfb4 : bf ≠ b4) (nbfb3 : bf ≠ b3) (nb4b3 : b4 ≠ b3) (K : Nat) (H : Heap) (n : Nat) (p : Nm) (jr : Bool) (j : Delta) (hbl : hget H bl = some (.cells [.lst (l.map pmpV)] true 0)) (hbf : hget H bf = some (.cells [.func 108 [.ptr b4 0]] true 0)) (hb4 : hget H b4 = some (.cells [.func 104 [.ptr b3 0]] true 0)) (hb3 : hget H b3 = some (.cells [.int .i64 N] true 0)) (h1 : 0 <= N) (h2 : N <= 9223372036854775807) (hK : 20 < K) (hl : l.length < K) (hl2 : l.length <= 9223372036854775807) :
  acall cfg (K + 4) 155 [.ptr bl 0, .ptr bf 0] ⟨H, n, p, jr, j⟩ = .ret (.int .i64 (firstE (fun q : Pmp => atE N q.at' q.part 1000000) l), ⟨H, n, p, jr, backJ jr [bl, bf, b4, b3] [.cells [.lst (l.map pmpV)] true 0, .cells [.func 108 [.ptr b4 0]] true 0, .cells [.func 104 [.ptr b3 0]] true 0, .cells [.int .i64 N] true 0] j⟩) := by
 have eblbf := Za nblbf
 have ebfbl := Za (Ne.symm nblbf)
 have eblb4 := Za nblb4
 have eb4bl := Za (Ne.symm nblb4)
 have eblb3 := Za nblb3
 have eb3bl := Za (Ne.symm nblb3)
 have ebfb4 := Za nbfb4
 have eb4bf := Za (Ne.symm nbfb4)
 have ebfb3 := Za nbfb3
 have eb3bf := Za (Ne.symm nbfb3)
 have eb4b3 := Za nb4b3
 have eb3b4 := Za (Ne.symm nb4b3)
 refine Ys (bs := [bl, bf, b4, b3]) (xs := [.cells [.lst (l.map pmpV)] true 0, .cells [.func 108 [.ptr b4 0]] true 0, .cells [.func 104 [.ptr b3 0]] true 0, .cells [.int .i64 N] true 0]) (args' := [.ptr [0] 0, .ptr [1] 0]) (xs' := [.cells [.lst (l.map pmpV)] true 0, .cells [.func 108 [.ptr [2] 0]] true 0, .cells [.func 104 [.ptr [3] 0]] true 0, .cells [.int .i64 N] true 0]) Zfa Zf9 (by show lendM (199 + 1) [bl, bf] [] [] _ = _; rw [Yd 199 rfl hbl]; show lendM (198 + 1) [bf] [bl] [_] _ = _; rw [Yd 198 (by simp only [memNm, ebfbl]) hbf]; show lendM (197 + 1) [b4] [bl, bf] _ _ = _; rw [Yd 197 (by simp only [memNm, eb4bl, eb4bf]) hb4]; show lendM (196 + 1) [b3] [bl, bf, b4] _ _ = _; rw [Yd 196 (by simp only [memNm, eb3bl, eb3bf, eb3b4]) hb3]; exact Y1 195 _ _ _) (by simp only [getAll, hbl, hbf, hb4, hb3]) (by simp only [nodupN, memNm, eblbf, eblb4, eblb3, ebfb4, ebfb3, eb4b3]) rfl (by show renVs [(bl, [0]), (bf, [1]), (b4, [2]), (b3, [3])] _ = _; simp only [renVs, renV, lookN, Ze, ebfbl])
  (by show renBs [(bl, [0]), (bf, [1]), (b4, [2]), (b3, [3])] _ = _; simp only [renBs, renB, renVs, renV, lookN, Z0t, Ze, eb4bl, eb3bl, eb4bf, eb3bf, eb3b4]) rfl (fun _ => rfl) (fun c h => by rcases List.mem_cons.1 h with rfl | h; rfl; rcases List.mem_cons.1 h with rfl | h; rfl; cases h) (show (2 : Nat) < 200 by decide) rfl (by show renBs [([0], bl), ([1], bf), ([2], b4), ([3], b3)] _ = _; simp only [renBs, renB, renVs, renV, Z0t]; rfl) ?_
 refine Z9 rfl fun T hT' hA => ?_
 have a0 := hA 0 _ rfl
 have a1 := hA 1 _ rfl
 have hT : T.length = 19 := hT'
 clear hA hT'
 have hz : zipB (namesFrom [] 0 [bl, bf, b4, b3].length) [Blk.cells [.lst (l.map pmpV)] true 0, Blk.cells [.func 108 [.ptr [2] 0]] true 0, Blk.cells [.func 104 [.ptr [3] 0]] true 0, Blk.cells [.int .i64 N] true 0] = [([0], .cells [.lst (l.map pmpV)] true 0), ([1], .cells [.func 108 [.ptr [2] 0]] true 0), ([2], .cells [.func 104 [.ptr [3] 0]] true 0), ([3], .cells [.int .i64 N] true 0)] := rfl
 have hl3 : [bl, bf, b4, b3].length = 4 := rfl
 rw [hz, hl3]
 simp -implicitDefEqProofs only [go_sem, a0, hT]
 simp only [Z4]
 refine Zm (fun k T s' => T.length = 19 /\ nth T 1 = some (.ptr [1] 0) /\ nth T 6 = some (.lst (l.map pmpV)) /\ nth T 7 = some (.int .i64 l.length) /\ ∃ (i n : Nat) (H : Heap), nth T 8 = some (.int .i64 i) /\ i <= l.length /\ k = l.length - i /\ s' = ⟨H, n + 4, [], false, []⟩ /\ hget H [0] = some (.cells [.lst (l.map pmpV)] true 0) /\ hget H [1] = some (.cells [.func 108 [.ptr [2] 0]] true 0) /\ hget H [2] = some (.cells [.func 104 [.ptr [3] 0]] true 0) /\ hget H [3] = some (.cells [.int .i64 N] true 0) /\ firstE (fun q : Pmp => atE N q.at' q.part 1000000) l = firstE (fun q : Pmp => atE N q.at' q.part 1000000) (l.drop i)) (k := l.length) (by omega) ?_ ?_
 ·exact ⟨by simp -implicitDefEqProofs only [go_sem, hT], by simp -implicitDefEqProofs only [go_sem, a1], by simp -implicitDefEqProofs only [go_sem, hT], by simp -implicitDefEqProofs only [go_sem, hT], 0, 0, _, by simp -implicitDefEqProofs only [go_sem, hT] <;> rfl, by omega, rfl, rfl, rfl, rfl, rfl, rfl, rfl⟩
 clear a0 a1 hT T
 rintro k T s' ⟨hT, a1, a6, a7, i, n, H, a8, hi, rfl, rfl, g0, g1, g2, g3, he⟩
 have hy : getAll H (namesFrom [] 0 4) = some [.cells [.lst (l.map pmpV)] true 0, .cells [.func 108 [.ptr [2] 0]] true 0, .cells [.func 104 [.ptr [3] 0]] true 0, .cells [.int .i64 N] true 0] := by show getAll H [[0], [1], [2], [3]] = _; simp only [getAll, g0, g1, g2, g3]
 simp -implicitDefEqProofs only [go_sem, a7, a8, hT]
 by_cases hil : (i : Int) < (l.length : Int)
 ·have hi' : i < l.length := by omega
  have e1 := Zg (f := pmpV) (l := l) (i := i) (z := 3) hi' rfl
  have hkk : l.length - (i + 1) < l.length - i := by omega
  rw [List.drop_eq_getElem_cons hi'] at he
  have hw1 : wrapF .i64 ((i : Int) + 1) = ((i + 1 : Nat) : Int) := Z8 (by omega) (by omega)
  generalize l[i] = x at *
  simp only [firstE] at he
  have k0 : ∀ X, hget (([n + 4], X) :: H) [0] = _ := fun X => (Z1 _ _ (Y2 (by omega))).trans g0
  have k1 : ∀ X, hget (([n + 4], X) :: H) [1] = _ := fun X => (Z1 _ _ (Y2 (by omega))).trans g1
  have k2 : ∀ X, hget (([n + 4], X) :: H) [2] = _ := fun X => (Z1 _ _ (Y2 (by omega))).trans g2
  have k3 : ∀ X, hget (([n + 4], X) :: H) [3] = _ := fun X => (Z1 _ _ (Y2 (by omega))).trans g3
  have hy2 : ∀ X, getAll (([n + 4], X) :: H) (namesFrom [] 0 4) = some [.cells [.lst (l.map pmpV)] true 0, .cells [.func 108 [.ptr [2] 0]] true 0, .cells [.func 104 [.ptr [3] 0]] true 0, .cells [.int .i64 N] true 0] := fun X => by show getAll _ [[0], [1], [2], [3]] = _; simp only [getAll, k0 X, k1 X, k2 X, k3 X]
  have hc := fun X => Z8w x N [2] [3] (by decide) K (([n + 4], X) :: H) (n + 4 + 1) [] false [] (k2 X) (k3 X) h1 h2
  simp only [pmpV, Y7] at hc
  by_cases c1 : atE N x.at' x.part 1000000 = 0
  ·rw [if_pos c1] at he
   simp -implicitDefEqProofs only [go_sem, a1, a6, a7, a8, hT, hil, e1, hc, c1, hw1, k1]
   exact ⟨l.length - (i + 1), hkk, trivial, trivial, trivial, trivial, i + 1, n + 1, _, rfl, hi', rfl, rfl, k0 _, k1 _, k2 _, k3 _, he⟩
  ·rw [if_neg c1] at he
   simp -implicitDefEqProofs only [go_sem, a1, a6, a8, hT, hil, e1, hc, c1, k1, he, Try.results155]
   exact ⟨trivial, hy2 _⟩
 ·have hie : i = l.length := by omega
  subst hie
  rw [List.drop_length] at he
  simp only [firstE] at he
  simp -implicitDefEqProofs only [go_sem, hT, hil, he, Try.results155]
  exact ⟨trivial, hy⟩
theorem Zcd (l : List Inl) (N : Int) (bl bf b4 b3 : Nm) (nblbf : bl ≠ bf) (nblb4 : bl ≠ b4) (nblb3 : bl ≠ b3) (nbfb4 : bf ≠ b4) (nbfb3 : bf ≠ b3) (nb4b3 : b4 ≠ b3) (K : Nat) (H : Heap) (n : Nat) (p : Nm) (jr : Bool) (j : Delta) (hbl : hget H bl = some (.cells [.lst (l.map inlV)] true 0)) (hbf : hget H bf = some (.cells [.func 109 [.ptr b4 0]] true 0)) (hb4 : hget H b4 = some (.cells [.func 104 [.ptr b3 0]] true 0)) (hb3 : hget H b3 = some (.cells [.int .i64 N] true 0)) (h1 : 0 <= N) (h2 : N <= 9223372036854775807) (hK : 20 < K) (hl : l.length < K) (hl2 : l.length <= 9223372036854775807) :
  acall cfg (K + 4) 156 [.ptr bl 0, .ptr bf 0] ⟨H, n, p, jr, j⟩ = .ret (.int .i64 (firstE (fun l : Inl => atE N l.at' l.gas 100000) l), ⟨H, n, p, jr, backJ jr [bl, bf, b4, b3] [.cells [.lst (l.map inlV)] true 0, .cells [.func 109 [.ptr b4 0]] true 0, .cells [.func 104 [.ptr b3 0]] true 0, .cells [.int .i64 N] true 0] j⟩) := by
 have eblbf := Za nblbf
 have ebfbl := Za (Ne.symm nblbf)
 have eblb4 := Za nblb4
 have eb4bl := Za (Ne.symm nblb4)
 have eblb3 := Za nblb3
 have eb3bl := Za (Ne.symm nblb3)
 have ebfb4 := Za nbfb4
 have eb4bf := Za (Ne.symm nbfb4)
 have ebfb3 := Za nbfb3
 have eb3bf := Za (Ne.symm nbfb3)
 have eb4b3 := Za nb4b3
 have eb3b4 := Za (Ne.symm nb4b3)
 refine Ys (bs := [bl, bf, b4, b3]) (xs := [.cells [.lst (l.map inlV)] true 0, .cells [.func 109 [.ptr b4 0]] true 0, .cells [.func 104 [.ptr b3 0]] true 0, .cells [.int .i64 N] true 0]) (args' := [.ptr [0] 0, .ptr [1] 0]) (xs' := [.cells [.lst (l.map inlV)] true 0, .cells [.func 109 [.ptr [2] 0]] true 0, .cells [.func 104 [.ptr [3] 0]] true 0, .cells [.int .i64 N] true 0]) Zfc Zfb (by show lendM (199 + 1) [bl, bf] [] [] _ = _; rw [Yd 199 rfl hbl]; show lendM (198 + 1) [bf] [bl] [_] _ = _; rw [Yd 198 (by simp only [memNm, ebfbl]) hbf]; show lendM (197 + 1) [b4] [bl, bf] _ _ = _; rw [Yd 197 (by simp only [memNm, eb4bl, eb4bf]) hb4]; show lendM (196 + 1) [b3] [bl, bf, b4] _ _ = _; rw [Yd 196 (by simp only [memNm, eb3bl, eb3bf, eb3b4]) hb3]; exact Y1 195 _ _ _) (by simp only [getAll, hbl, hbf, hb4, hb3]) (by simp only [nodupN, memNm, eblbf, eblb4, eblb3, ebfb4, ebfb3, eb4b3]) rfl (by show renVs [(bl, [0]), (bf, [1]), (b4, [2]), (b3, [3])] _ = _; simp only [renVs, renV, lookN, Ze, ebfbl])
  (by show renBs [(bl, [0]), (bf, [1]), (b4, [2]), (b3, [3])] _ = _; simp only [renBs, renB, renVs, renV, lookN, Z0u, Ze, eb4bl, eb3bl, eb4bf, eb3bf, eb3b4]) rfl (fun _ => rfl) (fun c h => by rcases List.mem_cons.1 h with rfl | h; rfl; rcases List.mem_cons.1 h with rfl | h; rfl; cases h) (show (2 : Nat) < 200 by decide) rfl (by show renBs [([0], bl), ([1], bf), ([2], b4), ([3], b3)] _ = _; simp only [renBs, renB, renVs, renV, Z0u]; rfl) ?_
 refine Z9 rfl fun T hT' hA => ?_
 have a0 := hA 0 _ rfl
 have a1 := hA 1 _ rfl
 have hT : T.length = 19 := hT'
 clear hA hT'
 have hz : zipB (namesFrom [] 0 [bl, bf, b4, b3].length) [Blk.cells [.lst (l.map inlV)] true 0, Blk.cells [.func 109 [.ptr [2] 0]] true 0, Blk.cells [.func 104 [.ptr [3] 0]] true 0, Blk.cells [.int .i64 N] true 0] = [([0], .cells [.lst (l.map inlV)] true 0), ([1], .cells [.func 109 [.ptr [2] 0]] true 0), ([2], .cells [.func 104 [.ptr [3] 0]] true 0), ([3], .cells [.int .i64 N] true 0)] := rfl
 have hl3 : [bl, bf, b4, b3].length = 4 := rfl
 rw [hz, hl3]
 simp -implicitDefEqProofs only [go_sem, a0, hT]
 simp only [Z4]
 refine Zm (fun k T s' => T.length = 19 /\ nth T 1 = some (.ptr [1] 0) /\ nth T 6 = some (.lst (l.map inlV)) /\ nth T 7 = some (.int .i64 l.length) /\ ∃ (i n : Nat) (H : Heap), nth T 8 = some (.int .i64 i) /\ i <= l.length /\ k = l.length - i /\ s' = ⟨H, n + 4, [], false, []⟩ /\ hget H [0] = some (.cells [.lst (l.map inlV)] true 0) /\ hget H [1] = some (.cells [.func 109 [.ptr [2] 0]] true 0) /\ hget H [2] = some (.cells [.func 104 [.ptr [3] 0]] true 0) /\ hget H [3] = some (.cells [.int .i64 N] true 0) /\ firstE (fun l : Inl => atE N l.at' l.gas 100000) l = firstE (fun l : Inl => atE N l.at' l.gas 100000) (l.drop i)) (k := l.length) (by omega) ?_ ?_
 ·exact ⟨by simp -implicitDefEqProofs only [go_sem, hT], by simp -implicitDefEqProofs only [go_sem, a1], by simp -implicitDefEqProofs only [go_sem, hT], by simp -implicitDefEqProofs only [go_sem, hT], 0, 0, _, by simp -implicitDefEqProofs only [go_sem, hT] <;> rfl, by omega, rfl, rfl, rfl, rfl, rfl, rfl, rfl⟩
 clear a0 a1 hT T
 rintro k T s' ⟨hT, a1, a6, a7, i, n, H, a8, hi, rfl, rfl, g0, g1, g2, g3, he⟩
 have hy : getAll H (namesFrom [] 0 4) = some [.cells [.lst (l.map inlV)] true 0, .cells [.func 109 [.ptr [2] 0]] true 0, .cells [.func 104 [.ptr [3] 0]] true 0, .cells [.int .i64 N] true 0] := by show getAll H [[0], [1], [2], [3]] = _; simp only [getAll, g0, g1, g2, g3]
 simp -implicitDefEqProofs only [go_sem, a7, a8, hT]
 by_cases hil : (i : Int) < (l.length : Int)
 ·have hi' : i < l.length := by omega
  have e1 := Zg (f := inlV) (l := l) (i := i) (z := 3) hi' rfl
  have hkk : l.length - (i + 1) < l.length - i := by omega
  rw [List.drop_eq_getElem_cons hi'] at he
  have hw1 : wrapF .i64 ((i : Int) + 1) = ((i + 1 : Nat) : Int) := Z8 (by omega) (by omega)
  generalize l[i] = x at *
  simp only [firstE] at he
  have k0 : ∀ X, hget (([n + 4], X) :: H) [0] = _ := fun X => (Z1 _ _ (Y2 (by omega))).trans g0
  have k1 : ∀ X, hget (([n + 4], X) :: H) [1] = _ := fun X => (Z1 _ _ (Y2 (by omega))).trans g1
  have k2 : ∀ X, hget (([n + 4], X) :: H) [2] = _ := fun X => (Z1 _ _ (Y2 (by omega))).trans g2
  have k3 : ∀ X, hget (([n + 4], X) :: H) [3] = _ := fun X => (Z1 _ _ (Y2 (by omega))).trans g3
  have hy2 : ∀ X, getAll (([n + 4], X) :: H) (namesFrom [] 0 4) = some [.cells [.lst (l.map inlV)] true 0, .cells [.func 109 [.ptr [2] 0]] true 0, .cells [.func 104 [.ptr [3] 0]] true 0, .cells [.int .i64 N] true 0] := fun X => by show getAll _ [[0], [1], [2], [3]] = _; simp only [getAll, k0 X, k1 X, k2 X, k3 X]
  have hc := fun X => Z8x x N [2] [3] (by decide) K (([n + 4], X) :: H) (n + 4 + 1) [] false [] (k2 X) (k3 X) h1 h2
  simp only [inlV, Y7] at hc
  by_cases c1 : atE N x.at' x.gas 100000 = 0
  ·rw [if_pos c1] at he
   simp -implicitDefEqProofs only [go_sem, a1, a6, a7, a8, hT, hil, e1, hc, c1, hw1, k1]
   exact ⟨l.length - (i + 1), hkk, trivial, trivial, trivial, trivial, i + 1, n + 1, _, rfl, hi', rfl, rfl, k0 _, k1 _, k2 _, k3 _, he⟩
  ·rw [if_neg c1] at he
   simp -implicitDefEqProofs only [go_sem, a1, a6, a8, hT, hil, e1, hc, c1, k1, he, Try.results156]
   exact ⟨trivial, hy2 _⟩
 ·have hie : i = l.length := by omega
  subst hie
  rw [List.drop_length] at he
  simp only [firstE] at he
  simp -implicitDefEqProofs only [go_sem, hT, hil, he, Try.results156]
  exact ⟨trivial, hy⟩
theorem Zce (l : List Gtr) (N : Int) (bl bf b4 b3 : Nm) (nblbf : bl ≠ bf) (nblb4 : bl ≠ b4) (nblb3 : bl ≠ b3) (nbfb4 : bf ≠ b4) (nbfb3 : bf ≠ b3) (nb4b3 : b4 ≠ b3) (K : Nat) (H : Heap) (n : Nat) (p : Nm) (jr : Bool) (j : Delta) (hbl : hget H bl = some (.cells [.lst (l.map gtrV)] true 0)) (hbf : hget H bf = some (.cells [.func 110 [.ptr b4 0]] true 0)) (hb4 : hget H b4 = some (.cells [.func 104 [.ptr b3 0]] true 0)) (hb3 : hget H b3 = some (.cells [.int .i64 N] true 0)) (h1 : 0 <= N) (h2 : N <= 9223372036854775807) (hK : 20 < K) (hl : l.length < K) (hl2 : l.length <= 9223372036854775807) :
  acall cfg (K + 4) 157 [.ptr bl 0, .ptr bf 0] ⟨H, n, p, jr, j⟩ = .ret (.int .i64 (firstE (getE N) l), ⟨H, n, p, jr, backJ jr [bl, bf, b4, b3] [.cells [.lst (l.map gtrV)] true 0, .cells [.func 110 [.ptr b4 0]] true 0, .cells [.func 104 [.ptr b3 0]] true 0, .cells [.int .i64 N] true 0] j⟩) := by
 have eblbf := Za nblbf
 have ebfbl := Za (Ne.symm nblbf)
 have eblb4 := Za nblb4
 have eb4bl := Za (Ne.symm nblb4)
 have eblb3 := Za nblb3
 have eb3bl := Za (Ne.symm nblb3)
 have ebfb4 := Za nbfb4
 have eb4bf := Za (Ne.symm nbfb4)
 have ebfb3 := Za nbfb3
 have eb3bf := Za (Ne.symm nbfb3)
 have eb4b3 := Za nb4b3
 have eb3b4 := Za (Ne.symm nb4b3)
 refine Ys (bs := [bl, bf, b4, b3]) (xs := [.cells [.lst (l.map gtrV)] true 0, .cells [.func 110 [.ptr b4 0]] true 0, .cells [.func 104 [.ptr b3 0]] true 0, .cells [.int .i64 N] true 0]) (args' := [.ptr [0] 0, .ptr [1] 0]) (xs' := [.cells [.lst (l.map gtrV)] true 0, .cells [.func 110 [.ptr [2] 0]] true 0, .cells [.func 104 [.ptr [3] 0]] true 0, .cells [.int .i64 N] true 0]) Zfe Zfd (by show lendM (199 + 1) [bl, bf] [] [] _ = _; rw [Yd 199 rfl hbl]; show lendM (198 + 1) [bf] [bl] [_] _ = _; rw [Yd 198 (by simp only [memNm, ebfbl]) hbf]; show lendM (197 + 1) [b4] [bl, bf] _ _ = _; rw [Yd 197 (by simp only [memNm, eb4bl, eb4bf]) hb4]; show lendM (196 + 1) [b3] [bl, bf, b4] _ _ = _; rw [Yd 196 (by simp only [memNm, eb3bl, eb3bf, eb3b4]) hb3]; exact Y1 195 _ _ _) (by simp only [getAll, hbl, hbf, hb4, hb3]) (by simp only [nodupN, memNm, eblbf, eblb4, eblb3, ebfb4, ebfb3, eb4b3]) rfl (by show renVs [(bl, [0]), (bf, [1]), (b4, [2]), (b3, [3])] _ = _; simp only [renVs, renV, lookN, Ze, ebfbl])
  (by show renBs [(bl, [0]), (bf, [1]), (b4, [2]), (b3, [3])] _ = _; simp only [renBs, renB, renVs, renV, lookN, Z0v, Ze, eb4bl, eb3bl, eb4bf, eb3bf, eb3b4]) rfl (fun _ => rfl) (fun c h => by rcases List.mem_cons.1 h with rfl | h; rfl; rcases List.mem_cons.1 h with rfl | h; rfl; cases h) (show (2 : Nat) < 200 by decide) rfl (by show renBs [([0], bl), ([1], bf), ([2], b4), ([3], b3)] _ = _; simp only [renBs, renB, renVs, renV, Z0v]; rfl) ?_
 refine Z9 rfl fun T hT' hA => ?_
 have a0 := hA 0 _ rfl
 have a1 := hA 1 _ rfl
 have hT : T.length = 19 := hT'
 clear hA hT'
 have hz : zipB (namesFrom [] 0 [bl, bf, b4, b3].length) [Blk.cells [.lst (l.map gtrV)] true 0, Blk.cells [.func 110 [.ptr [2] 0]] true 0, Blk.cells [.func 104 [.ptr [3] 0]] true 0, Blk.cells [.int .i64 N] true 0] = [([0], .cells [.lst (l.map gtrV)] true 0), ([1], .cells [.func 110 [.ptr [2] 0]] true 0), ([2], .cells [.func 104 [.ptr [3] 0]] true 0), ([3], .cells [.int .i64 N] true 0)] := rfl
 have hl3 : [bl, bf, b4, b3].length = 4 := rfl
 rw [hz, hl3]
 simp -implicitDefEqProofs only [go_sem, a0, hT]
 simp only [Z4]
 refine Zm (fun k T s' => T.length = 19 /\ nth T 1 = some (.ptr [1] 0) /\ nth T 6 = some (.lst (l.map gtrV)) /\ nth T 7 = some (.int .i64 l.length) /\ ∃ (i n : Nat) (H : Heap), nth T 8 = some (.int .i64 i) /\ i <= l.length /\ k = l.length - i /\ s' = ⟨H, n + 4, [], false, []⟩ /\ hget H [0] = some (.cells [.lst (l.map gtrV)] true 0) /\ hget H [1] = some (.cells [.func 110 [.ptr [2] 0]] true 0) /\ hget H [2] = some (.cells [.func 104 [.ptr [3] 0]] true 0) /\ hget H [3] = some (.cells [.int .i64 N] true 0) /\ firstE (getE N) l = firstE (getE N) (l.drop i)) (k := l.length) (by omega) ?_ ?_
 ·exact ⟨by simp -implicitDefEqProofs only [go_sem, hT], by simp -implicitDefEqProofs only [go_sem, a1], by simp -implicitDefEqProofs only [go_sem, hT], by simp -implicitDefEqProofs only [go_sem, hT], 0, 0, _, by simp -implicitDefEqProofs only [go_sem, hT] <;> rfl, by omega, rfl, rfl, rfl, rfl, rfl, rfl, rfl⟩
 clear a0 a1 hT T
 rintro k T s' ⟨hT, a1, a6, a7, i, n, H, a8, hi, rfl, rfl, g0, g1, g2, g3, he⟩
 have hy : getAll H (namesFrom [] 0 4) = some [.cells [.lst (l.map gtrV)] true 0, .cells [.func 110 [.ptr [2] 0]] true 0, .cells [.func 104 [.ptr [3] 0]] true 0, .cells [.int .i64 N] true 0] := by show getAll H [[0], [1], [2], [3]] = _; simp only [getAll, g0, g1, g2, g3]
 simp -implicitDefEqProofs only [go_sem, a7, a8, hT]
 by_cases hil : (i : Int) < (l.length : Int)
 ·have hi' : i < l.length := by omega
  have e1 := Zg (f := gtrV) (l := l) (i := i) (z := 5) hi' rfl
  have hkk : l.length - (i + 1) < l.length - i := by omega
  rw [List.drop_eq_getElem_cons hi'] at he
  have hw1 : wrapF .i64 ((i : Int) + 1) = ((i + 1 : Nat) : Int) := Z8 (by omega) (by omega)
  generalize l[i] = x at *
  simp only [firstE] at he
  have k0 : ∀ X, hget (([n + 4], X) :: H) [0] = _ := fun X => (Z1 _ _ (Y2 (by omega))).trans g0
  have k1 : ∀ X, hget (([n + 4], X) :: H) [1] = _ := fun X => (Z1 _ _ (Y2 (by omega))).trans g1
  have k2 : ∀ X, hget (([n + 4], X) :: H) [2] = _ := fun X => (Z1 _ _ (Y2 (by omega))).trans g2
  have k3 : ∀ X, hget (([n + 4], X) :: H) [3] = _ := fun X => (Z1 _ _ (Y2 (by omega))).trans g3
  have hy2 : ∀ X, getAll (([n + 4], X) :: H) (namesFrom [] 0 4) = some [.cells [.lst (l.map gtrV)] true 0, .cells [.func 110 [.ptr [2] 0]] true 0, .cells [.func 104 [.ptr [3] 0]] true 0, .cells [.int .i64 N] true 0] := fun X => by show getAll _ [[0], [1], [2], [3]] = _; simp only [getAll, k0 X, k1 X, k2 X, k3 X]
  have hc := fun X => Zav x N [2] [3] (by decide) K (([n + 4], X) :: H) (n + 4 + 1) [] false [] (k2 X) (k3 X) h1 h2
  simp only [gtrV, Y7] at hc
  by_cases c1 : getE N x = 0
  ·rw [if_pos c1] at he
   simp -implicitDefEqProofs only [go_sem, a1, a6, a7, a8, hT, hil, e1, hc, c1, hw1, k1]
   exact ⟨l.length - (i + 1), hkk, trivial, trivial, trivial, trivial, i + 1, n + 1, _, rfl, hi', rfl, rfl, k0 _, k1 _, k2 _, k3 _, he⟩
  ·rw [if_neg c1] at he
   simp -implicitDefEqProofs only [go_sem, a1, a6, a8, hT, hil, e1, hc, c1, k1, he, Try.results157]
   exact ⟨trivial, hy2 _⟩
 ·have hie : i = l.length := by omega
  subst hie
  rw [List.drop_length] at he
  simp only [firstE] at he
  simp -implicitDefEqProofs only [go_sem, hT, hil, he, Try.results157]
  exact ⟨trivial, hy⟩
end Go.Proofs.Ytgnpnfkncbnjnaa
namespace Go.Proofs.Ytgnpnfkncbnjnaa
attribute [local go_sem_proc] Int.reduceEq Int.reduceNeg Nat.reduceEqDiff Nat.reduceLT Nat.reduceAdd Nat.reduceSub Nat.reduceMul Int.reduceLE Int.reduceLT Int.reduceToNat Nat.reduceLeDiff
attribute [local go_sem] Int.toNat_natCast Bool.not_true Bool.not_false
open Go Go.Am
attribute [local congr] Z7 Z5 Z6
attribute [local go_sem] Go.Am.buildSliceA Go.Am.frozen Go.Am.freezeG Go.Am.freezeGs Go.Am.minmax
@[go_sem] theorem Zmh : ofConst .nilFunc = some .nilf := rfl
theorem Zcf (l : List AV) (g : FuncId) (c : List AV) (K : Nat) (s : St) : acall cfg (K + 1) 112 [.lst l, .func g c] s = .ret (.func 153 [.ptr s.name 0, .ptr (s.new (.cells [.lst l] true 0)).name 0], (s.new (.cells [.lst l] true 0)).new (.cells [.func g c] true 0)) := by
 suffices h : (acall cfg (K + 1) 112 [.lst l, .func g c] s).Does fun x => x = (.func 153 [.ptr s.name 0, .ptr (s.new (.cells [.lst l] true 0)).name 0], (s.new (.cells [.lst l] true 0)).new (.cells [.func g c] true 0)) by
  obtain ⟨a, e, rfl⟩ := h; exact e
 rw [Z4s Zeg Zef]
 refine Z9 rfl fun T hT' hA => ?_
 have a0 := hA 0 _ rfl
 have a1 := hA 1 _ rfl
 have hT : T.length = 6 := hT'
 clear hA hT'
 obtain ⟨H, n, p, jr, j⟩ := s
 simp -implicitDefEqProofs only [go_sem, a0, a1, hT, Try.results112]
theorem Zcg (l : List AV) (g : FuncId) (c : List AV) (K : Nat) (s : St) : acall cfg (K + 1) 114 [.lst l, .func g c] s = .ret (.func 154 [.ptr s.name 0, .ptr (s.new (.cells [.lst l] true 0)).name 0], (s.new (.cells [.lst l] true 0)).new (.cells [.func g c] true 0)) := by
 suffices h : (acall cfg (K + 1) 114 [.lst l, .func g c] s).Does fun x => x = (.func 154 [.ptr s.name 0, .ptr (s.new (.cells [.lst l] true 0)).name 0], (s.new (.cells [.lst l] true 0)).new (.cells [.func g c] true 0)) by
  obtain ⟨a, e, rfl⟩ := h; exact e
 rw [Z4s Zek Zej]
 refine Z9 rfl fun T hT' hA => ?_
 have a0 := hA 0 _ rfl
 have a1 := hA 1 _ rfl
 have hT : T.length = 6 := hT'
 clear hA hT'
 obtain ⟨H, n, p, jr, j⟩ := s
 simp -implicitDefEqProofs only [go_sem, a0, a1, hT, Try.results114]
theorem Zch (l : List AV) (g : FuncId) (c : List AV) (K : Nat) (s : St) : acall cfg (K + 1) 115 [.lst l, .func g c] s = .ret (.func 155 [.ptr s.name 0, .ptr (s.new (.cells [.lst l] true 0)).name 0], (s.new (.cells [.lst l] true 0)).new (.cells [.func g c] true 0)) := by
 suffices h : (acall cfg (K + 1) 115 [.lst l, .func g c] s).Does fun x => x = (.func 155 [.ptr s.name 0, .ptr (s.new (.cells [.lst l] true 0)).name 0], (s.new (.cells [.lst l] true 0)).new (.cells [.func g c] true 0)) by
  obtain ⟨a, e, rfl⟩ := h; exact e
 rw [Z4s Zem Zel]
 refine Z9 rfl fun T hT' hA => ?_
 have a0 := hA 0 _ rfl
 have a1 := hA 1 _ rfl
 have hT : T.length = 6 := hT'
 clear hA hT'
 obtain ⟨H, n, p, jr, j⟩ := s
 simp -implicitDefEqProofs only [go_sem, a0, a1, hT, Try.results115]
theorem Zci (l : List AV) (g : FuncId) (c : List AV) (K : Nat) (s : St) : acall cfg (K + 1) 116 [.lst l, .func g c] s = .ret (.func 156 [.ptr s.name 0, .ptr (s.new (.cells [.lst l] true 0)).name 0], (s.new (.cells [.lst l] true 0)).new (.cells [.func g c] true 0)) := by
 suffices h : (acall cfg (K + 1) 116 [.lst l, .func g c] s).Does fun x => x = (.func 156 [.ptr s.name 0, .ptr (s.new (.cells [.lst l] true 0)).name 0], (s.new (.cells [.lst l] true 0)).new (.cells [.func g c] true 0)) by
  obtain ⟨a, e, rfl⟩ := h; exact e
 rw [Z4s Zeo Zen]
 refine Z9 rfl fun T hT' hA => ?_
 have a0 := hA 0 _ rfl
 have a1 := hA 1 _ rfl
 have hT : T.length = 6 := hT'
 clear hA hT'
 obtain ⟨H, n, p, jr, j⟩ := s
 simp -implicitDefEqProofs only [go_sem, a0, a1, hT, Try.results116]
theorem Zcj (l : List AV) (g : FuncId) (c : List AV) (K : Nat) (s : St) : acall cfg (K + 1) 117 [.lst l, .func g c] s = .ret (.func 157 [.ptr s.name 0, .ptr (s.new (.cells [.lst l] true 0)).name 0], (s.new (.cells [.lst l] true 0)).new (.cells [.func g c] true 0)) := by
 suffices h : (acall cfg (K + 1) 117 [.lst l, .func g c] s).Does fun x => x = (.func 157 [.ptr s.name 0, .ptr (s.new (.cells [.lst l] true 0)).name 0], (s.new (.cells [.lst l] true 0)).new (.cells [.func g c] true 0)) by
  obtain ⟨a, e, rfl⟩ := h; exact e
 rw [Z4s Zeq Zep]
 refine Z9 rfl fun T hT' hA => ?_
 have a0 := hA 0 _ rfl
 have a1 := hA 1 _ rfl
 have hT : T.length = 6 := hT'
 clear hA hT'
 obtain ⟨H, n, p, jr, j⟩ := s
 simp -implicitDefEqProofs only [go_sem, a0, a1, hT, Try.results117]
structure Chk' where
 f : FuncId
 c : List AV
 e : Int
 J : Delta -> Delta
def Chk'.av (x : Chk') : AV := .func x.f x.c
def firstJ : List Chk' -> Delta -> Delta
 | [], j => j
 | x :: r, j => if x.e = 0 then firstJ r (x.J j) else x.J j
theorem Z6y (cs : List Chk') (K : Nat) (H : Heap) (n : Nat) (p : Nm) (jr : Bool) (j : Delta) (hc : ∀ x ∈ cs, ∀ j, acall cfg K x.f x.c ⟨H, n, p, jr, j⟩ = .ret (.int .i64 x.e, ⟨H, n, p, jr, x.J j⟩))
  (hl : cs.length < K) (hl2 : cs.length <= 9223372036854775807) :
  acall cfg (K + 1) 111 [.lst (cs.map Chk'.av)] ⟨H, n, p, jr, j⟩ = .ret (.int .i64 (firstE Chk'.e cs), ⟨H, n, p, jr, firstJ cs j⟩) := by
 suffices h : (acall cfg (K + 1) 111 [.lst (cs.map Chk'.av)] ⟨H, n, p, jr, j⟩).Does fun x => x = (.int .i64 (firstE Chk'.e cs), ⟨H, n, p, jr, firstJ cs j⟩) by
  obtain ⟨a, e, rfl⟩ := h; exact e
 rw [Z4s Zee Zed]
 refine Z9 rfl fun T hT' hA => ?_
 have a0 := hA 0 _ rfl
 have hT : T.length = 18 := hT'
 clear hA hT'
 simp -implicitDefEqProofs only [go_sem, a0, hT]
 simp only [Z4]
 refine Zm (fun k T s' => T.length = 18 /\ nth T 6 = some (.lst (cs.map Chk'.av)) /\ nth T 7 = some (.int .i64 cs.length) /\ ∃ (i : Nat) (j2 : Delta), nth T 8 = some (.int .i64 i) /\ i <= cs.length /\ k = cs.length - i /\ s' = ⟨H, n, p, jr, j2⟩ /\ firstE Chk'.e cs = firstE Chk'.e (cs.drop i) /\ firstJ cs j = firstJ (cs.drop i) j2) (k := cs.length) (by omega) ?_ ?_
 ·exact ⟨by simp -implicitDefEqProofs only [go_sem, hT], by simp -implicitDefEqProofs only [go_sem, hT], by simp -implicitDefEqProofs only [go_sem, hT], 0, j, by simp -implicitDefEqProofs only [go_sem, hT] <;> rfl, by omega, rfl, rfl, rfl, rfl⟩
 clear a0 hT T
 rintro k T s' ⟨hT, a6, a7, i, j2, a8, hi, rfl, rfl, he, hj⟩
 simp -implicitDefEqProofs only [go_sem, a7, a8, hT]
 by_cases hil : (i : Int) < (cs.length : Int)
 ·have hi' : i < cs.length := by omega
  have e1 := Zg (f := Chk'.av) (l := cs) (i := i) (z := 1) hi' rfl
  have hkk : cs.length - (i + 1) < cs.length - i := by omega
  have hc1 := hc _ (List.getElem_mem hi')
  rw [List.drop_eq_getElem_cons hi'] at he hj
  have hw1 : wrapF .i64 ((i : Int) + 1) = ((i + 1 : Nat) : Int) := Z8 (by omega) (by omega)
  generalize cs[i] = x at *
  simp only [firstE] at he
  simp only [firstJ] at hj
  simp only [Chk'.av] at e1
  by_cases c1 : x.e = 0
  ·rw [if_pos c1] at he hj
   simp -implicitDefEqProofs only [go_sem, a6, a7, a8, hT, hil, e1, hc1, c1, hw1]
   exact ⟨cs.length - (i + 1), hkk, trivial, trivial, trivial, i + 1, _, rfl, hi', rfl, rfl, he, hj⟩
  ·rw [if_neg c1] at he hj
   simp -implicitDefEqProofs only [go_sem, a6, a8, hT, hil, e1, hc1, c1, he, hj, Try.results111]
 ·have hie : i = cs.length := by omega
  subst hie
  rw [List.drop_length] at he hj
  simp only [firstE] at he
  simp only [firstJ] at hj
  simp -implicitDefEqProofs only [go_sem, hT, hil, he, hj, Try.results111]
end Go.Proofs.Ytgnpnfkncbnjnaa
namespace Go.Am
open Go
theorem Zaw {C : Cfg} {t kt vt : TypeId} (hd : C.desc t = some (.map kt vt)) {m : Nm} {es : List (AV × AV)} {fz : Bool} {s : St} (hm : hget s.H m = some (.map es fz)) :
  rangeA C t (.map m) s = .ret (.ptr (s.put m (.map es true)).name 0, (s.put m (.map es true)).new (.mapIter m es none)) := by
 unfold rangeA
 rw [hd]
 simp only [Zb, Yf, hm, Tr.bind_ret, Y5, Z0o, Yw]
theorem Zck {r m : Nm} {es left : List (AV × AV)} {cur : Option (AV × AV)} {s : St} {Q : AV × St -> Prop} (hr : hget s.H r = some (.mapIter m left cur)) (hm : hget s.H m = some (.map es true))
  (h0 : left = [] -> Q (.tuple [.bool false], s)) (h1 : ∀ (i : Nat) (h : i < left.length), Q (.tuple [.bool true, left[i].1, left[i].2], s.put r (.mapIter m (dropAt left i) (some left[i])))) :
  (nextA (.ptr r 0) false s).All Q := by
 unfold nextA
 simp only [Zb, Yf, hr, hm, Tr.bind_ret]
 match left, h0, h1, hr with
 | [], h0, _, _ => exact h0 rfl
 | [e], _, h1, hr =>
  simp only [Zb, Y5, hr, Tr.bind_ret, Yw]
  exact h1 0 (by simp)
 | x :: y :: l, _, h1, hr =>
  show ((askM (x :: y :: l).length s).bind _).All Q
  intro i hi
  show Tr.All Q ((match nth (x :: y :: l) i with
    | some e => (putM r (.mapIter m (dropAt (x :: y :: l) i) (some e))).bind fun _ => M.ret (AV.tuple [.bool true, e.1, e.2])
    | none => M.fail) s)
  rw [Zo, List.getElem?_eq_getElem hi]
  simp only [Zb, Y5, hr, Tr.bind_ret, Yw]
  exact h1 i hi
theorem Zft {r m : Nm} {es left : List (AV × AV)} {e : AV × AV} {s : St} (hr : hget s.H r = some (.mapIter m left (some e))) (hm : hget s.H m = some (.map es true)) :
  entryA (.ptr r 0) s = .ret (.tuple [e.1, e.2], s) := by
 unfold entryA
 simp only [Zb, Yf, hr, hm, Tr.bind_ret, Yw]
theorem Z7z {α : Type} : ∀ (l : List α) (i : Nat) (h : i < l.length) (x : α), x ∈ l ↔ x = l[i] \/ x ∈ dropAt l i
 | a :: r, 0, h, x => by simp [dropAt]
 | a :: r, i + 1, h, x => by
  simp only [dropAt, List.mem_cons, List.getElem_cons_succ]
  rw [Z7z r i (by simpa using h) x]
  constructor
  ·rintro (h | h | h)
   ·exact .inr (.inl h)
   ·exact .inl h
   ·exact .inr (.inr h)
  ·rintro (h | h | h)
   ·exact .inr (.inl h)
   ·exact .inl h
   ·exact .inr (.inr h)
theorem Z80 {α : Type} : ∀ (l : List α) (i : Nat), i < l.length -> (dropAt l i).length = l.length - 1
 | a :: r, 0, h => by simp [dropAt]
 | a :: r, i + 1, h => by
  simp only [dropAt, List.length_cons]
  rw [Z80 r i (by simpa using h)]
  simp at h; omega
theorem Z81 {α β : Type} (f : α -> β) : ∀ (l : List α) (i : Nat), dropAt (l.map f) i = (dropAt l i).map f
 | [], 0 => rfl
 | [], _ + 1 => rfl
 | a :: r, 0 => rfl
 | a :: r, i + 1 => by simp only [List.map_cons, dropAt, Z81 f r i]
end Go.Am
namespace Go.Proofs.Ytgnpnfkncbnjnaa
open Go Go.Am
def keysIn (P : Int -> Prop) (es : List (Int × Rg)) : Prop := ∀ e ∈ es, P e.1
def KeyND : List (Int × Rg) -> Prop
 | [] => True
 | e :: r => (∀ x ∈ r, x.1 ≠ e.1) /\ KeyND r
theorem Z10 {P : Int -> Prop} {k : Int} {x : Rg} (hk : P k) : ∀ {es : List (Int × Rg)}, keysIn P es -> keysIn P (setS es k x)
 | [], _ => fun e he => by
  simp only [setS, List.mem_singleton] at he
  subst he; exact hk
 | a :: r, h => fun e he => by
  unfold setS at he
  split at he
  ·rcases List.mem_cons.1 he with rfl | he
   ·exact hk
   ·exact h e (List.mem_cons_of_mem _ he)
  ·rcases List.mem_cons.1 he with rfl | he
   ·exact h _ List.mem_cons_self
   ·exact Z10 hk (fun e he => h e (List.mem_cons_of_mem _ he)) e he
theorem Z82 {k : Int} {x : Rg} : ∀ {es : List (Int × Rg)}, KeyND es -> KeyND (setS es k x)
 | [], _ => ⟨fun _ h => (by cases h), trivial⟩
 | a :: r, h => by
  unfold setS
  split
  ·rename_i hk
   refine ⟨fun y hy => ?_, h.2⟩
   show y.1 ≠ k
   rw [hk]; exact h.1 y hy
  ·rename_i hk
   refine ⟨?_, Z82 h.2⟩
   exact Z10 (P := fun q => q ≠ a.1) hk h.1
theorem Zax : ∀ {es : List (Int × Rg)}, KeyND es -> ∀ e ∈ es, getS es e.1 = e.2
 | [], _, _, h => by cases h
 | a :: r, hn, e, h => by
  unfold getS
  rcases List.mem_cons.1 h with rfl | h
  ·rw [if_pos rfl]
  ·rw [if_neg (hn.1 e h)]
   exact Zax hn.2 e h
theorem Zay : ∀ (es : List (Int × Rg)) (k : Int), (k, getS es k) ∈ es \/ getS es k = ⟨0, 0⟩
 | [], _ => .inr rfl
 | a :: r, k => by
  unfold getS
  split
  ·rename_i h; subst h; exact .inl List.mem_cons_self
  ·rcases Zay r k with h | h
   ·exact .inl (List.mem_cons_of_mem _ h)
   ·exact .inr h
theorem Z2x {P : Int -> Prop} (shut : List Int) : ∀ (l : List Pip) (i : Nat) (es : List (Int × Rg)), (∀ p ∈ l, P p.a /\ P p.b) -> keysIn P es -> KeyND es -> keysIn P (leaveP shut i es l) /\ KeyND (leaveP shut i es l)
 | [], _, _, _, h1, h2 => ⟨h1, h2⟩
 | p :: r, i, es, h, h1, h2 => by
  unfold leaveP
  have hp := h p List.mem_cons_self
  have hr := fun q hq => h q (List.mem_cons_of_mem _ hq)
  split
  ·exact Z2x shut r _ _ hr h1 h2
  ·exact Z2x shut r _ _ hr (Z10 hp.2 (Z10 hp.1 h1)) (Z82 (Z82 h2))
theorem Z5u {P : Int -> Prop} : ∀ (l : List Pmp) (es : List (Int × Rg)), (∀ q ∈ l, P q.at') -> keysIn P es -> KeyND es -> keysIn P (leaveM es l) /\ KeyND (leaveM es l)
 | [], _, _, h1, h2 => ⟨h1, h2⟩
 | q :: r, es, h, h1, h2 => by
  unfold leaveM
  exact Z5u r _ (fun x hx => h x (List.mem_cons_of_mem _ hx)) (Z10 (h q List.mem_cons_self) h1) (Z82 h2)
theorem Yj {α : Type} {f : α -> Int} : ∀ {l : List α}, firstE f l = 0 -> ∀ a ∈ l, f a = 0
 | [], _, _, h => by cases h
 | x :: r, he, a, h => by
  unfold firstE at he
  split at he
  ·rename_i hx
   rcases List.mem_cons.1 h with rfl | h
   ·exact hx
   ·exact Yj he a h
  ·contradiction
theorem Z6z {n a most : Int} {r : Rg} (h : atE n a r most = 0) : 0 <= a /\ a < n := by
 unfold atE at h
 split at h
 ·rename_i hc; unfold fromB at hc; simp only [decide_eq_true_eq] at hc; omega
 ·exact absurd h (by decide)
theorem Z4v {n : Int} {p : Pip} (h : pipE n p = 0) : (0 <= p.a /\ p.a < n) /\ (0 <= p.b /\ p.b < n) /\ p.a ≠ p.b /\ spansE p.out 1000000 = 0 /\ spansE p.back 1000000 = 0 := by
 unfold pipE at h
 split at h
 ·rename_i hc
  unfold fromB at hc; simp only [decide_eq_true_eq] at hc
  split at h
  ·exact absurd h (by decide)
  ·rename_i hne
   split at h
   ·rename_i h0; exact ⟨⟨by omega, by omega⟩, ⟨by omega, by omega⟩, hne, h0, h⟩
   ·contradiction
 ·exact absurd h (by decide)
theorem Zcl (v : Vac) (shut : List Int) (h : partsE v = 0) : keysIn (fun k => 0 <= k /\ k < v.vessels.length) (leaveL v shut) /\ KeyND (leaveL v shut) := by
 unfold partsE at h
 split at h
 ·rename_i h1
  split at h
  ·rename_i h2
   have a := Z2x (P := fun k => 0 <= k /\ k < (v.vessels.length : Int)) shut v.pipes 0 [] (fun p hp => ⟨(Z4v (Yj h1 p hp)).1, (Z4v (Yj h1 p hp)).2.1⟩) (fun _ h => by cases h) trivial
   exact Z5u v.pumps _ (fun q hq => Z6z (Yj h2 q hq)) a.1 a.2
  ·contradiction
 ·contradiction
theorem Z4w (k : Int) (x : Rg) : ∀ es : List (Int × Rg), (setS es k x).length <= es.length + 1
 | [] => by simp [setS]
 | a :: r => by
  unfold setS
  split
  ·simp
  ·simp only [List.length_cons]; have := Z4w k x r; omega
theorem Z1e (shut : List Int) : ∀ (l : List Pip) (i : Nat) (es : List (Int × Rg)), (leaveP shut i es l).length <= es.length + 2 * l.length
 | [], _, es => by simp [leaveP]
 | p :: r, i, es => by
  unfold leaveP
  split
  ·have := Z1e shut r (i + 1) es; simp only [List.length_cons]; omega
  ·refine Nat.le_trans (Z1e shut r _ _) ?_
   have h1 := Z4w p.a (plusR (getS es p.a) p.out) es
   have h2 := Z4w p.b (plusR (getS (setS es p.a (plusR (getS es p.a) p.out)) p.b) p.back) (setS es p.a (plusR (getS es p.a) p.out))
   simp only [List.length_cons]; omega
theorem Z40 : ∀ (l : List Pmp) (es : List (Int × Rg)), (leaveM es l).length <= es.length + l.length
 | [], es => by simp [leaveM]
 | q :: r, es => by
  unfold leaveM
  refine Nat.le_trans (Z40 r _) ?_
  have h1 := Z4w q.at' (plusR (getS es q.at') q.part) es
  simp only [List.length_cons]; omega
theorem Zaz (v : Vac) (shut : List Int) : (leaveL v shut).length <= 2 * v.pipes.length + v.pumps.length := by
 unfold leaveL
 refine Nat.le_trans (Z40 _ _) ?_
 have := Z1e shut v.pipes 0 []
 simp only [List.length_nil] at this
 omega
theorem Z4x (v : Vac) : ∀ (k i : Nat), outB v i k = true ↔ ∃ m, i <= m /\ m < i + k /\ 1000000 < (outR v m []).hi
 | 0, i => by
  constructor
  ·intro h; cases h
  ·rintro ⟨m, h1, h2, _⟩; omega
 | k + 1, i => by
  unfold outB
  rw [Bool.or_eq_true, decide_eq_true_eq, Z4x v k (i + 1)]
  constructor
  ·rintro (h | ⟨m, h1, h2, h3⟩)
   ·exact ⟨i, by omega, by omega, h⟩
   ·exact ⟨m, by omega, by omega, h3⟩
  ·rintro ⟨m, h1, h2, h3⟩
   by_cases h : m = i
   ·subst h; exact .inl h3
   ·exact .inr ⟨m, by omega, by omega, h3⟩
theorem Zcm (v : Vac) (h : partsE v = 0) (e : Int × Rg) (he : e ∈ leaveL v []) (hi : 1000000 < e.2.hi) : outB v 0 v.vessels.length = true := by
 obtain ⟨h1, h2⟩ := Zcl v [] h
 rw [Z4x]
 have hk := h1 e he
 refine ⟨e.1.toNat, by omega, by omega, ?_⟩
 rw [show ((e.1.toNat : Nat) : Int) = e.1 by omega, <- Z2w, Zax h2 e he]
 exact hi
theorem Zb0 (v : Vac) (h : ∀ e ∈ leaveL v [], ¬ 1000000 < e.2.hi) : ¬ outB v 0 v.vessels.length = true := by
 rw [Z4x]
 rintro ⟨m, _, _, hm⟩
 rw [<- Z2w] at hm
 rcases Zay (leaveL v []) m with h1 | h1
 ·exact h _ h1 hm
 ·rw [h1] at hm; exact absurd hm (by decide)
end Go.Proofs.Ytgnpnfkncbnjnaa
namespace Go.Proofs.Ytgnpnfkncbnjnaa
attribute [local go_sem_proc] Int.reduceEq Int.reduceNeg Nat.reduceEqDiff Nat.reduceLT Nat.reduceAdd Nat.reduceSub Nat.reduceMul Int.reduceLE Int.reduceLT Int.reduceToNat Nat.reduceLeDiff
attribute [local go_sem] Int.toNat_natCast Bool.not_true Bool.not_false
open Go Go.Am
attribute [local congr] Z7 Z5 Z6
attribute [local go_sem] Go.Am.buildSliceA Go.Am.frozen Go.Am.freezeG Go.Am.freezeGs
def max3 (a b c : Int) : Int := if (if a < b then b else a) < c then c else if a < b then b else a
theorem mm3 (a b c : Int) : minmax true (.int .i64 a) [.int .i64 b, .int .i64 c] = some (.int .i64 (max3 a b c)) := by
 unfold max3
 by_cases h : a < b
 ·rw [if_pos h]
  by_cases h2 : b < c
  ·rw [if_pos h2]; simp [minmax, h, h2]
  ·rw [if_neg h2]; simp [minmax, h, h2]
 ·rw [if_neg h]
  by_cases h2 : a < c
  ·rw [if_pos h2]; simp [minmax, h, h2]
  ·rw [if_neg h2]; simp [minmax, h, h2]
theorem Zb1 (a b c : Int) : (decide (8 < a) || decide (8 < b) || decide (8 < c)) = decide (8 < max3 a b c) := by
 rw [Bool.eq_iff_iff]; simp only [Bool.or_eq_true, decide_eq_true_eq]
 unfold max3
 split <;> split <;> omega
theorem Z8y (v : Vac) (K : Nat) (s : St) (hK : 50 < K) (hv : v.Lens K) : acall cfg (K + 9) 49 [vacV v] s = .ret (.int .i64 (checkE v), s) := by
 refine Z5o Zh4 Zh3 (by first | rfl | simp -implicitDefEqProofs only [redoH, redo1, go_sem]) (by first | rfl | simp -implicitDefEqProofs only [go_sem]) (by first | rfl | simp -implicitDefEqProofs only [redoH, redo1, go_sem]) ?_
 refine Zc4 rfl fun T hT' hA => ?_
 have a0 := hA 0 _ rfl
 have hT : T.length = 77 := hT'
 clear hA hT'
 have hlc := fun s => Z1o v [] (K + 5) s ⟨⟨by have := hv.ves.1; omega, hv.ves.2⟩, ⟨by have := hv.pip.1; omega, hv.pip.2⟩, ⟨by have := hv.pmp.1; omega, hv.pmp.2⟩, ⟨by have := hv.inl.1; omega, hv.inl.2⟩, ⟨by have := hv.gtr.1; omega, hv.gtr.2⟩, hv.bands⟩ (by simp) (by simp)
 obtain ⟨⟨hv1, hv2⟩, ⟨hp1, hp2⟩, ⟨hm1, hm2⟩, ⟨hi1, hi2⟩, ⟨hg1, hg2⟩, hbd⟩ := hv
 simp only [vacV, List.map_nil] at hlc
 have q1 : (8 : Int) < (v.vessels.length : Int) ↔ 8 < v.vessels.length := by omega
 have q2 : (16 : Int) < (v.pipes.length : Int) ↔ 16 < v.pipes.length := by omega
 have q3 : (8 : Int) < (v.pumps.length : Int) ↔ 8 < v.pumps.length := by omega
 have q4 : (8 : Int) < (v.leaks.length : Int) ↔ 8 < v.leaks.length := by omega
 have q5 : (8 : Int) < (v.getters.length : Int) ↔ 8 < v.getters.length := by omega
 unfold checkE
 simp -implicitDefEqProofs only [go_sem, a0, hT]
 by_cases c1 : v.vessels.length = 0
 ·have c1' : (v.vessels.length : Int) = 0 := by omega
  rw [if_pos c1]
  simp -implicitDefEqProofs only [go_sem, hT, c1', Try.results49]
 ·have c1' : ¬ (v.vessels.length : Int) = 0 := by omega
  rw [if_neg c1]
  simp -implicitDefEqProofs only [go_sem, hT, c1']
  have hov : overB v = (decide ((8 : Int) < (v.vessels.length : Int)) || decide ((16 : Int) < (v.pipes.length : Int)) || decide ((8 : Int) < (v.pumps.length : Int)) || decide ((8 : Int) < (v.leaks.length : Int)) || decide ((8 : Int) < (v.getters.length : Int))) := by
   unfold overB
   simp only [q1, q2, q3, q4, q5]
  rw [hov]
  by_cases o1 : (8 : Int) < (v.vessels.length : Int)
  ·simp -implicitDefEqProofs only [go_sem, hT, o1, Bool.true_or, Try.results49]
  ·by_cases o2 : (16 : Int) < (v.pipes.length : Int)
   ·simp -implicitDefEqProofs only [go_sem, hT, o1, o2, Bool.true_or, Bool.or_true, Try.results49]
   ·rw [show ((decide ((8 : Int) < (v.vessels.length : Int)) || decide ((16 : Int) < (v.pipes.length : Int)) || decide ((8 : Int) < (v.pumps.length : Int)) || decide ((8 : Int) < (v.leaks.length : Int)) || decide ((8 : Int) < (v.getters.length : Int)))) = decide (8 < max3 v.pumps.length v.leaks.length v.getters.length) by rw [<- Zb1, decide_eq_false o1, decide_eq_false o2]; rfl]
    simp -implicitDefEqProofs only [go_sem, hT, o1, o2, mm3]
    by_cases o3 : 8 < max3 v.pumps.length v.leaks.length v.getters.length
    ·simp -implicitDefEqProofs only [go_sem, hT, o3, Try.results49]
    ·clear q1 q2 q3 q4 q5 hov
     simp -implicitDefEqProofs only [go_sem, hT, o3, Bool.false_eq_true, if_false]
     have hne1 : (0 : Int) <= v.vessels.length := by omega
     have hN : (v.vessels.length : Int) <= 9223372036854775807 := by omega
     let cs : List Chk' := [⟨153, [.ptr [3, 2, 0] 0, .ptr [3, 2, 1] 0], firstE vesE v.vessels, backJ true [[3, 2, 0], [3, 2, 1]] [.cells [.lst (v.vessels.map vesV)] true 0, .cells [.func 113 []] true 0]⟩,
      ⟨154, [.ptr [3, 6, 0] 0, .ptr [3, 6, 1] 0], firstE (pipE v.vessels.length) v.pipes, backJ true [[3, 6, 0], [3, 6, 1], [1]] [.cells [.lst (v.pipes.map pipV)] true 0, .cells [.func 107 [.ptr [1] 0]] true 0, .cells [.int .i64 v.vessels.length] true 0]⟩,
      ⟨155, [.ptr [3, 10, 0] 0, .ptr [3, 10, 1] 0], firstE (fun q : Pmp => atE v.vessels.length q.at' q.part 1000000) v.pumps, backJ true [[3, 10, 0], [3, 10, 1], [2], [1]] [.cells [.lst (v.pumps.map pmpV)] true 0, .cells [.func 108 [.ptr [2] 0]] true 0, .cells [.func 104 [.ptr [1] 0]] true 0, .cells [.int .i64 v.vessels.length] true 0]⟩,
      ⟨156, [.ptr [3, 14, 0] 0, .ptr [3, 14, 1] 0], firstE (fun l : Inl => atE v.vessels.length l.at' l.gas 100000) v.leaks, backJ true [[3, 14, 0], [3, 14, 1], [2], [1]] [.cells [.lst (v.leaks.map inlV)] true 0, .cells [.func 109 [.ptr [2] 0]] true 0, .cells [.func 104 [.ptr [1] 0]] true 0, .cells [.int .i64 v.vessels.length] true 0]⟩,
      ⟨157, [.ptr [3, 18, 0] 0, .ptr [3, 18, 1] 0], firstE (getE v.vessels.length) v.getters, backJ true [[3, 18, 0], [3, 18, 1], [2], [1]] [.cells [.lst (v.getters.map gtrV)] true 0, .cells [.func 110 [.ptr [2] 0]] true 0, .cells [.func 104 [.ptr [1] 0]] true 0, .cells [.int .i64 v.vessels.length] true 0]⟩]
     have hfc : ∀ H n p, hget H [1] = some (.cells [.int .i64 v.vessels.length] true 0) -> hget H [2] = some (.cells [.func 104 [.ptr [1] 0]] true 0) -> hget H [3, 2, 0] = some (.cells [.lst (v.vessels.map vesV)] true 0) -> hget H [3, 2, 1] = some (.cells [.func 113 []] true 0) ->
       hget H [3, 6, 0] = some (.cells [.lst (v.pipes.map pipV)] true 0) -> hget H [3, 6, 1] = some (.cells [.func 107 [.ptr [1] 0]] true 0) -> hget H [3, 10, 0] = some (.cells [.lst (v.pumps.map pmpV)] true 0) -> hget H [3, 10, 1] = some (.cells [.func 108 [.ptr [2] 0]] true 0) ->
       hget H [3, 14, 0] = some (.cells [.lst (v.leaks.map inlV)] true 0) -> hget H [3, 14, 1] = some (.cells [.func 109 [.ptr [2] 0]] true 0) -> hget H [3, 18, 0] = some (.cells [.lst (v.getters.map gtrV)] true 0) -> hget H [3, 18, 1] = some (.cells [.func 110 [.ptr [2] 0]] true 0) ->
       acall cfg (K + 8) 111 [.lst (cs.map Chk'.av)] ⟨H, n, p, true, []⟩ = .ret (.int .i64 (firstE Chk'.e cs), ⟨H, n, p, true, firstJ cs []⟩) := by
      intro H n p k1 k2 v0 v1 p0 p1 m0 m1 i0 i1 q0 q1
      refine Z6y cs (K + 7) H n p true [] (fun x hx j => ?_) (show 5 < K + 7 by omega) (show 5 <= 9223372036854775807 by decide)
      rcases List.mem_cons.1 hx with rfl | hx
      ·exact Zca v.vessels [3, 2, 0] [3, 2, 1] (by decide) (K + 3) H n p true j v0 v1 (by omega) (by omega) (by omega) hbd
      rcases List.mem_cons.1 hx with rfl | hx
      ·exact Zcb v.pipes v.vessels.length [3, 6, 0] [3, 6, 1] [1] (by decide) (by decide) (by decide) (K + 3) H n p true j p0 p1 k1 hne1 hN (by omega) (by omega) (by omega)
      rcases List.mem_cons.1 hx with rfl | hx
      ·exact Zcc v.pumps v.vessels.length [3, 10, 0] [3, 10, 1] [2] [1] (by decide) (by decide) (by decide) (by decide) (by decide) (by decide) (K + 3) H n p true j m0 m1 k2 k1 hne1 hN (by omega) (by omega) (by omega)
      rcases List.mem_cons.1 hx with rfl | hx
      ·exact Zcd v.leaks v.vessels.length [3, 14, 0] [3, 14, 1] [2] [1] (by decide) (by decide) (by decide) (by decide) (by decide) (by decide) (K + 3) H n p true j i0 i1 k2 k1 hne1 hN (by omega) (by omega) (by omega)
      rcases List.mem_cons.1 hx with rfl | hx
      ·exact Zce v.getters v.vessels.length [3, 18, 0] [3, 18, 1] [2] [1] (by decide) (by decide) (by decide) (by decide) (by decide) (by decide) (K + 3) H n p true j q0 q1 k2 k1 hne1 hN (by omega) (by omega) (by omega)
      cases hx
     have hE : firstE Chk'.e cs = if firstE vesE v.vessels = 0 then partsE v else firstE vesE v.vessels := by
      simp only [cs, firstE, partsE]
      split
      ·split
       ·split
        ·split
         ·split
          ·rename_i h; exact h.symm
          ·rfl
         ·rfl
        ·rfl
       ·rfl
      ·rfl
     have hJ : firstE Chk'.e cs = 0 -> firstJ cs [] = backJ true [[3, 18, 0], [3, 18, 1], [2], [1]] [.cells [.lst (v.getters.map gtrV)] true 0, .cells [.func 110 [.ptr [2] 0]] true 0, .cells [.func 104 [.ptr [1] 0]] true 0, .cells [.int .i64 v.vessels.length] true 0]
       (backJ true [[3, 14, 0], [3, 14, 1], [2], [1]] [.cells [.lst (v.leaks.map inlV)] true 0, .cells [.func 109 [.ptr [2] 0]] true 0, .cells [.func 104 [.ptr [1] 0]] true 0, .cells [.int .i64 v.vessels.length] true 0]
       (backJ true [[3, 10, 0], [3, 10, 1], [2], [1]] [.cells [.lst (v.pumps.map pmpV)] true 0, .cells [.func 108 [.ptr [2] 0]] true 0, .cells [.func 104 [.ptr [1] 0]] true 0, .cells [.int .i64 v.vessels.length] true 0]
       (backJ true [[3, 6, 0], [3, 6, 1], [1]] [.cells [.lst (v.pipes.map pipV)] true 0, .cells [.func 107 [.ptr [1] 0]] true 0, .cells [.int .i64 v.vessels.length] true 0]
       (backJ true [[3, 2, 0], [3, 2, 1]] [.cells [.lst (v.vessels.map vesV)] true 0, .cells [.func 113 []] true 0] [])))) := by
      simp only [cs, firstE, firstJ]
      intro h
      split at h
      ·rename_i h1; rw [if_pos h1]
       split at h
       ·rename_i h1; rw [if_pos h1]
        split at h
        ·rename_i h1; rw [if_pos h1]
         split at h
         ·rename_i h1; rw [if_pos h1]
          split at h
          ·rename_i h1; rw [if_pos h1]
          ·contradiction
         ·contradiction
        ·contradiction
       ·contradiction
      ·contradiction
     generalize firstE Chk'.e cs = E0 at *
     generalize firstJ cs [] = J0 at *
     simp only [cs, List.map_cons, List.map_nil, Chk'.av] at hfc
     clear_value cs
     simp only [Tr.all_bind]
     refine Tr.Does.all ?_
     refine Z8s [[], [0], [1, 0], [], [3], [], [4, 3, 5, 2, 1, 0], [], [7], [], [8, 7, 9, 6, 4, 3, 5, 2, 1, 0], [], [11], [], [12, 11, 13, 10, 8, 7, 9, 6, 4, 3, 5, 2, 1, 0], [], [15], [], [16, 15, 17, 14, 12, 11, 13, 10, 8, 7, 9, 6, 4, 3, 5, 2, 1, 0], [18, 16, 15, 17, 14, 12, 11, 13, 10, 8, 7, 9, 6, 4, 3, 5, 2, 1, 0], [19, 18, 16, 15, 17, 14, 12, 11, 13, 10, 8, 7, 9, 6, 4, 3, 5, 2, 1, 0], [20, 19, 18, 16, 15, 17, 14, 12, 11, 13, 10, 8, 7, 9, 6, 4, 3, 5, 2, 1, 0]] [20] (by kernel_rfl) (by kernel_rfl) ?_
     simp -implicitDefEqProofs only [redoH, redo1, go_sem, hT, Zcf, Zcg, Zch, Zci, Zcj, hfc]
     by_cases e0 : E0 = 0
     ·have hF : firstE vesE v.vessels = 0 /\ partsE v = 0 := by
       rw [e0] at hE
       split at hE
       ·rename_i h; exact ⟨h, hE.symm⟩
       ·rename_i h; exact absurd hE.symm h
      rw [if_pos hF.1, if_pos hF.2]
      rw [hJ e0]
      have hrg := fun (H : Heap) (n : Nat) (hm : hget H [4] = some (.map (encE (leaveL v [])) false)) => Zaw (C := cfg.at 49) (t := 181) (m := [4]) (s := ⟨H, n, [], false, []⟩) Z6w hm
      have hln := Zaz v []
      have hx3 : v.pumps.length <= 8 := by
       have h := Zb1 v.pumps.length v.leaks.length v.getters.length
       rw [decide_eq_false o3, Bool.or_eq_false_iff, Bool.or_eq_false_iff] at h
       have := h.1.1
       simp only [decide_eq_false_iff_not] at this
       omega
      have hx2 : v.pipes.length <= 16 := by omega
      clear hfc hJ hE
      generalize hes : leaveL v [] = es at *
      simp -implicitDefEqProofs only [redoH, redo1, go_sem, hT, e0, backJ, hlc, hrg]
      simp only [Tr.all_bind]
      refine Zgo (fun k T s' => T.length = 77 /\ nth T 69 = some (.ptr [5] 0) /\ ∃ (left : List (Int × Rg)) (cur : Option (AV × AV)) (n : Nat) (H : Heap), k = left.length /\ s' = ⟨H, n + 6, [], false, []⟩ /\ hget H [5] = some (.mapIter [4] (encE left) cur) /\ hget H [4] = some (.map (encE es) true) /\
       (∀ e ∈ es, e ∈ left \/ ¬ 1000000 < e.2.hi) /\ (∀ e ∈ left, e ∈ es)) (k := es.length) (by omega) ?_ ?_
      ·exact ⟨by simp -implicitDefEqProofs only [go_sem, hT], by simp -implicitDefEqProofs only [go_sem, hT], es, none, 0, _, rfl, rfl, rfl, rfl, fun e h => .inl h, fun e h => h⟩
      clear a0 hT T
      rintro k T s' ⟨hT, a69, left, cur, n, H, rfl, rfl, g5, g4, hL, hS⟩
      simp -implicitDefEqProofs only [go_sem, a69]
      simp only [Tr.all_bind]
      refine Zck g5 g4 (fun h0 => ?_) (fun i hi => ?_)
      ·have hn := Zb0 v (fun e he => by
        rw [hes] at he
        rcases hL e he with h | h
        ·have h0' : left = [] := List.map_eq_nil_iff.1 h0
         rw [h0'] at h; cases h
        ·exact h)
       rw [if_neg hn]
       simp -implicitDefEqProofs only [go_sem, hT, Try.results49]
      ·have hi' : i < left.length := by rw [show (encE left).length = left.length from List.length_map _] at hi; exact hi
       have hge : (encE left)[i] = (iV left[i].1, rgV left[i].2) := List.getElem_map _
       have hgd : dropAt (encE left) i = encE (dropAt left i) := Z81 _ left i
       have hdl := Z80 left i hi'
       have hdm := Z7z left i hi'
       have hhit := Zcm v hF.2 left[i] (by rw [hes]; exact hS _ (List.getElem_mem hi'))
       rw [hge, hgd]
       generalize left[i] = e at *
       have u5 : ∀ X, hget (hset H [5] X) [5] = some X := fun X => Zd X g5
       have u4 : ∀ X, hget (hset H [5] X) [4] = some (.map (encE es) true) := fun X => (Z3 H X (by decide)).trans g4
       have w5 : ∀ X Y, hget (([n + 6], Y) :: hset H [5] X) [5] = some X := fun X Y => (Z1 _ _ (Y2 (by omega))).trans (u5 X)
       have w4 : ∀ X Y, hget (([n + 6], Y) :: hset H [5] X) [4] = some (.map (encE es) true) := fun X Y => (Z1 _ _ (Y2 (by omega))).trans (u4 X)
       have hent := Zft (s := ⟨hset H [5] (.mapIter [4] (encE (dropAt left i)) (some (iV e.1, rgV e.2))), n + 6, [], false, []⟩) (u5 _) (u4 _)
       simp only [rgV, iV] at hent
       by_cases ov : 1000000 < e.2.hi
       ·rw [if_pos (hhit ov)]
        simp -implicitDefEqProofs only [go_sem, a69, hT, hent, ov, Try.results49]
       ·simp -implicitDefEqProofs only [go_sem, a69, hT, hent, ov]
        refine ⟨(dropAt left i).length, by omega, trivial, trivial, dropAt left i, _, n + 1, _, rfl, rfl, w5 _ _, w4 _ _, fun x hx => ?_, fun x hx => hS x ((hdm x).2 (.inr hx))⟩
        rcases hL x hx with h | h
        ·rcases (hdm x).1 h with rfl | h
         ·exact .inr ov
         ·exact .inl h
        ·exact .inr h
     ·have hF : (if firstE vesE v.vessels = 0 then if partsE v = 0 then if outB v 0 v.vessels.length = true then 14 else 0 else partsE v else firstE vesE v.vessels) = E0 := by
       rw [hE]
       split
       ·rename_i h
        rw [if_pos h] at hE
        rw [if_neg (by rw [<- hE]; exact e0)]
       ·rfl
      rw [hF]
      simp -implicitDefEqProofs only [go_sem, hT, e0, Try.results49]
end Go.Proofs.Ytgnpnfkncbnjnaa
namespace Go.Am
open Go
section
variable {H : Heap} {X Y : Blk} {a b k c k' c' : Nat}
theorem n11 (h : a ≠ b) : ([a] : Nm) ≠ [b] := fun e => h (by injection e)
theorem n13 : ([a] : Nm) ≠ [b, k, c] := fun e => by injection e with _ e; cases e
theorem n31 : ([a, k, c] : Nm) ≠ [b] := fun e => by injection e with _ e; cases e
theorem n33 (h : a ≠ b) : ([a, k, c] : Nm) ≠ [b, k', c'] := fun e => h (by injection e)
theorem hc11 (h : a ≠ b) : hget (([a], X) :: H) [b] = hget H [b] := Z1 X H (n11 h)
theorem hc13 : hget (([a], X) :: H) [b, k, c] = hget H [b, k, c] := Z1 X H n13
theorem hs11 (h : a ≠ b) : hget (hset H [a] X) [b] = hget H [b] := Z3 H X (n11 h)
theorem hs13 : hget (hset H [a] X) [b, k, c] = hget H [b, k, c] := Z3 H X n13
theorem hd31 : hget (hdel H [a, k, c]) [b] = hget H [b] := Zh H n31
end
theorem hss {H : Heap} {b : Nm} {X Y : Blk} (h : hget H b = some Y) : hget (hset H b X) b = some X := Zd X h
section
variable {x : Option Blk} {r : Delta} {a b k c k' c' : Nat}
theorem lkn (q : Nm) : lkD [] q = none := rfl
theorem Z8z {i q : Nm} (h : i ≠ q) : lkD ((i, x) :: r) q = lkD r q := by show (if i = q then some x else lkD r q) = _; rw [if_neg h]
theorem Zn (i : Nm) : lkD ((i, x) :: r) i = some x := by show (if i = i then some x else lkD r i) = _; rw [if_pos rfl]
theorem lk11 (h : a ≠ b) : lkD (([a], x) :: r) [b] = lkD r [b] := Z8z (n11 h)
theorem lk13 : lkD (([a], x) :: r) [b, k, c] = lkD r [b, k, c] := Z8z n13
theorem lk31 : lkD (([a, k, c], x) :: r) [b] = lkD r [b] := Z8z n31
theorem lk33 (h : a ≠ b) : lkD (([a, k, c], x) :: r) [b, k', c'] = lkD r [b, k', c'] := Z8z (n33 h)
theorem Z2y (h : k ≠ k') : lkD (([a, k, c], x) :: r) [b, k', c'] = lkD r [b, k', c'] := Z8z fun e => h (by injection e with _ e; injection e)
end
def mutV (b : Nm) : Nat -> AV
 | 0 => .nils
 | n + 1 => .slice b 0 (n + 1) (n + 1) false
theorem Zb2 (b : Nm) (n : Nat) : mutV b (n + 1) = .slice b 0 (n + 1) (n + 1) false := rfl
noncomputable def dropRow (n : Nat) (b : Nm) (H : Heap) : Heap := match n with | 0 => H | _ + 1 => hdel H b
def rowJ (n : Nat) (b : Nm) (j : Delta) : Delta := match n with | 0 => j | _ + 1 => (b, none) :: j
theorem Z5v (n : Nat) {b c : Nm} (H : Heap) (h : b ≠ c) : hget (dropRow n b H) c = hget H c := by
 cases n with
 | zero => rfl
 | succ n => exact Zh H h
section
variable {C : Cfg} {sT e : TypeId} {i : TI} {zv : AV}
theorem Z90 (l : List AV) (n : Nat) (h : l.length = n) : readN l 0 n = some l := by
 subst h
 have e := Z4t [] l []
 simpa using e
theorem Z41 (hd : C.desc sT = some (.slice e)) (hi : C.ty.get e = some i) (hz : i.zero = some zv) (hzl : Nat.beq zv.cells.length i.size = true) (h1 : Nat.ble 1 i.size = true) (hb : Nat.ble 1 i.bytes = true)
  {b : Nm} {cs : List AV} {x : AV} {H : Heap} {m n z : Nat} {p : Nm} {jr : Bool} {j : Delta} (hzz : i.size = z) (hx : Nat.beq x.cells.length i.size = true) (hroom : (m + 1) * i.bytes <= 140737488355328) (hcs : cs.length = m * z) (ht : m ≠ 0 -> hget H b = some (.cells cs true z)) :
  appendA C false sT sT (mutV b m) (.lst [x]) ⟨H, n, p, jr, j⟩ = .ret (mutV (p ++ [n]) (m + 1), ⟨(p ++ [n], .cells (cs ++ x.cells) true z) :: dropRow m b H, n + 1, p, jr, match jr with | true => (p ++ [n], some (.cells (cs ++ x.cells) true z)) :: rowJ m b j | false => j⟩) := by
 subst hzz
 unfold appendA
 have hsrc : srcA i zv (.slice e) (.lst [x]) = M.ret (1, x.cells) := by
  show (match okZ i.size [x] with | true => M.ret (([x] : List AV).length, flatA [x]) | false => M.fail) = _
  simp only [okZ, hx, flatA, List.append_nil]; rfl
 rw [hd]; simp only
 rw [hi]; simp only
 rw [hz]; simp only
 rw [hzl]; simp only
 rw [hsrc, Zb, Yw, Tr.bind_ret]
 have hr : roomy m 1 i.bytes = true := by
  unfold roomy
  rw [hb, Nat.ble_eq_true_of_le hroom]
 cases m with
 | zero =>
  have hc0 : cs = [] := by cases cs with | nil => rfl | cons a r => simp at hcs
  subst hc0
  show appendTo i .nils 1 x.cells _ = _
  unfold appendTo
  simp only [hr]
  unfold grow
  rw [Zb, Z0o, Tr.bind_ret]
  cases jr <;> rfl
 | succ m =>
  have hg := ht (by omega)
  show appendTo i (.slice b 0 (m + 1) (m + 1) false) 1 x.cells _ = _
  unfold appendTo
  have ho : oldA cs 0 (m + 1) i.size = some cs := Z90 cs _ hcs
  simp only [Zb, Yf, hg, hr, Tr.bind_ret, ho, Nat.beq_refl, h1, Zc3]
  unfold grow
  rw [Zb, Z0o, Tr.bind_ret]
  cases jr <;> rfl
end
end Go.Am
namespace Go.Am
open Go
structure Bare (cs : List AV) : Prop where
 nm : ∀ op r, namesVs op cs r = r
 rn : ∀ mp, renVs mp cs = some cs
theorem Zcn : Bare [] := ⟨fun _ _ => rfl, fun _ => rfl⟩
theorem Jy (op : Bool) : ∀ (a b : List AV) (r : List Nm), namesVs op (a ++ b) r = namesVs op a (namesVs op b r)
 | [], b, r => rfl
 | x :: a, b, r => by
  show namesV op x (namesVs op (a ++ b) r) = namesV op x (namesVs op a (namesVs op b r))
  rw [Jy op a b r]
theorem Z1p (mp : List (Nm × Nm)) : ∀ (a b a' b' : List AV), renVs mp a = some a' -> renVs mp b = some b' -> renVs mp (a ++ b) = some (a' ++ b')
 | [], b, a', b', h1, h2 => by injection h1 with h1; subst h1; exact h2
 | x :: a, b, a', b', h1, h2 => by
  unfold renVs at h1
  cases hx : renV mp x with
  | none => rw [hx] at h1; cases h1
  | some y =>
   rw [hx] at h1; simp only at h1
   cases ha : renVs mp a with
   | none => rw [ha] at h1; cases h1
   | some a1 =>
    rw [ha] at h1
    injection h1 with h1; subst h1
    show renVs mp (x :: (a ++ b)) = _
    unfold renVs
    rw [hx]; simp only
    rw [Z1p mp a b a1 b' ha h2]; rfl
theorem Bare.append {a b : List AV} (ha : Bare a) (hb : Bare b) : Bare (a ++ b) :=
 ⟨fun op r => by rw [Jy, hb.nm, ha.nm], fun mp => Z1p mp a b a b (ha.rn mp) (hb.rn mp)⟩
theorem Z1q {α : Type} {g : α -> List AV} (h : ∀ a, Bare (g a)) : ∀ l : List α, Bare (l.flatMap g)
 | [] => Zcn
 | a :: l => by rw [List.flatMap_cons]; exact (h a).append (Z1q h l)
section
variable {C : Cfg} {K : Nat}
theorem Z11 {f : FuncId} {fn : Func} {args args' : List AV} {bs : List Nm} {xs xs0 ys' zs' : List Blk} {v' : AV} {H : Heap} {n : Nat} {p : Nm} {jr : Bool} {j : Delta} {s2 s3 : St}
  (hm : C.mode.get f = some 3) (hf : C.fn.get f = some fn)
  (hl : lendM 200 (namesVs false args []) [] [] ⟨H, n, p, jr, j⟩ = .ret ((bs, xs), ⟨H, n, p, jr, j⟩)) (hnd : nodupN bs = true) (hcalm : calm xs = true)
  (hra : renVs (zipN bs (namesFrom [] 0 bs.length)) args = some args') (hrx : renBs (zipN bs (namesFrom [] 0 bs.length)) xs = some xs0)
  (hd : (bodyA (C.at f) (acall C K) (around C K) (K + 1) fn args' ⟨zipB (namesFrom [] 0 bs.length) xs0, bs.length, [], false, []⟩).Does fun x => ∃ ys ns zs, getAll x.2.H (namesFrom [] 0 bs.length) = some ys /\
   reachL x.2.H 200 (namesV true x.1 (namesBs true ys [])) (namesFrom [] 0 bs.length) [] = some (ns, zs) /\ nodupN ns = true /\ renV (zipN ns (bs ++ namesFrom p n zs.length)) x.1 = some v' /\ renBs (zipN ns (bs ++ namesFrom p n zs.length)) ys = some ys' /\ renBs (zipN ns (bs ++ namesFrom p n zs.length)) zs = some zs')
  (hput : putAll bs ys' ⟨H, n, p, jr, j⟩ = .ret ((), s2)) (hnew : newAll zs' s2 = .ret ((), s3)) :
  acall C (K + 1) f args ⟨H, n, p, jr, j⟩ = .ret (v', s3) := by
 obtain ⟨⟨v1, s1⟩, e1, ys, ns, zs, e2, e3, e4, e5, e6, e7⟩ := hd
 simp only at e2 e3 e5
 rw [Y9]
 unfold enterA
 rw [hf]; simp only
 rw [hm]; simp only
 unfold handA
 rw [Zb, hl]
 simp only [Tr.bind_ret, hnd, hcalm, hra, hrx]
 rw [e1]
 have ho : oneR false (.ret (v1, s1)) = some (v1, s1.H) := rfl
 rw [ho]; simp only
 rw [e2]; simp only
 rw [e3]; simp only
 rw [e4]; simp only
 rw [Zb]
 show (Tr.ret ((p, n), (⟨H, n, p, jr, j⟩ : St))).bind _ = _
 rw [Tr.bind_ret]
 simp only [e5, e6, e7]
 rw [Zb, hput, Tr.bind_ret, Zb, hnew, Tr.bind_ret]
 rfl
theorem Jd {H : Heap} {k : Nat} {b : Nm} {r bs : List Nm} {xs : List Blk} {cs : List AV} {w : Bool} {u : Nat} (hm : memNm b bs = false) (hg : hget H b = some (.cells cs w u)) (hb : Bare cs) : reachL H (k + 1) (b :: r) bs xs = reachL H k r (bs ++ [b]) (xs ++ [.cells cs w u]) := by
 rw [Xu, hm]
 simp only [hg]
 show reachL H k (namesVs true cs r) _ _ = _
 rw [hb.nm]
theorem Xj {mp : List (Nm × Nm)} {cs : List AV} {u : Nat} (hb : Bare cs) : renB mp (.cells cs true u) = some (.cells cs true u) := by
 unfold renB; simp only [hb.rn]
theorem Z70 {f : FuncId} {fn : Func} {args : List AV} {n1 n2 n3 : Nat} {c1 c2 c3 tl : List AV} {H : Heap} {n : Nat} {p : Nm} {jr : Bool} {j : Delta}
  (hm : C.mode.get f = some 3) (hf : C.fn.get f = some fn) (hn : namesVs false args [] = []) (hr : renVs [] args = some args) (h1 : Bare c1) (h2 : Bare c2) (h3 : Bare c3) (ht : Bare tl)
  (hd : (bodyA (C.at f) (acall C K) (around C K) (K + 1) fn args s0).Does fun x => ∃ b1 b2 b3, x.1 = .agg (.slice b1 0 n1 n1 false :: .slice b2 0 n2 n2 false :: .slice b3 0 n3 n3 false :: tl) /\ eqb b1 b2 = false /\ eqb b1 b3 = false /\ eqb b2 b1 = false /\ eqb b2 b3 = false /\ eqb b3 b1 = false /\ eqb b3 b2 = false /\
   hget x.2.H b1 = some (.cells c1 true 2) /\ hget x.2.H b2 = some (.cells c2 true 2) /\ hget x.2.H b3 = some (.cells c3 true 2)) :
  acall C (K + 1) f args ⟨H, n, p, jr, j⟩ = .ret (.agg (.slice (p ++ [n]) 0 n1 n1 false :: .slice (p ++ [n + 1]) 0 n2 n2 false :: .slice (p ++ [n + 2]) 0 n3 n3 false :: tl),
   ((St.new ⟨H, n, p, jr, j⟩ (.cells c1 true 2)).new (.cells c2 true 2)).new (.cells c3 true 2)) := by
 refine Z11 (bs := []) (xs := []) (xs0 := []) (ys' := []) (zs' := [.cells c1 true 2, .cells c2 true 2, .cells c3 true 2]) hm hf (by rw [hn]; rfl) rfl rfl hr rfl ?_ rfl rfl
 refine hd.mono ?_
 rintro ⟨v, s⟩ ⟨b1, b2, b3, rfl, n12, n13, n21, n23, n31, n32, g1, g2, g3⟩
 refine ⟨[], [b1, b2, b3], [.cells c1 true 2, .cells c2 true 2, .cells c3 true 2], rfl, ?_, by simp only [nodupN, memNm, n12, n13, n23], ?_, rfl, by simp only [renBs, Xj h1, Xj h2, Xj h3]⟩
 ·show reachL s.H (199 + 1) (b1 :: b2 :: b3 :: namesVs true tl []) [] [] = _
  rw [ht.nm, Jd rfl g1 h1]
  show reachL s.H (198 + 1) [b2, b3] [b1] _ = _
  rw [Jd (by simp only [memNm, n21]) g2 h2]
  show reachL s.H (197 + 1) [b3] [b1, b2] _ = _
  rw [Jd (by simp only [memNm, n31, n32]) g3 h3]
  rfl
 ·show renV [(b1, p ++ [n]), (b2, p ++ [n + 1]), (b3, p ++ [n + 1 + 1])] _ = _
  simp only [renV, renVs, lookN, Ze, n21, n31, n32, ht.rn]
theorem Z71 {f : FuncId} {fn : Func} {args : List AV} {n1 n2 : Nat} {c1 c2 tl : List AV} {H : Heap} {n : Nat} {p : Nm} {jr : Bool} {j : Delta}
  (hm : C.mode.get f = some 3) (hf : C.fn.get f = some fn) (hn : namesVs false args [] = []) (hr : renVs [] args = some args) (h1 : Bare c1) (h2 : Bare c2) (ht : Bare tl)
  (hd : (bodyA (C.at f) (acall C K) (around C K) (K + 1) fn args s0).Does fun x => ∃ b1 b2, x.1 = .agg (.slice b1 0 n1 n1 false :: .slice b2 0 n2 n2 false :: tl) /\ eqb b1 b2 = false /\ eqb b2 b1 = false /\
   hget x.2.H b1 = some (.cells c1 true 2) /\ hget x.2.H b2 = some (.cells c2 true 2)) :
  acall C (K + 1) f args ⟨H, n, p, jr, j⟩ = .ret (.agg (.slice (p ++ [n]) 0 n1 n1 false :: .slice (p ++ [n + 1]) 0 n2 n2 false :: tl),
   (St.new ⟨H, n, p, jr, j⟩ (.cells c1 true 2)).new (.cells c2 true 2)) := by
 refine Z11 (bs := []) (xs := []) (xs0 := []) (ys' := []) (zs' := [.cells c1 true 2, .cells c2 true 2]) hm hf (by rw [hn]; rfl) rfl rfl hr rfl ?_ rfl rfl
 refine hd.mono ?_
 rintro ⟨v, s⟩ ⟨b1, b2, rfl, n12, n21, g1, g2⟩
 refine ⟨[], [b1, b2], [.cells c1 true 2, .cells c2 true 2], rfl, ?_, by simp only [nodupN, memNm, n12], ?_, rfl, by simp only [renBs, Xj h1, Xj h2]⟩
 ·show reachL s.H (199 + 1) (b1 :: b2 :: namesVs true tl []) [] [] = _
  rw [ht.nm, Jd rfl g1 h1]
  show reachL s.H (198 + 1) [b2] [b1] _ = _
  rw [Jd (by simp only [memNm, n21]) g2 h2]
  rfl
 ·show renV [(b1, p ++ [n]), (b2, p ++ [n + 1])] _ = _
  simp only [renV, renVs, lookN, Ze, n21, ht.rn]
end
end Go.Am
namespace Go.Am
open Go
theorem Zco (x : Int) : wrapF .i64 x % 18446744073709551616 = x % 18446744073709551616 := by
 show wrapS 18446744073709551616 9223372036854775808 x % _ = _
 unfold wrapS
 split <;> omega
theorem Z91 {x y : Int} (h : x % 18446744073709551616 = y % 18446744073709551616) : wrapF .i64 x = wrapF .i64 y := by
 show wrapS 18446744073709551616 9223372036854775808 x = wrapS 18446744073709551616 9223372036854775808 y
 unfold wrapS
 split <;> split <;> omega
theorem Z5w (m a : Int) : wrapF .i64 (m + wrapF .i64 a) = wrapF .i64 (m + a) := by
 apply Z91
 have h := Zco a
 generalize wrapF .i64 a = w at *
 omega
end Go.Am
namespace Go.Proofs.Ytgnpnfkncbnjnaa
attribute [local go_sem_proc] Int.reduceEq Int.reduceNeg Nat.reduceEqDiff Nat.reduceLT Nat.reduceAdd Nat.reduceSub Nat.reduceMul Int.reduceLE Int.reduceLT Int.reduceToNat Nat.reduceLeDiff
attribute [local go_sem] Int.toNat_natCast Bool.not_true Bool.not_false
open Go Go.Am
attribute [local congr] Z7 Z5 Z6
attribute [local go_sem] Go.Am.buildSliceA Go.Am.frozen Go.Am.freezeG Go.Am.freezeGs Go.Am.minmax
def rgC (r : Rg) : List AV := [.int .i64 r.lo, .int .i64 r.hi]
theorem Z1f (r : Rg) : (rgC r).length = 2 := rfl
theorem Zcp (r : Rg) : Bare (rgC r) := ⟨fun _ _ => rfl, fun _ => rfl⟩
theorem X9 (l : List Rg) : Bare (l.flatMap rgC) := Z1q Zcp l
theorem Z4y (l : List Rg) : (l.flatMap rgC).length = l.length * 2 := Jc Z1f l
theorem Je (l : List Rg) (r : Rg) : (l ++ [r]).flatMap rgC = l.flatMap rgC ++ (rgV r).cells := by rw [List.flatMap_append]; rfl
def mostF : Int -> List Ves -> Int
 | m, [] => m
 | m, x :: r => mostF (wrapF .i64 (m + (x.free.hi + x.bound.hi))) r
def beginG (v : Vac) : Gs := ⟨v.vessels.map Ves.free, v.vessels.map Ves.bound, v.getters.map Gtr.room, mostF 0 v.vessels, false⟩
theorem Zdd : cfg.desc 50 = some (.slice 26) := by kernel_rfl
def gasM (b1 b2 b3 : Nm) (g : Gs) : AV := .agg [mutV b1 g.free.length, mutV b2 g.bound.length, mutV b3 g.room.length, .int .i64 g.most, .bool g.flashed]
theorem Z92 (v : Vac) (K : Nat) (hv : v.Lens K) (h8 : v.vessels.length <= 1000000) (hg8 : v.getters.length <= 1000000) :
  (bodyA (cfg.at 94) (acall cfg K) (around cfg K) (K + 1) Try.f94 [vacV v] s0).Does fun x => ∃ (a d : Nat), x.1 = gasM [a, 5, 0] [a, 11, 0] [d] (beginG v) /\
   (v.vessels ≠ [] -> hget x.2.H [a, 5, 0] = some (.cells ((v.vessels.map Ves.free).flatMap rgC) true 2) /\ hget x.2.H [a, 11, 0] = some (.cells ((v.vessels.map Ves.bound).flatMap rgC) true 2)) /\
   (v.getters ≠ [] -> hget x.2.H [d] = some (.cells ((v.getters.map Gtr.room).flatMap rgC) true 2)) := by
 refine Z9 rfl fun T hT' hA => ?_
 have a0 := hA 0 _ rfl
 have hT : T.length = 57 := hT'
 clear hA hT'
 obtain ⟨⟨hv1, hv2⟩, ⟨hp1, hp2⟩, ⟨hm1, hm2⟩, ⟨hi1, hi2⟩, ⟨hg1, hg2⟩, hbd⟩ := hv
 simp -implicitDefEqProofs only [go_sem, a0, hT]
 simp only [Z4]
 refine Zm (fun k T s' => T.length = 57 /\ nth T 1 = some (.ptr [0] 0) /\ nth T 2 = some (.ptr [1] 0) /\ nth T 3 = some (.ptr [2] 0) /\ nth T 9 = some (.lst (v.vessels.map vesV)) /\ nth T 10 = some (.int .i64 v.vessels.length) /\ ∃ (i n c : Nat) (H : Heap) (m : Int), nth T 11 = some (.int .i64 i) /\ i <= v.vessels.length /\ k = v.vessels.length - i /\ s' = ⟨H, n + 3, [], false, []⟩ /\ c < n + 3 /\ hget H [0] = some (.cells [.lst (v.vessels.map vesV), .lst (v.pipes.map pipV), .lst (v.pumps.map pmpV), .lst (v.leaks.map inlV), .lst (v.getters.map gtrV)] true 0) /\
   hget H [1] = some (.cells [.nils, .nils, .nils, .int .i64 0, .bool false] true 0) /\ hget H [2] = some (.cells [mutV [c, 5, 0] i, mutV [c, 11, 0] i, .nils, .int .i64 m, .bool false] true 0) /\ (i ≠ 0 -> hget H [c, 5, 0] = some (.cells (((v.vessels.take i).map Ves.free).flatMap rgC) true 2) /\ hget H [c, 11, 0] = some (.cells (((v.vessels.take i).map Ves.bound).flatMap rgC) true 2)) /\
   mostF 0 v.vessels = mostF m (v.vessels.drop i)) (k := v.vessels.length) (by omega) ?_ ?_
 ·exact ⟨by simp -implicitDefEqProofs only [go_sem, hT], by simp -implicitDefEqProofs only [go_sem, hT], by simp -implicitDefEqProofs only [go_sem, hT], by simp -implicitDefEqProofs only [go_sem, hT], by simp -implicitDefEqProofs only [go_sem, hT], by simp -implicitDefEqProofs only [go_sem, hT], 0, 0, 0, _, 0, by simp -implicitDefEqProofs only [go_sem, hT] <;> rfl, by omega, rfl, rfl, by omega, rfl, rfl, rfl, fun h => absurd rfl h, rfl⟩
 clear a0 hT T
 rintro k T s' ⟨hT, a1, a2, a3, a9, a10, i, n, c, H, m, a11, hi, rfl, rfl, hc, g0, g1, g2, gr, hm⟩
 simp -implicitDefEqProofs only [go_sem, a10, a11, hT]
 by_cases hil : (i : Int) < (v.vessels.length : Int)
 ·have hi' : i < v.vessels.length := by omega
  have e1 := Zg (f := vesV) (l := v.vessels) (i := i) (z := 6) hi' rfl
  have hkk : v.vessels.length - (i + 1) < v.vessels.length - i := by omega
  have htk : v.vessels.take (i + 1) = v.vessels.take i ++ [v.vessels[i]] := List.take_succ_eq_append_getElem hi'
  have hln : ((v.vessels.take i).map Ves.free).length = i := by simp; omega
  have hln2 : ((v.vessels.take i).map Ves.bound).length = i := by simp; omega
  rw [List.drop_eq_getElem_cons hi'] at hm
  have hi1 : i + 1 <= v.vessels.length := hi'
  have hn4 : n + 4 < n + 2 + 3 := by omega
  generalize v.vessels[i] = x at *
  simp only [mostF] at hm
  have hap := fun (cs : List AV) (m n : Nat) (b p : Nm) (H : Heap) (r : Rg) (hr : (m + 1) * 16 <= 140737488355328) (hcs : cs.length = m * 2) (hg : m ≠ 0 -> hget H b = some (.cells cs true 2)) => Z41 (C := cfg.at 94) (sT := 50) (b := b) (cs := cs) (x := rgV r) (H := H) (m := m) (n := n) (p := p) (jr := true) (j := []) (z := 2) Zdd Z7u rfl rfl rfl rfl rfl rfl hr hcs hg
  by_cases i0 : i = 0
  ·subst i0
   have hap0 := fun (n : Nat) (p : Nm) (H : Heap) (r : Rg) => hap [] 0 n [] p H r (by omega) rfl (fun h => absurd rfl h)
   simp only [mutV, dropRow, rowJ, rgV, AV.cells, List.nil_append] at hap0 g2
   have hw1 : wrapF .i64 (((0 : Nat) : Int) + 1) = ((0 + 1 : Nat) : Int) := rfl
   simp -implicitDefEqProofs only [go_sem, a9, a11, hT, hil, e1]
   try simp only [Z4]
   refine Zk [[], [0], [], [2], [3, 2], [1, 0, 4, 3, 2], [], [6], [], [8], [9, 8], [7, 6, 10, 9, 8, 5, 1, 0, 4, 3, 2], [5, 1, 0, 4, 3, 2, 7, 6], [12, 11, 10, 9, 8, 5, 1, 0, 4, 3, 2, 7, 6], [13, 12, 11, 10, 9, 8, 5, 1, 0, 4, 3, 2, 7, 6], [14, 13, 12, 11, 10, 9, 8, 5, 1, 0, 4, 3, 2, 7, 6]] [[], [], [], [], [], [], [], [], [], [], [], [], [], [[2]], [], [[2]]] (by kernel_rfl) rfl rfl ?_
   simp -implicitDefEqProofs only [go_sem, Z0, lkn, Zn, lk11, lk31, Option.getD_some, Option.getD_none, a1, a2, a3, a9, a10, a11, hT, g2, hap0 _ _ _ ⟨x.free.lo, x.free.hi⟩, hap0 _ _ _ ⟨x.bound.lo, x.bound.hi⟩]
   refine ⟨v.vessels.length - (0 + 1), hkk, trivial, trivial, trivial, trivial, trivial, trivial, 0 + 1, n + 2, n + 4, _, wrapF .i64 (m + wrapF .i64 (x.free.hi + x.bound.hi)), by rw [hw1], hi1, rfl, rfl, hn4, ?_, ?_, ?_, fun _ => ⟨?_, ?_⟩, ?_⟩
   all_goals clear hw1
   ·simp (disch := omega) only [hc11, hs11, Z0, lkn, lk11, lk31, Option.getD_none, g0]
   ·simp (disch := omega) only [hc11, hs11, Z0, lkn, lk11, lk31, Option.getD_none, g1]
   ·exact hss (Y := .cells _ true 0) (by simp (disch := omega) only [hc11, Z0, Zn, Option.getD_some, g2]; rfl)
   ·rw [htk, List.map_append, List.map_cons, List.map_nil, Je]
    simp (disch := omega) only [hc13, hs13, Z0, Zn, lk13, Z2y, Option.getD_some]
    rfl
   ·rw [htk, List.map_append, List.map_cons, List.map_nil, Je]
    simp (disch := omega) only [hc13, hs13, Z0, Zn, lk13, Option.getD_some]
    rfl
   ·rw [hm, Z5w]
  ·obtain ⟨i, rfl⟩ : ∃ q, i = q + 1 := ⟨i - 1, by omega⟩
   obtain ⟨r1, r2⟩ := gr (by omega)
   have hapF := fun (n : Nat) (p : Nm) (H : Heap) (r : Rg) (hg : hget H [c, 5, 0] = some (.cells (((v.vessels.take (i + 1)).map Ves.free).flatMap rgC) true 2)) => hap _ (i + 1) n [c, 5, 0] p H r (by omega) (by rw [Z4y, hln]) (fun _ => hg)
   have hapB := fun (n : Nat) (p : Nm) (H : Heap) (r : Rg) (hg : hget H [c, 11, 0] = some (.cells (((v.vessels.take (i + 1)).map Ves.bound).flatMap rgC) true 2)) => hap _ (i + 1) n [c, 11, 0] p H r (by omega) (by rw [Z4y, hln2]) (fun _ => hg)
   simp only [mutV, dropRow, rowJ, rgV, AV.cells] at hapF hapB g2
   have d1 : ∀ X, hget (hdel (([n + 3], X) :: H) [c, 5, 0]) [2] = hget H [2] := fun X => by simp (disch := omega) only [hc11, hd31]
   have d2 : ∀ X, hget (hdel (([n + 3], X) :: H) [c, 5, 0]) [n + 3] = some X := fun X => by simp (disch := omega) only [Z2, hd31]
   have e11 : ∀ X, hget (([n + 3], X) :: H) [c, 11, 0] = hget H [c, 11, 0] := fun X => hc13
   have e5 : ∀ X, hget (([n + 3], X) :: H) [c, 5, 0] = hget H [c, 5, 0] := fun X => hc13
   have nc : (n + 3 + 1 = c) = False := by simp; omega
   have nc' : (c = n + 3 + 1) = False := by simp; omega
   have hw1 : wrapF .i64 (((i + 1 : Nat) : Int) + 1) = ((i + 1 + 1 : Nat) : Int) := Z8 (by omega) (by omega)
   have d3 : hget (hdel H [c, 5, 0]) [2] = hget H [2] := hd31
   simp -implicitDefEqProofs only [go_sem, a9, a11, hT, hil, e1]
   try simp only [Z4]
   refine Zk [[], [0], [], [2], [3, 2], [1, 0, 4, 3, 2], [], [6], [], [8], [9, 8], [7, 6, 10, 9, 8, 5, 1, 0, 4, 3, 2], [5, 1, 0, 4, 3, 2, 7, 6], [12, 11, 10, 9, 8, 5, 1, 0, 4, 3, 2, 7, 6], [13, 12, 11, 10, 9, 8, 5, 1, 0, 4, 3, 2, 7, 6], [14, 13, 12, 11, 10, 9, 8, 5, 1, 0, 4, 3, 2, 7, 6]] [[], [], [], [], [], [[c, 5, 0]], [], [], [], [], [], [[c, 11, 0]], [], [[2]], [], [[2]]] (by kernel_rfl) rfl rfl ?_
   simp -implicitDefEqProofs only [go_sem, Z0, lkn, Zn, lk11, lk31, lk33, Z2y, Option.getD_some, Option.getD_none, a1, a2, a3, a9, a10, a11, hT, g2, r1, r2, e5, e11, nc, d3, Zj, hapF _ _ _ ⟨x.free.lo, x.free.hi⟩, hapB _ _ _ ⟨x.bound.lo, x.bound.hi⟩]
   refine ⟨v.vessels.length - (i + 1 + 1), hkk, trivial, trivial, trivial, trivial, trivial, trivial, i + 1 + 1, n + 2, n + 4, _, wrapF .i64 (m + wrapF .i64 (x.free.hi + x.bound.hi)), by rw [hw1], hi1, rfl, rfl, hn4, ?_, ?_, ?_, fun _ => ⟨?_, ?_⟩, ?_⟩
   all_goals clear hw1
   ·simp (disch := omega) only [hc11, hs11, Z0, lkn, lk11, lk31, Option.getD_none, g0]
   ·simp (disch := omega) only [hc11, hs11, Z0, lkn, lk11, lk31, Option.getD_none, g1]
   ·exact hss (Y := .cells _ true 0) (by simp (disch := omega) only [hc11, Z0, Zn, Option.getD_some, g2]; rfl)
   ·rw [htk, List.map_append, List.map_cons, List.map_nil, Je]
    simp (disch := omega) only [hc13, hs13, Z0, Zn, lk13, lk33, Z2y, Option.getD_some]
    rfl
   ·rw [htk, List.map_append, List.map_cons, List.map_nil, Je]
    simp (disch := omega) only [hc13, hs13, Z0, Zn, lk13, Option.getD_some]
    rfl
   ·rw [hm, Z5w]
 ·have hie : i = v.vessels.length := by omega
  subst hie
  rw [List.drop_length] at hm
  rw [List.take_length] at gr
  simp only [mostF] at hm
  have hN : v.vessels ≠ [] -> hget H [c, 5, 0] = some (.cells ((v.vessels.map Ves.free).flatMap rgC) true 2) /\ hget H [c, 11, 0] = some (.cells ((v.vessels.map Ves.bound).flatMap rgC) true 2) := fun h => gr (fun e => h (List.length_eq_zero_iff.1 e))
  clear gr
  simp -implicitDefEqProofs only [go_sem, a1, hT, hil, g0]
  simp only [Z4]
  refine Zm (fun k T s' => T.length = 57 /\ nth T 2 = some (.ptr [1] 0) /\ nth T 3 = some (.ptr [2] 0) /\ nth T 42 = some (.lst (v.getters.map gtrV)) /\ nth T 43 = some (.int .i64 v.getters.length) /\ ∃ (i n d : Nat) (H : Heap), nth T 44 = some (.int .i64 i) /\ i <= v.getters.length /\ k = v.getters.length - i /\ s' = ⟨H, n + 3, [], false, []⟩ /\
   hget H [1] = some (.cells [.nils, .nils, .nils, .int .i64 0, .bool false] true 0) /\ hget H [2] = some (.cells [mutV [c, 5, 0] v.vessels.length, mutV [c, 11, 0] v.vessels.length, mutV [d + 3] i, .int .i64 m, .bool false] true 0) /\ (i ≠ 0 -> d < n /\ hget H [d + 3] = some (.cells (((v.getters.take i).map Gtr.room).flatMap rgC) true 2)) /\
   (v.vessels ≠ [] -> hget H [c, 5, 0] = some (.cells ((v.vessels.map Ves.free).flatMap rgC) true 2) /\ hget H [c, 11, 0] = some (.cells ((v.vessels.map Ves.bound).flatMap rgC) true 2))) (k := v.getters.length) (by omega) ?_ ?_
  ·exact ⟨by simp -implicitDefEqProofs only [go_sem, hT], by simp -implicitDefEqProofs only [go_sem, a2], by simp -implicitDefEqProofs only [go_sem, a3], by simp -implicitDefEqProofs only [go_sem, hT], by simp -implicitDefEqProofs only [go_sem, hT], 0, n, 0, H, by simp -implicitDefEqProofs only [go_sem, hT] <;> rfl, by omega, rfl, rfl, g1, g2, fun h => absurd rfl h, hN⟩
  clear a1 a2 a3 a9 a10 a11 hT T g0 g1 g2 hN H
  rintro k T s' ⟨hT, a2, a3, a42, a43, i, n, d, H, a44, hi, rfl, rfl, g1, g2, gr, hN⟩
  simp -implicitDefEqProofs only [go_sem, a43, a44, hT]
  by_cases hil2 : (i : Int) < (v.getters.length : Int)
  ·have hi' : i < v.getters.length := by omega
   have e1 := Zg (f := gtrV) (l := v.getters) (i := i) (z := 5) hi' rfl
   have hkk : v.getters.length - (i + 1) < v.getters.length - i := by omega
   have htk : v.getters.take (i + 1) = v.getters.take i ++ [v.getters[i]] := List.take_succ_eq_append_getElem hi'
   have hln : ((v.getters.take i).map Gtr.room).length = i := by simp; omega
   have hi1 : i + 1 <= v.getters.length := hi'
   have hn4 : n + 1 < n + 2 := by omega
   generalize v.getters[i] = x at *
   have hap := fun (cs : List AV) (m n : Nat) (b p : Nm) (H : Heap) (r : Rg) (hr : (m + 1) * 16 <= 140737488355328) (hcs : cs.length = m * 2) (hg : m ≠ 0 -> hget H b = some (.cells cs true 2)) => Z41 (C := cfg.at 94) (sT := 50) (b := b) (cs := cs) (x := rgV r) (H := H) (m := m) (n := n) (p := p) (jr := false) (j := []) (z := 2) Zdd Z7u rfl rfl rfl rfl rfl rfl hr hcs hg
   have hapG := hap _ i (n + 4) [d + 3] [] (([n + 3], .cells [.int .i64 x.at', .int .i64 x.part.lo, .int .i64 x.part.hi, .int .i64 x.room.lo, .int .i64 x.room.hi] true 0) :: H) x.room (by omega) (by rw [Z4y, hln]) (fun h => (hc11 (by have := (gr h).1; omega)).trans (gr h).2)
   simp only [rgV, AV.cells] at hapG
   have f2 : ∀ X, hget (([n + 3], X) :: H) [2] = hget H [2] := fun X => hc11 (by omega)
   have dr1 : ∀ G q, (i ≠ 0 -> q ≠ d + 3) -> hget (dropRow i [d + 3] G) [q] = hget G [q] := fun G q h => by
    cases i with
    | zero => rfl
    | succ i => exact Zh G (n11 (Ne.symm (h (by omega))))
   have dr3 : ∀ G q a b, hget (dropRow i [d + 3] G) [q, a, b] = hget G [q, a, b] := fun G q a b => Z5v i G n13
   have f3 : ∀ X Y, hget (([n + 3 + 1], Y) :: dropRow i [d + 3] (([n + 3], X) :: H)) [2] = hget H [2] := fun X Y => by rw [hc11 (by omega), dr1 _ _ (by omega), f2]
   have hw1 : wrapF .i64 ((i : Int) + 1) = ((i + 1 : Nat) : Int) := Z8 (by omega) (by omega)
   simp -implicitDefEqProofs only [go_sem, a2, a3, a42, a43, a44, hT, hil2, e1, f2, f3, g2, hapG, hw1, Zb2]
   clear hw1
   refine ⟨v.getters.length - (i + 1), hkk, trivial, trivial, trivial, trivial, trivial, i + 1, n + 2, n + 1, _, rfl, hi1, rfl, rfl, ?_, ?_, fun _ => ⟨hn4, ?_⟩, fun h => ⟨?_, ?_⟩⟩
   ·rw [hc11 (by omega), hs11 (by omega), dr1 _ _ (by omega), hc11 (by omega)]; exact g1
   ·rw [hc11 (by omega)]
    exact hss ((dr1 _ _ (by omega)).trans ((f2 _).trans g2))
   ·rw [htk, List.map_append, List.map_cons, List.map_nil, Je]
    exact Z2 ..
   ·rw [hc13, hs13, dr3, hc13]; exact (hN h).1
   ·rw [hc13, hs13, dr3, hc13]; exact (hN h).2
  ·have hie : i = v.getters.length := by omega
   subst hie
   rw [List.take_length] at gr
   have z1 : ∀ X, hget (hset H [1] X) [1] = some X := fun X => Zd X g1
   simp -implicitDefEqProofs only [go_sem, a2, a3, hT, hil2, g1, g2, z1, Try.results94]
   refine ⟨c, d + 3, ?_, fun h => ?_, fun h => ?_⟩
   ·unfold gasM beginG
    simp only [List.length_map, hm]
   ·rw [hs13, hs13]; exact hN h
   ·rw [hs11 (by omega)]
    exact (gr (fun e => h (List.length_eq_zero_iff.1 e))).2
theorem Zfu (m : Int) (f : Bool) : Bare [.int .i64 m, .bool f] := ⟨fun _ _ => rfl, fun _ => rfl⟩
def gasS (s : St) (g : Gs) : St := match g.room with
 | [] => (s.new (.cells (g.free.flatMap rgC) true 2)).new (.cells (g.bound.flatMap rgC) true 2)
 | _ :: _ => ((s.new (.cells (g.free.flatMap rgC) true 2)).new (.cells (g.bound.flatMap rgC) true 2)).new (.cells (g.room.flatMap rgC) true 2)
theorem Zb3 (v : Vac) : renVs [] [vacV v] = some [vacV v] := by simp only [renVs, renV, vacV, Z0r, Z0s, Z0t, Z0u, Z0v]
theorem Z93 (v : Vac) (K : Nat) (H : Heap) (n : Nat) (p : Nm) (jr : Bool) (j : Delta) (hv : v.Lens K) (h8 : v.vessels.length <= 1000000) (hg8 : v.getters.length <= 1000000) (h1 : v.vessels ≠ []) :
  acall cfg (K + 1) 94 [vacV v] ⟨H, n, p, jr, j⟩ = .ret (gasM (p ++ [n]) (p ++ [n + 1]) (p ++ [n + 2]) (beginG v), gasS ⟨H, n, p, jr, j⟩ (beginG v)) := by
 have hb := Z92 v K hv h8 hg8
 obtain ⟨q, hq⟩ : ∃ q, v.vessels.length = q + 1 := ⟨v.vessels.length - 1, by
  have : v.vessels.length ≠ 0 := fun e => h1 (List.length_eq_zero_iff.1 e)
  omega⟩
 by_cases h2 : v.getters = []
 ·have e0 : gasS ⟨H, n, p, jr, j⟩ (beginG v) = (St.new ⟨H, n, p, jr, j⟩ (.cells ((v.vessels.map Ves.free).flatMap rgC) true 2)).new (.cells ((v.vessels.map Ves.bound).flatMap rgC) true 2) := by
   unfold gasS beginG; rw [h2]; rfl
  have e1 : ∀ b1 b2 b3, gasM b1 b2 b3 (beginG v) = .agg (.slice b1 0 (q + 1) (q + 1) false :: .slice b2 0 (q + 1) (q + 1) false :: [.nils, .int .i64 (mostF 0 v.vessels), .bool false]) := fun b1 b2 b3 => by
   unfold gasM beginG; simp only [List.length_map, hq, h2, List.map_nil, List.length_nil]; rfl
  rw [e0, e1]
  refine Z71 Zdb Zda rfl (Zb3 v) (X9 _) (X9 _) ⟨fun _ _ => rfl, fun _ => rfl⟩ ?_
  refine hb.mono ?_
  rintro x ⟨a, d, hx, hf, _⟩
  exact ⟨[a, 5, 0], [a, 11, 0], by rw [hx, e1], Za (by simp), Za (by simp), (hf h1).1, (hf h1).2⟩
 ·obtain ⟨r, hr⟩ : ∃ r, v.getters.length = r + 1 := ⟨v.getters.length - 1, by
   have : v.getters.length ≠ 0 := fun e => h2 (List.length_eq_zero_iff.1 e)
   omega⟩
  have e0 : gasS ⟨H, n, p, jr, j⟩ (beginG v) = ((St.new ⟨H, n, p, jr, j⟩ (.cells ((v.vessels.map Ves.free).flatMap rgC) true 2)).new (.cells ((v.vessels.map Ves.bound).flatMap rgC) true 2)).new (.cells ((v.getters.map Gtr.room).flatMap rgC) true 2) := by
   unfold gasS beginG
   cases hg : v.getters with
   | nil => exact absurd hg h2
   | cons a l => rfl
  have e1 : ∀ b1 b2 b3, gasM b1 b2 b3 (beginG v) = .agg (.slice b1 0 (q + 1) (q + 1) false :: .slice b2 0 (q + 1) (q + 1) false :: .slice b3 0 (r + 1) (r + 1) false :: [.int .i64 (mostF 0 v.vessels), .bool false]) := fun b1 b2 b3 => by
   unfold gasM beginG; simp only [List.length_map, hq, hr]; rfl
  rw [e0, e1]
  refine Z70 Zdb Zda rfl (Zb3 v) (X9 _) (X9 _) (X9 _) (Zfu _ _) ?_
  refine hb.mono ?_
  rintro x ⟨a, d, hx, hf, hg⟩
  exact ⟨[a, 5, 0], [a, 11, 0], [d], by rw [hx, e1], Za (by simp), Za (by simp), Za (by simp), Za (by simp), Za (by simp), Za (by simp), (hf h1).1, (hf h1).2, hg h2⟩
end Go.Proofs.Ytgnpnfkncbnjnaa
namespace Go.Proofs.Ytgnpnfkncbnjnaa
open Go Go.Am
attribute [local congr] Z7 Z5 Z6
attribute [local go_sem] Go.Am.buildSliceA Go.Am.minmax
theorem Zde {H : Heap} {d : Nat} (l : List Rg) : freezeD H (d + 1) (l.flatMap rgC) = some (l.flatMap rgC) := by
 show freezeGs (freezeD H d) H _ = _
 refine Jx (g := rgC) (fun a r t h => ?_) l
 show freezeGs (freezeD H d) H (.int .i64 a.lo :: .int .i64 a.hi :: r) = _
 simp only [freezeGs, freezeG, h]; rfl
structure GasAt (H : Heap) (b1 b2 b3 : Nm) (g : Gs) : Prop where
 f : g.free ≠ [] -> hget H b1 = some (.cells (g.free.flatMap rgC) true 2)
 b : g.bound ≠ [] -> hget H b2 = some (.cells (g.bound.flatMap rgC) true 2)
 r : g.room ≠ [] -> hget H b3 = some (.cells (g.room.flatMap rgC) true 2)
def zeroG : Gs := ⟨[], [], [], 0, false⟩
def gasE (e : Int) (g : Gs) : AV := .tuple [gsV (if e = 0 then g else zeroG), .int .i64 e]
@[go_sem] theorem Zhh (e : Int) (g : Gs) : (gasE e g).flat = true := by
 unfold gasE; simp only [gsV, AV.flat, flats, Zap]
end Go.Proofs.Ytgnpnfkncbnjnaa
namespace Go.Proofs.Ytgnpnfkncbnjnaa
open Go Go.Am
attribute [local congr] Z7 Z5 Z6
attribute [local go_sem] Go.Am.buildSliceA Go.Am.minmax
end Go.Proofs.Ytgnpnfkncbnjnaa
namespace Go.Proofs.Ytgnpnfkncbnjnaa
open Go Go.Am
attribute [local congr] Z7 Z5 Z6
attribute [local go_sem] Go.Am.buildSliceA Go.Am.frozen Go.Am.freezeG Go.Am.freezeGs Go.Am.minmax
theorem Vac.Lens.more {v : Vac} {K : Nat} (hv : v.Lens K) (q : Nat) : v.Lens (K + q) := ⟨⟨by have := hv.ves.1; omega, hv.ves.2⟩, ⟨by have := hv.pip.1; omega, hv.pip.2⟩, ⟨by have := hv.pmp.1; omega, hv.pmp.2⟩, ⟨by have := hv.inl.1; omega, hv.inl.2⟩, ⟨by have := hv.gtr.1; omega, hv.gtr.2⟩, hv.bands⟩
end Go.Proofs.Ytgnpnfkncbnjnaa
namespace Go.Am
open Go
section
variable {u a k c : Nat} {w : Int} {H H' : Heap} {X : Blk} {x : Option Blk} {d : Delta}
end
end Go.Am
namespace Go.Proofs.Ytgnpnfkncbnjnaa
open Go Go.Am
attribute [local congr] Z7 Z5 Z6
attribute [local go_sem] Go.Am.buildSliceA Go.Am.frozen Go.Am.freezeG Go.Am.freezeGs Go.Am.minmax
structure RgG (m : Int) (r : Rg) : Prop where
 lo : 0 <= r.lo
 le : r.lo <= r.hi
 hi : r.hi <= m
def BandsG (k : Int) : List Rel -> Prop
 | [] => True
 | b :: l => 0 <= b.frm /\ b.frm < k /\ (∀ m ∈ l, b.frm < m.frm) /\ RgG 400000 b.rate /\ BandsG k l
structure VesG (v : Ves) : Prop where
 vol : 1 <= v.vol /\ v.vol <= 50
 free : RgG 20000 v.free
 bound : RgG 50000 v.bound
 len : v.bands.length <= 2
 bands : BandsG 1100 v.bands
structure PipG (n : Int) (p : Pip) : Prop where
 a : 0 <= p.a /\ p.a < n
 b : 0 <= p.b /\ p.b < n
 ab : p.a ≠ p.b
 out : RgG 120000 p.out
 back : RgG 120000 p.back
structure PmpG (n : Int) (p : Pmp) : Prop where
 at' : 0 <= p.at' /\ p.at' < n
 part : RgG 200000 p.part
structure InlG (n : Int) (p : Inl) : Prop where
 at' : 0 <= p.at' /\ p.at' < n
 gas : RgG 30 p.gas
structure GtrG (n : Int) (p : Gtr) : Prop where
 at' : 0 <= p.at' /\ p.at' < n
 part : RgG 300000 p.part
 room : RgG 9000 p.room
structure VacG (v : Vac) : Prop where
 n1 : 1 <= v.vessels.length
 n4 : v.vessels.length <= 4
 ves : ∀ x ∈ v.vessels, VesG x
 np : v.pipes.length <= 4
 pip : ∀ x ∈ v.pipes, PipG v.vessels.length x
 nm : v.pumps.length <= 2
 pmp : ∀ x ∈ v.pumps, PmpG v.vessels.length x
 nl : v.leaks.length <= 2
 inl : ∀ x ∈ v.leaks, InlG v.vessels.length x
 ng : v.getters.length <= 2
 gtr : ∀ x ∈ v.getters, GtrG v.vessels.length x
theorem Z94 (m : Int) (h : 0 <= m) : RgG m ⟨0, 0⟩ := ⟨Int.le_refl _, Int.le_refl _, h⟩
section
variable {H : Heap} {m u : Nat} {p : Nm} {jr : Bool} {j : Delta}
def jD (jr : Bool) (w : Int) (u : Nat) (j : Delta) : Delta := match jr with | true => ([0], some (.cells [.int .u64 w] true u)) :: j | false => j
@[go_sem] theorem Zmi (w : Int) (u : Nat) (j : Delta) : jD true w u j = ([0], some (.cells [.int .u64 w] true u)) :: j := rfl
@[go_sem] theorem Zjy (w : Int) (u : Nat) (j : Delta) : jD false w u j = j := rfl
end
end Go.Proofs.Ytgnpnfkncbnjnaa
namespace Go.Proofs.Ytgnpnfkncbnjnaa
open Go Go.Am
attribute [local congr] Z7 Z5 Z6
attribute [local go_sem] Go.Am.frozen Go.Am.freezeG Go.Am.freezeGs Go.Am.minmax
end Go.Proofs.Ytgnpnfkncbnjnaa
namespace Go.Proofs.Ytgnpnfkncbnjnaa
open Go Go.Am
attribute [local congr] Z7 Z5 Z6
attribute [local go_sem] Go.Am.buildSliceA Go.Am.frozen Go.Am.freezeG Go.Am.freezeGs Go.Am.minmax
end Go.Proofs.Ytgnpnfkncbnjnaa
namespace Go.Proofs.Ytgnpnfkncbnjnaa
open Go Go.Am
attribute [local congr] Z7 Z5 Z6
attribute [local go_sem] Go.Am.buildSliceA Go.Am.minmax
def rowV (l : List Rg) : AV := .lst (l.map rgV)
@[go_sem] theorem Zoy (R : List (List Rg)) : flats (R.map rowV) = true := by
 induction R with
 | nil => rfl
 | cons a r ih =>
  show flats (AV.lst (a.map rgV) :: r.map rowV) = true
  simp only [flats, AV.flat, Zap, ih]
end Go.Proofs.Ytgnpnfkncbnjnaa
namespace Go.Am
open Go
section
variable {C : Cfg} {sT e : TypeId} {i : TI} {zv : AV}
end
end Go.Am
namespace Go.Proofs.Ytgnpnfkncbnjnaa
open Go Go.Am
attribute [local congr] Z7 Z5 Z6
attribute [local go_sem] Go.Am.frozen Go.Am.freezeG Go.Am.freezeGs Go.Am.minmax
structure Gs.Lens (g : Gs) : Prop where
 f : g.free.length <= 9223372036854775807
 b : g.bound.length <= 9223372036854775807
 r : g.room.length <= 9223372036854775807
theorem Z83 {v : Vac} (h : checkE v = 0) : 1 <= v.vessels.length /\ v.vessels.length <= 8 /\ v.pipes.length <= 16 /\ v.pumps.length <= 8 /\ v.leaks.length <= 8 /\ v.getters.length <= 8 := by
 unfold checkE at h
 split at h
 ·exact absurd h (by decide)
 ·split at h
  ·exact absurd h (by decide)
  ·rename_i h0 h1
   unfold overB at h1
   simp only [Bool.or_eq_true, decide_eq_true_eq] at h1
   omega
end Go.Proofs.Ytgnpnfkncbnjnaa
namespace Go.Proofs.Ytgnpnfkncbnjnaa
open Go Go.Am
attribute [local congr] Z7 Z5 Z6
attribute [local go_sem] Go.Am.buildSliceA Go.Am.frozen Go.Am.freezeG Go.Am.freezeGs Go.Am.minmax
end Go.Proofs.Ytgnpnfkncbnjnaa
namespace Go.Proofs.Ytgnpnfkncbnjnaa
open Go Go.Am
attribute [local congr] Z7 Z5 Z6
attribute [local go_sem] Go.Am.buildSliceA Go.Am.frozen Go.Am.freezeG Go.Am.freezeGs Go.Am.minmax
end Go.Proofs.Ytgnpnfkncbnjnaa
namespace Go.Proofs.Ytgnpnfkncbnjnaa
open Go Go.Am
attribute [local congr] Z7 Z5 Z6
attribute [local go_sem] Go.Am.frozen Go.Am.freezeG Go.Am.freezeGs Go.Am.minmax
structure GasG (v : Vac) (g : Gs) : Prop where
 fl : g.free.length = v.vessels.length
 bl : g.bound.length = v.vessels.length
 rl : g.room.length = v.getters.length
 f : ∀ r ∈ g.free, RgG 30000 r
 b : ∀ r ∈ g.bound, RgG 60000 r
 r : ∀ r ∈ g.room, RgG 9000 r
 m : 0 <= g.most /\ g.most <= 1000000
def vacC (v : Vac) : Blk := .cells [.lst (v.vessels.map vesV), .lst (v.pipes.map pipV), .lst (v.pumps.map pmpV), .lst (v.leaks.map inlV), .lst (v.getters.map gtrV)] true 0
end Go.Proofs.Ytgnpnfkncbnjnaa
namespace Go.Am
open Go
noncomputable def putsH : List Nm -> List Blk -> Heap -> Heap
 | b :: r, x :: q, H => putsH r q (hset H b x)
 | _, _, H => H
theorem Zb4 {H : Heap} {b c : Nm} {x : Blk} (h : ∃ y, hget H c = some y) (hb : ∃ y, hget H b = some y) : ∃ y, hget (hset H b x) c = some y := by
 by_cases e : b = c
 ·subst e; obtain ⟨y, h⟩ := h; exact ⟨_, Zd _ h⟩
 ·rw [Z3 _ _ e]; exact h
theorem Z2z : ∀ (bs : List Nm) (ys : List Blk) (H : Heap) (n : Nat) (p : Nm) (j : Delta), bs.length = ys.length -> (∀ b ∈ bs, ∃ x, hget H b = some x) -> putAll bs ys ⟨H, n, p, false, j⟩ = .ret ((), ⟨putsH bs ys H, n, p, false, j⟩)
 | [], [], H, n, p, j, _, _ => rfl
 | b :: r, x :: q, H, n, p, j, hl, h => by
  obtain ⟨y, hy⟩ := h b List.mem_cons_self
  unfold putAll
  rw [Zb, Y5]
  simp only [hy, Tr.bind_ret]
  show putAll r q ⟨hset H b x, n, p, false, j⟩ = _
  rw [Z2z r q (hset H b x) n p j (by simpa using hl) (fun c hc => Zb4 (h c (List.mem_cons_of_mem _ hc)) ⟨y, hy⟩)]
  rfl
 | [], _ :: _, _, _, _, _, hl, _ => by simp at hl
 | _ :: _, [], _, _, _, _, hl, _ => by simp at hl
section
variable {C : Cfg} {K : Nat}
theorem Z42 {f : FuncId} {fn : Func} {args args' : List AV} {bs : List Nm} {xs xs0 ys ys' : List Blk} {v : AV} {H : Heap} {n : Nat} {p : Nm} {j : Delta}
  (hm : C.mode.get f = some 3) (hf : C.fn.get f = some fn)
  (hl : lendM 200 (namesVs false args []) [] [] ⟨H, n, p, false, j⟩ = .ret ((bs, xs), ⟨H, n, p, false, j⟩)) (hnd : nodupN bs = true) (hcalm : calm xs = true)
  (hra : renVs (zipN bs (namesFrom [] 0 bs.length)) args = some args') (hrx : renBs (zipN bs (namesFrom [] 0 bs.length)) xs = some xs0)
  (hvn : namesV true v (namesBs true ys []) = namesBs true ys []) (hvr : ∀ mp, renV mp v = some v)
  (hmem : ∀ b ∈ namesBs true ys [], memNm b (namesFrom [] 0 bs.length) = true) (hmk : (namesBs true ys []).length < 200) (hnd2 : nodupN (namesFrom [] 0 bs.length) = true)
  (hback : renBs (zipN (namesFrom [] 0 bs.length) bs) ys = some ys') (hlen : bs.length = ys'.length) (hex : ∀ b ∈ bs, ∃ x, hget H b = some x)
  (hd : (bodyA (C.at f) (acall C K) (around C K) (K + 1) fn args' ⟨zipB (namesFrom [] 0 bs.length) xs0, bs.length, [], false, []⟩).Does fun x => x.1 = v /\ getAll x.2.H (namesFrom [] 0 bs.length) = some ys) :
  acall C (K + 1) f args ⟨H, n, p, false, j⟩ = .ret (v, ⟨putsH bs ys' H, n, p, false, j⟩) := by
 refine Z11 (bs := bs) (xs := xs) (xs0 := xs0) (ys' := ys') (zs' := []) hm hf hl hnd hcalm hra hrx ?_ (Z2z bs ys' H n p j hlen hex) rfl
 refine hd.mono ?_
 rintro ⟨v1, s1⟩ ⟨rfl, e2⟩
 simp only at e2
 refine ⟨ys, namesFrom [] 0 bs.length, [], e2, ?_, hnd2, hvr _, ?_, rfl⟩
 ·rw [hvn]; exact Z0b s1.H _ _ 200 hmem hmk
 ·have hap : bs ++ namesFrom p n ([] : List Blk).length = bs := by show bs ++ [] = bs; rw [List.append_nil]
  rw [hap]; exact hback
end
end Go.Am
namespace Go.Proofs.Ytgnpnfkncbnjnaa
open Go Go.Am
attribute [local congr] Z7 Z5 Z6
attribute [local go_sem] Go.Am.frozen Go.Am.freezeG Go.Am.freezeGs Go.Am.minmax
class Emp (E : AV) : Prop where
 out : E = .nils \/ E = .lst []
instance : Emp .nils := ⟨.inl rfl⟩
instance : Emp (.lst []) := ⟨.inr rfl⟩
def rowX (E : AV) (b : Nm) : Nat -> AV
 | 0 => E
 | n + 1 => .slice b 0 (n + 1) (n + 1) false
def rgB (L : List Rg) : Blk := .cells (L.flatMap rgC) true 2
def sysB (E : AV) (v : Vac) (f b r : Nm) (g : Gs) : Blk := .cells [.lst (v.vessels.map vesV), .lst (v.pipes.map pipV), .lst (v.pumps.map pmpV), .lst (v.leaks.map inlV), .lst (v.getters.map gtrV), .slice f 0 g.free.length g.free.length false, .slice b 0 g.bound.length g.bound.length false, rowX E r g.room.length, .int .i64 g.most, .bool g.flashed] true 0
structure SysAt (E : AV) (H : Heap) (X f b r : Nm) (v : Vac) (g : Gs) : Prop where
 x : hget H X = some (sysB E v f b r g)
 f : hget H f = some (rgB g.free)
 b : hget H b = some (rgB g.bound)
 r : g.room ≠ [] -> hget H r = some (rgB g.room)
structure Apart (X f b r : Nm) : Prop where
 xf : X ≠ f
 xb : X ≠ b
 xr : X ≠ r
 fb : f ≠ b
 fr : f ≠ r
 br : b ≠ r
noncomputable def sysPut (E : AV) (X f b r : Nm) (v : Vac) (g : Gs) (H : Heap) : Heap := match g.room with
 | [] => putsH [X, f, b] [sysB E v f b r g, rgB g.free, rgB g.bound] H
 | _ :: _ => putsH [X, f, b, r] [sysB E v f b r g, rgB g.free, rgB g.bound, rgB g.room] H
variable {E : AV}
theorem Xk {H : Heap} {X f b r : Nm} {v : Vac} {g g' : Gs} (h : SysAt E H X f b r v g) (ha : Apart X f b r) (hr : g'.room.length = g.room.length) : SysAt E (sysPut E X f b r v g' H) X f b r v g' := by
 unfold sysPut
 cases hg : g'.room with
 | nil =>
  show SysAt E (hset (hset (hset H X _) f _) b _) X f b r v g'
  exact ⟨by rw [Z3 _ _ (Ne.symm ha.xb), Z3 _ _ (Ne.symm ha.xf)]; exact hss h.x, by rw [Z3 _ _ (Ne.symm ha.fb)]; exact hss ((Z3 _ _ ha.xf).trans h.f), hss ((Z3 _ _ ha.fb).trans ((Z3 _ _ ha.xb).trans h.b)), fun e => absurd hg e⟩
 | cons a l =>
  have hr2 := h.r (fun e => by rw [hg, e] at hr; simp at hr)
  show SysAt E (hset (hset (hset (hset H X _) f _) b _) r _) X f b r v g'
  exact ⟨by rw [Z3 _ _ (Ne.symm ha.xr), Z3 _ _ (Ne.symm ha.xb), Z3 _ _ (Ne.symm ha.xf)]; exact hss h.x, by rw [Z3 _ _ (Ne.symm ha.fr), Z3 _ _ (Ne.symm ha.fb)]; exact hss ((Z3 _ _ ha.xf).trans h.f), by rw [Z3 _ _ (Ne.symm ha.br)]; exact hss ((Z3 _ _ ha.fb).trans ((Z3 _ _ ha.xb).trans h.b)),
   fun _ => by rw [hg]; exact hss ((Z3 _ _ ha.br).trans ((Z3 _ _ ha.fr).trans ((Z3 _ _ ha.xr).trans hr2)))⟩
theorem Z84 (mp : List (Nm × Nm)) (L : List Rg) : renB mp (rgB L) = some (rgB L) := Xj (X9 L)
theorem Jt [hE : Emp E] {F : FuncId} {fn : Func} {K : Nat} {X f b r : Nm} {v : Vac} {g g' : Gs} {s : Bk} {H : Heap} {n : Nat} {p : Nm} {j : Delta} (hm : cfg.mode.get F = some 3) (hf : cfg.fn.get F = some fn)
  (h : SysAt E H X f b r v g) (ha : Apart X f b r) (h1 : g.free ≠ []) (h2 : g.bound ≠ []) (hl1 : g'.free.length = g.free.length) (hl2 : g'.bound.length = g.bound.length) (hl3 : g'.room.length = g.room.length)
  (hd : ∀ H0 m, SysAt E H0 [0] [1] [2] [3] v g -> (g.room ≠ [] -> 1 <= m) -> (bodyA (cfg.at F) (acall cfg K) (around cfg K) (K + 1) fn [.ptr [0] 0, bkV s] ⟨H0, m + 3, [], false, []⟩).Does fun x => x.1 = .tuple [] /\ SysAt E x.2.H [0] [1] [2] [3] v g') :
  acall cfg (K + 1) F [.ptr X 0, bkV s] ⟨H, n, p, false, j⟩ = .ret (.tuple [], ⟨sysPut E X f b r v g' H, n, p, false, j⟩) := by
 have exf := Za ha.xf
 have exb := Za ha.xb
 have exr := Za ha.xr
 have efb := Za ha.fb
 have efr := Za ha.fr
 have ebr := Za ha.br
 have efx := Za (Ne.symm ha.xf)
 have ebx := Za (Ne.symm ha.xb)
 have erx := Za (Ne.symm ha.xr)
 have ebf := Za (Ne.symm ha.fb)
 have erf := Za (Ne.symm ha.fr)
 have erb := Za (Ne.symm ha.br)
 have nb : ∀ op L r, namesB op (rgB L) r = r := fun op L r => (X9 L).nm op r
 have hx := h.x
 unfold sysPut
 cases hg : g.room with
 | nil =>
  have hg' : g'.room = [] := List.length_eq_zero_iff.1 (by rw [hl3, hg]; rfl)
  rw [hg']
  simp only
  have hl0 : rowX E r g.room.length = E := by rw [hg]; rfl
  have hl0' : ∀ q, rowX E q g'.room.length = E := fun q => by rw [hg']; rfl
  have hn1 : namesB false (sysB E v f b r g) [] = [f, b] := by
   unfold sysB
   rw [hl0]; rcases hE.out with e | e <;> rw [e] <;> rfl
  have hn2 : namesBs true [sysB E v [1] [2] [3] g', rgB g'.free, rgB g'.bound] [] = [[1], [2]] := by
   show namesB true (sysB E v [1] [2] [3] g') (namesB true (rgB g'.free) (namesB true (rgB g'.bound) [])) = _
   rw [nb, nb]
   unfold sysB
   rw [hl0']; rcases hE.out with e | e <;> rw [e] <;> rfl
  have hx0 : ∀ mp l1 l2 : List (Nm × Nm), ∀ a c d : Nm, lookN f mp = some a -> lookN b mp = some c -> renB mp (sysB E v f b r g) = some (sysB E v a c d g) := fun mp _ _ a c d e1 e2 => by
   have hl0'' : rowX E d g.room.length = E := by rw [hg]; rfl
   unfold sysB
   rw [hl0, hl0'']
   rcases hE.out with e | e <;> rw [e] <;> simp only [renB, renVs, renV, e1, e2, Z0r, Z0s, Z0t, Z0u, Z0v, flats]
  have hx1 : ∀ mp : List (Nm × Nm), lookN [1] mp = some f -> lookN [2] mp = some b -> renB mp (sysB E v [1] [2] [3] g') = some (sysB E v f b r g') := fun mp e1 e2 => by
   unfold sysB
   rw [hl0', hl0']
   rcases hE.out with e | e <;> rw [e] <;> simp only [renB, renVs, renV, e1, e2, Z0r, Z0s, Z0t, Z0u, Z0v, flats]
  refine Z42 (bs := [X, f, b]) (xs := [sysB E v f b r g, rgB g.free, rgB g.bound]) (args' := [.ptr [0] 0, bkV s]) (xs0 := [sysB E v [1] [2] [3] g, rgB g.free, rgB g.bound]) (ys := [sysB E v [1] [2] [3] g', rgB g'.free, rgB g'.bound]) hm hf ?_ ?_ rfl ?_ ?_ rfl (fun _ => rfl) ?_ ?_ rfl ?_ rfl ?_ ?_
  ·show lendM (199 + 1) [X] [] [] _ = _
   rw [Yd 199 rfl hx, hn1]
   show lendM (198 + 1) [f, b] [X] [_] _ = _
   rw [Yd 198 (by simp only [memNm, efx]) h.f, nb]
   show lendM (197 + 1) [b] [X, f] [_, _] _ = _
   rw [Yd 197 (by simp only [memNm, ebx, ebf]) h.b, nb]
   exact Y1 196 _ _ _
  ·simp only [nodupN, memNm, exf, exb, efb]
  ·show renVs [(X, [0]), (f, [1]), (b, [2])] _ = _
   simp only [renVs, renV, bkV, lookN, Ze, fl_i]
  ·show renBs [(X, [0]), (f, [1]), (b, [2])] _ = _
   simp only [renBs, Z84, hx0 [(X, [0]), (f, [1]), (b, [2])] [] [] [1] [2] [3] (by simp only [lookN, efx, Ze]) (by simp only [lookN, ebx, ebf, Ze])]
  ·rw [hn2]
   intro q hq
   simp only [List.mem_cons, List.not_mem_nil, or_false] at hq
   rcases hq with rfl | rfl <;> rfl
  ·rw [hn2]; decide
  ·show renBs [([0], X), ([1], f), ([2], b)] _ = _
   simp only [renBs, Z84, hx1 [([0], X), ([1], f), ([2], b)] rfl rfl]
  ·intro q hq
   simp only [List.mem_cons, List.not_mem_nil, or_false] at hq
   rcases hq with rfl | rfl | rfl
   ·exact ⟨_, hx⟩
   ·exact ⟨_, h.f⟩
   ·exact ⟨_, h.b⟩
  ·refine (hd _ 0 ⟨rfl, rfl, rfl, fun e => absurd hg e⟩ fun e => absurd hg e).mono ?_
   rintro x ⟨h1, h2⟩
   refine ⟨h1, ?_⟩
   show getAll x.2.H [[0], [1], [2]] = _
   simp only [getAll, h2.x, h2.f, h2.b]
 | cons a l =>
  have hrn : g.room ≠ [] := by rw [hg]; simp
  obtain ⟨a', l', hg'⟩ : ∃ a' l', g'.room = a' :: l' := by
   cases hq : g'.room with
   | nil => rw [hq, hg] at hl3; simp at hl3
   | cons a' l' => exact ⟨a', l', rfl⟩
  have hlm : ∃ m, g.room.length = m + 1 := ⟨l.length, by rw [hg]; rfl⟩
  obtain ⟨m, hlm⟩ := hlm
  have hl0 : ∀ q, rowX E q g.room.length = .slice q 0 (m + 1) (m + 1) false := fun q => by rw [hlm]; rfl
  have hl0' : ∀ q, rowX E q g'.room.length = .slice q 0 (m + 1) (m + 1) false := fun q => by rw [hl3, hlm]; rfl
  have hr := h.r hrn
  have hn1 : namesB false (sysB E v f b r g) [] = [f, b, r] := by
   unfold sysB
   rw [hl0]; rfl
  have hn2 : namesBs true [sysB E v [1] [2] [3] g', rgB g'.free, rgB g'.bound, rgB g'.room] [] = [[1], [2], [3]] := by
   show namesB true (sysB E v [1] [2] [3] g') (namesB true (rgB g'.free) (namesB true (rgB g'.bound) (namesB true (rgB g'.room) []))) = _
   rw [nb, nb, nb]
   unfold sysB
   rw [hl0']; rfl
  have hx0 : ∀ mp : List (Nm × Nm), lookN f mp = some [1] -> lookN b mp = some [2] -> lookN r mp = some [3] -> renB mp (sysB E v f b r g) = some (sysB E v [1] [2] [3] g) := fun mp e1 e2 e3 => by
   unfold sysB
   rw [hl0, hl0]
   simp only [renB, renVs, renV, e1, e2, e3, Z0r, Z0s, Z0t, Z0u, Z0v]
  have hx1 : ∀ mp : List (Nm × Nm), lookN [1] mp = some f -> lookN [2] mp = some b -> lookN [3] mp = some r -> renB mp (sysB E v [1] [2] [3] g') = some (sysB E v f b r g') := fun mp e1 e2 e3 => by
   unfold sysB
   rw [hl0', hl0']
   simp only [renB, renVs, renV, e1, e2, e3, Z0r, Z0s, Z0t, Z0u, Z0v]
  rw [hg']
  simp only
  rw [<- hg']
  refine Z42 (bs := [X, f, b, r]) (xs := [sysB E v f b r g, rgB g.free, rgB g.bound, rgB g.room]) (args' := [.ptr [0] 0, bkV s]) (xs0 := [sysB E v [1] [2] [3] g, rgB g.free, rgB g.bound, rgB g.room]) (ys := [sysB E v [1] [2] [3] g', rgB g'.free, rgB g'.bound, rgB g'.room]) hm hf ?_ ?_ rfl ?_ ?_ rfl (fun _ => rfl) ?_ ?_ rfl ?_ rfl ?_ ?_
  ·show lendM (199 + 1) [X] [] [] _ = _
   rw [Yd 199 rfl hx, hn1]
   show lendM (198 + 1) [f, b, r] [X] [_] _ = _
   rw [Yd 198 (by simp only [memNm, efx]) h.f, nb]
   show lendM (197 + 1) [b, r] [X, f] [_, _] _ = _
   rw [Yd 197 (by simp only [memNm, ebx, ebf]) h.b, nb]
   show lendM (196 + 1) [r] [X, f, b] [_, _, _] _ = _
   rw [Yd 196 (by simp only [memNm, erx, erf, erb]) hr, nb]
   exact Y1 195 _ _ _
  ·simp only [nodupN, memNm, exf, exb, exr, efb, efr, ebr]
  ·show renVs [(X, [0]), (f, [1]), (b, [2]), (r, [3])] _ = _
   simp only [renVs, renV, bkV, lookN, Ze, fl_i]
  ·show renBs [(X, [0]), (f, [1]), (b, [2]), (r, [3])] _ = _
   simp only [renBs, Z84, hx0 [(X, [0]), (f, [1]), (b, [2]), (r, [3])] (by simp only [lookN, efx, Ze]) (by simp only [lookN, ebx, ebf, Ze]) (by simp only [lookN, erx, erf, erb, Ze])]
  ·rw [hn2]
   intro q hq
   simp only [List.mem_cons, List.not_mem_nil, or_false] at hq
   rcases hq with rfl | rfl | rfl <;> rfl
  ·rw [hn2]; decide
  ·show renBs [([0], X), ([1], f), ([2], b), ([3], r)] _ = _
   simp only [renBs, Z84, hx1 [([0], X), ([1], f), ([2], b), ([3], r)] rfl rfl rfl]
  ·intro q hq
   simp only [List.mem_cons, List.not_mem_nil, or_false] at hq
   rcases hq with rfl | rfl | rfl | rfl
   ·exact ⟨_, hx⟩
   ·exact ⟨_, h.f⟩
   ·exact ⟨_, h.b⟩
   ·exact ⟨_, hr⟩
  ·refine (hd _ 1 ⟨rfl, rfl, rfl, fun e => rfl⟩ fun e => Nat.le_refl 1).mono ?_
   rintro x ⟨h1, h2⟩
   refine ⟨h1, ?_⟩
   show getAll x.2.H [[0], [1], [2], [3]] = _
   simp only [getAll, h2.x, h2.f, h2.b, h2.r (by rw [hg']; simp)]
end Go.Proofs.Ytgnpnfkncbnjnaa
namespace Go.Proofs.Ytgnpnfkncbnjnaa
attribute [local go_sem_proc] Int.reduceEq Int.reduceNeg Nat.reduceEqDiff Nat.reduceLT Nat.reduceAdd Nat.reduceSub Nat.reduceMul Int.reduceLE Int.reduceLT Int.reduceToNat Nat.reduceLeDiff
attribute [local go_sem] Int.toNat_natCast Bool.not_true Bool.not_false
open Go Go.Am
attribute [local congr] Z7 Z5 Z6
attribute [local go_sem] Go.Am.frozen Go.Am.freezeG Go.Am.freezeGs
variable {E : AV}
def min2 (a b : Int) : Int := if b < a then b else a
def max2 (a b : Int) : Int := if a < b then b else a
theorem Z5x (a b : Int) : minmax false (.int .i64 a) [.int .i64 b] = some (.int .i64 (min2 a b)) := by
 unfold min2
 by_cases c : b < a
 ·simp -implicitDefEqProofs only [go_sem, Go.Am.minmax, c, if_true]
 ·simp -implicitDefEqProofs only [go_sem, Go.Am.minmax, c, if_false]
theorem Zhi (a b : Int) : minmax true (.int .i64 a) [.int .i64 b] = some (.int .i64 (max2 a b)) := by
 unfold max2
 by_cases c : a < b
 ·simp -implicitDefEqProofs only [go_sem, Go.Am.minmax, c, if_true]
 ·simp -implicitDefEqProofs only [go_sem, Go.Am.minmax, c, if_false]
def leakF : Int -> List Inl -> Int
 | m, [] => m
 | m, l :: r => leakF (min2 68719476736 (wrapF .i64 (m + l.gas.hi))) r
def beginT (v : Vac) (g : Gs) (s : Bk) : Gs := ⟨g.free, g.bound, g.room, leakF g.most v.leaks, g.flashed || s.flash⟩
theorem Z72 [hE : Emp E] {K : Nat} {X f b r : Nm} {v : Vac} {g : Gs} {s : Bk} {H : Heap} {n : Nat} {p : Nm} {j : Delta} (h : SysAt E H X f b r v g) (ha : Apart X f b r) (h1 : g.free ≠ []) (h2 : g.bound ≠ []) (hK : v.leaks.length < K) (hl : v.leaks.length <= 1000000) :
  acall cfg (K + 1) 147 [.ptr X 0, bkV s] ⟨H, n, p, false, j⟩ = .ret (.tuple [], ⟨sysPut E X f b r v (beginT v g s) H, n, p, false, j⟩) := by
 refine Jt Zeu Zet h ha h1 h2 rfl rfl rfl fun H0 m hs hm => ?_
 refine Z9 rfl fun T hT' hA => ?_
 have a0 := hA 0 _ rfl
 have a1 := hA 1 _ rfl
 have hT : T.length = 44 := hT'
 clear hA hT'
 have g0 := hs.x
 unfold sysB at g0
 have hb := hs.b
 have hf := hs.f
 have hr := hs.r
 simp -implicitDefEqProofs only [go_sem, a0, a1, hT, g0]
 have k0 : ∀ X, hget (([m + 3], X) :: H0) [0] = hget H0 [0] := fun X => hc11 (by omega)
 have k0' : ∀ Z, hget (hset H0 [0] Z) [0] = some Z := fun Z => hss g0
 unfold beginT
 cases hfl : g.flashed with
 | true =>
  simp -implicitDefEqProofs only [go_sem, a0, hT, g0, hfl, k0, k0', Bool.true_or]
  simp only [Z4]
  refine Zm (fun k T s' => T.length = 44 /\ nth T 0 = some (.ptr [0] 0) /\ nth T 23 = some (.lst (v.leaks.map inlV)) /\ nth T 24 = some (.int .i64 v.leaks.length) /\ ∃ (i m : Nat) (H : Heap) (q : Int), nth T 25 = some (.int .i64 i) /\ i <= v.leaks.length /\ k = v.leaks.length - i /\ s' = ⟨H, m + 3, [], false, []⟩ /\ hget H [0] = some (.cells [.lst (v.vessels.map vesV), .lst (v.pipes.map pipV), .lst (v.pumps.map pmpV), .lst (v.leaks.map inlV), .lst (v.getters.map gtrV), .slice [1] 0 g.free.length g.free.length false, .slice [2] 0 g.bound.length g.bound.length false, rowX E [3] g.room.length, .int .i64 q, .bool true] true 0) /\ hget H [1] = some (rgB g.free) /\ hget H [2] = some (rgB g.bound) /\ (g.room ≠ [] -> 1 <= m /\ hget H [3] = some (rgB g.room)) /\ leakF g.most v.leaks = leakF q (v.leaks.drop i)) (k := v.leaks.length) (by omega) ?_ ?_
  ·exact ⟨by simp -implicitDefEqProofs only [go_sem, hT], by simp -implicitDefEqProofs only [go_sem, a0], by simp -implicitDefEqProofs only [go_sem, hT], by simp -implicitDefEqProofs only [go_sem, hT], 0, m + 1, _, g.most, by simp -implicitDefEqProofs only [go_sem, hT] <;> rfl, by omega, rfl, rfl, (hc11 (by omega)).trans (k0' _), (hc11 (by omega)).trans ((hs11 (by decide)).trans hf), (hc11 (by omega)).trans ((hs11 (by decide)).trans hb), fun e => ⟨by omega, (hc11 (by have := hm e; omega)).trans ((hs11 (by decide)).trans (hr e))⟩, rfl⟩
  clear a0 a1 hT T g0 k0 k0' hb hf hr hs hm m H0
  rintro k T s' ⟨hT, a0, a23, a24, i, m, H0, q, a25, hi, rfl, rfl, g0, hf, hb, hr, he⟩
  simp -implicitDefEqProofs only [go_sem, a24, a25, hT]
  by_cases hil : (i : Int) < (v.leaks.length : Int)
  ·have hi' : i < v.leaks.length := by omega
   have e1 := Zg (f := inlV) (l := v.leaks) (i := i) (z := 3) hi' rfl
   have hkk : v.leaks.length - (i + 1) < v.leaks.length - i := by omega
   rw [List.drop_eq_getElem_cons hi'] at he
   generalize v.leaks[i] = x at *
   simp only [leakF] at he
   have hw1 : wrapF .i64 ((i : Int) + 1) = ((i + 1 : Nat) : Int) := Z8 (by omega) (by omega)
   have k0 : ∀ X, hget (([m + 3], X) :: H0) [0] = hget H0 [0] := fun X => hc11 (by omega)
   have k3 : ∀ X, hget (([m + 3], X) :: H0) [m + 3] = some X := fun X => Z2 ..
   simp only [inlV] at e1
   simp -implicitDefEqProofs only [go_sem, a23, a25, hT, hil, e1]
   try simp only [Z4]
   refine Zk [[], [], [1], [2, 1], [3, 2, 1], [4, 3, 2, 1], [], [6], [7, 6], [5, 4, 3, 2, 1, 8, 7, 6], [9, 5, 4, 3, 2, 1, 8, 7, 6], [0, 10, 9, 5, 4, 3, 2, 1, 8, 7, 6], [11, 0, 10, 9, 5, 4, 3, 2, 1, 8, 7, 6], [12, 11, 0, 10, 9, 5, 4, 3, 2, 1, 8, 7, 6], [13, 12, 11, 0, 10, 9, 5, 4, 3, 2, 1, 8, 7, 6]] [[], [], [], [], [], [], [], [], [], [], [], [], [], [], [[0]]] (by kernel_rfl) rfl rfl ?_
   simp -implicitDefEqProofs only [go_sem, Option.getD_some, a0, a23, a24, a25, hT, k0, k3, g0, Z5x, hw1, Zj]
   refine ⟨v.leaks.length - (i + 1), hkk, trivial, trivial, trivial, trivial, i + 1, m + 2, _, min2 68719476736 (wrapF .i64 (q + x.gas.hi)), rfl, hi', rfl, rfl, ?_, ?_, ?_, fun e => ⟨by omega, ?_⟩, he⟩
   all_goals clear hw1
   ·simp (disch := omega) only [hc11, Z0, Zn, Option.getD_some]
   ·simp (disch := omega) only [hc11, Z0, lkn, lk11, Option.getD_none, hf]
   ·simp (disch := omega) only [hc11, Z0, lkn, lk11, Option.getD_none, hb]
   ·have := (hr e).1
    simp (disch := omega) only [hc11, Z0, lkn, lk11, Option.getD_none, (hr e).2]
  ·have hie : i = v.leaks.length := by omega
   subst hie
   rw [List.drop_length] at he
   simp only [leakF] at he
   simp -implicitDefEqProofs only [go_sem, hil, Try.results147]
   rw [he]
   exact ⟨trivial, ⟨g0, hf, hb, fun e => (hr e).2⟩⟩
 | false =>
  simp -implicitDefEqProofs only [go_sem, a0, hT, g0, hfl, k0, k0', Bool.false_or]
  simp only [Z4]
  refine Zm (fun k T s' => T.length = 44 /\ nth T 0 = some (.ptr [0] 0) /\ nth T 23 = some (.lst (v.leaks.map inlV)) /\ nth T 24 = some (.int .i64 v.leaks.length) /\ ∃ (i m : Nat) (H : Heap) (q : Int), nth T 25 = some (.int .i64 i) /\ i <= v.leaks.length /\ k = v.leaks.length - i /\ s' = ⟨H, m + 3, [], false, []⟩ /\ hget H [0] = some (.cells [.lst (v.vessels.map vesV), .lst (v.pipes.map pipV), .lst (v.pumps.map pmpV), .lst (v.leaks.map inlV), .lst (v.getters.map gtrV), .slice [1] 0 g.free.length g.free.length false, .slice [2] 0 g.bound.length g.bound.length false, rowX E [3] g.room.length, .int .i64 q, .bool s.flash] true 0) /\ hget H [1] = some (rgB g.free) /\ hget H [2] = some (rgB g.bound) /\ (g.room ≠ [] -> 1 <= m /\ hget H [3] = some (rgB g.room)) /\ leakF g.most v.leaks = leakF q (v.leaks.drop i)) (k := v.leaks.length) (by omega) ?_ ?_
  ·exact ⟨by simp -implicitDefEqProofs only [go_sem, hT], by simp -implicitDefEqProofs only [go_sem, a0], by simp -implicitDefEqProofs only [go_sem, hT], by simp -implicitDefEqProofs only [go_sem, hT], 0, m + 1, _, g.most, by simp -implicitDefEqProofs only [go_sem, hT] <;> rfl, by omega, rfl, rfl, (hc11 (by omega)).trans (k0' _), (hc11 (by omega)).trans ((hs11 (by decide)).trans hf), (hc11 (by omega)).trans ((hs11 (by decide)).trans hb), fun e => ⟨by omega, (hc11 (by have := hm e; omega)).trans ((hs11 (by decide)).trans (hr e))⟩, rfl⟩
  clear a0 a1 hT T g0 k0 k0' hb hf hr hs hm m H0
  rintro k T s' ⟨hT, a0, a23, a24, i, m, H0, q, a25, hi, rfl, rfl, g0, hf, hb, hr, he⟩
  simp -implicitDefEqProofs only [go_sem, a24, a25, hT]
  by_cases hil : (i : Int) < (v.leaks.length : Int)
  ·have hi' : i < v.leaks.length := by omega
   have e1 := Zg (f := inlV) (l := v.leaks) (i := i) (z := 3) hi' rfl
   have hkk : v.leaks.length - (i + 1) < v.leaks.length - i := by omega
   rw [List.drop_eq_getElem_cons hi'] at he
   generalize v.leaks[i] = x at *
   simp only [leakF] at he
   have hw1 : wrapF .i64 ((i : Int) + 1) = ((i + 1 : Nat) : Int) := Z8 (by omega) (by omega)
   have k0 : ∀ X, hget (([m + 3], X) :: H0) [0] = hget H0 [0] := fun X => hc11 (by omega)
   have k3 : ∀ X, hget (([m + 3], X) :: H0) [m + 3] = some X := fun X => Z2 ..
   simp only [inlV] at e1
   simp -implicitDefEqProofs only [go_sem, a23, a25, hT, hil, e1]
   try simp only [Z4]
   refine Zk [[], [], [1], [2, 1], [3, 2, 1], [4, 3, 2, 1], [], [6], [7, 6], [5, 4, 3, 2, 1, 8, 7, 6], [9, 5, 4, 3, 2, 1, 8, 7, 6], [0, 10, 9, 5, 4, 3, 2, 1, 8, 7, 6], [11, 0, 10, 9, 5, 4, 3, 2, 1, 8, 7, 6], [12, 11, 0, 10, 9, 5, 4, 3, 2, 1, 8, 7, 6], [13, 12, 11, 0, 10, 9, 5, 4, 3, 2, 1, 8, 7, 6]] [[], [], [], [], [], [], [], [], [], [], [], [], [], [], [[0]]] (by kernel_rfl) rfl rfl ?_
   simp -implicitDefEqProofs only [go_sem, Option.getD_some, a0, a23, a24, a25, hT, k0, k3, g0, Z5x, hw1, Zj]
   refine ⟨v.leaks.length - (i + 1), hkk, trivial, trivial, trivial, trivial, i + 1, m + 2, _, min2 68719476736 (wrapF .i64 (q + x.gas.hi)), rfl, hi', rfl, rfl, ?_, ?_, ?_, fun e => ⟨by omega, ?_⟩, he⟩
   all_goals clear hw1
   ·simp (disch := omega) only [hc11, Z0, Zn, Option.getD_some]
   ·simp (disch := omega) only [hc11, Z0, lkn, lk11, Option.getD_none, hf]
   ·simp (disch := omega) only [hc11, Z0, lkn, lk11, Option.getD_none, hb]
   ·have := (hr e).1
    simp (disch := omega) only [hc11, Z0, lkn, lk11, Option.getD_none, (hr e).2]
  ·have hie : i = v.leaks.length := by omega
   subst hie
   rw [List.drop_length] at he
   simp only [leakF] at he
   simp -implicitDefEqProofs only [go_sem, hil, Try.results147]
   rw [he]
   exact ⟨trivial, ⟨g0, hf, hb, fun e => (hr e).2⟩⟩
end Go.Proofs.Ytgnpnfkncbnjnaa
namespace Go.Proofs.Ytgnpnfkncbnjnaa
attribute [local go_sem_proc] Int.reduceEq Int.reduceNeg Nat.reduceEqDiff Nat.reduceLT Nat.reduceAdd Nat.reduceSub Nat.reduceMul Int.reduceLE Int.reduceLT Int.reduceToNat Nat.reduceLeDiff
attribute [local go_sem] Int.toNat_natCast Bool.not_true Bool.not_false
open Go Go.Am
attribute [local congr] Z7 Z5 Z6
attribute [local go_sem] Go.Am.frozen Go.Am.freezeG Go.Am.freezeGs
variable {E : AV}
def cutR (q : Int) (r : Rg) : Rg := ⟨min2 r.lo q, min2 r.hi q⟩
def cutT (v : Vac) (g : Gs) (s : Bk) : Gs := ⟨g.free.map (cutR g.most), g.bound.map (cutR g.most), g.room, g.most, g.flashed⟩
theorem X2 (L : List Rg) {c : Nat} (h : c < L.length) : nth (L.flatMap rgC) (c * 2) = some (.int .i64 L[c].lo) := Z5r (g := rgC) (z := 2) Z1f L h (k := 0) (by decide)
theorem X3 (L : List Rg) {c : Nat} (h : c < L.length) : nth (L.flatMap rgC) (c * 2 + 1) = some (.int .i64 L[c].hi) := Z5r (g := rgC) (z := 2) Z1f L h (k := 1) (by decide)
theorem Zhj (L : List Rg) {c : Nat} (h : c < L.length) (y : Rg) : writeN (L.flatMap rgC) (c * 2) [.int .i64 y.lo, .int .i64 y.hi] = some ((L.set c y).flatMap rgC) := Zc7 (g := rgC) (z := 2) Z1f L h y
theorem Xw (cs : List AV) (c : Nat) (v : AV) : nth (setNth cs (c * 2) v) (c * 2 + 1) = nth cs (c * 2 + 1) := Z8p cs v (by omega)
theorem Z1g (L : List Rg) {c : Nat} (h : c < L.length) (y : Rg) : setNth (setNth (L.flatMap rgC) (c * 2) (.int .i64 y.lo)) (c * 2 + 1) (.int .i64 y.hi) = (L.set c y).flatMap rgC := by
 have e := Zhj L h y
 simp only [writeN, X2 L h, Xw, X3 L h] at e
 injection e
theorem Z1h {v : Vac} {a b c : Nm} {g g' : Gs} (h1 : g'.free.length = g.free.length) (h2 : g'.bound.length = g.bound.length) (h3 : g'.room.length = g.room.length) (h4 : g'.most = g.most) (h5 : g'.flashed = g.flashed) : sysB E v a b c g' = sysB E v a b c g := by
 unfold sysB
 rw [h1, h2, h3, h4, h5]
theorem Zcq [hE : Emp E] {K : Nat} {X f b r : Nm} {v : Vac} {g : Gs} {s : Bk} {H : Heap} {n : Nat} {p : Nm} {j : Delta} (h : SysAt E H X f b r v g) (ha : Apart X f b r) (h1 : g.free ≠ []) (h2 : g.bound ≠ []) (hK : g.free.length + g.bound.length + 2 < K) (hl : g.free.length + g.bound.length <= 1000000) :
  acall cfg (K + 1) 151 [.ptr X 0, bkV s] ⟨H, n, p, false, j⟩ = .ret (.tuple [], ⟨sysPut E X f b r v (cutT v g s) H, n, p, false, j⟩) := by
 refine Jt Zf2 Zf1 h ha h1 h2 (List.length_map ..) (List.length_map ..) rfl fun H0 m hs hm => ?_
 refine Z9 rfl fun T hT' hA => ?_
 have a0 := hA 0 _ rfl
 have a1 := hA 1 _ rfl
 have hT : T.length = 51 := hT'
 clear hA hT'
 have g0 := hs.x
 unfold sysB at g0
 have k0 : ∀ X, hget (([m + 3], X) :: H0) [0] = hget H0 [0] := fun X => hc11 (by omega)
 simp -implicitDefEqProofs only [go_sem, a1]
 try simp only [Z4]
 refine Zk [[], [0], [1, 0], [2, 1, 0], [3, 2, 1, 0], [], [5], [6, 5], [7, 6, 5], [8, 7, 6, 5], [4, 3, 2, 1, 0, 9, 8, 7, 6, 5], []] [[], [], [], [], [], [], [], [], [], [], [], []] (by kernel_rfl) rfl rfl ?_
 simp -implicitDefEqProofs only [go_sem, Option.getD_some, a0, hT, g0, k0, Zj]
 simp only [Z4]
 refine Zm (fun k T s' => T.length = 51 /\ nth T 0 = some (.ptr [0] 0) /\ nth T 18 = some (.agg [.slice [1] 0 g.free.length g.free.length false, .slice [2] 0 g.bound.length g.bound.length false]) /\ ∃ (i m : Nat) (H : Heap) (F B : List Rg), nth T 19 = some (.int .i64 i) /\ i <= 2 /\ k = 2 - i /\ s' = ⟨H, m + 3, [], false, []⟩ /\ (g.room ≠ [] -> 1 <= m) /\ SysAt E H [0] [1] [2] [3] v ⟨F, B, g.room, g.most, g.flashed⟩ /\ F = (if i = 0 then g.free else g.free.map (cutR g.most)) /\ B = (if i = 2 then g.bound.map (cutR g.most) else g.bound)) (k := 2) (by omega) ?_ ?_
 ·exact ⟨by simp -implicitDefEqProofs only [go_sem, hT], by simp -implicitDefEqProofs only [go_sem, a0], by simp -implicitDefEqProofs only [go_sem, hT], 0, m + 2, _, g.free, g.bound, by simp -implicitDefEqProofs only [go_sem, hT] <;> rfl, by omega, rfl, rfl, fun e => by omega, ⟨by simp (disch := omega) only [hc11, Z0, lkn, Option.getD_none]; exact hs.x, by simp (disch := omega) only [hc11, Z0, lkn, Option.getD_none]; exact hs.f, by simp (disch := omega) only [hc11, Z0, lkn, Option.getD_none]; exact hs.b, fun e => by have := hm e; simp (disch := omega) only [hc11, Z0, lkn, Option.getD_none]; exact hs.r e⟩, rfl, rfl⟩
 clear a0 a1 hT T g0 k0 hs hm m H0
 rintro k T s' ⟨hT, a0, a18, i, m, H0, F, B, a19, hi, rfl, rfl, hm, hs, rfl, rfl⟩
 rcases (show i = 0 \/ i = 1 \/ i = 2 by omega) with rfl | rfl | rfl
 ·simp only [if_true] at hs
  have hs : SysAt E H0 [0] [1] [2] [3] v ⟨g.free, g.bound, g.room, g.most, g.flashed⟩ := hs
  have b19 : nth T 19 = some (.int .i64 0) := a19
  clear a19 hi
  have hin : inR 0 2 = some 0 := rfl
  simp -implicitDefEqProofs only [go_sem, a18, b19, hT, hin]
  simp only [Z4]
  refine Tr.Does.mono (Q := fun x => ∃ (T' : List AV) (m' : Nat) (H' : Heap), x = ((AExit.exit 2, T'), (⟨H', m' + 3, [], false, []⟩ : St)) /\ m <= m' /\ T'.length = 51 /\ nth T' 0 = some (.ptr [0] 0) /\ nth T' 18 = some (.agg [.slice [1] 0 g.free.length g.free.length false, .slice [2] 0 g.bound.length g.bound.length false]) /\ nth T' 19 = some (.int .i64 0) /\ hget H' [1] = some (rgB (g.free.map (cutR g.most))) /\ ∀ k, k < m + 3 -> k ≠ 1 -> hget H' [k] = hget H0 [k]) ?_ ?_
  ·refine Zm (fun k T s' => T.length = 51 /\ nth T 0 = some (.ptr [0] 0) /\ nth T 18 = some (.agg [.slice [1] 0 g.free.length g.free.length false, .slice [2] 0 g.bound.length g.bound.length false]) /\ nth T 19 = some (.int .i64 0) /\ nth T 5 = some (.slice [1] 0 g.free.length g.free.length false) /\ nth T 22 = some (.slice [1] 0 g.free.length g.free.length false) /\ nth T 23 = some (.int .i64 g.free.length) /\ ∃ (c m' : Nat) (H' : Heap), nth T 24 = some (.int .i64 c) /\ c <= g.free.length /\ k = g.free.length - c /\ s' = ⟨H', m' + 3, [], false, []⟩ /\ m <= m' /\ hget H' [1] = some (rgB ((g.free.take c).map (cutR g.most) ++ g.free.drop c)) /\ ∀ k, k < m + 3 -> k ≠ 1 -> hget H' [k] = hget H0 [k]) (k := g.free.length) (by omega) ?_ ?_
   ·exact ⟨by simp -implicitDefEqProofs only [go_sem, hT], by simp -implicitDefEqProofs only [go_sem, a0], by simp -implicitDefEqProofs only [go_sem, a18], by simp -implicitDefEqProofs only [go_sem, b19], by simp -implicitDefEqProofs only [go_sem, hT], by simp -implicitDefEqProofs only [go_sem, hT], by simp -implicitDefEqProofs only [go_sem, hT], 0, m, H0, by simp -implicitDefEqProofs only [go_sem, hT] <;> rfl, by omega, rfl, rfl, Nat.le_refl _, hs.f, fun _ _ _ => rfl⟩
   clear a0 a18 b19 hT T
   rintro k T s' ⟨hT, a0, a18, a19, a5, a22, a23, c, m', H', a24, hc, rfl, rfl, hmm, hb, hfr⟩
   have g0 := (hfr 0 (by omega) (by decide)).trans hs.x
   unfold sysB at g0
   simp only at g0
   simp -implicitDefEqProofs only [go_sem, a23, a24, hT]
   by_cases hcl : (c : Int) < (g.free.length : Int)
   ·have hc' : c < g.free.length := by omega
    have hinr : inR (c : Int) g.free.length = some c := Ja hc'
    obtain ⟨R, hR⟩ : ∃ R, R = (g.free.take c).map (cutR g.most) ++ g.free.drop c := ⟨_, rfl⟩
    have hRl : R.length = g.free.length := by rw [hR, List.length_append, List.length_map, List.length_take, List.length_drop]; omega
    have hRc : c < R.length := by omega
    have hRx : R[c] = g.free[c] := by subst hR; rw [List.getElem_append_right (by simp; omega)]; simp; congr 1; omega
    have hRs : R.set c (cutR g.most g.free[c]) = (g.free.take (c + 1)).map (cutR g.most) ++ g.free.drop (c + 1) := by
     subst hR
     rw [List.set_append_right _ _ (by simp; omega), List.take_succ_eq_append_getElem hc', List.map_append]
     have e : c - ((g.free.take c).map (cutR g.most)).length = 0 := by simp; omega
     rw [e, List.drop_eq_getElem_cons hc', List.set_cons_zero]
     simp
    have n0 := X2 R hRc
    have n1 := X3 R hRc
    have wr := Z1g R hRc (cutR g.most g.free[c])
    rw [hRs] at wr
    rw [<- hR] at hb
    rw [hRx] at n0 n1
    clear hR hRx
    generalize g.free[c] = x at *
    unfold rgB at hb
    have k1 : ∀ X, hget (([m' + 3], X) :: H') [1] = hget H' [1] := fun X => hc11 (by omega)
    have k2 : ∀ X, hget (([m' + 3], X) :: H') [0] = hget H' [0] := fun X => hc11 (by omega)
    simp -implicitDefEqProofs only [go_sem, a22, a24, hT, hcl, hinr, hb, n0, n1]
    have hkk : g.free.length - (c + 1) < g.free.length - c := by omega
    have k3 : ∀ X, hget (([m' + 3], X) :: H') [m' + 3] = some X := fun X => Z2 ..
    have hw1 : wrapF .i64 ((c : Int) + 1) = ((c + 1 : Nat) : Int) := Z8 (by omega) (by omega)
    simp only [cutR] at wr
    try simp only [Z4]
    refine Zk [[], [], [], [2], [], [4], [5, 4], [6, 5, 4], [7, 6, 5, 4], [3, 2, 8, 7, 6, 5, 4], [], [10], [], [12], [13, 12], [14, 13, 12], [15, 14, 13, 12], [11, 10, 16, 15, 14, 13, 12], [9, 3, 2, 8, 7, 6, 5, 4, 17, 11, 10, 16, 15, 14, 13, 12], [0, 1, 18, 9, 3, 2, 8, 7, 6, 5, 4, 17, 11, 10, 16, 15, 14, 13, 12], [19, 0, 1, 18, 9, 3, 2, 8, 7, 6, 5, 4, 17, 11, 10, 16, 15, 14, 13, 12]] [[], [], [], [], [], [], [], [], [], [], [], [], [], [], [], [], [], [], [], [], [[1]]] (by kernel_rfl) rfl rfl ?_
    simp -implicitDefEqProofs only [go_sem, Option.getD_some, a0, a18, a19, a5, a22, a23, a24, hT, hinr, hb, g0, k1, k2, k3, Z5x, Xw, n0, n1, wr, hw1, Zj]
    refine ⟨g.free.length - (c + 1), hkk, trivial, trivial, trivial, trivial, trivial, trivial, trivial, c + 1, m' + 2, _, rfl, hc', rfl, rfl, by omega, ?_, fun k hk hne => ?_⟩
    all_goals clear hw1
    ·simp (disch := omega) only [hc11, Z0, Zn, Option.getD_some]; rfl
    ·simp (disch := omega) only [hc11, Z0, lkn, lk11, Option.getD_none]; exact hfr k hk hne
   ·have hce : c = g.free.length := by omega
    subst hce
    rw [List.take_length, List.drop_length, List.append_nil] at hb
    simp -implicitDefEqProofs only [go_sem, hcl]
    exact ⟨_, m', H', rfl, hmm, by simp -implicitDefEqProofs only [go_sem, hT], by simp -implicitDefEqProofs only [go_sem, a0], by simp -implicitDefEqProofs only [go_sem, a18], by simp -implicitDefEqProofs only [go_sem, a19], hb, hfr⟩
  clear a0 a18 b19 hT T
  rintro _ ⟨T, m', H', rfl, hmm, hT, a0, a18, a19, hb, hfr⟩
  simp -implicitDefEqProofs only [go_sem, a0, a18, a19, hT]
  refine ⟨2 - (0 + 1), by omega, trivial, trivial, trivial, 0 + 1, m', H', g.free.map (cutR g.most), g.bound, rfl, by omega, rfl, rfl, fun e => Nat.le_trans (hm e) hmm, ⟨?_, ?_, ?_, fun e => ?_⟩, rfl, rfl⟩
  ·exact (hfr 0 (by omega) (by decide)).trans (hs.x.trans (congrArg some (Z1h (List.length_map ..).symm rfl rfl rfl rfl)))
  ·exact hb
  ·exact (hfr 2 (by omega) (by decide)).trans hs.b
  ·have := hm e
   exact (hfr 3 (by omega) (by decide)).trans (hs.r e)
 ·have hs : SysAt E H0 [0] [1] [2] [3] v ⟨g.free.map (cutR g.most), g.bound, g.room, g.most, g.flashed⟩ := hs
  have b19 : nth T 19 = some (.int .i64 1) := a19
  clear a19 hi
  have hin : inR 1 2 = some 1 := rfl
  simp -implicitDefEqProofs only [go_sem, a18, b19, hT, hin]
  simp only [Z4]
  refine Tr.Does.mono (Q := fun x => ∃ (T' : List AV) (m' : Nat) (H' : Heap), x = ((AExit.exit 2, T'), (⟨H', m' + 3, [], false, []⟩ : St)) /\ m <= m' /\ T'.length = 51 /\ nth T' 0 = some (.ptr [0] 0) /\ nth T' 18 = some (.agg [.slice [1] 0 g.free.length g.free.length false, .slice [2] 0 g.bound.length g.bound.length false]) /\ nth T' 19 = some (.int .i64 1) /\ hget H' [2] = some (rgB (g.bound.map (cutR g.most))) /\ ∀ k, k < m + 3 -> k ≠ 2 -> hget H' [k] = hget H0 [k]) ?_ ?_
  ·refine Zm (fun k T s' => T.length = 51 /\ nth T 0 = some (.ptr [0] 0) /\ nth T 18 = some (.agg [.slice [1] 0 g.free.length g.free.length false, .slice [2] 0 g.bound.length g.bound.length false]) /\ nth T 19 = some (.int .i64 1) /\ nth T 5 = some (.slice [2] 0 g.bound.length g.bound.length false) /\ nth T 22 = some (.slice [2] 0 g.bound.length g.bound.length false) /\ nth T 23 = some (.int .i64 g.bound.length) /\ ∃ (c m' : Nat) (H' : Heap), nth T 24 = some (.int .i64 c) /\ c <= g.bound.length /\ k = g.bound.length - c /\ s' = ⟨H', m' + 3, [], false, []⟩ /\ m <= m' /\ hget H' [2] = some (rgB ((g.bound.take c).map (cutR g.most) ++ g.bound.drop c)) /\ ∀ k, k < m + 3 -> k ≠ 2 -> hget H' [k] = hget H0 [k]) (k := g.bound.length) (by omega) ?_ ?_
   ·exact ⟨by simp -implicitDefEqProofs only [go_sem, hT], by simp -implicitDefEqProofs only [go_sem, a0], by simp -implicitDefEqProofs only [go_sem, a18], by simp -implicitDefEqProofs only [go_sem, b19], by simp -implicitDefEqProofs only [go_sem, hT], by simp -implicitDefEqProofs only [go_sem, hT], by simp -implicitDefEqProofs only [go_sem, hT], 0, m, H0, by simp -implicitDefEqProofs only [go_sem, hT] <;> rfl, by omega, rfl, rfl, Nat.le_refl _, hs.b, fun _ _ _ => rfl⟩
   clear a0 a18 b19 hT T
   rintro k T s' ⟨hT, a0, a18, a19, a5, a22, a23, c, m', H', a24, hc, rfl, rfl, hmm, hb, hfr⟩
   have g0 := (hfr 0 (by omega) (by decide)).trans hs.x
   unfold sysB at g0
   simp only at g0
   simp -implicitDefEqProofs only [go_sem, a23, a24, hT]
   by_cases hcl : (c : Int) < (g.bound.length : Int)
   ·have hc' : c < g.bound.length := by omega
    have hinr : inR (c : Int) g.bound.length = some c := Ja hc'
    obtain ⟨R, hR⟩ : ∃ R, R = (g.bound.take c).map (cutR g.most) ++ g.bound.drop c := ⟨_, rfl⟩
    have hRl : R.length = g.bound.length := by rw [hR, List.length_append, List.length_map, List.length_take, List.length_drop]; omega
    have hRc : c < R.length := by omega
    have hRx : R[c] = g.bound[c] := by subst hR; rw [List.getElem_append_right (by simp; omega)]; simp; congr 1; omega
    have hRs : R.set c (cutR g.most g.bound[c]) = (g.bound.take (c + 1)).map (cutR g.most) ++ g.bound.drop (c + 1) := by
     subst hR
     rw [List.set_append_right _ _ (by simp; omega), List.take_succ_eq_append_getElem hc', List.map_append]
     have e : c - ((g.bound.take c).map (cutR g.most)).length = 0 := by simp; omega
     rw [e, List.drop_eq_getElem_cons hc', List.set_cons_zero]
     simp
    have n0 := X2 R hRc
    have n1 := X3 R hRc
    have wr := Z1g R hRc (cutR g.most g.bound[c])
    rw [hRs] at wr
    rw [<- hR] at hb
    rw [hRx] at n0 n1
    clear hR hRx
    generalize g.bound[c] = x at *
    unfold rgB at hb
    have k1 : ∀ X, hget (([m' + 3], X) :: H') [2] = hget H' [2] := fun X => hc11 (by omega)
    have k2 : ∀ X, hget (([m' + 3], X) :: H') [0] = hget H' [0] := fun X => hc11 (by omega)
    simp -implicitDefEqProofs only [go_sem, a22, a24, hT, hcl, hinr, hb, n0, n1]
    have hkk : g.bound.length - (c + 1) < g.bound.length - c := by omega
    have k3 : ∀ X, hget (([m' + 3], X) :: H') [m' + 3] = some X := fun X => Z2 ..
    have hw1 : wrapF .i64 ((c : Int) + 1) = ((c + 1 : Nat) : Int) := Z8 (by omega) (by omega)
    simp only [cutR] at wr
    try simp only [Z4]
    refine Zk [[], [], [], [2], [], [4], [5, 4], [6, 5, 4], [7, 6, 5, 4], [3, 2, 8, 7, 6, 5, 4], [], [10], [], [12], [13, 12], [14, 13, 12], [15, 14, 13, 12], [11, 10, 16, 15, 14, 13, 12], [9, 3, 2, 8, 7, 6, 5, 4, 17, 11, 10, 16, 15, 14, 13, 12], [0, 1, 18, 9, 3, 2, 8, 7, 6, 5, 4, 17, 11, 10, 16, 15, 14, 13, 12], [19, 0, 1, 18, 9, 3, 2, 8, 7, 6, 5, 4, 17, 11, 10, 16, 15, 14, 13, 12]] [[], [], [], [], [], [], [], [], [], [], [], [], [], [], [], [], [], [], [], [], [[2]]] (by kernel_rfl) rfl rfl ?_
    simp -implicitDefEqProofs only [go_sem, Option.getD_some, a0, a18, a19, a5, a22, a23, a24, hT, hinr, hb, g0, k1, k2, k3, Z5x, Xw, n0, n1, wr, hw1, Zj]
    refine ⟨g.bound.length - (c + 1), hkk, trivial, trivial, trivial, trivial, trivial, trivial, trivial, c + 1, m' + 2, _, rfl, hc', rfl, rfl, by omega, ?_, fun k hk hne => ?_⟩
    all_goals clear hw1
    ·simp (disch := omega) only [hc11, Z0, Zn, Option.getD_some]; rfl
    ·simp (disch := omega) only [hc11, Z0, lkn, lk11, Option.getD_none]; exact hfr k hk hne
   ·have hce : c = g.bound.length := by omega
    subst hce
    rw [List.take_length, List.drop_length, List.append_nil] at hb
    simp -implicitDefEqProofs only [go_sem, hcl]
    exact ⟨_, m', H', rfl, hmm, by simp -implicitDefEqProofs only [go_sem, hT], by simp -implicitDefEqProofs only [go_sem, a0], by simp -implicitDefEqProofs only [go_sem, a18], by simp -implicitDefEqProofs only [go_sem, a19], hb, hfr⟩
  clear a0 a18 b19 hT T
  rintro _ ⟨T, m', H', rfl, hmm, hT, a0, a18, a19, hb, hfr⟩
  simp -implicitDefEqProofs only [go_sem, a0, a18, a19, hT]
  refine ⟨2 - (1 + 1), by omega, trivial, trivial, trivial, 1 + 1, m', H', g.free.map (cutR g.most), g.bound.map (cutR g.most), rfl, by omega, rfl, rfl, fun e => Nat.le_trans (hm e) hmm, ⟨?_, ?_, ?_, fun e => ?_⟩, rfl, rfl⟩
  ·exact (hfr 0 (by omega) (by decide)).trans (hs.x.trans (congrArg some (Z1h rfl (List.length_map ..).symm rfl rfl rfl)))
  ·exact (hfr 1 (by omega) (by decide)).trans hs.f
  ·exact hb
  ·have := hm e
   exact (hfr 3 (by omega) (by decide)).trans (hs.r e)
 ·have hs : SysAt E H0 [0] [1] [2] [3] v ⟨g.free.map (cutR g.most), g.bound.map (cutR g.most), g.room, g.most, g.flashed⟩ := hs
  have b19 : nth T 19 = some (.int .i64 2) := a19
  simp -implicitDefEqProofs only [go_sem, b19, hT, Try.results151]
  exact ⟨trivial, hs⟩
end Go.Proofs.Ytgnpnfkncbnjnaa
namespace Go.Proofs.Ytgnpnfkncbnjnaa
attribute [local go_sem_proc] Int.reduceEq Int.reduceNeg Nat.reduceEqDiff Nat.reduceLT Nat.reduceAdd Nat.reduceSub Nat.reduceMul Int.reduceLE Int.reduceLT Int.reduceToNat Nat.reduceLeDiff
attribute [local go_sem] Int.toNat_natCast Bool.not_true Bool.not_false
open Go Go.Am
attribute [local congr] Z7 Z5 Z6
attribute [local go_sem] Go.Am.frozen Go.Am.freezeG Go.Am.freezeGs
variable {E : AV}
theorem Z4z {α : Type} {G F : List α} (h : G.length = F.length) (i : Nat) : (G.take i ++ F.drop i).length = F.length := by
 rw [List.length_append, List.length_take, List.length_drop]; omega
theorem Zb5 {α : Type} {G F : List α} (h : G.length = F.length) {i : Nat} (hi : i < F.length) (hi2 : i < (G.take i ++ F.drop i).length) : (G.take i ++ F.drop i)[i] = F[i] := by
 rw [List.getElem_append_right (by rw [List.length_take]; omega), List.getElem_drop]
 congr 1
 rw [List.length_take]; omega
theorem Zfv {α : Type} {G F : List α} (h : G.length = F.length) {i : Nat} (hi : i < F.length) (hg : i < G.length) : (G.take i ++ F.drop i).set i G[i] = G.take (i + 1) ++ F.drop (i + 1) := by
 rw [List.set_append_right _ _ (by rw [List.length_take]; omega), List.take_succ_eq_append_getElem hg]
 have e : i - (G.take i).length = 0 := by rw [List.length_take]; omega
 rw [e, List.drop_eq_getElem_cons hi, List.set_cons_zero, List.append_assoc]
 rfl
theorem Z73 {G F : List Rg} (h : G.length = F.length) {i : Nat} (hi : i < F.length) (y : Rg) (hy : ∀ h2 : i < G.length, G[i] = y) : ∃ R, R = G.take i ++ F.drop i /\ R.length = F.length /\ nth (R.flatMap rgC) (i * 2) = some (.int .i64 F[i].lo) /\ nth (R.flatMap rgC) (i * 2 + 1) = some (.int .i64 F[i].hi) /\ setNth (setNth (R.flatMap rgC) (i * 2) (.int .i64 y.lo)) (i * 2 + 1) (.int .i64 y.hi) = (G.take (i + 1) ++ F.drop (i + 1)).flatMap rgC := by
 have hg : i < G.length := by omega
 have hl := Z4z h i
 have hi2 : i < (G.take i ++ F.drop i).length := by omega
 refine ⟨_, rfl, hl, ?_, ?_, ?_⟩
 ·rw [X2 _ hi2, Zb5 h hi hi2]
 ·rw [X3 _ hi2, Zb5 h hi hi2]
 ·rw [Z1g _ hi2, <- hy hg, Zfv h hi hg]
def rateP (h : Int) : Rg -> List Rel -> Rg
 | q, [] => q
 | q, b :: r => if h < b.frm then q else rateP h b.rate r
def relFr (h : Int) (x : Ves) (f b : Rg) : Rg := plusR f ⟨downN b.lo (rateP h ⟨0, 0⟩ x.bands).lo, upN b.hi (rateP h ⟨0, 0⟩ x.bands).hi⟩
def relBo (h : Int) (x : Ves) (b : Rg) : Rg := ⟨downN b.lo (wrapF .i64 (1000000 - (rateP h ⟨0, 0⟩ x.bands).hi)), upN b.hi (wrapF .i64 (1000000 - (rateP h ⟨0, 0⟩ x.bands).lo))⟩
def relF (h : Int) (vs : List Ves) (F B : List Rg) : List Rg := (vs.zip (F.zip B)).map fun t => relFr h t.1 t.2.1 t.2.2
def relB (h : Int) (vs : List Ves) (B : List Rg) : List Rg := (vs.zip B).map fun t => relBo h t.1 t.2
def relT (v : Vac) (g : Gs) (s : Bk) : Gs := ⟨relF s.heat v.vessels g.free g.bound, relB s.heat v.vessels g.bound, g.room, g.most, g.flashed⟩
theorem Z85 {h : Int} {vs : List Ves} {F B : List Rg} (h1 : F.length = vs.length) (h2 : B.length = vs.length) : (relF h vs F B).length = vs.length := by
 simp [relF, h1, h2]
theorem Z86 {h : Int} {vs : List Ves} {B : List Rg} (h2 : B.length = vs.length) : (relB h vs B).length = vs.length := by
 simp [relB, h2]
theorem Zcr {h : Int} {vs : List Ves} {F B : List Rg} {i : Nat} (h0 : i < (relF h vs F B).length) (h1 : i < vs.length) (h2 : i < F.length) (h3 : i < B.length) : (relF h vs F B)[i] = relFr h vs[i] F[i] B[i] := by
 simp [relF]
theorem Zcs {h : Int} {vs : List Ves} {B : List Rg} {i : Nat} (h0 : i < (relB h vs B).length) (h1 : i < vs.length) (h3 : i < B.length) : (relB h vs B)[i] = relBo h vs[i] B[i] := by
 simp [relB]
theorem Z5y [hE : Emp E] {K : Nat} {X f b r : Nm} {v : Vac} {g : Gs} {s : Bk} {H : Heap} {n : Nat} {p : Nm} {j : Delta} (h : SysAt E H X f b r v g) (ha : Apart X f b r) (h1 : g.free ≠ []) (hl1 : g.free.length = v.vessels.length) (hl2 : g.bound.length = v.vessels.length) (hK : v.vessels.length + 20 < K) (hl : v.vessels.length <= 1000000) (hbd : ∀ x ∈ v.vessels, x.bands.length <= 8) :
  acall cfg (K + 2) 148 [.ptr X 0, bkV s] ⟨H, n, p, false, j⟩ = .ret (.tuple [], ⟨sysPut E X f b r v (relT v g s) H, n, p, false, j⟩) := by
 have hGF := Z85 (h := s.heat) hl1 hl2
 have hGB := Z86 (h := s.heat) hl2
 have h2 : g.bound ≠ [] := fun e => h1 (List.length_eq_zero_iff.1 (by rw [hl1, <- hl2, e]; rfl))
 refine Jt Zew Zev h ha h1 h2 (by show (relF _ _ _ _).length = _; omega) (by show (relB _ _ _).length = _; omega) rfl fun H0 m hs hm => ?_
 refine Z9 rfl fun T hT' hA => ?_
 have a0 := hA 0 _ rfl
 have a1 := hA 1 _ rfl
 have hT : T.length = 92 := hT'
 clear hA hT'
 have g0 := hs.x
 unfold sysB at g0
 have k0 : ∀ X, hget (([m + 3], X) :: H0) [0] = hget H0 [0] := fun X => hc11 (by omega)
 simp -implicitDefEqProofs only [go_sem, a0, a1, hT, g0, k0]
 simp only [Z4]
 unfold relT
 refine Zm (fun k T s' => T.length = 92 /\ nth T 0 = some (.ptr [0] 0) /\ nth T 3 = some (.ptr [m + 3] 0) /\ nth T 14 = some (.lst (v.vessels.map vesV)) /\ nth T 15 = some (.int .i64 v.vessels.length) /\ ∃ (i m' : Nat) (H' : Heap), nth T 16 = some (.int .i64 i) /\ i <= v.vessels.length /\ k = v.vessels.length - i /\ s' = ⟨H', m' + 3, [], false, []⟩ /\ m < m' /\ hget H' [m + 3] = some (.cells [.int .i64 s.ticks, .int .i64 s.heat, .lst (s.shut.map iV), .bool s.flash] true 0) /\ SysAt E H' [0] [1] [2] [3] v ⟨(relF s.heat v.vessels g.free g.bound).take i ++ g.free.drop i, (relB s.heat v.vessels g.bound).take i ++ g.bound.drop i, g.room, g.most, g.flashed⟩) (k := v.vessels.length) (by omega) ?_ ?_
 ·exact ⟨by simp -implicitDefEqProofs only [go_sem, hT], by simp -implicitDefEqProofs only [go_sem, a0], by simp -implicitDefEqProofs only [go_sem, hT], by simp -implicitDefEqProofs only [go_sem, hT], by simp -implicitDefEqProofs only [go_sem, hT], 0, m + 1, _, by simp -implicitDefEqProofs only [go_sem, hT] <;> rfl, by omega, rfl, rfl, by omega, Z2 .., ⟨(k0 _).trans hs.x, (hc11 (by omega)).trans hs.f, (hc11 (by omega)).trans hs.b, fun e => (hc11 (by have := hm e; omega)).trans (hs.r e)⟩⟩
 clear a0 a1 hT T g0 k0 hs H0
 rintro k T s' ⟨hT, a0, a3, a14, a15, i, m', H0, a16, hi, rfl, rfl, hmm, hbk, hs⟩
 simp -implicitDefEqProofs only [go_sem, a15, a16, hT]
 by_cases hil : (i : Int) < (v.vessels.length : Int)
 ·have hi' : i < v.vessels.length := by omega
  have e1 := Zg (f := vesV) (l := v.vessels) (i := i) (z := 6) hi' rfl
  have hkk : v.vessels.length - (i + 1) < v.vessels.length - i := by omega
  have hbx := hbd _ (List.getElem_mem hi')
  obtain ⟨F, hF, lF, f0, f1, fw⟩ := Z73 (G := relF s.heat v.vessels g.free g.bound) (F := g.free) (by omega) (show i < g.free.length by omega) _ (fun h0 => Zcr h0 hi' (by omega) (by omega))
  obtain ⟨B, hB, lB, b0, b1, bw⟩ := Z73 (G := relB s.heat v.vessels g.bound) (F := g.bound) (by omega) (show i < g.bound.length by omega) _ (fun h0 => Zcs h0 hi' (by omega))
  rw [<- hF, <- hB] at hs
  clear hF hB
  generalize hF' : (relF s.heat v.vessels g.free g.bound).take (i + 1) ++ g.free.drop (i + 1) = F' at fw
  generalize hB' : (relB s.heat v.vessels g.bound).take (i + 1) ++ g.bound.drop (i + 1) = B' at bw
  generalize v.vessels[i] = x at *
  generalize g.free[i] = fi at *
  generalize g.bound[i] = bi at *
  simp only [vesV] at e1
  have k1 : ∀ X Y, hget (([m' + 4], X) :: ([m' + 3], Y) :: H0) [m' + 3] = some Y := fun X Y => (hc11 (by omega)).trans (Z2 ..)
  simp -implicitDefEqProofs only [go_sem, a14, a16, hT, hil, e1, k1]
  simp only [Z4]
  refine Tr.Does.mono (Q := fun x' => ∃ (T' : List AV) (m2 : Nat) (H2 : Heap), x' = ((AExit.exit 2, T'), (⟨H2, m2 + 5, [], false, []⟩ : St)) /\ m' <= m2 /\ T'.length = 92 /\ nth T' 0 = some (.ptr [0] 0) /\ nth T' 3 = some (.ptr [m + 3] 0) /\ nth T' 4 = some (.int .i64 i) /\ nth T' 6 = some (.ptr [m' + 4] 0) /\ nth T' 14 = some (.lst (v.vessels.map vesV)) /\ nth T' 15 = some (.int .i64 v.vessels.length) /\ nth T' 16 = some (.int .i64 i) /\ hget H2 [m' + 4] = some (.cells [.int .i64 (rateP s.heat ⟨0, 0⟩ x.bands).lo, .int .i64 (rateP s.heat ⟨0, 0⟩ x.bands).hi] true 0) /\ ∀ k, k < m' + 3 -> hget H2 [k] = hget H0 [k]) ?_ ?_
  ·refine Zm (fun k T s' => T.length = 92 /\ nth T 0 = some (.ptr [0] 0) /\ nth T 3 = some (.ptr [m + 3] 0) /\ nth T 4 = some (.int .i64 i) /\ nth T 6 = some (.ptr [m' + 4] 0) /\ nth T 14 = some (.lst (v.vessels.map vesV)) /\ nth T 15 = some (.int .i64 v.vessels.length) /\ nth T 16 = some (.int .i64 i) /\ nth T 22 = some (.lst (x.bands.map relV)) /\ nth T 23 = some (.int .i64 x.bands.length) /\ ∃ (c m2 : Nat) (H2 : Heap) (q : Rg), nth T 24 = some (.int .i64 c) /\ c <= x.bands.length /\ k = x.bands.length - c /\ s' = ⟨H2, m2 + 5, [], false, []⟩ /\ m' <= m2 /\ hget H2 [m' + 4] = some (.cells [.int .i64 q.lo, .int .i64 q.hi] true 0) /\ (∀ k, k < m' + 3 -> hget H2 [k] = hget H0 [k]) /\ rateP s.heat ⟨0, 0⟩ x.bands = rateP s.heat q (x.bands.drop c)) (k := x.bands.length) (by omega) ?_ ?_
   ·exact ⟨by simp -implicitDefEqProofs only [go_sem, hT], by simp -implicitDefEqProofs only [go_sem, a0], by simp -implicitDefEqProofs only [go_sem, a3], by simp -implicitDefEqProofs only [go_sem, hT], by simp -implicitDefEqProofs only [go_sem, hT], by simp -implicitDefEqProofs only [go_sem, a14], by simp -implicitDefEqProofs only [go_sem, a15], by simp -implicitDefEqProofs only [go_sem, a16], by simp -implicitDefEqProofs only [go_sem, hT], by simp -implicitDefEqProofs only [go_sem, hT], 0, m', _, ⟨0, 0⟩, by simp -implicitDefEqProofs only [go_sem, hT] <;> rfl, by omega, rfl, rfl, Nat.le_refl _, Z2 .., fun k hk => (hc11 (by omega)).trans (hc11 (by omega)), rfl⟩
   clear a0 a3 a14 a15 a16 hT T k1
   rintro k T s' ⟨hT, a0, a3, a4, a6, a14, a15, a16, a22, a23, c, m2, H2, q, a24, hc, rfl, rfl, hm2, hq, hfr, hra⟩
   simp -implicitDefEqProofs only [go_sem, a23, a24, hT]
   by_cases hcl : (c : Int) < (x.bands.length : Int)
   ·have hc' : c < x.bands.length := by omega
    have e2 := Zg (f := relV) (l := x.bands) (i := c) (z := 3) hc' rfl
    have hk2 : x.bands.length - (c + 1) < x.bands.length - c := by omega
    rw [List.drop_eq_getElem_cons hc'] at hra
    generalize x.bands[c] = y at *
    simp only [rateP] at hra
    simp only [relV] at e2
    have k5 : ∀ X, hget (([m2 + 5], X) :: H2) [m2 + 5] = some X := fun X => Z2 ..
    have k3 : ∀ X, hget (([m2 + 5], X) :: H2) [m + 3] = _ := fun X => (hc11 (by omega)).trans ((hfr _ (by omega)).trans hbk)
    have k4 : ∀ X, hget (([m2 + 5], X) :: H2) [m' + 4] = _ := fun X => (hc11 (by omega)).trans hq
    by_cases cq : s.heat < y.frm
    ·rw [if_pos cq] at hra
     simp -implicitDefEqProofs only [go_sem, a3, a22, a24, hT, hcl, e2, k5, k3, cq]
     exact ⟨_, m2 + 1, _, rfl, by omega, by simp -implicitDefEqProofs only [go_sem, hT], by simp -implicitDefEqProofs only [go_sem, a0], by simp -implicitDefEqProofs only [go_sem, a3], by simp -implicitDefEqProofs only [go_sem, a4], by simp -implicitDefEqProofs only [go_sem, a6], by simp -implicitDefEqProofs only [go_sem, a14], by simp -implicitDefEqProofs only [go_sem, a15], by simp -implicitDefEqProofs only [go_sem, a16], by rw [k4, hra], fun k hk => (hc11 (by omega)).trans (hfr k hk)⟩
    ·rw [if_neg cq] at hra
     have hw1 : wrapF .i64 ((c : Int) + 1) = ((c + 1 : Nat) : Int) := Z8 (by omega) (by omega)
     have nm4 : (m2 + 5 = m' + 4) = False := eq_false (by omega)
     simp -implicitDefEqProofs only [go_sem, a0, a3, a4, a6, a14, a15, a16, a22, a23, a24, hT, hcl, e2, k5, k3, k4, cq, hw1, nm4]
     exact ⟨x.bands.length - (c + 1), hk2, trivial, trivial, trivial, trivial, trivial, trivial, trivial, trivial, trivial, trivial, c + 1, m2 + 1, _, y.rate, rfl, hc', rfl, rfl, by omega, (hc11 (by omega)).trans (hss hq), fun k hk => (hc11 (by omega)).trans ((hs11 (by omega)).trans (hfr k hk)), hra⟩
   ·have hce : c = x.bands.length := by omega
    subst hce
    rw [List.drop_length] at hra
    simp only [rateP] at hra
    simp -implicitDefEqProofs only [go_sem, hcl]
    exact ⟨_, m2, H2, rfl, hm2, by simp -implicitDefEqProofs only [go_sem, hT], by simp -implicitDefEqProofs only [go_sem, a0], by simp -implicitDefEqProofs only [go_sem, a3], by simp -implicitDefEqProofs only [go_sem, a4], by simp -implicitDefEqProofs only [go_sem, a6], by simp -implicitDefEqProofs only [go_sem, a14], by simp -implicitDefEqProofs only [go_sem, a15], by simp -implicitDefEqProofs only [go_sem, a16], by rw [hra]; exact hq, hfr⟩
  clear a0 a3 a14 a15 a16 hT T k1
  rintro _ ⟨T, m2, H2, rfl, hm2, hT, a0, a3, a4, a6, a14, a15, a16, hq, hfr⟩
  simp only [relFr, relBo] at fw bw
  generalize rateP s.heat ⟨0, 0⟩ x.bands = q at *
  have hinF : inR (i : Int) F.length = some i := Ja (by omega)
  have hinB : inR (i : Int) B.length = some i := Ja (by omega)
  have x0 := (hfr 0 (by omega)).trans hs.x
  have x1 := (hfr 1 (by omega)).trans hs.f
  have x2 := (hfr 2 (by omega)).trans hs.b
  have x3 := fun e => (hfr 3 (by have := hm e; omega)).trans (hs.r e)
  have xk := (hfr (m + 3) (by omega)).trans hbk
  have lF' : F'.length = F.length := by rw [<- hF', Z4z (by omega)]; omega
  have lB' : B'.length = B.length := by rw [<- hB', Z4z (by omega)]; omega
  have y0 : hget H2 [0] = some (sysB E v [1] [2] [3] ⟨F', B', g.room, g.most, g.flashed⟩) := x0.trans (congrArg some (Z1h lF'.symm lB'.symm rfl rfl rfl))
  clear hs hbk hfr
  unfold sysB at x0
  unfold rgB at x1 x2
  simp only at x0 x1 x2
  have k0 : ∀ X, hget (([m2 + 5], X) :: H2) [0] = hget H2 [0] := fun X => hc11 (by omega)
  have k1 : ∀ X, hget (([m2 + 5], X) :: H2) [1] = hget H2 [1] := fun X => hc11 (by omega)
  have k2 : ∀ X, hget (([m2 + 5], X) :: H2) [2] = hget H2 [2] := fun X => hc11 (by omega)
  have k4 : ∀ X, hget (([m2 + 5], X) :: H2) [m' + 4] = hget H2 [m' + 4] := fun X => hc11 (by omega)
  have k5 : ∀ X, hget (([m2 + 5], X) :: H2) [m2 + 5] = some X := fun X => Z2 ..
  have c1 := fun a b s => Z5p a b K s
  have c2 := fun a b s => Zaq a b K s
  have c3 := fun a b s => Z0w ⟨fi.lo, fi.hi⟩ ⟨a, b⟩ K s
  simp only [rgV] at c3
  have hw1 : wrapF .i64 ((i : Int) + 1) = ((i + 1 : Nat) : Int) := Z8 (by omega) (by omega)
  have nm4 : ∀ x r, lkD (([1], x) :: r) [m' + 4] = lkD r [m' + 4] := fun x r => lk11 (by omega)
  have nm5 : ∀ x r, lkD (([1], x) :: r) [m2 + 5] = lkD r [m2 + 5] := fun x r => lk11 (by omega)
  simp -implicitDefEqProofs only [go_sem, a0, a4, hT, x0, x2, hinB, b0, b1]
  try simp only [Z4]
  refine Zk [[], [0], [1, 0], [2, 1, 0], [3, 2, 1, 0], [], [], [6], [7, 6], [8, 7, 6], [9, 8, 7, 6], [], [10, 9, 8, 7, 6, 11], [12, 10, 9, 8, 7, 6, 11], [], [14], [], [16], [15, 14, 17, 16], [], [19], [], [21], [20, 19, 22, 21, 18, 15, 14, 17, 16], [23, 20, 19, 22, 21, 18, 15, 14, 17, 16], [13, 12, 10, 9, 8, 7, 6, 11, 24, 23, 20, 19, 22, 21, 18, 15, 14, 17, 16], [4, 3, 2, 1, 0, 5, 25, 13, 12, 10, 9, 8, 7, 6, 11, 24, 23, 20, 19, 22, 21, 18, 15, 14, 17, 16], [26, 4, 3, 2, 1, 0, 5, 25, 13, 12, 10, 9, 8, 7, 6, 11, 24, 23, 20, 19, 22, 21, 18, 15, 14, 17, 16]] [[], [], [], [], [], [], [], [], [], [], [], [], [], [], [], [], [], [], [], [], [], [], [], [], [], [], [], [[1]]] (by kernel_rfl) rfl rfl ?_
  simp -implicitDefEqProofs only [go_sem, Option.getD_some, a0, a4, a6, hT, x0, x1, hq, k0, k1, k4, k5, hinF, f0, f1, c1, c2, c3, Xw, fw, Zj]
  try simp only [Z4]
  refine Zk [[], [0], [1, 0], [2, 1, 0], [3, 2, 1, 0], [], [], [6], [], [8], [9, 8], [7, 6, 10, 9, 8], [], [12], [], [14], [15, 14], [13, 12, 16, 15, 14, 11, 7, 6, 10, 9, 8], [17, 13, 12, 16, 15, 14, 11, 7, 6, 10, 9, 8], [4, 3, 2, 1, 0, 5, 18, 17, 13, 12, 16, 15, 14, 11, 7, 6, 10, 9, 8], [19, 4, 3, 2, 1, 0, 5, 18, 17, 13, 12, 16, 15, 14, 11, 7, 6, 10, 9, 8]] [[], [], [], [], [], [], [], [], [], [], [], [], [], [], [], [], [], [], [], [], [[2]]] (by kernel_rfl) rfl rfl ?_
  simp -implicitDefEqProofs only [go_sem, Z0, lkn, lk11, Option.getD_some, Option.getD_none, a0, a3, a4, a6, a14, a15, a16, hT, x0, x2, hq, k0, k2, k4, k5, nm4, nm5, hinB, b0, b1, c1, c2, Xw, bw, hw1, Zj]
  refine ⟨v.vessels.length - (i + 1), hkk, trivial, trivial, trivial, trivial, trivial, i + 1, m2 + 5, _, rfl, hi', rfl, rfl, by omega, ?_, ?_⟩
  all_goals clear hw1
  ·simp (disch := omega) only [hc11, Z0, lkn, lk11, Option.getD_none]; exact xk
  ·rw [hF', hB']
   refine ⟨?_, ?_, ?_, fun e => ?_⟩
   ·simp (disch := omega) only [hc11, Z0, lkn, lk11, Option.getD_none]; exact y0
   ·simp (disch := omega) only [hc11, Z0, lkn, Zn, lk11, Option.getD_some, Option.getD_none]; rfl
   ·simp (disch := omega) only [hc11, Z0, lkn, Zn, lk11, Option.getD_some, Option.getD_none]; rfl
   ·have := hm e
    simp (disch := omega) only [hc11, Z0, lkn, lk11, Option.getD_none]; exact x3 e
 ·have hie : i = v.vessels.length := by omega
  subst hie
  simp -implicitDefEqProofs only [go_sem, hil, Try.results148]
  have e1 : (relF s.heat v.vessels g.free g.bound).take v.vessels.length ++ g.free.drop v.vessels.length = relF s.heat v.vessels g.free g.bound := by
   rw [List.drop_of_length_le (by omega), List.append_nil, List.take_of_length_le (by omega)]
  have e2 : (relB s.heat v.vessels g.bound).take v.vessels.length ++ g.bound.drop v.vessels.length = relB s.heat v.vessels g.bound := by
   rw [List.drop_of_length_le (by omega), List.append_nil, List.take_of_length_le (by omega)]
  rw [e1, e2] at hs
  exact ⟨trivial, hs⟩
end Go.Proofs.Ytgnpnfkncbnjnaa
namespace Go.Proofs.Ytgnpnfkncbnjnaa
attribute [local go_sem_proc] Int.reduceEq Int.reduceNeg Nat.reduceEqDiff Nat.reduceLT Nat.reduceAdd Nat.reduceSub Nat.reduceMul Int.reduceLE Int.reduceLT Int.reduceToNat Nat.reduceLeDiff
attribute [local go_sem] Int.toNat_natCast Bool.not_true Bool.not_false
open Go Go.Am
attribute [local congr] Z7 Z5 Z6
attribute [local go_sem] Go.Am.frozen Go.Am.freezeG Go.Am.freezeGs
variable {E : AV}
def getFr (t : Gtr) (f r : Rg) : Rg := ⟨wrapF .i64 (f.lo - min2 (upN f.lo t.part.hi) r.hi), wrapF .i64 (f.hi - min2 (downN f.hi t.part.lo) r.lo)⟩
def getRo (t : Gtr) (f r : Rg) : Rg := ⟨max2 0 (wrapF .i64 (r.lo - upN f.hi t.part.hi)), max2 0 (wrapF .i64 (r.hi - downN f.lo t.part.lo))⟩
def getF : List Gtr -> Nat -> List Rg -> List Rg -> List Rg × List Rg
 | [], _, F, R => (F, R)
 | t :: ts, i, F, R => getF ts (i + 1) (F.set t.at'.toNat (getFr t (F[t.at'.toNat]?.getD ⟨0, 0⟩) (R[i]?.getD ⟨0, 0⟩))) (R.set i (getRo t (F[t.at'.toNat]?.getD ⟨0, 0⟩) (R[i]?.getD ⟨0, 0⟩)))
theorem Z50 : ∀ (l : List Gtr) (i : Nat) (F R : List Rg), (getF l i F R).1.length = F.length /\ (getF l i F R).2.length = R.length
 | [], _, _, _ => ⟨rfl, rfl⟩
 | t :: ts, i, F, R => by
  unfold getF
  have := Z50 ts (i + 1) (F.set t.at'.toNat (getFr t (F[t.at'.toNat]?.getD ⟨0, 0⟩) (R[i]?.getD ⟨0, 0⟩))) (R.set i (getRo t (F[t.at'.toNat]?.getD ⟨0, 0⟩) (R[i]?.getD ⟨0, 0⟩)))
  simpa using this
def getT (v : Vac) (g : Gs) (s : Bk) : Gs := if g.flashed = true then ⟨(getF v.getters 0 g.free g.room).1, g.bound, (getF v.getters 0 g.free g.room).2, g.most, g.flashed⟩ else g
theorem Zct {b : Nm} {n : Nat} (h : 0 < n) : rowX E b n = .slice b 0 n n false := by cases n with | zero => omega | succ n => rfl
theorem Zcu [hE : Emp E] {K : Nat} {X f b r : Nm} {v : Vac} {g : Gs} {s : Bk} {H : Heap} {n : Nat} {p : Nm} {j : Delta} (h : SysAt E H X f b r v g) (ha : Apart X f b r) (h1 : g.free ≠ []) (h2 : g.bound ≠ []) (hl1 : g.free.length = v.vessels.length) (hl3 : g.room.length = v.getters.length) (hK : v.getters.length + 20 < K) (hl : v.getters.length <= 1000000) (hat : ∀ t ∈ v.getters, 0 <= t.at' /\ t.at' < v.vessels.length) :
  acall cfg (K + 2) 150 [.ptr X 0, bkV s] ⟨H, n, p, false, j⟩ = .ret (.tuple [], ⟨sysPut E X f b r v (getT v g s) H, n, p, false, j⟩) := by
 have hgl := Z50 v.getters 0 g.free g.room
 refine Jt Zf0 Zez h ha h1 h2 (by unfold getT; split <;> simp [hgl]) (by unfold getT; split <;> rfl) (by unfold getT; split <;> simp [hgl]) fun H0 m hs hm => ?_
 refine Z9 rfl fun T hT' hA => ?_
 have a0 := hA 0 _ rfl
 have a1 := hA 1 _ rfl
 have hT : T.length = 104 := hT'
 clear hA hT'
 have g0 := hs.x
 unfold sysB at g0
 have k0 : ∀ X, hget (([m + 3], X) :: H0) [0] = hget H0 [0] := fun X => hc11 (by omega)
 have hs' : ∀ X, SysAt E (([m + 3], X) :: H0) [0] [1] [2] [3] v g := fun X => ⟨(k0 _).trans hs.x, (hc11 (by omega)).trans hs.f, (hc11 (by omega)).trans hs.b, fun e => (hc11 (by have := hm e; omega)).trans (hs.r e)⟩
 unfold getT
 cases hfl : g.flashed with
 | false =>
  simp -implicitDefEqProofs only [go_sem, a0, a1, hT, g0, k0, hfl, Try.results150]
  exact ⟨trivial, hs' _⟩
 | true =>
  rw [if_pos rfl]
  simp -implicitDefEqProofs only [go_sem, a0, a1, hT, g0, k0, hfl]
  simp only [Z4]
  refine Zm (fun k T s' => T.length = 104 /\ nth T 0 = some (.ptr [0] 0) /\ nth T 18 = some (.lst (v.getters.map gtrV)) /\ nth T 19 = some (.int .i64 v.getters.length) /\ ∃ (i m' : Nat) (H' : Heap) (F R : List Rg), nth T 20 = some (.int .i64 i) /\ i <= v.getters.length /\ k = v.getters.length - i /\ s' = ⟨H', m' + 3, [], false, []⟩ /\ 1 <= m' /\ SysAt E H' [0] [1] [2] [3] v ⟨F, g.bound, R, g.most, true⟩ /\ F.length = g.free.length /\ R.length = g.room.length /\ getF v.getters 0 g.free g.room = getF (v.getters.drop i) i F R) (k := v.getters.length) (by omega) ?_ ?_
  ·exact ⟨by simp -implicitDefEqProofs only [go_sem, hT], by simp -implicitDefEqProofs only [go_sem, a0], by simp -implicitDefEqProofs only [go_sem, hT], by simp -implicitDefEqProofs only [go_sem, hT], 0, m + 1, _, g.free, g.room, by simp -implicitDefEqProofs only [go_sem, hT] <;> rfl, by omega, rfl, rfl, by omega, by have e := hs' (.cells [.int .i64 s.ticks, .int .i64 s.heat, .lst (s.shut.map iV), .bool s.flash] true 0); rw [show g = ⟨g.free, g.bound, g.room, g.most, true⟩ from by rw [<- hfl]] at e; exact e, rfl, rfl, rfl⟩
  clear a0 a1 hT T g0 k0 hs hs' H0
  rintro k T s' ⟨hT, a0, a18, a19, i, m', H0, F, R, a20, hi, rfl, rfl, hmm, hs, lF, lR, he⟩
  simp -implicitDefEqProofs only [go_sem, a19, a20, hT]
  by_cases hil : (i : Int) < (v.getters.length : Int)
  ·have hi' : i < v.getters.length := by omega
   have e1 := Zg (f := gtrV) (l := v.getters) (i := i) (z := 5) hi' rfl
   have hkk : v.getters.length - (i + 1) < v.getters.length - i := by omega
   have hax := hat _ (List.getElem_mem hi')
   rw [List.drop_eq_getElem_cons hi'] at he
   generalize v.getters[i] = x at *
   obtain ⟨a, hxa⟩ : ∃ a : Nat, x.at' = a := ⟨x.at'.toNat, by omega⟩
   have haF : a < F.length := by omega
   have hiR : i < R.length := by omega
   simp only [getF] at he
   rw [hxa, Int.toNat_natCast, List.getElem?_eq_getElem haF, List.getElem?_eq_getElem hiR, Option.getD_some, Option.getD_some] at he
   have f0 := X2 F haF
   have f1 := X3 F haF
   have fw := Z1g F haF (getFr x F[a] R[i])
   have r0 := X2 R hiR
   have r1 := X3 R hiR
   have rw' := Z1g R hiR (getRo x F[a] R[i])
   generalize F[a] = fi at *
   generalize R[i] = ri at *
   generalize hF' : F.set a (getFr x fi ri) = F' at *
   generalize hR' : R.set i (getRo x fi ri) = R' at *
   have lF' : F'.length = F.length := by rw [<- hF']; simp
   have lR' : R'.length = R.length := by rw [<- hR']; simp
   simp only [getFr, getRo] at fw rw'
   have hinF : inR (a : Int) F.length = some a := Ja haF
   have hinR : inR (i : Int) R.length = some i := Ja hiR
   have hrow : rowX E [3] R.length = .slice [3] 0 R.length R.length false := Zct (by omega)
   have hrne : R ≠ [] := fun e => by rw [e] at hiR; simp at hiR
   have x0 := hs.x
   have x1 := hs.f
   have x2 := hs.b
   have x3 := hs.r hrne
   have y0 : hget H0 [0] = some (sysB E v [1] [2] [3] ⟨F', g.bound, R', g.most, true⟩) := x0.trans (congrArg some (Z1h lF'.symm rfl lR'.symm rfl rfl))
   unfold sysB at x0
   unfold rgB at x1 x3
   simp only at x0 x1 x2 x3
   rw [hrow] at x0
   simp only [gtrV] at e1
   rw [hxa] at e1
   have c1 := fun a b s => Z5p a b K s
   have c2 := fun a b s => Zaq a b K s
   have k0 : ∀ X, hget (([m' + 3], X) :: H0) [0] = hget H0 [0] := fun X => hc11 (by omega)
   have k1 : ∀ X, hget (([m' + 3], X) :: H0) [1] = hget H0 [1] := fun X => hc11 (by omega)
   have k3 : ∀ X, hget (([m' + 3], X) :: H0) [3] = hget H0 [3] := fun X => hc11 (by omega)
   have k5 : ∀ X, hget (([m' + 3], X) :: H0) [m' + 3] = some X := fun X => Z2 ..
   have hw1 : wrapF .i64 ((i : Int) + 1) = ((i + 1 : Nat) : Int) := Z8 (by omega) (by omega)
   have hm0 : (m' = 0) = False := eq_false (by omega)
   have nm1 : ∀ x r, lkD (([1], x) :: r) [m' + 3] = lkD r [m' + 3] := fun x r => lk11 (by omega)
   simp -implicitDefEqProofs only [go_sem, a18, a20, hT, hil, e1]
   try simp only [Z4]
   refine Zk [[], [0], [1, 0], [2, 1, 0], [3, 2, 1, 0], [], [5], [4, 3, 2, 1, 0, 6, 5], [7, 4, 3, 2, 1, 0, 6, 5], [], [9], [10, 9], [11, 10, 9], [12, 11, 10, 9], [], [13, 12, 11, 10, 9, 14], [15, 13, 12, 11, 10, 9, 14], [], [], [8, 7, 4, 3, 2, 1, 0, 6, 5, 17, 18], [16, 15, 13, 12, 11, 10, 9, 14, 19, 8, 7, 4, 3, 2, 1, 0, 6, 5, 17, 18]] [[], [], [], [], [], [], [], [], [], [], [], [], [], [], [], [], [], [], [], [[m' + 4, 17, 0]], [[m' + 4, 18, 0]]] (by kernel_rfl) rfl rfl ?_
   simp -implicitDefEqProofs only [go_sem, Z0, lkn, Zn, Z2y, Option.getD_some, Option.getD_none, a0, hT, x0, x1, x3, k0, k1, k3, k5, hinF, hinR, f0, f1, r0, r1, hd31, hm0, Zj]
   try simp only [Z4]
   refine Zk [[], [0], [1, 0], [2, 1, 0], [3, 2, 1, 0], [], [5], [], [7], [], [9], [], [11], [12, 11], [10, 9, 13, 12, 11], [], [15], [14, 10, 9, 13, 12, 11, 16, 15], [8, 7, 17, 14, 10, 9, 13, 12, 11, 16, 15], [], [19], [], [21], [], [23], [24, 23], [22, 21, 25, 24, 23, 14, 10, 9, 13, 12, 11], [], [27], [26, 22, 21, 25, 24, 23, 14, 10, 9, 13, 12, 11, 28, 27], [20, 19, 29, 26, 22, 21, 25, 24, 23, 14, 10, 9, 13, 12, 11, 28, 27], [18, 8, 7, 17, 16, 15, 30, 20, 19, 29, 26, 22, 21, 25, 24, 23, 14, 10, 9, 13, 12, 11, 28, 27], [4, 3, 2, 1, 0, 6, 5, 31, 18, 8, 7, 17, 16, 15, 30, 20, 19, 29, 26, 22, 21, 25, 24, 23, 14, 10, 9, 13, 12, 11, 28, 27], [32, 4, 3, 2, 1, 0, 6, 5, 31, 18, 8, 7, 17, 16, 15, 30, 20, 19, 29, 26, 22, 21, 25, 24, 23, 14, 10, 9, 13, 12, 11, 28, 27]] [[], [], [], [], [], [], [], [], [], [], [], [], [], [], [], [], [], [], [], [], [], [], [], [], [], [], [], [], [], [], [], [], [], [[1]]] (by kernel_rfl) rfl rfl ?_
   simp -implicitDefEqProofs only [go_sem, Z0, lkn, Zn, lk31, Z2y, Option.getD_some, Option.getD_none, a0, hT, x0, x1, k0, k1, k5, hinF, f0, f1, c1, c2, Z5x, Xw, fw, Zj]
   try simp only [Z4]
   refine Zk [[], [0], [1, 0], [2, 1, 0], [3, 2, 1, 0], [], [], [6], [], [8], [], [10], [11, 10], [9, 8, 12, 11, 10], [7, 6, 13, 9, 8, 12, 11, 10], [14, 7, 6, 13, 9, 8, 12, 11, 10], [], [16], [], [18], [], [20], [21, 20], [19, 18, 22, 21, 20, 13, 9, 8, 12, 11, 10], [17, 16, 23, 19, 18, 22, 21, 20, 13, 9, 8, 12, 11, 10], [24, 17, 16, 23, 19, 18, 22, 21, 20, 13, 9, 8, 12, 11, 10], [15, 14, 7, 6, 25, 24, 17, 16, 23, 19, 18, 22, 21, 20, 13, 9, 8, 12, 11, 10], [4, 3, 2, 1, 0, 5, 26, 15, 14, 7, 6, 25, 24, 17, 16, 23, 19, 18, 22, 21, 20, 13, 9, 8, 12, 11, 10], [27, 4, 3, 2, 1, 0, 5, 26, 15, 14, 7, 6, 25, 24, 17, 16, 23, 19, 18, 22, 21, 20, 13, 9, 8, 12, 11, 10]] [[], [], [], [], [], [], [], [], [], [], [], [], [], [], [], [], [], [], [], [], [], [], [], [], [], [], [], [], [[3]]] (by kernel_rfl) rfl rfl ?_
   simp -implicitDefEqProofs only [go_sem, Z0, lkn, Zn, lk11, lk13, lk31, Z2y, Option.getD_some, Option.getD_none, a0, a18, a19, a20, hT, x0, x3, k0, k3, k5, nm1, hinR, r0, r1, c1, c2, Zhi, Xw, rw', hw1, Zj]
   refine ⟨v.getters.length - (i + 1), hkk, trivial, trivial, trivial, trivial, i + 1, m' + 4, _, F', R', rfl, hi', rfl, rfl, by omega, ?_, by rw [lF']; exact lF, by rw [lR']; exact lR, he⟩
   all_goals clear hw1
   refine ⟨?_, ?_, ?_, fun e => ?_⟩
   ·simp (disch := omega) only [hc11, Z0, lkn, lk11, lk31, Option.getD_none]; exact y0
   ·simp (disch := omega) only [hc11, Z0, lkn, Zn, lk11, lk31, Option.getD_some, Option.getD_none]; rfl
   ·simp (disch := omega) only [hc11, Z0, lkn, lk11, lk31, Option.getD_none]; exact x2
   ·simp (disch := omega) only [hc11, Z0, lkn, Zn, lk11, lk31, Option.getD_some, Option.getD_none]; rfl
  ·have hie : i = v.getters.length := by omega
   subst hie
   rw [List.drop_length] at he
   simp only [getF] at he
   rw [he]
   simp -implicitDefEqProofs only [go_sem, hil, Try.results150]
   exact ⟨trivial, hs⟩
end Go.Proofs.Ytgnpnfkncbnjnaa
namespace Go.Proofs.Ytgnpnfkncbnjnaa
attribute [local go_sem_proc] Int.reduceEq Int.reduceNeg Nat.reduceEqDiff Nat.reduceLT Nat.reduceAdd Nat.reduceSub Nat.reduceMul Int.reduceLE Int.reduceLT Int.reduceToNat Nat.reduceLeDiff
attribute [local go_sem] Int.toNat_natCast Bool.not_true Bool.not_false
open Go Go.Am
attribute [local congr] Z7 Z5 Z6
attribute [local go_sem] Go.Am.frozen Go.Am.freezeG Go.Am.freezeGs
variable {E : AV}
def mulR (f r : Rg) : Rg := ⟨wrapF .i64 (f.lo * r.lo), wrapF .i64 (f.hi * r.hi)⟩
theorem Z5z (x y : Int) (a : Nat) (r : Rg) (c2 c5 M : Nat) (es : List (Int × Rg)) (cs : List AV) (F : List Rg) (K : Nat) (H : Heap) (n : Nat) (hy : y = a) (ha : a < F.length) (h2 : hget H [c2] = some (.cells [.ptr [0] 0] true 0)) (h5 : hget H [c5] = some (.cells [.map [M]] true 0)) (hM : hget H [M] = some (.map (encE es) false)) (h0 : hget H [0] = some (.cells cs true 0)) (hcs : nth cs 5 = some (.slice [1] 0 F.length F.length false)) (h1 : hget H [1] = some (rgB F)) (l2 : c2 < n) (l5 : c5 < n) (lM : M < n) (l1 : 1 < n) (nM0 : M ≠ 0) (nM1 : M ≠ 1) (nM2 : M ≠ c2) (nM5 : M ≠ c5) :
  ∃ H' n', acall cfg (K + 2) 180 [.int .i64 x, .int .i64 y, rgV r, .ptr [c2] 0, .ptr [c5] 0] ⟨H, n, [], false, []⟩ = .ret (.tuple [], ⟨H', n', [], false, []⟩) /\ n <= n' /\ hget H' [M] = some (.map (encE (setS es x (plusR (getS es x) (mulR F[a] r)))) false) /\ (∀ k, k < n -> k ≠ M -> hget H' [k] = hget H [k]) /\ ∀ k a b, hget H' [k, a, b] = hget H [k, a, b] := by
 suffices h : (acall cfg (K + 2) 180 [.int .i64 x, .int .i64 y, rgV r, .ptr [c2] 0, .ptr [c5] 0] ⟨H, n, [], false, []⟩).Does fun q => ∃ H' n', q = (.tuple [], ⟨H', n', [], false, []⟩) /\ n <= n' /\ hget H' [M] = some (.map (encE (setS es x (plusR (getS es x) (mulR F[a] r)))) false) /\ (∀ k, k < n -> k ≠ M -> hget H' [k] = hget H [k]) /\ ∀ k a b, hget H' [k, a, b] = hget H [k, a, b] by
  obtain ⟨q, e, H', n', rfl, h⟩ := h
  exact ⟨H', n', e, h⟩
 subst hy
 rw [Z4s Zfo Zfn]
 refine Z9 rfl fun T hT' hA => ?_
 have a0 := hA 0 _ rfl
 have a1 := hA 1 _ rfl
 have a2 := hA 2 _ rfl
 have a3 := hA 3 _ rfl
 have a4 := hA 4 _ rfl
 have hT : T.length = 34 := hT'
 clear hA hT'
 have f0 := X2 F ha
 have f1 := X3 F ha
 have hin : inR (a : Int) F.length = some a := Ja ha
 generalize F[a] = f at *
 unfold rgB at h1
 have k2 : ∀ X, hget (([n], X) :: H) [c2] = hget H [c2] := fun X => hc11 (by omega)
 have k0 : ∀ X, hget (([n], X) :: H) [0] = hget H [0] := fun X => hc11 (by omega)
 have k1 : ∀ X, hget (([n], X) :: H) [1] = hget H [1] := fun X => hc11 (by omega)
 have e2 : ∀ X Y, hget (([n + 1], Y) :: ([n], X) :: H) [c5] = hget H [c5] := fun X Y => (hc11 (by omega)).trans (hc11 (by omega))
 have e3 : ∀ X Y, hget (([n + 1], Y) :: ([n], X) :: H) [M] = hget H [M] := fun X Y => (hc11 (by omega)).trans (hc11 (by omega))
 have e4 : ∀ X Y, hget (([n + 1], Y) :: ([n], X) :: H) [n] = some X := fun X Y => (hc11 (by omega)).trans (Z2 ..)
 have e5 : ∀ X Y, hget (([n + 1], Y) :: ([n], X) :: H) [n + 1] = some Y := fun X Y => Z2 ..
 have hlk := fun (s : St) (hg : hget s.H [M] = some (.map (encE es) false)) => Z7y (C := cfg.at 180) rfl (k := x) hg
 have hup := fun (s : St) (hg : hget s.H [M] = some (.map (encE es) false)) => Zfs (C := cfg.at 180) rfl (k := x) (x := plusR (getS es x) (mulR f r)) hg
 have hpl := fun s => Z0w (getS es x) (mulR f r) K s
 generalize hE : setS es x (plusR (getS es x) (mulR f r)) = es2 at *
 generalize plusR (getS es x) (mulR f r) = pp at *
 simp only [rgV, mulR] at hlk hup hpl
 simp -implicitDefEqProofs only [go_sem, a1, a2, a3, hT, k2, h2, k0, h0, hcs, hin, k1, h1, f0, f1]
 have ip : isPre [n + 1 + 1, 17] [M] = false := Go.Am.Zc9 _ _ (by omega)
 try simp only [Z4]
 refine Zk [[], [], [], [], [2, 3], [], [5], [], [7], [6, 5, 8, 7], [], [10], [], [12], [11, 10, 13, 12], [9, 6, 5, 8, 7, 14, 11, 10, 13, 12], [4, 2, 3, 15, 9, 6, 5, 8, 7, 14, 11, 10, 13, 12], [0, 1, 16, 4, 2, 3, 15, 9, 6, 5, 8, 7, 14, 11, 10, 13, 12]] [[], [], [], [], [], [], [], [], [], [], [], [], [], [], [], [], [], [[M]]] (by kernel_rfl) rfl rfl ?_
 simp -implicitDefEqProofs only [go_sem, Option.getD_some, a0, a4, hT, e2, e3, e4, e5, h5, hM, hlk, hup, hpl, ip, Zj, Try.results180]
 refine ⟨_, _, rfl, by omega, ?_, fun k hk hne => ?_, fun k a b => ?_⟩
 ·simp (disch := omega) only [hc11, Z0, Zn, Option.getD_some]
 ·simp (disch := omega) only [hc11, Z0, lkn, lk11, Option.getD_none]
 ·simp (disch := omega) only [hc13, Z0, lkn, lk13, Option.getD_none]
end Go.Proofs.Ytgnpnfkncbnjnaa
namespace Go.Proofs.Ytgnpnfkncbnjnaa
attribute [local go_sem_proc] Int.reduceEq Int.reduceNeg Nat.reduceEqDiff Nat.reduceLT Nat.reduceAdd Nat.reduceSub Nat.reduceMul Int.reduceLE Int.reduceLT Int.reduceToNat Nat.reduceLeDiff
attribute [local go_sem] Int.toNat_natCast Bool.not_true Bool.not_false
open Go Go.Am
attribute [local congr] Z7 Z5 Z6
attribute [local go_sem] Go.Am.frozen Go.Am.freezeG Go.Am.freezeGs
variable {E : AV}
def atR (F : List Rg) (a : Int) : Rg := F[a.toNat]?.getD ⟨0, 0⟩
theorem Z51 (F : List Rg) {a : Nat} (h : a < F.length) : atR F a = F[a] := by
 unfold atR; rw [Int.toNat_natCast, List.getElem?_eq_getElem h]; rfl
def begR (v : Vac) (shut : List Int) (F : List Rg) (i : Int) : Rg := mulR (atR F i) ⟨wrapF .i64 (1000000 - (outR v i shut).hi), wrapF .i64 (1000000 - (outR v i shut).lo)⟩
def flowS (F : List Rg) (shut : List Int) (x : Int) : Nat -> Rg -> List Pip -> Rg
 | _, acc, [] => acc
 | k, acc, p :: r => if (k : Int) ∈ shut then flowS F shut x (k + 1) acc r else
  flowS F shut x (k + 1) (if x = p.a then plusR (if x = p.b then plusR acc (mulR (atR F p.a) p.out) else acc) (mulR (atR F p.b) p.back) else (if x = p.b then plusR acc (mulR (atR F p.a) p.out) else acc)) r
def quoR (r : Rg) : Rg := ⟨wrapF .i64 (r.lo.tdiv 1000000), wrapF .i64 ((wrapF .i64 (wrapF .i64 (r.hi + 1000000) - 1)).tdiv 1000000)⟩
def flowG (v : Vac) (shut : List Int) (F : List Rg) : List Rg := (List.range F.length).map fun (i : Nat) => quoR (flowS F shut i 0 (begR v shut F i) v.pipes)
def leakR : List Rg -> List Inl -> List Rg
 | R, [] => R
 | R, l :: r => leakR (R.set l.at'.toNat (plusR (atR R l.at') l.gas)) r
theorem Z30 : ∀ (l : List Inl) (R : List Rg), (leakR R l).length = R.length
 | [], _ => rfl
 | x :: l, R => by unfold leakR; rw [Z30 l]; simp
theorem Jf (v : Vac) (shut : List Int) (F : List Rg) : (flowG v shut F).length = F.length := by simp [flowG]
def flowT (v : Vac) (g : Gs) (s : Bk) : Gs := ⟨leakR (flowG v s.shut g.free) v.leaks, g.bound, g.room, g.most, g.flashed⟩
structure Fl (E : AV) (m : Nat) (v : Vac) (g : Gs) (s : Bk) (H : Heap) : Prop where
 p : hget H [m + 3] = some (.cells [.ptr [0] 0] true 0)
 k : hget H [m + 4] = some (.cells [.int .i64 s.ticks, .int .i64 s.heat, .lst (s.shut.map iV), .bool s.flash] true 0)
 c : hget H [m + 7] = some (.cells [.map [m + 6]] true 0)
 l : hget H [m + 5, 6, 0] = some (.map (encE (leaveL v s.shut)) false)
 s : SysAt E H [0] [1] [2] [3] v g
theorem Fl.of {m : Nat} {v : Vac} {g : Gs} {s : Bk} {H H' : Heap} (h : Fl E m v g s H) (e : ∀ k, k < m + 8 -> k ≠ m + 6 -> hget H' [k] = hget H [k]) (e2 : hget H' [m + 5, 6, 0] = hget H [m + 5, 6, 0]) (hm : g.room ≠ [] -> 1 <= m) (h3 : 3 <= m + 3) : Fl E m v g s H' :=
 ⟨(e _ (by omega) (by omega)).trans h.p, (e _ (by omega) (by omega)).trans h.k, (e _ (by omega) (by omega)).trans h.c, e2.trans h.l,
  ⟨(e 0 (by omega) (by omega)).trans h.s.x, (e 1 (by omega) (by omega)).trans h.s.f, (e 2 (by omega) (by omega)).trans h.s.b, fun q => (e 3 (by omega) (by omega)).trans (h.s.r q)⟩⟩
theorem Zb6 [hE : Emp E] {K : Nat} {X f b r : Nm} {v : Vac} {g : Gs} {s : Bk} {H : Heap} {n : Nat} {p : Nm} {j : Delta} (h : SysAt E H X f b r v g) (ha : Apart X f b r) (h1 : g.free ≠ []) (h2 : g.bound ≠ []) (hl1 : g.free.length = v.vessels.length) (hK : v.vessels.length + 100 < K) (hl : v.vessels.length <= 1000000) (hv : v.Lens K) (hsh : s.shut.length < K) (hsh2 : s.shut.length <= 9223372036854775807)
  (hpp : ∀ q ∈ v.pipes, (0 <= q.a /\ q.a < v.vessels.length) /\ 0 <= q.b /\ q.b < v.vessels.length) (hll : ∀ q ∈ v.leaks, 0 <= q.at' /\ q.at' < v.vessels.length) :
  acall cfg (K + 4) 149 [.ptr X 0, bkV s] ⟨H, n, p, false, j⟩ = .ret (.tuple [], ⟨sysPut E X f b r v (flowT v g s) H, n, p, false, j⟩) := by
 refine Jt Zey Zex h ha h1 h2 (by show (leakR _ _).length = _; rw [Z30, Jf]) rfl rfl fun H0 m hs hm => ?_
 refine Z9 rfl fun T hT' hA => ?_
 have a0 := hA 0 _ rfl
 have a1 := hA 1 _ rfl
 have hT : T.length = 148 := hT'
 clear hA hT'
 have g0 := hs.x
 unfold sysB at g0
 have q0 : ∀ X Y, hget (([m + 4], X) :: ([m + 3], Y) :: H0) [0] = hget H0 [0] := fun X Y => (hc11 (by omega)).trans (hc11 (by omega))
 have q3 : ∀ X Y, hget (([m + 4], X) :: ([m + 3], Y) :: H0) [m + 3] = some Y := fun X Y => (hc11 (by omega)).trans (Z2 ..)
 have q4 : ∀ X Y, hget (([m + 4], X) :: ([m + 3], Y) :: H0) [m + 4] = some X := fun X Y => Z2 ..
 have u1 : (m + 4 = m) = False := eq_false (by omega)
 have u2 : (m + 3 = m) = False := eq_false (by omega)
 have hlv := fun s' => Z1o v s.shut K s' hv hsh hsh2
 simp only [vacV] at hlv
 simp -implicitDefEqProofs only [go_sem, a0, a1]
 try simp only [Z4]
 refine Zk [[], [0], [1, 0], [2, 1, 0], [], [4], [3, 2, 1, 0, 5, 4], [6, 3, 2, 1, 0, 5, 4]] [[], [], [], [], [], [], [], []] (by kernel_rfl) rfl rfl ?_
 simp -implicitDefEqProofs only [go_sem, Z0, lkn, lk31, Option.getD_some, Option.getD_none, hT, g0, q0, q3, q4, hlv, u1, u2, Zj]
 have hF1 : ∀ B1 : Blk, Fl E m v g s (([m + 7], .cells [.map [m + 6]] true 0) :: ([m + 6], B1) :: redoH (([m + 4], .cells [.int .i64 s.ticks, .int .i64 s.heat, .lst (s.shut.map iV), .bool s.flash] true 0) :: ([m + 3], .cells [.ptr [0] 0] true 0) :: H0) [([m + 5, 6, 0], some (.map (encE (leaveL v s.shut)) false))]) := fun B1 =>
  ⟨by simp (disch := omega) only [Z2, hc11, Z0, lkn, lk31, Option.getD_none], by simp (disch := omega) only [Z2, hc11, Z0, lkn, lk31, Option.getD_none], Z2 .., by simp (disch := omega) only [hc13, Z0, Zn, Option.getD_some], ⟨by simp (disch := omega) only [hc11, Z0, lkn, lk31, Option.getD_none]; exact hs.x, by simp (disch := omega) only [hc11, Z0, lkn, lk31, Option.getD_none]; exact hs.f, by simp (disch := omega) only [hc11, Z0, lkn, lk31, Option.getD_none]; exact hs.b, fun e => by have := hm e; simp (disch := omega) only [hc11, Z0, lkn, lk31, Option.getD_none]; exact hs.r e⟩⟩
 simp only [Z4]
 refine Tr.Does.mono (Q := fun x => ∃ (T' : List AV) (m' : Nat) (H' : Heap) (es : List (Int × Rg)), x = ((AExit.exit 0, T'), (⟨H', m' + 8, [], false, []⟩ : St)) /\ m <= m' /\ T'.length = 148 /\ nth T' 2 = some (.ptr [m + 3] 0) /\ nth T' 3 = some (.ptr [m + 4] 0) /\ nth T' 5 = some (.ptr [m + 7] 0) /\ Fl E m v g s H' /\ hget H' [m + 6] = some (.map (encE es) false) /\ ∀ q : Nat, q < g.free.length -> getS es q = begR v s.shut g.free q) ?_ ?_
 ·refine Zm (fun k T s' => T.length = 148 /\ nth T 2 = some (.ptr [m + 3] 0) /\ nth T 3 = some (.ptr [m + 4] 0) /\ nth T 4 = some (.map [m + 5, 6, 0]) /\ nth T 5 = some (.ptr [m + 7] 0) /\ nth T 26 = some (.slice [1] 0 g.free.length g.free.length false) /\ nth T 27 = some (.int .i64 g.free.length) /\ ∃ (i m' : Nat) (H' : Heap) (es : List (Int × Rg)), nth T 28 = some (.int .i64 i) /\ i <= g.free.length /\ k = g.free.length - i /\ s' = ⟨H', m' + 8, [], false, []⟩ /\ m <= m' /\ Fl E m v g s H' /\ hget H' [m + 6] = some (.map (encE es) false) /\ ∀ q : Nat, q < i -> getS es q = begR v s.shut g.free q) (k := g.free.length) (by omega) ?_ ?_
  ·exact ⟨by simp -implicitDefEqProofs only [go_sem, hT], by simp -implicitDefEqProofs only [go_sem, hT], by simp -implicitDefEqProofs only [go_sem, hT], by simp -implicitDefEqProofs only [go_sem, hT], by simp -implicitDefEqProofs only [go_sem, hT], by simp -implicitDefEqProofs only [go_sem, hT], by simp -implicitDefEqProofs only [go_sem, hT], 0, m, _, [], by simp -implicitDefEqProofs only [go_sem, hT] <;> rfl, by omega, rfl, rfl, Nat.le_refl _, hF1 _, by simp (disch := omega) only [Z2, hc11]; rfl, fun q hq => absurd hq (by omega)⟩
  clear a0 a1 hT T g0 q0 q3 q4 hs H0 hF1
  rintro k T s' ⟨hT, a2, a3, a4, a5, a26, a27, i, m', H0, es, a28, hi, rfl, rfl, hmm, hF, hM, hq⟩
  simp -implicitDefEqProofs only [go_sem, a27, a28, hT]
  by_cases hil : (i : Int) < (g.free.length : Int)
  ·have hi' : i < g.free.length := by omega
   have hkk : g.free.length - (i + 1) < g.free.length - i := by omega
   have f0 := X2 g.free hi'
   have f1 := X3 g.free hi'
   have hin : inR (i : Int) g.free.length = some i := Ja hi'
   have hbg : begR v s.shut g.free i = mulR g.free[i] ⟨wrapF .i64 (1000000 - (outR v i s.shut).hi), wrapF .i64 (1000000 - (outR v i s.shut).lo)⟩ := by unfold begR; rw [Z51 _ hi']
   generalize g.free[i] = fi at *
   have x1 := hF.s.f
   unfold rgB at x1
   have hc := hF.c
   have hlL := hF.l
   have z1 : (m' + 1 = m) = False := eq_false (by omega)
   have z2 : (m' + 2 = m) = False := eq_false (by omega)
   have z4 : (m' + 4 = m) = False := eq_false (by omega)
   have z5 : (m' + 5 = m) = False := eq_false (by omega)
   have hlk := fun (st : St) (hg : hget st.H [m + 5, 6, 0] = some (.map (encE (leaveL v s.shut)) false)) => Z7y (C := cfg.at 149) rfl (k := (i : Int)) hg
   rw [Z2w] at hlk
   have hup := fun (st : St) (hg : hget st.H [m + 6] = some (.map (encE es) false)) => Zfs (C := cfg.at 149) rfl (k := (i : Int)) (x := begR v s.shut g.free i) hg
   have hes : ∀ q : Nat, q < i + 1 -> getS (setS es i (begR v s.shut g.free i)) q = begR v s.shut g.free q := fun q hq2 => by
    rw [Xv]
    by_cases e : (q : Int) = i
    ·rw [if_pos e, e]
    ·rw [if_neg e]; exact hq q (by omega)
   rw [hbg] at hup
   have hw1 : wrapF .i64 ((i : Int) + 1) = ((i + 1 : Nat) : Int) := Z8 (by omega) (by omega)
   simp only [rgV, mulR] at hlk hup
   simp -implicitDefEqProofs only [go_sem, a2, a3, a4, a5, a26, a27, a28, hT, hil, hin, x1, f0, f1, hc, hM, hlL, z1, z2, hlk, hup, hw1]
   exact ⟨g.free.length - (i + 1), hkk, trivial, trivial, trivial, trivial, trivial, trivial, trivial, i + 1, m' + 1, _, setS es i (begR v s.shut g.free i), rfl, hi', rfl, rfl, by omega, hF.of (fun k hk hne => (hc11 (by omega)).trans (hs11 (by omega))) (hc13.trans hs13) hm (by omega), (hc11 (by omega)).trans (by rw [hbg]; exact hss hM), hes⟩
  ·have hie : i = g.free.length := by omega
   subst hie
   simp -implicitDefEqProofs only [go_sem, hil]
   exact ⟨_, m', H0, es, rfl, hmm, by simp -implicitDefEqProofs only [go_sem, hT], by simp -implicitDefEqProofs only [go_sem, a2], by simp -implicitDefEqProofs only [go_sem, a3], by simp -implicitDefEqProofs only [go_sem, a5], hF, hM, hq⟩
 clear a0 a1 hT T g0 q0 q3 q4 hs H0 hF1
 rintro _ ⟨T, m', H0, es, rfl, hmm, hT, a2, a3, a5, hF, hM, hq⟩
 have x0 := hF.s.x
 have hp := hF.p
 have hpc := hF.c
 unfold sysB at x0
 simp -implicitDefEqProofs only [go_sem, a2, a5, hT, hp, x0]
 simp only [Z4]
 refine Tr.Does.mono (Q := fun x => ∃ (T' : List AV) (m' : Nat) (H' : Heap) (es : List (Int × Rg)), x = ((AExit.exit 2, T'), (⟨H', m' + 8, [], false, []⟩ : St)) /\ m <= m' /\ T'.length = 148 /\ nth T' 2 = some (.ptr [m + 3] 0) /\ nth T' 5 = some (.ptr [m + 7] 0) /\ Fl E m v g s H' /\ hget H' [m + 6] = some (.map (encE es) false) /\ ∀ q : Nat, q < g.free.length -> getS es q = flowS g.free s.shut q 0 (begR v s.shut g.free q) v.pipes) ?_ ?_
 ·refine Zm (fun k T s' => T.length = 148 /\ nth T 2 = some (.ptr [m + 3] 0) /\ nth T 3 = some (.ptr [m + 4] 0) /\ nth T 5 = some (.ptr [m + 7] 0) /\ nth T 8 = some (.func 180 [.ptr [m + 3] 0, .ptr [m + 7] 0]) /\ nth T 58 = some (.lst (v.pipes.map pipV)) /\ nth T 59 = some (.int .i64 v.pipes.length) /\ ∃ (i m' : Nat) (H' : Heap) (es : List (Int × Rg)), nth T 60 = some (.int .i64 i) /\ i <= v.pipes.length /\ k = v.pipes.length - i /\ s' = ⟨H', m' + 8, [], false, []⟩ /\ m <= m' /\ Fl E m v g s H' /\ hget H' [m + 6] = some (.map (encE es) false) /\ ∀ q : Nat, q < g.free.length -> flowS g.free s.shut q 0 (begR v s.shut g.free q) v.pipes = flowS g.free s.shut q i (getS es q) (v.pipes.drop i)) (k := v.pipes.length) (by have := hv.pip.1; omega) ?_ ?_
  ·exact ⟨by simp -implicitDefEqProofs only [go_sem, hT], by simp -implicitDefEqProofs only [go_sem, a2], by simp -implicitDefEqProofs only [go_sem, a3], by simp -implicitDefEqProofs only [go_sem, a5], by simp -implicitDefEqProofs only [go_sem, hT], by simp -implicitDefEqProofs only [go_sem, hT], by simp -implicitDefEqProofs only [go_sem, hT], 0, m', _, es, by simp -implicitDefEqProofs only [go_sem, hT] <;> rfl, by omega, rfl, rfl, hmm, hF, hM, fun q hq2 => by rw [hq q hq2]; rfl⟩
  clear a2 a3 a5 hT T x0 hp hpc hF hM hq H0 hmm
  rintro k T s' ⟨hT, a2, a3, a5, a8, a58, a59, i, m', H0, es, a60, hi, rfl, rfl, hmm, hF, hM, hq⟩
  simp -implicitDefEqProofs only [go_sem, a59, a60, hT]
  by_cases hil : (i : Int) < (v.pipes.length : Int)
  ·have hi' : i < v.pipes.length := by omega
   have e1 := Zg (f := pipV) (l := v.pipes) (i := i) (z := 6) hi' rfl
   have hkk : v.pipes.length - (i + 1) < v.pipes.length - i := by omega
   have hpx := hpp _ (List.getElem_mem hi')
   rw [List.drop_eq_getElem_cons hi'] at hq
   generalize v.pipes[i] = x at *
   simp only [flowS] at hq
   have hkc := hF.k
   have z4 : (m' + 4 = m) = False := eq_false (by omega)
   have z1 : (m' + 1 = m) = False := eq_false (by omega)
   have hco := fun st => Z0z s.shut i (K + 1) st (by omega) hsh2
   simp only [pipV] at e1
   have hw1 : wrapF .i64 ((i : Int) + 1) = ((i + 1 : Nat) : Int) := Z8 (by have := hv.pip.2; omega) (by have := hv.pip.2; omega)
   simp -implicitDefEqProofs only [go_sem, a3, a58, a60, hT, hil, e1, hkc, z4, hco]
   by_cases hin : (i : Int) ∈ s.shut
   ·simp only [if_pos hin] at hq
    simp -implicitDefEqProofs only [go_sem, a2, a3, a5, a8, a58, a59, a60, hT, hin, hw1]
    exact ⟨v.pipes.length - (i + 1), hkk, trivial, trivial, trivial, trivial, trivial, trivial, trivial, i + 1, m' + 1, _, es, rfl, hi', rfl, rfl, by omega, hF.of (fun k hk hne => hc11 (by omega)) hc13 hm (by omega), (hc11 (by omega)).trans hM, hq⟩
   ·simp only [if_neg hin] at hq
    obtain ⟨pa, hpa⟩ : ∃ q : Nat, x.a = q := ⟨x.a.toNat, by omega⟩
    obtain ⟨pb, hpb⟩ : ∃ q : Nat, x.b = q := ⟨x.b.toNat, by omega⟩
    have ha' : pa < g.free.length := by omega
    have hb' : pb < g.free.length := by omega
    have hF1 := hF.of (H' := ([m' + 8], .cells [.int .i64 x.a, .int .i64 x.b, .int .i64 x.out.lo, .int .i64 x.out.hi, .int .i64 x.back.lo, .int .i64 x.back.hi] true 0) :: H0) (fun k hk hne => hc11 (by omega)) hc13 hm (by omega)
    have hM1 : hget (([m' + 8], .cells [.int .i64 x.a, .int .i64 x.b, .int .i64 x.out.lo, .int .i64 x.out.hi, .int .i64 x.back.lo, .int .i64 x.back.hi] true 0) :: H0) [m + 6] = some (.map (encE es) false) := (hc11 (by omega)).trans hM
    have hx1 := hF1.s.x
    unfold sysB at hx1
    obtain ⟨H2, n2, hca, hn2, hM2, hfr, hfr3⟩ := Z5z x.b x.a pa x.out (m + 3) (m + 7) (m + 6) es _ g.free (K + 1) _ (m' + 9) hpa ha' hF1.p hF1.c hM1 hx1 rfl hF1.s.f (by omega) (by omega) (by omega) (by omega) (by omega) (by omega) (by omega) (by omega)
    have hF2 := hF1.of (H' := H2) (fun k hk hne => hfr k (by omega) hne) (hfr3 _ _ _) hm (by omega)
    have hP2 : hget H2 [m' + 8] = some (.cells [.int .i64 x.a, .int .i64 x.b, .int .i64 x.out.lo, .int .i64 x.out.hi, .int .i64 x.back.lo, .int .i64 x.back.hi] true 0) := (hfr _ (by omega) (by omega)).trans (Z2 ..)
    have hx2 := hF2.s.x
    unfold sysB at hx2
    obtain ⟨H3, n3, hcb, hn3, hM3, hfr', hfr3'⟩ := Z5z x.a x.b pb x.back (m + 3) (m + 7) (m + 6) _ _ g.free (K + 1) H2 n2 hpb hb' hF2.p hF2.c hM2 hx2 rfl hF2.s.f (by omega) (by omega) (by omega) (by omega) (by omega) (by omega) (by omega) (by omega)
    have hF3 := hF2.of (H' := H3) (fun k hk hne => hfr' k (by omega) hne) (hfr3' _ _ _) hm (by omega)
    obtain ⟨m3, rfl⟩ : ∃ q, n3 = q + 8 := ⟨n3 - 8, by omega⟩
    have hq2 : ∀ q : Nat, q < g.free.length -> flowS g.free s.shut q 0 (begR v s.shut g.free q) v.pipes = flowS g.free s.shut q (i + 1) (getS (setS (setS es x.b (plusR (getS es x.b) (mulR g.free[pa] x.out))) x.a (plusR (getS (setS es x.b (plusR (getS es x.b) (mulR g.free[pa] x.out))) x.a) (mulR g.free[pb] x.back))) q) (v.pipes.drop (i + 1)) := fun q hq2 => by
     rw [hq q hq2, Xv, hpa, hpb, Z51 _ ha', Z51 _ hb']
     by_cases e1 : (q : Int) = (pa : Int)
     ·rw [if_pos e1, if_pos e1, Xv, e1]
      by_cases e2 : (pa : Int) = (pb : Int)
      ·rw [if_pos e2, if_pos e2, e2]
      ·rw [if_neg e2, if_neg e2]
     ·rw [if_neg e1, if_neg e1, Xv]
      by_cases e2 : (q : Int) = (pb : Int)
      ·rw [if_pos e2, if_pos e2, e2]
      ·rw [if_neg e2, if_neg e2]
    simp only [rgV] at hca hcb
    clear hfr hfr' hfr3 hfr3' hx1 hx2 hF1 hF2 hM1 hM2 hq
    simp -implicitDefEqProofs only [go_sem, a2, a3, a5, a8, a58, a59, a60, hT, hin, hca, hP2, hcb, hw1]
    exact ⟨v.pipes.length - (i + 1), hkk, trivial, trivial, trivial, trivial, trivial, trivial, trivial, i + 1, m3, H3, _, rfl, hi', rfl, rfl, by omega, hF3, hM3, hq2⟩
  ·have hie : i = v.pipes.length := by omega
   subst hie
   rw [List.drop_length] at hq
   simp -implicitDefEqProofs only [go_sem, hil]
   exact ⟨_, m', H0, es, rfl, hmm, by simp -implicitDefEqProofs only [go_sem, hT], by simp -implicitDefEqProofs only [go_sem, a2], by simp -implicitDefEqProofs only [go_sem, a5], hF, hM, fun q hq2 => by rw [hq q hq2]; rfl⟩
 rintro _ ⟨T, m', H0, es, rfl, hmm, hT, a2, a5, hF, hM, hq⟩
 have x0 := hF.s.x
 have hp := hF.p
 unfold sysB at x0
 simp -implicitDefEqProofs only [go_sem, a2, hT, hp, x0]
 simp only [Z4]
 refine Tr.Does.mono (Q := fun x => ∃ (T' : List AV) (m' : Nat) (H' : Heap), x = ((AExit.exit 4, T'), (⟨H', m' + 8, [], false, []⟩ : St)) /\ m <= m' /\ T'.length = 148 /\ nth T' 2 = some (.ptr [m + 3] 0) /\ hget H' [m + 3] = some (.cells [.ptr [0] 0] true 0) /\ SysAt E H' [0] [1] [2] [3] v ⟨flowG v s.shut g.free, g.bound, g.room, g.most, g.flashed⟩) ?_ ?_
 ·have hGl := Jf v s.shut g.free
  refine Zm (fun k T s' => T.length = 148 /\ nth T 2 = some (.ptr [m + 3] 0) /\ nth T 5 = some (.ptr [m + 7] 0) /\ nth T 91 = some (.slice [1] 0 g.free.length g.free.length false) /\ nth T 92 = some (.int .i64 g.free.length) /\ ∃ (i m' : Nat) (H' : Heap), nth T 93 = some (.int .i64 i) /\ i <= g.free.length /\ k = g.free.length - i /\ s' = ⟨H', m' + 8, [], false, []⟩ /\ m <= m' /\ hget H' [m + 3] = some (.cells [.ptr [0] 0] true 0) /\ hget H' [m + 7] = some (.cells [.map [m + 6]] true 0) /\ hget H' [m + 6] = some (.map (encE es) false) /\ SysAt E H' [0] [1] [2] [3] v ⟨(flowG v s.shut g.free).take i ++ g.free.drop i, g.bound, g.room, g.most, g.flashed⟩) (k := g.free.length) (by omega) ?_ ?_
  ·exact ⟨by simp -implicitDefEqProofs only [go_sem, hT], by simp -implicitDefEqProofs only [go_sem, a2], by simp -implicitDefEqProofs only [go_sem, a5], by simp -implicitDefEqProofs only [go_sem, hT], by simp -implicitDefEqProofs only [go_sem, hT], 0, m', _, by simp -implicitDefEqProofs only [go_sem, hT] <;> rfl, by omega, rfl, rfl, hmm, hF.p, hF.c, hM, hF.s⟩
  clear a2 a5 hT T x0 hp hF hM hmm H0
  rintro k T s' ⟨hT, a2, a5, a91, a92, i, m', H0, a93, hi, rfl, rfl, hmm, hp, hc, hM, hs⟩
  simp -implicitDefEqProofs only [go_sem, a92, a93, hT]
  by_cases hil : (i : Int) < (g.free.length : Int)
  ·have hi' : i < g.free.length := by omega
   have hkk : g.free.length - (i + 1) < g.free.length - i := by omega
   obtain ⟨F, hF, lF, f0, f1, fw⟩ := Z73 (G := flowG v s.shut g.free) (F := g.free) hGl hi' (quoR (getS es i)) (fun h0 => by rw [hq i hi']; simp [flowG])
   rw [<- hF] at hs
   clear hF
   generalize hF' : (flowG v s.shut g.free).take (i + 1) ++ g.free.drop (i + 1) = F' at fw
   have lF' : F'.length = F.length := by rw [<- hF', Z4z hGl, lF]
   have x0 := hs.x
   have x1 := hs.f
   have x2 := hs.b
   have x3 := hs.r
   have y0 : hget H0 [0] = some (sysB E v [1] [2] [3] ⟨F', g.bound, g.room, g.most, g.flashed⟩) := x0.trans (congrArg some (Z1h lF'.symm rfl rfl rfl rfl))
   unfold sysB at x0
   unfold rgB at x1
   simp only at x0 x1 x2 x3
   have hin : inR (i : Int) F.length = some i := Ja (by omega)
   have hlk := fun (st : St) (hg : hget st.H [m + 6] = some (.map (encE es) false)) => Z7y (C := cfg.at 149) rfl (k := (i : Int)) hg
   have hw1 : wrapF .i64 ((i : Int) + 1) = ((i + 1 : Nat) : Int) := Z8 (by omega) (by omega)
   generalize getS es i = q at *
   simp only [rgV] at hlk
   simp only [quoR] at fw
   simp -implicitDefEqProofs only [go_sem, a93, hT, hil]
   try simp only [Z4]
   refine Zk [[], [0], [1, 0], [2, 1, 0], [3, 2, 1, 0], [], [], [], [6, 7], [8, 6, 7], [9, 8, 6, 7], [], [], [11, 12], [13, 11, 12], [14, 13, 11, 12], [15, 14, 13, 11, 12], [16, 15, 14, 13, 11, 12], [10, 9, 8, 6, 7, 17, 16, 15, 14, 13, 11, 12], [4, 3, 2, 1, 0, 5, 18, 10, 9, 8, 6, 7, 17, 16, 15, 14, 13, 11, 12], [19, 4, 3, 2, 1, 0, 5, 18, 10, 9, 8, 6, 7, 17, 16, 15, 14, 13, 11, 12]] [[], [], [], [], [], [], [], [], [], [], [], [], [], [], [], [], [], [], [], [], [[1]]] (by kernel_rfl) rfl rfl ?_
   simp -implicitDefEqProofs only [go_sem, Option.getD_some, a2, a5, a91, a92, a93, hT, hp, hc, hM, x0, x1, hin, f0, f1, hlk, Xw, fw, hw1, Zj]
   refine ⟨g.free.length - (i + 1), hkk, trivial, trivial, trivial, trivial, trivial, i + 1, m' + 1, _, rfl, hi', rfl, rfl, by omega, ?_, ?_, ?_, ?_⟩
   all_goals clear hw1
   ·simp (disch := omega) only [Z0, lkn, lk11, Option.getD_none, hp]
   ·simp (disch := omega) only [Z0, lkn, lk11, Option.getD_none, hc]
   ·simp (disch := omega) only [Z0, lkn, lk11, Option.getD_none, hM]
   ·rw [hF']
    refine ⟨?_, ?_, ?_, fun e => ?_⟩
    ·simp (disch := omega) only [Z0, lkn, lk11, Option.getD_none]; exact y0
    ·simp (disch := omega) only [Z0, Zn, Option.getD_some]; rfl
    ·simp (disch := omega) only [Z0, lkn, lk11, Option.getD_none]; exact x2
    ·have := hm e
     simp (disch := omega) only [Z0, lkn, lk11, Option.getD_none]; exact x3 e
  ·have hie : i = g.free.length := by omega
   subst hie
   have e1 : (flowG v s.shut g.free).take g.free.length ++ g.free.drop g.free.length = flowG v s.shut g.free := by
    rw [List.drop_of_length_le (Nat.le_refl _), List.append_nil, List.take_of_length_le (by omega)]
   rw [e1] at hs
   simp -implicitDefEqProofs only [go_sem, hil]
   exact ⟨_, m', H0, rfl, hmm, by simp -implicitDefEqProofs only [go_sem, hT], by simp -implicitDefEqProofs only [go_sem, a2], hp, hs⟩
 clear a2 a5 hT T x0 hp hF hM hmm H0 hq es m'
 rintro _ ⟨T, m', H0, rfl, hmm, hT, a2, hp, hs⟩
 have x0 := hs.x
 unfold sysB at x0
 have hGl := Jf v s.shut g.free
 unfold flowT
 generalize flowG v s.shut g.free = G at *
 simp -implicitDefEqProofs only [go_sem, a2, hT, hp, x0]
 simp only [Z4]
 refine Zm (fun k T s' => T.length = 148 /\ nth T 2 = some (.ptr [m + 3] 0) /\ nth T 121 = some (.lst (v.leaks.map inlV)) /\ nth T 122 = some (.int .i64 v.leaks.length) /\ ∃ (i m' : Nat) (H' : Heap) (F : List Rg), nth T 123 = some (.int .i64 i) /\ i <= v.leaks.length /\ k = v.leaks.length - i /\ s' = ⟨H', m' + 8, [], false, []⟩ /\ m <= m' /\ hget H' [m + 3] = some (.cells [.ptr [0] 0] true 0) /\ SysAt E H' [0] [1] [2] [3] v ⟨F, g.bound, g.room, g.most, g.flashed⟩ /\ F.length = G.length /\ leakR G v.leaks = leakR F (v.leaks.drop i)) (k := v.leaks.length) (by have := hv.inl.1; omega) ?_ ?_
 ·exact ⟨by simp -implicitDefEqProofs only [go_sem, hT], by simp -implicitDefEqProofs only [go_sem, a2], by simp -implicitDefEqProofs only [go_sem, hT], by simp -implicitDefEqProofs only [go_sem, hT], 0, m', H0, G, by simp -implicitDefEqProofs only [go_sem, hT] <;> rfl, by omega, rfl, rfl, hmm, hp, hs, rfl, rfl⟩
 clear a2 hT T x0 hp hs hmm H0
 rintro k T s' ⟨hT, a2, a121, a122, i, m', H0, F, a123, hi, rfl, rfl, hmm, hp, hs, lF, he⟩
 simp -implicitDefEqProofs only [go_sem, a122, a123, hT]
 by_cases hil : (i : Int) < (v.leaks.length : Int)
 ·have hi' : i < v.leaks.length := by omega
  have e1 := Zg (f := inlV) (l := v.leaks) (i := i) (z := 3) hi' rfl
  have hkk : v.leaks.length - (i + 1) < v.leaks.length - i := by omega
  have hlx := hll _ (List.getElem_mem hi')
  rw [List.drop_eq_getElem_cons hi'] at he
  generalize v.leaks[i] = x at *
  obtain ⟨a, hxa⟩ : ∃ q : Nat, x.at' = q := ⟨x.at'.toNat, by omega⟩
  have haF : a < F.length := by omega
  simp only [leakR] at he
  rw [hxa, Int.toNat_natCast, Z51 _ haF] at he
  have f0 := X2 F haF
  have f1 := X3 F haF
  have fw := Z1g F haF (plusR F[a] x.gas)
  have hin : inR (a : Int) F.length = some a := Ja haF
  have hpl := fun st => Z0w F[a] x.gas (K + 2) st
  generalize F[a] = fi at *
  generalize hF' : F.set a (plusR fi x.gas) = F' at *
  have lF' : F'.length = F.length := by rw [<- hF']; simp
  generalize plusR fi x.gas = pp at *
  have x0 := hs.x
  have x1 := hs.f
  have x2 := hs.b
  have x3 := hs.r
  have y0 : hget H0 [0] = some (sysB E v [1] [2] [3] ⟨F', g.bound, g.room, g.most, g.flashed⟩) := x0.trans (congrArg some (Z1h lF'.symm rfl rfl rfl rfl))
  unfold sysB at x0
  unfold rgB at x1
  simp only at x0 x1 x2 x3
  simp only [inlV] at e1
  rw [hxa] at e1
  simp only [rgV] at hpl
  have hw1 : wrapF .i64 ((i : Int) + 1) = ((i + 1 : Nat) : Int) := Z8 (by have := hv.inl.2; omega) (by have := hv.inl.2; omega)
  have k3 : ∀ X, hget (([m' + 8], X) :: H0) [m + 3] = hget H0 [m + 3] := fun X => hc11 (by omega)
  have z5 : (m' + 5 = m) = False := eq_false (by omega)
  simp -implicitDefEqProofs only [go_sem, a121, a123, hT, hil, e1]
  try simp only [Z4]
  refine Zk [[], [0], [1, 0], [2, 1, 0], [3, 2, 1, 0], [], [5], [], [7], [8, 7], [9, 8, 7], [10, 9, 8, 7], [], [12], [11, 10, 9, 8, 7, 13, 12], [14, 11, 10, 9, 8, 7, 13, 12], [], [16], [15, 14, 11, 10, 9, 8, 7, 13, 12, 17, 16], [4, 3, 2, 1, 0, 6, 5, 18, 15, 14, 11, 10, 9, 8, 7, 13, 12, 17, 16], [19, 4, 3, 2, 1, 0, 6, 5, 18, 15, 14, 11, 10, 9, 8, 7, 13, 12, 17, 16]] [[], [], [], [], [], [], [], [], [], [], [], [], [], [], [], [], [], [], [], [], [[1]]] (by kernel_rfl) rfl rfl ?_
  simp -implicitDefEqProofs only [go_sem, Option.getD_some, a2, a121, a122, a123, hT, hp, k3, x0, x1, hin, f0, f1, hpl, Xw, fw, hw1, Zj]
  refine ⟨v.leaks.length - (i + 1), hkk, trivial, trivial, trivial, trivial, i + 1, m' + 2, _, F', rfl, hi', rfl, rfl, by omega, ?_, ?_, by omega, he⟩
  all_goals clear hw1
  ·simp (disch := omega) only [hc11, Z0, lkn, lk11, Option.getD_none, hp]
  ·refine ⟨?_, ?_, ?_, fun e => ?_⟩
   ·simp (disch := omega) only [hc11, Z0, lkn, lk11, Option.getD_none]; exact y0
   ·simp (disch := omega) only [hc11, Z0, Zn, Option.getD_some]; rfl
   ·simp (disch := omega) only [hc11, Z0, lkn, lk11, Option.getD_none]; exact x2
   ·have := hm e
    simp (disch := omega) only [hc11, Z0, lkn, lk11, Option.getD_none]; exact x3 e
 ·have hie : i = v.leaks.length := by omega
  subst hie
  rw [List.drop_length] at he
  simp only [leakR] at he
  rw [he]
  simp -implicitDefEqProofs only [go_sem, hil, Try.results149]
  exact ⟨trivial, hs⟩
end Go.Proofs.Ytgnpnfkncbnjnaa
namespace Go.Proofs.Ytgnpnfkncbnjnaa
attribute [local go_sem_proc] Int.reduceEq Int.reduceNeg Nat.reduceEqDiff Nat.reduceLT Nat.reduceAdd Nat.reduceSub Nat.reduceMul Int.reduceLE Int.reduceLT Int.reduceToNat Nat.reduceLeDiff
attribute [local go_sem] Int.toNat_natCast Bool.not_true Bool.not_false
open Go Go.Am
attribute [local congr] Z7 Z5 Z6
attribute [local go_sem] Go.Am.frozen Go.Am.freezeG Go.Am.freezeGs
variable {E : AV}
theorem Xl {H : Heap} {X f b r q : Nm} {v : Vac} {g : Gs} (h1 : X ≠ q) (h2 : f ≠ q) (h3 : b ≠ q) (h4 : g.room ≠ [] -> r ≠ q) : hget (sysPut E X f b r v g H) q = hget H q := by
 unfold sysPut
 cases hg : g.room with
 | nil =>
  show hget (hset (hset (hset H X _) f _) b _) q = _
  rw [Z3 _ _ h3, Z3 _ _ h2, Z3 _ _ h1]
 | cons a l =>
  show hget (hset (hset (hset (hset H X _) f _) b _) r _) q = _
  rw [Z3 _ _ (h4 (by rw [hg]; simp)), Z3 _ _ h3, Z3 _ _ h2, Z3 _ _ h1]
theorem Zcv {v : Vac} (h : checkE v = 0) : firstE vesE v.vessels = 0 /\ partsE v = 0 := by
 unfold checkE at h
 split at h
 ·exact absurd h (by decide)
 ·split at h
  ·exact absurd h (by decide)
  ·split at h
   ·rename_i h2
    split at h
    ·rename_i h3; exact ⟨h2, h3⟩
    ·rename_i h3; exact absurd h h3
   ·rename_i h2; exact absurd h h2
structure Valid (v : Vac) : Prop where
 n1 : 1 <= v.vessels.length
 n8 : v.vessels.length <= 8
 p16 : v.pipes.length <= 16
 m8 : v.pumps.length <= 8
 l8 : v.leaks.length <= 8
 g8 : v.getters.length <= 8
 bd : ∀ x ∈ v.vessels, x.bands.length <= 8
 pip : ∀ q ∈ v.pipes, (0 <= q.a /\ q.a < v.vessels.length) /\ 0 <= q.b /\ q.b < v.vessels.length
 inl : ∀ q ∈ v.leaks, 0 <= q.at' /\ q.at' < v.vessels.length
 gtr : ∀ q ∈ v.getters, 0 <= q.at' /\ q.at' < v.vessels.length
theorem Z87 {v : Vac} (h : checkE v = 0) : Valid v := by
 obtain ⟨n1, n2, n3, n4, n5, n6⟩ := Z83 h
 obtain ⟨h1, h2⟩ := Zcv h
 have hb : ∀ x ∈ v.vessels, x.bands.length <= 8 := fun x hx => by
  have h3 := Yj h1 x hx
  unfold vesE at h3
  split at h3
  ·split at h3
   ·split at h3
    ·split at h3
     ·exact absurd h3 (by decide)
     ·omega
    ·rename_i h4; exact absurd h3 h4
   ·rename_i h4; exact absurd h3 h4
  ·exact absurd h3 (by decide)
 unfold partsE at h2
 split at h2
 ·rename_i p1
  split at h2
  ·rename_i p2
   split at h2
   ·rename_i p3
    refine ⟨n1, n2, n3, n4, n5, n6, hb, fun q hq => ?_, fun q hq => ?_, fun q hq => ?_⟩
    ·have := Z4v (Yj p1 q hq); exact ⟨this.1, this.2.1⟩
    ·exact Z6z (Yj p3 q hq)
    ·have h4 := Yj h2 q hq
     unfold getE at h4
     split at h4
     ·rename_i h5; exact Z6z h5
     ·rename_i h5; exact absurd h4 h5
   ·rename_i p3; exact absurd h2 p3
  ·rename_i p2; exact absurd h2 p2
 ·rename_i p1; exact absurd h2 p1
theorem Valid.lens {v : Vac} (h : Valid v) (K : Nat) (hK : 20 < K) : v.Lens K :=
 ⟨⟨by have := h.n8; omega, by have := h.n8; omega⟩, ⟨by have := h.p16; omega, by have := h.p16; omega⟩, ⟨by have := h.m8; omega, by have := h.m8; omega⟩, ⟨by have := h.l8; omega, by have := h.l8; omega⟩, ⟨by have := h.g8; omega, by have := h.g8; omega⟩, fun x hx => by have := h.bd x hx; omega⟩
structure Fits (v : Vac) (g : Gs) : Prop where
 f : g.free.length = v.vessels.length
 b : g.bound.length = v.vessels.length
 r : g.room.length = v.getters.length
theorem Z43 {v : Vac} {g : Gs} (h : Fits v g) (s : Bk) : Fits v (beginT v g s) := ⟨h.f, h.b, h.r⟩
theorem Z88 {v : Vac} {g : Gs} (h : Fits v g) (s : Bk) : Fits v (relT v g s) := ⟨Z85 h.f h.b, Z86 h.b, h.r⟩
theorem Z60 {v : Vac} {g : Gs} (h : Fits v g) (s : Bk) : Fits v (flowT v g s) := ⟨by show (leakR _ _).length = _; rw [Z30, Jf]; exact h.f, h.b, h.r⟩
theorem Z89 {v : Vac} {g : Gs} (h : Fits v g) (s : Bk) : Fits v (getT v g s) := by
 have e := Z50 v.getters 0 g.free g.room
 unfold getT
 split
 ·exact ⟨e.1.trans h.f, h.b, e.2.trans h.r⟩
 ·exact h
theorem Z8a {v : Vac} {g : Gs} (h : Fits v g) (s : Bk) : Fits v (cutT v g s) := ⟨by show (List.map _ _).length = _; rw [List.length_map]; exact h.f, by show (List.map _ _).length = _; rw [List.length_map]; exact h.b, h.r⟩
def tickT (v : Vac) (g : Gs) (s : Bk) : Gs := cutT v (getT v (flowT v (relT v (beginT v g s) s) s) s) s
theorem Z61 {v : Vac} {g : Gs} (h : Fits v g) (s : Bk) : Fits v (tickT v g s) := Z8a (Z89 (Z60 (Z88 (Z43 h s) s) s) s) s
theorem Fits.ne {v : Vac} {g : Gs} (h : Fits v g) (hv : Valid v) : g.free ≠ [] /\ g.bound ≠ [] :=
 ⟨fun e => by have := h.f; rw [e] at this; have := hv.n1; simp at *; omega, fun e => by have := h.b; rw [e] at this; have := hv.n1; simp at *; omega⟩
def stepT (v : Vac) (g : Gs) (s : Bk) : Nat -> Gs
 | 0 => g
 | 1 => beginT v g s
 | 2 => relT v (beginT v g s) s
 | 3 => flowT v (relT v (beginT v g s) s) s
 | 4 => getT v (flowT v (relT v (beginT v g s) s) s) s
 | _ => tickT v g s
theorem Jz : Apart [0] [1] [2] [3] := ⟨by decide, by decide, by decide, by decide, by decide, by decide⟩
theorem Zb7 [hE : Emp E] {K : Nat} {X f b r : Nm} {v : Vac} {g : Gs} {s : Bk} {H : Heap} {n : Nat} {p : Nm} {j : Delta} (h : SysAt E H X f b r v g) (ha : Apart X f b r) (hv : Valid v) (hf : Fits v g) (hK : 200 < K) (hsh : s.shut.length < K) (hsh2 : s.shut.length <= 9223372036854775807) :
  acall cfg (K + 6) 97 [.ptr X 0, bkV s] ⟨H, n, p, false, j⟩ = .ret (.tuple [], ⟨sysPut E X f b r v (tickT v g s) H, n, p, false, j⟩) := by
 have hft := Z61 hf s
 obtain ⟨hn1, hn2⟩ := hf.ne hv
 refine Jt Zh8 Zh7 h ha hn1 hn2 (by rw [hft.f, hf.f]) (by rw [hft.b, hf.b]) (by rw [hft.r, hf.r]) fun H0 m hs hm => ?_
 refine Z9 rfl fun T hT' hA => ?_
 have a0 := hA 0 _ rfl
 have a1 := hA 1 _ rfl
 have hT : T.length = 15 := hT'
 clear hA hT'
 simp -implicitDefEqProofs only [go_sem, a1]
 simp only [Z4]
 refine Zm (fun k T s' => T.length = 15 /\ nth T 0 = some (.ptr [0] 0) /\ nth T 3 = some (.ptr [m + 3] 0) /\ nth T 6 = some (.agg [.func 147 [], .func 148 [], .func 149 [], .func 150 [], .func 151 []]) /\ ∃ (i : Nat) (H' : Heap), nth T 7 = some (.int .i64 i) /\ i <= 5 /\ k = 5 - i /\ s' = ⟨H', m + 4, [], false, []⟩ /\ hget H' [m + 3] = some (.cells [.int .i64 s.ticks, .int .i64 s.heat, .lst (s.shut.map iV), .bool s.flash] true 0) /\ Fits v (stepT v g s i) /\ SysAt E H' [0] [1] [2] [3] v (stepT v g s i)) (k := 5) (by omega) ?_ ?_
 ·exact ⟨by simp -implicitDefEqProofs only [go_sem, hT], by simp -implicitDefEqProofs only [go_sem, a0], by simp -implicitDefEqProofs only [go_sem, hT], by simp -implicitDefEqProofs only [go_sem, hT], 0, _, by simp -implicitDefEqProofs only [go_sem, hT] <;> rfl, by omega, rfl, rfl, Z2 .., hf, ⟨(hc11 (by omega)).trans hs.x, (hc11 (by omega)).trans hs.f, (hc11 (by omega)).trans hs.b, fun e => (hc11 (by have := hm e; omega)).trans (hs.r e)⟩⟩
 have hroom : ∀ i, (stepT v g s i).room.length = v.getters.length -> ((stepT v g s i).room ≠ [] -> 1 <= m) := fun i e hne => hm fun e2 => hne (List.length_eq_zero_iff.1 (by rw [e, <- hf.r, e2]; rfl))
 clear a0 a1 hT T hs H0 hn1 hn2 hft
 rintro k T s' ⟨hT, a0, a3, a6, i, H0, a7, hi, rfl, rfl, hbk, hf', hs⟩
 obtain ⟨hn1, hn2⟩ := hf'.ne hv
 have hrm := hroom i hf'.r
 rcases (show i = 0 \/ i = 1 \/ i = 2 \/ i = 3 \/ i = 4 \/ i = 5 by omega) with rfl | rfl | rfl | rfl | rfl | rfl
 ·have b7 : nth T 7 = some (.int .i64 0) := a7
  have hin : inR 0 5 = some 0 := rfl
  have hw1 : wrapF .i64 (0 + 1) = 1 := rfl
  have hfn : Fits v (stepT v g s (0 + 1)) := Z43 hf' s
  have hsn : SysAt E (sysPut E [0] [1] [2] [3] v (stepT v g s (0 + 1)) H0) [0] [1] [2] [3] v (stepT v g s (0 + 1)) := Xk hs Jz (by rw [hfn.r, hf'.r])
  have hbn : hget (sysPut E [0] [1] [2] [3] v (stepT v g s (0 + 1)) H0) [m + 3] = hget H0 [m + 3] := Xl (n11 (by omega)) (n11 (by omega)) (n11 (by omega)) (fun e => n11 (by have := hroom (0 + 1) hfn.r e; omega))
  rw [hbk] at hbn
  have hc' : ∀ n p j, acall cfg (K + 5) 147 [.ptr [0] 0, bkV s] ⟨H0, n, p, false, j⟩ = .ret (.tuple [], ⟨sysPut E [0] [1] [2] [3] v (stepT v g s (0 + 1)) H0, n, p, false, j⟩) := fun n p j => (Z72 hs Jz hn1 hn2 (K := K + 4) (by have := hv.l8; omega) (by have := hv.l8; omega))
  generalize sysPut E [0] [1] [2] [3] v (stepT v g s (0 + 1)) H0 = H1 at *
  simp only [bkV] at hc'
  simp -implicitDefEqProofs only [go_sem, a0, a3, b7, a6, hT, hin, hbk, hc', hw1]
  exact ⟨5 - (0 + 1), by omega, trivial, trivial, trivial, trivial, 0 + 1, H1, rfl, by omega, rfl, rfl, hbn, hfn, hsn⟩
 ·have b7 : nth T 7 = some (.int .i64 1) := a7
  have hin : inR 1 5 = some 1 := rfl
  have hw1 : wrapF .i64 (1 + 1) = 2 := rfl
  have hfn : Fits v (stepT v g s (1 + 1)) := Z88 hf' s
  have hsn : SysAt E (sysPut E [0] [1] [2] [3] v (stepT v g s (1 + 1)) H0) [0] [1] [2] [3] v (stepT v g s (1 + 1)) := Xk hs Jz (by rw [hfn.r, hf'.r])
  have hbn : hget (sysPut E [0] [1] [2] [3] v (stepT v g s (1 + 1)) H0) [m + 3] = hget H0 [m + 3] := Xl (n11 (by omega)) (n11 (by omega)) (n11 (by omega)) (fun e => n11 (by have := hroom (1 + 1) hfn.r e; omega))
  rw [hbk] at hbn
  have hc' : ∀ n p j, acall cfg (K + 5) 148 [.ptr [0] 0, bkV s] ⟨H0, n, p, false, j⟩ = .ret (.tuple [], ⟨sysPut E [0] [1] [2] [3] v (stepT v g s (1 + 1)) H0, n, p, false, j⟩) := fun n p j => (Z5y hs Jz hn1 hf'.f hf'.b (K := K + 3) (by have := hv.n8; omega) (by have := hv.n8; omega) hv.bd)
  generalize sysPut E [0] [1] [2] [3] v (stepT v g s (1 + 1)) H0 = H1 at *
  simp only [bkV] at hc'
  simp -implicitDefEqProofs only [go_sem, a0, a3, b7, a6, hT, hin, hbk, hc', hw1]
  exact ⟨5 - (1 + 1), by omega, trivial, trivial, trivial, trivial, 1 + 1, H1, rfl, by omega, rfl, rfl, hbn, hfn, hsn⟩
 ·have b7 : nth T 7 = some (.int .i64 2) := a7
  have hin : inR 2 5 = some 2 := rfl
  have hw1 : wrapF .i64 (2 + 1) = 3 := rfl
  have hfn : Fits v (stepT v g s (2 + 1)) := Z60 hf' s
  have hsn : SysAt E (sysPut E [0] [1] [2] [3] v (stepT v g s (2 + 1)) H0) [0] [1] [2] [3] v (stepT v g s (2 + 1)) := Xk hs Jz (by rw [hfn.r, hf'.r])
  have hbn : hget (sysPut E [0] [1] [2] [3] v (stepT v g s (2 + 1)) H0) [m + 3] = hget H0 [m + 3] := Xl (n11 (by omega)) (n11 (by omega)) (n11 (by omega)) (fun e => n11 (by have := hroom (2 + 1) hfn.r e; omega))
  rw [hbk] at hbn
  have hc' : ∀ n p j, acall cfg (K + 5) 149 [.ptr [0] 0, bkV s] ⟨H0, n, p, false, j⟩ = .ret (.tuple [], ⟨sysPut E [0] [1] [2] [3] v (stepT v g s (2 + 1)) H0, n, p, false, j⟩) := fun n p j => (Zb6 hs Jz hn1 hn2 hf'.f (K := K + 1) (by have := hv.n8; omega) (by have := hv.n8; omega) (hv.lens _ (by omega)) (by omega) hsh2 hv.pip hv.inl)
  generalize sysPut E [0] [1] [2] [3] v (stepT v g s (2 + 1)) H0 = H1 at *
  simp only [bkV] at hc'
  simp -implicitDefEqProofs only [go_sem, a0, a3, b7, a6, hT, hin, hbk, hc', hw1]
  exact ⟨5 - (2 + 1), by omega, trivial, trivial, trivial, trivial, 2 + 1, H1, rfl, by omega, rfl, rfl, hbn, hfn, hsn⟩
 ·have b7 : nth T 7 = some (.int .i64 3) := a7
  have hin : inR 3 5 = some 3 := rfl
  have hw1 : wrapF .i64 (3 + 1) = 4 := rfl
  have hfn : Fits v (stepT v g s (3 + 1)) := Z89 hf' s
  have hsn : SysAt E (sysPut E [0] [1] [2] [3] v (stepT v g s (3 + 1)) H0) [0] [1] [2] [3] v (stepT v g s (3 + 1)) := Xk hs Jz (by rw [hfn.r, hf'.r])
  have hbn : hget (sysPut E [0] [1] [2] [3] v (stepT v g s (3 + 1)) H0) [m + 3] = hget H0 [m + 3] := Xl (n11 (by omega)) (n11 (by omega)) (n11 (by omega)) (fun e => n11 (by have := hroom (3 + 1) hfn.r e; omega))
  rw [hbk] at hbn
  have hc' : ∀ n p j, acall cfg (K + 5) 150 [.ptr [0] 0, bkV s] ⟨H0, n, p, false, j⟩ = .ret (.tuple [], ⟨sysPut E [0] [1] [2] [3] v (stepT v g s (3 + 1)) H0, n, p, false, j⟩) := fun n p j => (Zcu hs Jz hn1 hn2 hf'.f hf'.r (K := K + 3) (by have := hv.g8; omega) (by have := hv.g8; omega) hv.gtr)
  generalize sysPut E [0] [1] [2] [3] v (stepT v g s (3 + 1)) H0 = H1 at *
  simp only [bkV] at hc'
  simp -implicitDefEqProofs only [go_sem, a0, a3, b7, a6, hT, hin, hbk, hc', hw1]
  exact ⟨5 - (3 + 1), by omega, trivial, trivial, trivial, trivial, 3 + 1, H1, rfl, by omega, rfl, rfl, hbn, hfn, hsn⟩
 ·have b7 : nth T 7 = some (.int .i64 4) := a7
  have hin : inR 4 5 = some 4 := rfl
  have hw1 : wrapF .i64 (4 + 1) = 5 := rfl
  have hfn : Fits v (stepT v g s (4 + 1)) := Z8a hf' s
  have hsn : SysAt E (sysPut E [0] [1] [2] [3] v (stepT v g s (4 + 1)) H0) [0] [1] [2] [3] v (stepT v g s (4 + 1)) := Xk hs Jz (by rw [hfn.r, hf'.r])
  have hbn : hget (sysPut E [0] [1] [2] [3] v (stepT v g s (4 + 1)) H0) [m + 3] = hget H0 [m + 3] := Xl (n11 (by omega)) (n11 (by omega)) (n11 (by omega)) (fun e => n11 (by have := hroom (4 + 1) hfn.r e; omega))
  rw [hbk] at hbn
  have hc' : ∀ n p j, acall cfg (K + 5) 151 [.ptr [0] 0, bkV s] ⟨H0, n, p, false, j⟩ = .ret (.tuple [], ⟨sysPut E [0] [1] [2] [3] v (stepT v g s (4 + 1)) H0, n, p, false, j⟩) := fun n p j => (Zcq (g := stepT v g s 4) hs Jz hn1 hn2 (K := K + 4) (by have := hf'.f; have := hf'.b; have := hv.n8; omega) (by have := hf'.f; have := hf'.b; have := hv.n8; omega))
  generalize sysPut E [0] [1] [2] [3] v (stepT v g s (4 + 1)) H0 = H1 at *
  simp only [bkV] at hc'
  simp -implicitDefEqProofs only [go_sem, a0, a3, b7, a6, hT, hin, hbk, hc', hw1]
  exact ⟨5 - (4 + 1), by omega, trivial, trivial, trivial, trivial, 4 + 1, H1, rfl, by omega, rfl, rfl, hbn, hfn, hsn⟩
 ·have b7 : nth T 7 = some (.int .i64 5) := a7
  simp -implicitDefEqProofs only [go_sem, b7, hT, Try.results97]
  exact ⟨trivial, hs⟩
end Go.Proofs.Ytgnpnfkncbnjnaa
namespace Go.Proofs.Ytgnpnfkncbnjnaa
open Go Go.Am
attribute [local congr] Z7 Z5 Z6
end Go.Proofs.Ytgnpnfkncbnjnaa
namespace Go.Proofs.Ytgnpnfkncbnjnaa
open Go Go.Am
attribute [local congr] Z7 Z5 Z6
theorem Z8b {H : Heap} {d : Nat} {b : Nm} (l : List Rg) (hb : hget H b = some (rgB l)) : freezeG (freezeD H (d + 1)) H (.slice b 0 l.length l.length false) = some (.lst (l.map rgV)) := by
 cases l with
 | nil => rfl
 | cons a r => exact Z3x (g := rgC) (z := 2) Z1f (by decide) (f := rgV) (fun _ => rfl) (row := freezeD H (d + 1)) (H := H) (a :: r) (Zde _) hb (a :: r).length false
def gasP (p : Gs × Int) : AV := .tuple [gsV p.1, .int .i64 p.2]
@[go_sem] theorem Zhk (p : Gs × Int) : (gasP p).flat = true := by
 unfold gasP; simp only [gsV, AV.flat, flats, Zap]
theorem Z74 (H : Heap) (e : Int) : Go.Am.frozen H (.tuple [.agg [.nils, .nils, .nils, .int .i64 0, .bool false], .int .i64 e]) = some (gasP (zeroG, e)) := rfl
end Go.Proofs.Ytgnpnfkncbnjnaa
namespace Go.Proofs.Ytgnpnfkncbnjnaa
attribute [local go_sem_proc] Int.reduceEq Int.reduceNeg Nat.reduceEqDiff Nat.reduceLT Nat.reduceAdd Nat.reduceSub Nat.reduceMul Int.reduceLE Int.reduceLT Int.reduceToNat Nat.reduceLeDiff
attribute [local go_sem] Int.toNat_natCast Bool.not_true Bool.not_false
open Go Go.Am
attribute [local congr] Z7 Z5 Z6
def runT {σ : Type} (nxt : σ -> Gs -> Option σ) (v : Vac) : σ -> Gs -> List Bk -> (σ × Gs) ⊕ (σ × Gs)
 | c, g, [] => .inl (c, g)
 | c, g, s :: r => match nxt c (tickT v g s) with | some c' => runT nxt v c' (tickT v g s) r | none => .inr (c, tickT v g s)
def flatT (l : List Bk) : List Bk := l.flatMap fun s => List.replicate s.ticks.toNat s
def allT {σ : Type} (nxt : σ -> Gs -> Option σ) (v : Vac) (c : σ) (l : List Bk) : (σ × Gs) ⊕ (σ × Gs) :=
 match nxt c (beginG v) with | some c' => runT nxt v c' (beginG v) (flatT l) | none => .inr (c, beginG v)
theorem Z44 (s : Bk) (l : List Bk) : flatT (s :: l) = List.replicate s.ticks.toNat s ++ flatT l := rfl
theorem Zfw {a b k c k' c' : Nat} {x : Option Blk} {r : Delta} (h : c ≠ c') : lkD (([a, k, c], x) :: r) [b, k', c'] = lkD r [b, k', c'] := Z8z fun e => h (by injection e with _ e; injection e with _ e; injection e)
theorem n33k {a b k c k' c' : Nat} (h : k ≠ k') : ([a, k, c] : Nm) ≠ [b, k', c'] := fun e => h (by injection e with _ e; injection e)
theorem n33c {a b k c k' c' : Nat} (h : c ≠ c') : ([a, k, c] : Nm) ≠ [b, k', c'] := fun e => h (by injection e with _ e; injection e with _ e; injection e)
theorem Z31 {b : Nm} {n : Nat} (h : 0 < n) : mutV b n = .slice b 0 n n false := by cases n with | zero => omega | succ n => rfl
structure Eats {σ : Type} (nxt : σ -> Gs -> Option σ) (v : Vac) (l bV bS : Nm) (stages : List Bk) (m K : Nat) (I : σ -> Heap -> Prop) (S : σ -> Gs -> Heap -> Prop) : Prop where
 eat : ∀ c g H n, m < n -> I c H -> SysAt .nils H [m, 4, 0] [m, 2, 0] [m, 2, 1] [m, 2, 2] v g -> Fits v g -> (∃ c' H' n', nxt c g = some c' /\ around cfg K l [.ptr [m, 4, 0] 0] ⟨H, n, [], false, []⟩ = .ret (.bool true, ⟨H', n', [], false, []⟩) /\ n <= n' /\ I c' H' /\ (∀ q, m < q -> q < n -> hget H' [q] = hget H [q]) /\ SysAt .nils H' [m, 4, 0] [m, 2, 0] [m, 2, 1] [m, 2, 2] v g) \/ (∃ H' n', nxt c g = none /\ around cfg K l [.ptr [m, 4, 0] 0] ⟨H, n, [], false, []⟩ = .ret (.bool false, ⟨H', n', [], false, []⟩) /\ n <= n' /\ S c g H')
 keep : ∀ c H H', I c H -> (∀ k, k < m -> hget H' [k] = hget H [k]) -> I c H'
 hv : ∀ c H, I c H -> hget H bV = some (vacC v)
 hs : ∀ c H, I c H -> hget H bS = some (.cells [.lst (stages.map bkV)] true 0)
theorem Zfx {σ : Type} {nxt : σ -> Gs -> Option σ} {v : Vac} {l bV bS : Nm} {stages : List Bk} {m K : Nat} {I : σ -> Heap -> Prop} {S : σ -> Gs -> Heap -> Prop} (he : Eats nxt v l bV bS stages m (K + 6) I S)
  (hva : Valid v) (hK : 300 < K) (hst : ∀ s ∈ stages, 0 <= s.ticks /\ s.ticks <= 2000 /\ s.shut.length <= 40) (hsl : stages.length <= 20) (hK2 : 2100 < K) (c0 : σ) (H : Heap) (h0 : I c0 H) :
  (acall cfg (K + 7) 152 [.yield l, .ptr bV 0, .ptr bS 0] ⟨H, m, [], false, []⟩).Does fun x => ∃ n, x.2 = ⟨x.2.H, n, [], false, []⟩ /\ m < n /\ (match allT nxt v c0 stages with | .inl (c, g) => I c x.2.H /\ SysAt .nils x.2.H [m, 4, 0] [m, 2, 0] [m, 2, 1] [m, 2, 2] v g | .inr (c, g) => S c g x.2.H) := by
 have hbg : ∀ H n p jr j, acall cfg (K + 6) 94 [vacV v] ⟨H, n, p, jr, j⟩ = .ret (gasM (p ++ [n]) (p ++ [n + 1]) (p ++ [n + 2]) (beginG v), gasS ⟨H, n, p, jr, j⟩ (beginG v)) := fun H n p jr j => Z93 v (K + 5) H n p jr j (hva.lens _ (by omega)) (by have := hva.n8; omega) (by have := hva.g8; omega) (fun e => by have := hva.n1; rw [e] at this; simp at this)
 rw [Y9]
 unfold enterA
 rw [Zf3]; simp only
 rw [show cfg.mode.get 152 = none from Zf4]; simp only
 refine Z9 rfl fun T hT' hA => ?_
 have a0 := hA 0 _ rfl
 have a1 := hA 1 _ rfl
 have a2 := hA 2 _ rfl
 have hT : T.length = 35 := hT'
 clear hA hT'
 have q1 := he.hv c0 H h0
 unfold vacC at q1
 simp only [vacV] at hbg
 simp -implicitDefEqProofs only [go_sem]
 simp only [Z4]
 have hfit : Fits v (beginG v) := ⟨by simp [beginG], by simp [beginG], by simp [beginG]⟩
 obtain ⟨p1, p2⟩ := hfit.ne hva
 refine Tr.Does.mono (Q := fun x => ∃ (T' : List AV) (H' : Heap), x = (T', (⟨H', m + 1, [], false, []⟩ : St)) /\ T'.length = 35 /\ nth T' 0 = some (.yield l) /\ nth T' 2 = some (.ptr bS 0) /\ nth T' 4 = some (.ptr [m, 4, 0] 0) /\ SysAt .nils H' [m, 4, 0] [m, 2, 0] [m, 2, 1] [m, 2, 2] v (beginG v) /\ ∀ k, k < m -> hget H' [k] = hget H [k]) ?_ ?_
 ·clear he
  generalize beginG v = g at *
  have hgm : ∀ a b c, gasM a b c g = .agg [.slice a 0 g.free.length g.free.length false, .slice b 0 g.bound.length g.bound.length false, mutV c g.room.length, .int .i64 g.most, .bool g.flashed] := fun a b c => by
   unfold gasM; rw [Z31 (List.length_pos_iff.2 p1), Z31 (List.length_pos_iff.2 p2)]
  simp only [hgm] at hbg
  rcases (show g.room = [] \/ ∃ a l, g.room = a :: l from by cases g.room with | nil => exact .inl rfl | cons a l => exact .inr ⟨a, l, rfl⟩) with hr | ⟨a, l', hr⟩
  ·have hgs : ∀ s, gasS s g = (s.new (rgB g.free)).new (rgB g.bound) := fun s => by unfold gasS; rw [hr]; rfl
   have hm0 : ∀ b, mutV b g.room.length = .nils := fun b => by rw [hr]; rfl
   simp only [hgs, hm0] at hbg
   try simp only [Z4]
   refine Zk [[], [], [1], [0, 2, 1], [3, 0, 2, 1], [4, 3, 0, 2, 1]] [[], [], [], [], [], []] (by kernel_rfl) rfl rfl ?_
   simp -implicitDefEqProofs only [go_sem, Option.getD_some, a1, hT, q1, hbg, Zj]
   refine ⟨_, _, rfl, by simp -implicitDefEqProofs only [go_sem, hT], by simp -implicitDefEqProofs only [go_sem, a0], by simp -implicitDefEqProofs only [go_sem, a2], by simp -implicitDefEqProofs only [go_sem, hT], ⟨?_, by simp (disch := omega) only [Z0, Zn, Z2y, Option.getD_some, Zfw], by simp (disch := omega) only [Z0, Zn, Z2y, Option.getD_some], fun e => ?_⟩, fun k hk => by simp (disch := omega) only [Z0, lkn, lk31, Option.getD_none]⟩
   ·rw [Z0, Zn, Option.getD_some]
    unfold sysB
    rw [show rowX .nils [m, 2, 2] g.room.length = .nils from by rw [hr]; rfl]
   ·exact absurd hr e
  ·have hgs : ∀ s, gasS s g = ((s.new (rgB g.free)).new (rgB g.bound)).new (rgB g.room) := fun s => by unfold gasS; rw [hr]; rfl
   have hm0 : ∀ b, mutV b g.room.length = .slice b 0 g.room.length g.room.length false := fun b => Z31 (by rw [hr]; simp)
   simp only [hgs, hm0] at hbg
   try simp only [Z4]
   refine Zk [[], [], [1], [0, 2, 1], [3, 0, 2, 1], [4, 3, 0, 2, 1]] [[], [], [], [], [], []] (by kernel_rfl) rfl rfl ?_
   simp -implicitDefEqProofs only [go_sem, Option.getD_some, a1, hT, q1, hbg, Zj]
   refine ⟨_, _, rfl, by simp -implicitDefEqProofs only [go_sem, hT], by simp -implicitDefEqProofs only [go_sem, a0], by simp -implicitDefEqProofs only [go_sem, a2], by simp -implicitDefEqProofs only [go_sem, hT], ⟨?_, by simp (disch := omega) only [Z0, Zn, Z2y, Option.getD_some, Zfw], by simp (disch := omega) only [Z0, Zn, Z2y, Option.getD_some, Zfw], fun e => ?_⟩, fun k hk => by simp (disch := omega) only [Z0, lkn, lk31, Option.getD_none]⟩
   ·rw [Z0, Zn, Option.getD_some]
    unfold sysB
    rw [show rowX .nils [m, 2, 2] g.room.length = .slice [m, 2, 2] 0 g.room.length g.room.length false from by rw [hr]; rfl]
   ·simp (disch := omega) only [Z0, Zn, Z2y, Option.getD_some]
 clear a0 a1 a2 hT T hbg q1
 rintro _ ⟨T, H1, rfl, hT, a0, a2, a4, hs, hk⟩
 have hI := he.keep c0 H H1 h0 hk
 clear hk h0
 simp -implicitDefEqProofs only [go_sem, a0, a4, hT]
 rcases he.eat c0 (beginG v) H1 (m + 1) (by omega) hI hs hfit with ⟨c1, H2, n2, e1, e2, e3, hI2, hfr2, hs2⟩ | ⟨H2, n2, e1, e2, e3, e4⟩
 ·have hall : allT nxt v c0 stages = runT nxt v c1 (beginG v) (flatT stages) := by unfold allT; rw [e1]
  rw [hall]
  have g2 := he.hs c1 H2 hI2
  simp -implicitDefEqProofs only [go_sem, a2, hT, e2, g2]
  obtain ⟨R, hR⟩ : ∃ R, R = runT nxt v c1 (beginG v) (flatT stages) := ⟨_, rfl⟩
  rw [<- hR]
  simp only [Z4]
  have hR1 : R = runT nxt v c1 (beginG v) (flatT (stages.drop 0)) := hR
  refine Zm (fun k T s' => T.length = 35 /\ nth T 0 = some (.yield l) /\ nth T 4 = some (.ptr [m, 4, 0] 0) /\ nth T 16 = some (.lst (stages.map bkV)) /\ nth T 17 = some (.int .i64 stages.length) /\ ∃ (i n : Nat) (H : Heap) (c : σ) (g : Gs), nth T 18 = some (.int .i64 i) /\ i <= stages.length /\ k = stages.length - i /\ s' = ⟨H, n, [], false, []⟩ /\ m < n /\ I c H /\ SysAt .nils H [m, 4, 0] [m, 2, 0] [m, 2, 1] [m, 2, 2] v g /\ Fits v g /\ R = runT nxt v c g (flatT (stages.drop i))) (k := stages.length) (by omega) ?_ ?_
  ·exact ⟨by simp -implicitDefEqProofs only [go_sem, hT], by simp -implicitDefEqProofs only [go_sem, a0], by simp -implicitDefEqProofs only [go_sem, a4], by simp -implicitDefEqProofs only [go_sem, hT], by simp -implicitDefEqProofs only [go_sem, hT], 0, n2, H2, c1, beginG v, by simp -implicitDefEqProofs only [go_sem, hT] <;> rfl, by omega, rfl, rfl, by omega, hI2, hs2, hfit, hR1⟩
  clear a0 a2 a4 hT T hI2 hs2 hfr2 hs hI e1 e2 e3 g2 hR1 hR p1 p2 hfit hall H1 H2
  rintro k T s' ⟨hT, a0, a4, a16, a17, i, n, H, c, g, a18, hi, rfl, rfl, hmn, hI, hs, hfit, hR⟩
  simp -implicitDefEqProofs only [go_sem, a17, a18, hT]
  by_cases hil : (i : Int) < (stages.length : Int)
  ·have hi' : i < stages.length := by omega
   have x1 := Zg (f := bkV) (l := stages) (i := i) (z := 4) hi' rfl
   have hkk : stages.length - (i + 1) < stages.length - i := by omega
   have hsx := hst _ (List.getElem_mem hi')
   rw [List.drop_eq_getElem_cons hi'] at hR
   generalize stages[i] = x at *
   rw [Z44] at hR
   simp only [bkV] at x1
   obtain ⟨q, hq⟩ : ∃ q : Nat, x.ticks = q := ⟨x.ticks.toNat, by omega⟩
   rw [hq, Int.toNat_natCast] at hR
   rw [hq] at x1
   have k1 : ∀ X, hget (([n], X) :: H) [n] = some X := fun X => Z2 ..
   have hw1 : wrapF .i64 ((i : Int) + 1) = ((i + 1 : Nat) : Int) := Z8 (by omega) (by omega)
   simp -implicitDefEqProofs only [go_sem, a16, a18, hT, hil, x1, k1]
   simp only [Z4]
   refine Tr.Does.mono (Q := fun y => (∃ (T' : List AV) (n : Nat) (H : Heap) (c : σ) (g : Gs), y = ((AExit.exit 2, T'), (⟨H, n, [], false, []⟩ : St)) /\ T'.length = 35 /\ nth T' 0 = some (.yield l) /\ nth T' 4 = some (.ptr [m, 4, 0] 0) /\ nth T' 16 = some (.lst (stages.map bkV)) /\ nth T' 17 = some (.int .i64 stages.length) /\ nth T' 18 = some (.int .i64 i) /\ m < n /\ I c H /\ SysAt .nils H [m, 4, 0] [m, 2, 0] [m, 2, 1] [m, 2, 2] v g /\ Fits v g /\ R = runT nxt v c g (flatT (stages.drop (i + 1)))) \/ (∃ (T' : List AV) (n : Nat) (H : Heap) (c : σ) (g : Gs), y = ((AExit.ret, T'), (⟨H, n, [], false, []⟩ : St)) /\ m < n /\ R = .inr (c, g) /\ S c g H)) ?_ ?_
   ·refine Zm (fun k T s' => T.length = 35 /\ nth T 0 = some (.yield l) /\ nth T 4 = some (.ptr [m, 4, 0] 0) /\ nth T 6 = some (.ptr [n] 0) /\ nth T 16 = some (.lst (stages.map bkV)) /\ nth T 17 = some (.int .i64 stages.length) /\ nth T 18 = some (.int .i64 i) /\ nth T 23 = some (.int .i64 q) /\ ∃ (u n' : Nat) (H : Heap) (c : σ) (g : Gs), nth T 24 = some (.int .i64 u) /\ u <= q /\ k = q - u /\ s' = ⟨H, n', [], false, []⟩ /\ n < n' /\ hget H [n] = some (.cells [.int .i64 q, .int .i64 x.heat, .lst (x.shut.map iV), .bool x.flash] true 0) /\ I c H /\ SysAt .nils H [m, 4, 0] [m, 2, 0] [m, 2, 1] [m, 2, 2] v g /\ Fits v g /\ R = runT nxt v c g (List.replicate (q - u) x ++ flatT (stages.drop (i + 1)))) (k := q) (by omega) ?_ ?_
    ·exact ⟨by simp -implicitDefEqProofs only [go_sem, hT], by simp -implicitDefEqProofs only [go_sem, a0], by simp -implicitDefEqProofs only [go_sem, a4], by simp -implicitDefEqProofs only [go_sem, hT], by simp -implicitDefEqProofs only [go_sem, a16], by simp -implicitDefEqProofs only [go_sem, a17], by simp -implicitDefEqProofs only [go_sem, a18], by simp -implicitDefEqProofs only [go_sem, hT], 0, n + 1, _, c, g, by simp -implicitDefEqProofs only [go_sem, hT] <;> rfl, by omega, rfl, rfl, by omega, Z2 .., he.keep c H _ hI (fun k hk => hc11 (by omega)), ⟨hc13.trans hs.x, hc13.trans hs.f, hc13.trans hs.b, fun e => hc13.trans (hs.r e)⟩, hfit, hR⟩
    clear a0 a4 a16 a17 a18 hT T hs hI hR hfit k1 x1 hw1 H c g
    rintro k T s' ⟨hT, a0, a4, a6, a16, a17, a18, a23, u, n', H, c, g, a24, hu, rfl, rfl, hnn, hst0, hI, hs, hfit, hR⟩
    simp -implicitDefEqProofs only [go_sem, a23, a24, hT]
    by_cases huq : (u : Int) < (q : Int)
    ·have hfit2 := Z61 hfit x
     have htc := fun n => Zb7 (K := K) (n := n) (p := []) (j := []) (s := x) hs ⟨n33k (by decide), n33k (by decide), n33k (by decide), n33c (by decide), n33c (by decide), n33c (by decide)⟩ hva hfit (by omega) (by omega) (by omega)
     have hs3 := Xk (g' := tickT v g x) hs ⟨n33k (by decide), n33k (by decide), n33k (by decide), n33c (by decide), n33c (by decide), n33c (by decide)⟩ (by rw [hfit2.r, hfit.r])
     have hfr : ∀ k, hget (sysPut .nils [m, 4, 0] [m, 2, 0] [m, 2, 1] [m, 2, 2] v (tickT v g x) H) [k] = hget H [k] := fun k => Xl n31 n31 n31 (fun _ => n31)
     generalize sysPut .nils [m, 4, 0] [m, 2, 0] [m, 2, 1] [m, 2, 2] v (tickT v g x) H = H3 at *
     have hI3 := he.keep c H H3 hI (fun k _ => hfr k)
     have hst3 := (hfr n).trans hst0
     have hrep : q - u = (q - (u + 1)) + 1 := by omega
     rw [hrep, List.replicate_succ] at hR
     have hR2 : R = match nxt c (tickT v g x) with | some c' => runT nxt v c' (tickT v g x) (List.replicate (q - (u + 1)) x ++ flatT (stages.drop (i + 1))) | none => .inr (c, tickT v g x) := hR
     have hw2 : wrapF .i64 ((u : Int) + 1) = ((u + 1 : Nat) : Int) := Z8 (by omega) (by omega)
     have hk3 : q - (u + 1) < q - u := by clear hw2; omega
     have hu3 : u + 1 <= q := by clear hw2; omega
     simp only [bkV, hq] at htc
     rcases he.eat c (tickT v g x) H3 n' (by clear hw2; omega) hI3 hs3 hfit2 with ⟨c', H4, n4, e1, e2, e3, hI4, hf4, hs4⟩ | ⟨H4, n4, e1, e2, e3, e4⟩
     ·rw [e1] at hR2
      simp only at hR2
      have hst4 := (hf4 n (by clear hw2; omega) (by clear hw2; omega)).trans hst3
      have hn4 : n < n4 := by clear hw2; omega
      simp -implicitDefEqProofs only [go_sem, a0, a4, a6, a16, a17, a18, a23, a24, hT, huq, hst0, htc, e2, hw2]
      exact ⟨q - (u + 1), hk3, trivial, trivial, trivial, trivial, trivial, trivial, trivial, trivial, u + 1, n4, H4, c', _, rfl, hu3, rfl, rfl, hn4, hst4, hI4, hs4, hfit2, hR2⟩
     ·rw [e1] at hR2
      simp only at hR2
      have hn4 : m < n4 := by clear hw2; omega
      simp -implicitDefEqProofs only [go_sem, a0, a4, a6, hT, huq, hst0, htc, e2]
      exact .inr ⟨_, n4, H4, c, _, rfl, hn4, hR2, e4⟩
    ·have hue : u = q := by omega
     subst hue
     rw [Nat.sub_self] at hR
     simp -implicitDefEqProofs only [go_sem, huq]
     exact .inl ⟨_, n', H, c, g, rfl, by simp -implicitDefEqProofs only [go_sem, hT], by simp -implicitDefEqProofs only [go_sem, a0], by simp -implicitDefEqProofs only [go_sem, a4], by simp -implicitDefEqProofs only [go_sem, a16], by simp -implicitDefEqProofs only [go_sem, a17], by simp -implicitDefEqProofs only [go_sem, a18], by omega, hI, hs, hfit, hR⟩
   clear a0 a4 a16 a17 a18 hT T hs hI hR hfit k1 x1 H c g
   rintro _ (⟨T, n', H, c, g, rfl, hT, a0, a4, a16, a17, a18, hnn, hI, hs, hfit, hR⟩ | ⟨T, n', H, c, g, rfl, hnn, hR, hS⟩)
   ·simp -implicitDefEqProofs only [go_sem, a0, a4, a16, a17, a18, hT, hw1]
    exact ⟨stages.length - (i + 1), hkk, trivial, trivial, trivial, trivial, trivial, i + 1, n', H, c, g, rfl, hi', rfl, rfl, hnn, hI, hs, hfit, hR⟩
   ·simp -implicitDefEqProofs only [go_sem, Try.results152]
    rw [hR]
    exact ⟨n', rfl, hnn, hS⟩
  ·have hie : i = stages.length := by omega
   subst hie
   rw [List.drop_length] at hR
   simp -implicitDefEqProofs only [go_sem, hil, Try.results152]
   rw [hR]
   exact ⟨n, rfl, hmn, hI, hs⟩
 ·have hall : allT nxt v c0 stages = .inr (c0, beginG v) := by unfold allT; rw [e1]
  rw [hall]
  simp -implicitDefEqProofs only [go_sem, hT, e2, Try.results152]
  exact ⟨n2, rfl, by omega, e4⟩
end Go.Proofs.Ytgnpnfkncbnjnaa
namespace Go.Proofs.Ytgnpnfkncbnjnaa
attribute [local go_sem_proc] Int.reduceEq Int.reduceNeg Nat.reduceEqDiff Nat.reduceLT Nat.reduceAdd Nat.reduceSub Nat.reduceMul Int.reduceLE Int.reduceLT Int.reduceToNat Nat.reduceLeDiff
attribute [local go_sem] Int.toNat_natCast Bool.not_true Bool.not_false
open Go Go.Am
attribute [local congr] Z7 Z5 Z6
attribute [local go_sem] Go.Am.frozen Go.Am.freezeG Go.Am.freezeGs
def runsS (v : Vac) : Int -> List Bk -> Int
 | q, [] => if 2000 < q then 14 else 0
 | q, s :: r => if stageE v s = 0 then runsS v (wrapF .i64 (q + s.ticks)) r else stageE v s
def runsE (v : Vac) (l : List Bk) : Int := if checkE v = 0 then if 20 < l.length then 8 else runsS v 0 l else checkE v
def BkL (K : Nat) (l : List Bk) : Prop := l.length <= 9223372036854775807 /\ ∀ s ∈ l, s.shut.length < K /\ s.shut.length <= 9223372036854775807
theorem Zb8 (v : Vac) (l : List Bk) (K : Nat) (s : St) (hK : 100 < K) (hv : v.Lens K) (hl : BkL K l) : acall cfg (K + 12) 98 [vacV v, .lst (l.map bkV)] s = .ret (.int .i64 (runsE v l), s) := by
 refine Z0p Zha Zh9 (by first | rfl | simp -implicitDefEqProofs only [redoH, redo1, go_sem]) (by first | rfl | simp -implicitDefEqProofs only [go_sem]) (by first | rfl | simp -implicitDefEqProofs only [redoH, redo1, go_sem]) ?_
 refine Z9 rfl fun T hT' hA => ?_
 have a0 := hA 0 _ rfl
 have a1 := hA 1 _ rfl
 have hT : T.length = 37 := hT'
 clear hA hT'
 have hc := fun s => Z8y v (K + 2) s (by omega) (hv.more 2)
 simp only [vacV] at hc
 unfold runsE
 by_cases c0 : checkE v = 0
 ·rw [if_pos c0]
  have hlq : ((20 : Int) < (l.length : Int)) = (20 < l.length) := by rw [eq_iff_iff]; omega
  by_cases c1 : 20 < l.length
  ·rw [if_pos c1]
   simp -implicitDefEqProofs only [go_sem, a0, a1, hT, hc, c0, hlq, c1, Try.results98]
  ·rw [if_neg c1]
   simp -implicitDefEqProofs only [go_sem, a0, a1, hT, hc, c0, hlq, c1]
   simp only [Z4]
   refine Zm (fun k T s' => T.length = 37 /\ nth T 2 = some (.ptr [0] 0) /\ nth T 18 = some (.lst (l.map bkV)) /\ nth T 19 = some (.int .i64 l.length) /\ ∃ (i m : Nat) (q : Int) (H : Heap), nth T 20 = some (.int .i64 i) /\ nth T 6 = some (.int .i64 q) /\ i <= l.length /\ k = l.length - i /\ s' = ⟨H, m + 1, [], false, []⟩ /\ hget H [0] = some (vacC v) /\ runsS v 0 l = runsS v q (l.drop i)) (k := l.length) (by omega) ?_ ?_
   ·exact ⟨by simp -implicitDefEqProofs only [go_sem, hT], by simp -implicitDefEqProofs only [go_sem, hT], by simp -implicitDefEqProofs only [go_sem, hT], by simp -implicitDefEqProofs only [go_sem, hT], 0, 0, 0, _, by simp -implicitDefEqProofs only [go_sem, hT] <;> rfl, by simp -implicitDefEqProofs only [go_sem, hT], by omega, rfl, rfl, rfl, rfl⟩
   clear a0 a1 hT T
   rintro k T s' ⟨hT, a2, a18, a19, i, m, q, H, a20, a6, hi, rfl, rfl, g0, he⟩
   simp -implicitDefEqProofs only [go_sem, a19, a20, hT]
   by_cases hil : (i : Int) < (l.length : Int)
   ·have hi' : i < l.length := by omega
    have e1 := Zg (f := bkV) (l := l) (i := i) (z := 4) hi' rfl
    have hkk : l.length - (i + 1) < l.length - i := by omega
    have hx := hl.2 _ (List.getElem_mem hi')
    rw [List.drop_eq_getElem_cons hi'] at he
    generalize l[i] = x at *
    simp only [runsS] at he
    have hst := fun s => Z8v v x (K + 9) s (by omega) hx.2 hv.pip.2
    have k0 : ∀ X, hget (([m + 1], X) :: H) [0] = hget H [0] := fun X => hc11 (by omega)
    have k1 : ∀ X, hget (([m + 1], X) :: H) [m + 1] = some X := fun X => Z2 ..
    have hw1 : wrapF .i64 ((i : Int) + 1) = ((i + 1 : Nat) : Int) := Z8 (by omega) (by omega)
    have g0' := g0
    unfold vacC at g0
    simp only [bkV, vacV] at e1 hst
    by_cases c2 : stageE v x = 0
    ·rw [if_pos c2] at he
     simp -implicitDefEqProofs only [go_sem, a2, a6, a18, a19, a20, hT, hil, e1, k0, k1, g0, hst, c2, hw1]
     exact ⟨l.length - (i + 1), hkk, trivial, trivial, trivial, trivial, i + 1, m + 1, _, _, rfl, rfl, hi', rfl, rfl, (k0 _).trans g0', he⟩
    ·rw [if_neg c2] at he
     simp -implicitDefEqProofs only [go_sem, a2, a18, a20, hT, hil, e1, k0, k1, g0, hst, c2, Try.results98]
     rw [he]
   ·have hie : i = l.length := by omega
    subst hie
    rw [List.drop_length] at he
    simp only [runsS] at he
    rw [he]
    by_cases c2 : 2000 < q
    ·simp -implicitDefEqProofs only [go_sem, a6, hT, hil, c2, Try.results98, if_true]
    ·simp -implicitDefEqProofs only [go_sem, a6, hT, hil, c2, Try.results98, if_false]
 ·rw [if_neg c0]
  simp -implicitDefEqProofs only [go_sem, a0, hT, hc, c0, Try.results98]
end Go.Proofs.Ytgnpnfkncbnjnaa
namespace Go.Proofs.Ytgnpnfkncbnjnaa
open Go Go.Am
section
variable {C : Cfg} {call : FuncId -> List AV -> M AV} {rnd : Nm -> List AV -> M AV} {K : Nat}
theorem Z95 {l : Nm} {args T T' : List AV} {s : St} {ps : List Nat} {a b : Code} {st0 : LoopState} {pend : Option Code} {Q : AV × St -> Prop} (h : hget s.H l = some (.loop T ps a b st0 pend)) (hs : setAll T ps args = some T')
  (ha : (exec C (acall C K) (around C K) (K + 1) a T' s).Does fun x => x.1.1 = .normal /\ ∃ T1 ps1 a1 b1 pend1, hget x.2.H l = some (.loop T1 ps1 a1 b1 .ready pend1) /\ (exec C (acall C K) (around C K) (K + 1) b x.1.2 (x.2.put l (.loop T1 ps1 a1 b1 .busy pend1))).Does fun z => ∃ T2 ps2 a2 b2 st2 pend2, hget z.2.H l = some (.loop T2 ps2 a2 b2 st2 pend2) /\
   match jumpOf z.1.1 with | none => Q (.bool true, z.2.put l (.loop T2 ps2 a2 b2 .ready none)) | some j => Q (.bool false, z.2.put l (.loop T2 ps2 a2 b2 .done (some j)))) :
  (around C (K + 1) l args s).Does Q := by
 rw [Z00]
 unfold roundA
 rw [Zb, Yf, h]
 simp only [Tr.bind_ret, hs]
 rw [Zb, Z4]
 refine ha.mono ?_
 rintro ⟨⟨e, T1⟩, s1⟩ ⟨rfl, T2, ps1, a1, b1, pend1, h1, h2⟩
 simp only at h1 h2 ⊢
 rw [Zb, Yf, h1]
 simp only [Tr.bind_ret]
 rw [Zb, Y5, h1]
 simp only [Tr.bind_ret]
 rw [Zb, Z4]
 refine h2.mono ?_
 rintro ⟨⟨e, T3⟩, s3⟩ ⟨T4, ps2, a2, b2, st2, pend2, h3, h4⟩
 simp only at h3 h4 ⊢
 rw [Zb, Yf, h3]
 simp only [Tr.bind_ret]
 cases hj : jumpOf e with
 | none => rw [hj] at h4; simp only at h4 ⊢; rw [Zb, Y5, h3]; simp only [Tr.bind_ret, Yw]; exact ⟨_, rfl, h4⟩
 | some j => rw [hj] at h4; simp only at h4 ⊢; rw [Zb, Y5, h3]; simp only [Tr.bind_ret, Yw]; exact ⟨_, rfl, h4⟩
theorem Z96 {f : Operand} {g : FuncId} {caps T : List AV} {ps : Array Nat} {a b : Code} {s : St} {Q : X × St -> Prop} (hf : evA T f = some (.func g caps))
  (hc : (call g (.yield s.name :: caps) (s.new (.loop T ps.toList a b .ready none))).Does fun x => ∃ T' ps' a' b' st pend e, hget x.2.H s.name = some (.loop T' ps' a' b' st pend) /\ st ≠ .busy /\ exitOf pend = some e /\ Q ((e, T), x.2.put s.name (.loop T' ps' a' b' .exhausted pend))) :
  (exec C call rnd K (.rangeFunc f ps a b) T s).Does Q := by
 show ((match evA T f with
   | some fv => rangeFuncA call fv ps.toList a b T
   | none => M.fail) s).Does Q
 rw [hf]
 simp only
 unfold rangeFuncA
 rw [Zb, Z0o]
 simp only [Tr.bind_ret]
 rw [Zb, Z4]
 refine hc.mono ?_
 rintro ⟨x, s1⟩ ⟨T', ps', a', b', st, pend, e, h1, h2, h3, h4⟩
 simp only at h1 h4 ⊢
 rw [Zb, Yf, h1]
 simp only [Tr.bind_ret]
 cases st with
 | busy => exact absurd rfl h2
 | ready => simp only [h3]; rw [Zb, Y5, h1]; simp only [Tr.bind_ret, Yw]; exact ⟨_, rfl, h4⟩
 | done => simp only [h3]; rw [Zb, Y5, h1]; simp only [Tr.bind_ret, Yw]; exact ⟨_, rfl, h4⟩
 | exhausted => simp only [h3]; rw [Zb, Y5, h1]; simp only [Tr.bind_ret, Yw]; exact ⟨_, rfl, h4⟩
end
theorem Z62 {np : Int} : ∀ {l : List Int} {last : Int}, shutE np last l = 0 -> -1 <= last -> l ≠ [] -> l.length + last < np
 | [], _, _, _, h => absurd rfl h
 | a :: r, last, h, hl, _ => by
  unfold shutE at h
  split at h
  ·rename_i h1
   have h1 : 0 <= a /\ a <= np - 1 := by unfold fromB at h1; rw [decide_eq_true_iff] at h1; exact h1
   split at h
   ·exact absurd h (by decide)
   ·by_cases e : r = []
    ·subst e; rw [List.length_cons, List.length_nil]; omega
    ·have := Z62 h (by omega) e
     rw [List.length_cons]; omega
  ·exact absurd h (by decide)
theorem Zb9 {v : Vac} {s : Bk} (hv : Valid v) (h : stageE v s = 0) : 0 <= s.ticks /\ s.ticks <= 2000 /\ s.shut.length <= 40 := by
 unfold stageE at h
 split at h
 ·rename_i h1
  have h2 : 0 <= s.ticks /\ s.ticks <= 2000 := by have := h1.1; unfold fromB at this; rw [decide_eq_true_iff] at this; exact this
  refine ⟨h2.1, h2.2, ?_⟩
  by_cases e : s.shut = []
  ·rw [e]; exact Nat.zero_le _
  ·have := Z62 h (by decide) e
   have := hv.p16
   omega
 ·exact absurd h (by decide)
theorem Z45 {v : Vac} : ∀ {l : List Bk} {q : Int}, runsS v q l = 0 -> ∀ s ∈ l, stageE v s = 0
 | [], _, _, _, h => nomatch h
 | a :: r, q, h, s, hs => by
  unfold runsS at h
  split at h
  ·rename_i h1
   rcases List.mem_cons.1 hs with rfl | hs
   ·exact h1
   ·exact Z45 h s hs
  ·rename_i h1; exact absurd h h1
theorem Z63 {v : Vac} {l : List Bk} (h : runsE v l = 0) : checkE v = 0 /\ l.length <= 20 /\ runsS v 0 l = 0 := by
 unfold runsE at h
 split at h
 ·rename_i h1
  split at h
  ·exact absurd h (by decide)
  ·exact ⟨h1, by omega, h⟩
 ·rename_i h1; exact absurd h h1
theorem Z75 {σ : Type} {K N : Nat} {f : Operand} {T : List AV} {ps : Array Nat} {a b : Code} {n0 : Nat} {H0 : Heap} {Q : X × St -> Prop} {bV bS : Nm} {v : Vac} {stages : List Bk} {fr : FuncId}
  (nxt : σ -> Gs -> Option σ) (Iof : Blk -> σ -> Heap -> Prop) (S : σ -> Gs -> Heap -> Prop) (c0 : σ) (hf : evA T f = some (.func 152 [.ptr bV 0, .ptr bS 0]))
  (hv : Valid v) (hK : 2100 < K) (hst : ∀ s ∈ stages, 0 <= s.ticks /\ s.ticks <= 2000 /\ s.shut.length <= 40) (hsl : stages.length <= 20)
  (P : List AV -> Prop) (hP : P T) (hh : ∀ T, P T -> ∀ L, L = Blk.loop T ps.toList a b .ready none ->
   (Eats nxt v [n0] bV bS stages (n0 + 1) (K + 6) (Iof L) S) /\ (Iof L c0 (([n0], L) :: H0)) /\ (∀ c H, Iof L c H -> hget H [n0] = some L) /\
   (∀ c g H n, allT nxt v c0 stages = .inl (c, g) -> Iof L c H -> SysAt .nils H [n0 + 1, 4, 0] [n0 + 1, 2, 0] [n0 + 1, 2, 1] [n0 + 1, 2, 2] v g -> n0 + 1 < n -> Q ((.normal, T), ⟨hset H [n0] (.loop T ps.toList a b .exhausted none), n, [], false, []⟩)) /\
   (∀ c g H n, allT nxt v c0 stages = .inr (c, g) -> S c g H -> n0 + 1 < n -> ∃ T' ps' a' b' st pend e, hget H [n0] = some (.loop T' ps' a' b' st pend) /\ st ≠ .busy /\ exitOf pend = some e /\ Q ((e, T), ⟨hset H [n0] (.loop T' ps' a' b' .exhausted pend), n, [], false, []⟩))) :
  (exec (cfg.at fr) (acall cfg (K + 7)) (around cfg (K + 7)) N (.rangeFunc f ps a b) T ⟨H0, n0, [], false, []⟩).Does Q := by
 obtain ⟨he, h0, hL, hi, hs⟩ := hh T hP _ rfl
 refine Z96 hf ?_
 refine (Zfx (m := n0 + 1) he hv (by omega) hst hsl hK c0 _ h0).mono ?_
 rintro ⟨x, s⟩ ⟨n, e, hn, h⟩
 simp only at e h
 rw [e]
 cases hall : allT nxt v c0 stages with
 | inl p =>
  obtain ⟨c, g⟩ := p
  rw [hall] at h
  simp only at h
  exact ⟨T, ps.toList, a, b, .ready, none, .normal, hL _ _ h.1, by decide, rfl, hi c g _ n hall h.1 h.2 hn⟩
 | inr p =>
  obtain ⟨c, g⟩ := p
  rw [hall] at h
  exact hs c g _ n hall h hn
end Go.Proofs.Ytgnpnfkncbnjnaa
namespace Go.Proofs.Ytgnpnfkncbnjnaa
open Go Go.Am
attribute [local congr] Z7 Z5 Z6
end Go.Proofs.Ytgnpnfkncbnjnaa
namespace Go.Proofs.Ytgnpnfkncbnjnaa
open Go Go.Am
attribute [local congr] Z7 Z5 Z6
noncomputable def gasPut (f b r : Nm) (g : Gs) (H : Heap) : Heap := match g.room with
 | [] => putsH [f, b] [rgB g.free, rgB g.bound] H
 | _ :: _ => putsH [f, b, r] [rgB g.free, rgB g.bound, rgB g.room] H
structure Apart3 (f b r : Nm) : Prop where
 fb : f ≠ b
 fr : f ≠ r
 br : b ≠ r
theorem Zba {H : Heap} {f b r : Nm} {g g' : Gs} (h : GasAt H f b r g) (ha : Apart3 f b r) (h1 : g.free ≠ []) (h2 : g.bound ≠ []) (hr : g'.room.length = g.room.length) : GasAt (gasPut f b r g' H) f b r g' := by
 have hf := h.f h1
 have hb := h.b h2
 unfold gasPut
 cases hg : g'.room with
 | nil =>
  show GasAt (hset (hset H f _) b _) f b r g'
  exact ⟨fun _ => by rw [Z3 _ _ (Ne.symm ha.fb)]; exact hss hf, fun _ => hss ((Z3 _ _ ha.fb).trans hb), fun e => absurd hg e⟩
 | cons a l =>
  have hr2 := h.r (fun e => by rw [hg, e] at hr; simp at hr)
  show GasAt (hset (hset (hset H f _) b _) r _) f b r g'
  exact ⟨fun _ => by rw [Z3 _ _ (Ne.symm ha.fr), Z3 _ _ (Ne.symm ha.fb)]; exact hss hf, fun _ => by rw [Z3 _ _ (Ne.symm ha.br)]; exact hss ((Z3 _ _ ha.fb).trans hb),
   fun _ => by rw [hg]; exact hss ((Z3 _ _ ha.br).trans ((Z3 _ _ ha.fr).trans hr2))⟩
theorem Zbb {H : Heap} {f b r q : Nm} {g : Gs} (h2 : f ≠ q) (h3 : b ≠ q) (h4 : g.room ≠ [] -> r ≠ q) : hget (gasPut f b r g H) q = hget H q := by
 unfold gasPut
 cases hg : g.room with
 | nil =>
  show hget (hset (hset H f _) b _) q = _
  rw [Z3 _ _ h3, Z3 _ _ h2]
 | cons a l =>
  show hget (hset (hset (hset H f _) b _) r _) q = _
  rw [Z3 _ _ (h4 (by rw [hg]; simp)), Z3 _ _ h3, Z3 _ _ h2]
end Go.Proofs.Ytgnpnfkncbnjnaa
namespace Go.Proofs.Ytgnpnfkncbnjnaa
open Go Go.Am
attribute [local congr] Z7 Z5 Z6
end Go.Proofs.Ytgnpnfkncbnjnaa
namespace Go.Proofs.Ytgnpnfkncbnjnaa
open Go Go.Am
attribute [local congr] Z7 Z5 Z6
end Go.Proofs.Ytgnpnfkncbnjnaa
namespace Go.Proofs.Ytgnpnfkncbnjnaa
open Go Go.Am
attribute [local congr] Z7 Z5 Z6
end Go.Proofs.Ytgnpnfkncbnjnaa
namespace Go.Proofs.Ytgnpnfkncbnjnaa
open Go Go.Am
attribute [local congr] Z7 Z5 Z6
structure RAt (H : Heap) (f b r : Nm) (v : Vac) (g : Gs) (s : Bk) : Prop where
 v : hget H [0] = some (vacC v)
 c : hget H [1] = some (.cells [mutV f g.free.length, mutV b g.bound.length, mutV r g.room.length, .int .i64 g.most, .bool g.flashed] true 0)
 k : hget H [2] = some (.cells [.int .i64 s.ticks, .int .i64 s.heat, .lst (s.shut.map iV), .bool s.flash] true 0)
 z : hget H [3] = some (.cells [.nils, .nils, .nils, .int .i64 0, .bool false] true 0)
 g : GasAt H f b r g
theorem RAt.put {H : Heap} {f b r : Nm} {v : Vac} {g g' : Gs} {s : Bk} (h : RAt H f b r v g s) (ha : Apart3 f b r) (h1 : g.free ≠ []) (h2 : g.bound ≠ []) (l1 : g'.free.length = g.free.length) (l2 : g'.bound.length = g.bound.length) (l3 : g'.room.length = g.room.length) (e1 : g'.most = g.most) (e2 : g'.flashed = g.flashed) (n0 : ∀ i, i < 4 -> f ≠ [i] /\ b ≠ [i] /\ r ≠ [i]) : RAt (gasPut f b r g' H) f b r v g' s := by
 have q : ∀ i, i < 4 -> hget (gasPut f b r g' H) [i] = hget H [i] := fun i hi => Zbb (n0 i hi).1 (n0 i hi).2.1 (fun _ => (n0 i hi).2.2)
 exact ⟨(q 0 (by omega)).trans h.v, by rw [l1, l2, l3, e1, e2]; exact (q 1 (by omega)).trans h.c, (q 2 (by omega)).trans h.k, (q 3 (by omega)).trans h.z, Zba h.g ha h1 h2 l3⟩
end Go.Proofs.Ytgnpnfkncbnjnaa
namespace Go.Proofs.Ytgnpnfkncbnjnaa
open Go Go.Am
attribute [local congr] Z7 Z5 Z6
end Go.Proofs.Ytgnpnfkncbnjnaa
namespace Go.Proofs.Ytgnpnfkncbnjnaa
open Go Go.Am
attribute [local congr] Z7 Z5 Z6
structure StgG (k : Int) (q : Nat) (s : Bk) : Prop where
 t : 0 <= s.ticks /\ s.ticks <= k
 h : 0 <= s.heat /\ s.heat < 900
 n : s.shut.length <= q
 o : s.shut.Pairwise (· < ·)
 s : ∀ x ∈ s.shut, 0 <= x /\ x < q
end Go.Proofs.Ytgnpnfkncbnjnaa
