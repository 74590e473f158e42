/- The statement PumpSeals holds for every input, without further conditions: a part of its proof (an abstract machine for the loaded code, its soundness, and what the functions answer in it). -/
import Derived.Test.YtgnpnfkncbnjnaaP2
set_option linter.unusedSimpArgs false
set_option linter.unusedVariables false
set_option maxRecDepth 100000
namespace Go.Proofs.Ytgnpnfkncbnjnaa
attribute [local go_sem_proc] Int.reduceEq Int.reduceNeg Nat.reduceEqDiff Nat.reduceLT Nat.reduceAdd Nat.reduceSub Nat.reduceMul Int.reduceLE Int.reduceLT Int.reduceToNat Nat.reduceLeDiff
attribute [local go_sem] Int.toNat_natCast Bool.not_true Bool.not_false
open Go Go.Am
attribute [local congr] Za Z6 Z7
attribute [local go_sem] Go.Am.buildSliceA Go.Am.frozen Go.Am.freezeG Go.Am.freezeGs Go.Am.minmax
theorem Z2n (v : Vac) (shut : List Int) (K : Nat) (s : St) (hv : v.Lens K) (hs : shut.length < K) (hs2 : shut.length <= 9223372036854775807) :
  acall cfg (K + 3) 118 [vacV v, .lst (shut.map iV)] s = .ret (.map (s.pre ++ [s.n]), s.new (.map (encE (leaveL v shut)) false)) := by
 refine Z7r Zii Zih rfl (by simp only [renVs, renV, vacV, X5, X6, X7, X8, X9, fl_i]) (Z7s _) ?_
 refine Z9 rfl fun T hT' hA => ?_
 have a0 := hA 0 _ rfl
 have a1 := hA 1 _ rfl
 have hT : T.length = 63 := hT'
 clear hA hT'
 obtain ⟨⟨_, _⟩, ⟨hp1, hp2⟩, ⟨hm1, hm2⟩, _, _, _⟩ := hv
 have hh := fun n s => Z1q shut n K s hs hs2
 have had := fun a b s => Z1n a b (K + 1) s
 have hlk := fun (es : List (Int × Rg)) (k : Int) (s : St) (hg : hget s.H [1] = some (.map (encE es) false)) => Zah (C := cfg.at 118) rfl (k := k) hg
 have hup := fun (es : List (Int × Rg)) (k : Int) (x : Rg) (s : St) (hg : hget s.H [1] = some (.map (encE es) false)) => Zjm (C := cfg.at 118) rfl (k := k) (x := x) hg
 simp only [rgV] at had hlk hup
 simp -implicitDefEqProofs only [go_sem, a0, hT]
 simp only [Z3]
 refine Zj (fun k T s' => T.length = 63 /\ nth T 1 = some (.lst (shut.map iV)) /\ nth T 2 = some (.ptr [0] 0) /\ nth T 5 = some (.map [1]) /\ nth T 12 = some (.lst (v.pipes.map pipV)) /\ nth T 13 = some (.int .i64 v.pipes.length) /\ ∃ (i n : Nat) (es : List (Int × Rg)) (H : Heap), nth T 14 = some (.int .i64 i) /\ i <= v.pipes.length /\ k = v.pipes.length - i /\ s' = ⟨H, n + 2, [], false, []⟩ /\ hget H [0] = some (.cells [.lst (v.vessels.map vesV), .lst (v.pipes.map pipV), .lst (v.pumps.map pmpV), .lst (v.leaks.map inlV), .lst (v.getters.map gtrV)] true 0) /\
  hget H [1] = some (.map (encE es) false) /\ leaveP shut 0 [] v.pipes = leaveP shut i es (v.pipes.drop i)) (k := v.pipes.length) (by omega) ?_ ?_
 ·exact ⟨by simp -implicitDefEqProofs only [go_sem, hT], by simp -implicitDefEqProofs only [go_sem, a1], by simp -implicitDefEqProofs only [go_sem, hT], by simp -implicitDefEqProofs only [go_sem, hT], by simp -implicitDefEqProofs only [go_sem, hT], by simp -implicitDefEqProofs only [go_sem, hT], 0, 0, [], _, by simp -implicitDefEqProofs only [go_sem, hT] <;> rfl, by omega, rfl, rfl, rfl, rfl, rfl⟩
 clear a0 a1 hT T
 rintro k T s' ⟨hT, a1, a2, a5, a12, a13, i, n, es, H, a14, hi, rfl, rfl, g0, g1, he⟩
 simp -implicitDefEqProofs only [go_sem, a13, a14, hT]
 by_cases hil : (i : Int) < (v.pipes.length : Int)
 ·have hi' : i < v.pipes.length := by omega
  have e1 := Zh (f := pipV) (l := v.pipes) (i := i) (z := 6) hi' rfl
  have hkk : v.pipes.length - (i + 1) < v.pipes.length - i := by omega
  rw [List.drop_eq_getElem_cons hi'] at he
  generalize v.pipes[i] = p at *
  simp only [leaveP] at he
  have k0 : ∀ X, hget (([n + 2], X) :: H) [0] = _ := fun X => (Z4 _ _ (Y8 (by omega))).trans g0
  have k1 : ∀ X, hget (([n + 2], X) :: H) [1] = _ := fun X => (Z4 _ _ (Y8 (by omega))).trans g1
  have j1 : ∀ X Z, hget (([n + 2], X) :: hset H [1] Z) [1] = _ := fun X Z => (Z4 _ _ (Y8 (by omega))).trans (Zi Z g1)
  have w1 : ∀ Z, hget (hset H [1] Z) [1] = some Z := fun Z => Zi Z g1
  have w2 : ∀ Z Y, hget (hset (hset H [1] Z) [1] Y) [1] = some Y := fun Z Y => Zi Y (w1 Z)
  have d0 : ∀ X Z Y, hget (([n + 2], X) :: hset (hset H [1] Z) [1] Y) [0] = _ := fun X Z Y => (Z4 _ _ (Y8 (by omega))).trans ((Z1 _ Y (by decide)).trans ((Z1 H Z (by decide)).trans g0))
  have d1 : ∀ X Z Y, hget (([n + 2], X) :: hset (hset H [1] Z) [1] Y) [1] = _ := fun X Z Y => (Z4 _ _ (Y8 (by omega))).trans (w2 Z Y)
  have hw1 : wrapF .i64 ((i : Int) + 1) = ((i + 1 : Nat) : Int) := Z5 (by omega) (by omega)
  simp -implicitDefEqProofs only [go_sem, a1, a12, a14, hT, hil, e1, hh]
  by_cases c1 : (i : Int) ∈ shut
  ·rw [if_pos c1] at he
   simp -implicitDefEqProofs only [go_sem, a1, a2, a5, a12, a13, a14, hT, c1, hw1]
   exact ⟨v.pipes.length - (i + 1), hkk, trivial, trivial, trivial, trivial, trivial, trivial, i + 1, n + 1, es, _, rfl, hi', rfl, rfl, k0 _, k1 _, he⟩
  ·rw [if_neg c1] at he
   simp -implicitDefEqProofs only [go_sem, c1]
   simp only [Z3]
   refine Z06 [10] [10] (by kernel_rfl) ?_
   simp -implicitDefEqProofs only [redoH, redo1, go_sem, a5, hT, k1, hlk es p.a, had (getS es p.a) ⟨p.out.lo, p.out.hi⟩, hup es p.a (plusR (getS es p.a) p.out)]
   generalize hes : setS es p.a (plusR (getS es p.a) p.out) = es1 at *
   simp only [Z3]
   refine Z06 [10] [10] (by kernel_rfl) ?_
   simp -implicitDefEqProofs only [redoH, redo1, go_sem, a1, a2, a5, a12, a13, a14, hT, j1, hlk es1 p.b, had (getS es1 p.b) ⟨p.back.lo, p.back.hi⟩, hup es1 p.b (plusR (getS es1 p.b) p.back), hw1]
   exact ⟨v.pipes.length - (i + 1), hkk, trivial, trivial, trivial, trivial, trivial, trivial, i + 1, n + 3, setS es1 p.b (plusR (getS es1 p.b) p.back), _, rfl, hi', rfl, rfl, d0 _ _ _, d1 _ _ _, he⟩
 ·have hie : i = v.pipes.length := by omega
  subst hie
  rw [List.drop_length] at he
  simp only [leaveP] at he
  have hL : leaveL v shut = leaveM es v.pumps := by unfold leaveL; rw [he]
  rw [hL]
  simp -implicitDefEqProofs only [go_sem, a2, hT, hil, g0]
  simp only [Z3]
  refine Zj (fun k T s' => T.length = 63 /\ nth T 5 = some (.map [1]) /\ nth T 45 = some (.lst (v.pumps.map pmpV)) /\ nth T 46 = some (.int .i64 v.pumps.length) /\ ∃ (i n : Nat) (es2 : List (Int × Rg)) (H : Heap), nth T 47 = some (.int .i64 i) /\ i <= v.pumps.length /\ k = v.pumps.length - i /\ s' = ⟨H, n + 2, [], false, []⟩ /\
   hget H [1] = some (.map (encE es2) false) /\ leaveM es v.pumps = leaveM es2 (v.pumps.drop i)) (k := v.pumps.length) (by omega) ?_ ?_
  ·exact ⟨by simp -implicitDefEqProofs only [go_sem, hT], by simp -implicitDefEqProofs only [go_sem, a5], by simp -implicitDefEqProofs only [go_sem, hT], by simp -implicitDefEqProofs only [go_sem, hT], 0, n, es, H, by simp -implicitDefEqProofs only [go_sem, hT] <;> rfl, by omega, rfl, rfl, g1, rfl⟩
  clear a1 a2 a5 a12 a13 a14 hT T g0 g1 H n
  rintro k T s' ⟨hT, a5, a45, a46, i, n, es2, H, a47, hi, rfl, rfl, g1, he2⟩
  simp -implicitDefEqProofs only [go_sem, a46, a47, hT]
  by_cases hil2 : (i : Int) < (v.pumps.length : Int)
  ·have hi' : i < v.pumps.length := by omega
   have e1 := Zh (f := pmpV) (l := v.pumps) (i := i) (z := 3) hi' rfl
   have hkk : v.pumps.length - (i + 1) < v.pumps.length - i := by omega
   rw [List.drop_eq_getElem_cons hi'] at he2
   generalize v.pumps[i] = q at *
   simp only [leaveM] at he2
   have k1 : ∀ X, hget (([n + 2], X) :: H) [1] = _ := fun X => (Z4 _ _ (Y8 (by omega))).trans g1
   have j1 : ∀ X Z, hget (([n + 2], X) :: hset H [1] Z) [1] = _ := fun X Z => (Z4 _ _ (Y8 (by omega))).trans (Zi Z g1)
   have hw1 : wrapF .i64 ((i : Int) + 1) = ((i + 1 : Nat) : Int) := Z5 (by omega) (by omega)
   simp -implicitDefEqProofs only [go_sem, a45, a47, hT, hil2, e1]
   simp only [Z3]
   refine Z06 [10] [10] (by kernel_rfl) ?_
   simp -implicitDefEqProofs only [redoH, redo1, go_sem, a5, a45, a46, a47, hT, k1, hlk es2 q.at', had (getS es2 q.at') ⟨q.part.lo, q.part.hi⟩, hup es2 q.at' (plusR (getS es2 q.at') q.part), hw1]
   exact ⟨v.pumps.length - (i + 1), hkk, trivial, trivial, trivial, trivial, i + 1, n + 2, setS es2 q.at' (plusR (getS es2 q.at') q.part), _, rfl, hi', rfl, rfl, j1 _ _, he2⟩
  ·have hie : i = v.pumps.length := by omega
   subst hie
   rw [List.drop_length] at he2
   simp only [leaveM] at he2
   rw [he2]
   simp -implicitDefEqProofs only [go_sem, a5, hT, hil2, Try.results118]
   exact ⟨_, rfl, g1⟩
end Go.Proofs.Ytgnpnfkncbnjnaa
namespace Go.Am
open Go
theorem Ye {b : Nm} {r bs : List Nm} {xs : List Blk} {H : Heap} {n : Nat} {p : Nm} {jr : Bool} {j : Delta} {x : Blk} (k : Nat) (hm : memNm b bs = false) (hb : hget H b = some x) : lendM (k + 1) (b :: r) bs xs ⟨H, n, p, jr, j⟩ = lendM k (namesB false x r) (bs ++ [b]) (xs ++ [x]) ⟨H, n, p, jr, j⟩ := by
 rw [Zbj, hm]
 simp only
 rw [Z8, Yb, hb]
 rfl
end Go.Am
namespace Go.Proofs.Ytgnpnfkncbnjnaa
attribute [local go_sem_proc] Int.reduceEq Int.reduceNeg Nat.reduceEqDiff Nat.reduceLT Nat.reduceAdd Nat.reduceSub Nat.reduceMul Int.reduceLE Int.reduceLT Int.reduceToNat Nat.reduceLeDiff
attribute [local go_sem] Int.toNat_natCast Bool.not_true Bool.not_false
open Go Go.Am
attribute [local congr] Za Z6 Z7
attribute [local go_sem] Go.Am.buildSliceA Go.Am.frozen Go.Am.freezeG Go.Am.freezeGs Go.Am.minmax
theorem Z9a (at' : Int) (r : Rg) (most N : Int) (b : Nm) (K : Nat) (H : Heap) (n : Nat) (p : Nm) (jr : Bool) (j : Delta) (hb : hget H b = some (.cells [.int .i64 N] true 0)) (h1 : 0 <= N) (h2 : N <= 9223372036854775807) :
  acall cfg (K + 2) 104 [.int .i64 at', rgV r, .int .i64 most, .ptr b 0] ⟨H, n, p, jr, j⟩ = .ret (.int .i64 (atE N at' r most), ⟨H, n, p, jr, backJ jr [b] [.cells [.int .i64 N] true 0] j⟩) := by
 refine Yo (bs := [b]) (xs := [.cells [.int .i64 N] true 0]) (args' := [.int .i64 at', rgV r, .int .i64 most, .ptr [0] 0]) (xs' := [.cells [.int .i64 N] true 0]) Zhq Zhp (by show lendM (199 + 1) [b] [] [] _ = _; rw [Ye 199 rfl hb]; exact Zs 198 _ _ _) (by simp only [getAll, hb]) rfl rfl (by show renVs [(b, [0])] _ = _; simp only [renVs, renV, rgV, lookN, Zf]) rfl rfl (fun _ => rfl) (fun _ h => by cases h) (show (0 : Nat) < 200 by decide) rfl rfl ?_
 refine Z9 rfl fun T hT' hA => ?_
 have a0 := hA 0 _ rfl
 have a1 := hA 1 _ rfl
 have a2 := hA 2 _ rfl
 have a3 := hA 3 _ rfl
 have hT : T.length = 16 := hT'
 clear hA hT'
 have hg : hget (zipB (namesFrom [] 0 [b].length) [.cells [.int .i64 N] true 0]) [0] = some (.cells [.int .i64 N] true 0) := rfl
 have hz : zipB (namesFrom [] 0 [b].length) [Blk.cells [.int .i64 N] true 0] = [([0], .cells [.int .i64 N] true 0)] := rfl
 have hy : getAll [([1], Blk.cells [.int .i64 r.lo, .int .i64 r.hi] true 0), ([0], .cells [.int .i64 N] true 0)] (namesFrom [] 0 [b].length) = some [.cells [.int .i64 N] true 0] := rfl
 rw [hz]
 have hc := fun s => X4 at' 0 (N - 1) K s
 have hsp := fun s => Xq r most K s
 have hw : wrapF .i64 (N - 1) = N - 1 := Z5 (by omega) (by omega)
 simp only [rgV] at hsp
 unfold atE
 by_cases c1 : fromB at' 0 (N - 1) = true
 ·rw [if_pos c1]
  simp -implicitDefEqProofs only [go_sem, a0, a1, a2, a3, hT, hw, hc, c1, hsp, Try.results104]
  exact ⟨trivial, hy⟩
 ·rw [if_neg c1]
  simp -implicitDefEqProofs only [go_sem, a0, a1, a3, hT, hw, hc, c1, Try.results104]
  exact ⟨trivial, hy⟩
theorem Zdl (x : Pip) (N : Int) (b : Nm) (K : Nat) (H : Heap) (n : Nat) (p : Nm) (jr : Bool) (j : Delta) (hb : hget H b = some (.cells [.int .i64 N] true 0)) (h1 : 0 <= N) (h2 : N <= 9223372036854775807) :
  acall cfg (K + 2) 107 [pipV x, .ptr b 0] ⟨H, n, p, jr, j⟩ = .ret (.int .i64 (pipE N x), ⟨H, n, p, jr, backJ jr [b] [.cells [.int .i64 N] true 0] j⟩) := by
 refine Yo (bs := [b]) (xs := [.cells [.int .i64 N] true 0]) (args' := [pipV x, .ptr [0] 0]) (xs' := [.cells [.int .i64 N] true 0]) Zhw Zhv (by show lendM (199 + 1) [b] [] [] _ = _; rw [Ye 199 rfl hb]; exact Zs 198 _ _ _) (by simp only [getAll, hb]) rfl rfl (by show renVs [(b, [0])] _ = _; simp only [renVs, renV, pipV, lookN, Zf]) rfl rfl (fun _ => rfl) (fun _ h => by cases h) (show (0 : Nat) < 200 by decide) rfl rfl ?_
 refine Z9 rfl fun T hT' hA => ?_
 have a0 := hA 0 _ rfl
 have a1 := hA 1 _ rfl
 have hT : T.length = 35 := hT'
 clear hA hT'
 have hz : zipB (namesFrom [] 0 [b].length) [Blk.cells [.int .i64 N] true 0] = [([0], .cells [.int .i64 N] true 0)] := rfl
 have hy : ∀ X, getAll [([1], X), ([0], .cells [.int .i64 N] true 0)] (namesFrom [] 0 [b].length) = some [.cells [.int .i64 N] true 0] := fun _ => rfl
 rw [hz]
 have hc := fun m s => X4 m 0 (N - 1) K s
 have hsp := fun r s => Xq r 1000000 K s
 have hw : wrapF .i64 (N - 1) = N - 1 := Z5 (by omega) (by omega)
 simp only [rgV] at hsp
 unfold pipE
 by_cases c1 : fromB x.a 0 (N - 1) = true
 ·by_cases c2 : fromB x.b 0 (N - 1) = true
  ·rw [if_pos ⟨c1, c2⟩]
   by_cases c3 : x.a = x.b
   ·rw [if_pos c3]
    simp -implicitDefEqProofs only [go_sem, a0, a1, hT, hw, hc, c2, c3, Try.results107]
    exact ⟨trivial, hy _⟩
   ·rw [if_neg c3]
    by_cases c4 : spansE x.out 1000000 = 0
    ·rw [if_pos c4]
     simp -implicitDefEqProofs only [go_sem, a0, a1, hT, hw, hc, c1, c2, c3, hsp ⟨x.out.lo, x.out.hi⟩, hsp ⟨x.back.lo, x.back.hi⟩, c4, Try.results107]
     exact ⟨trivial, hy _⟩
    ·rw [if_neg c4]
     simp -implicitDefEqProofs only [go_sem, a0, a1, hT, hw, hc, c1, c2, c3, hsp ⟨x.out.lo, x.out.hi⟩, c4, Try.results107]
     exact ⟨trivial, hy _⟩
  ·rw [if_neg (fun h => c2 h.2)]
   simp -implicitDefEqProofs only [go_sem, a0, a1, hT, hw, hc, c1, c2, Try.results107]
   exact ⟨trivial, hy _⟩
 ·rw [if_neg (fun h => c1 h.1)]
  simp -implicitDefEqProofs only [go_sem, a0, a1, hT, hw, hc, c1, Try.results107]
  exact ⟨trivial, hy _⟩
theorem Zbo (x : Pmp) (N : Int) (b4 b3 : Nm) (hne : b3 ≠ b4) (K : Nat) (H : Heap) (n : Nat) (p : Nm) (jr : Bool) (j : Delta) (hb4 : hget H b4 = some (.cells [.func 104 [.ptr b3 0]] true 0)) (hb3 : hget H b3 = some (.cells [.int .i64 N] true 0)) (h1 : 0 <= N) (h2 : N <= 9223372036854775807) :
  acall cfg (K + 3) 108 [pmpV x, .ptr b4 0] ⟨H, n, p, jr, j⟩ = .ret (.int .i64 (atE N x.at' x.part 1000000), ⟨H, n, p, jr, backJ jr [b4, b3] [.cells [.func 104 [.ptr b3 0]] true 0, .cells [.int .i64 N] true 0] j⟩) := by
 have e34 := Ze hne
 have e43 := Ze (Ne.symm hne)
 refine Yo (bs := [b4, b3]) (xs := [.cells [.func 104 [.ptr b3 0]] true 0, .cells [.int .i64 N] true 0]) (args' := [pmpV x, .ptr [0] 0]) (xs' := [.cells [.func 104 [.ptr [1] 0]] true 0, .cells [.int .i64 N] true 0]) Zhy Zhx (by show lendM (199 + 1) [b4] [] [] _ = _; rw [Ye 199 rfl hb4]; show lendM (198 + 1) [b3] [b4] [_] _ = _; rw [Ye 198 (by simp only [memNm, e34]) hb3]; exact Zs 197 _ _ _) (by simp only [getAll, hb4, hb3]) (by simp only [nodupN, memNm, e43]) rfl (by show renVs [(b4, [0]), (b3, [1])] _ = _; simp only [renVs, renV, pmpV, lookN, Zf])
  (by show renBs [(b4, [0]), (b3, [1])] _ = _; simp only [renBs, renB, renVs, renV, lookN, e34, Zf]) rfl (fun _ => rfl) (fun c h => by rcases List.mem_cons.1 h with rfl | h; rfl; cases h) (show (1 : Nat) < 200 by decide) rfl rfl ?_
 refine Z9 rfl fun T hT' hA => ?_
 have a0 := hA 0 _ rfl
 have a1 := hA 1 _ rfl
 have hT : T.length = 10 := hT'
 clear hA hT'
 have hz : zipB (namesFrom [] 0 [b4, b3].length) [Blk.cells [.func 104 [.ptr [1] 0]] true 0, .cells [.int .i64 N] true 0] = [([0], .cells [.func 104 [.ptr [1] 0]] true 0), ([1], .cells [.int .i64 N] true 0)] := rfl
 have hy : ∀ X, getAll [([2], X), ([0], .cells [.func 104 [.ptr [1] 0]] true 0), ([1], .cells [.int .i64 N] true 0)] (namesFrom [] 0 [b4, b3].length) = some [.cells [.func 104 [.ptr [1] 0]] true 0, .cells [.int .i64 N] true 0] := fun _ => rfl
 have hl2 : [b4, b3].length = 2 := rfl
 rw [hz, hl2]
 rw [hl2] at hy
 have hat := fun X at' r most j => Z9a at' r most N [1] K [([2], X), ([0], .cells [.func 104 [.ptr [1] 0]] true 0), ([1], .cells [.int .i64 N] true 0)] 3 [] false j rfl h1 h2
 simp only [rgV, Yl] at hat
 simp -implicitDefEqProofs only [go_sem, a0, a1, hT, hat _ x.at' ⟨x.part.lo, x.part.hi⟩, Try.results108]
 exact ⟨trivial, hy _⟩
theorem Zbp (x : Inl) (N : Int) (b4 b3 : Nm) (hne : b3 ≠ b4) (K : Nat) (H : Heap) (n : Nat) (p : Nm) (jr : Bool) (j : Delta) (hb4 : hget H b4 = some (.cells [.func 104 [.ptr b3 0]] true 0)) (hb3 : hget H b3 = some (.cells [.int .i64 N] true 0)) (h1 : 0 <= N) (h2 : N <= 9223372036854775807) :
  acall cfg (K + 3) 109 [inlV x, .ptr b4 0] ⟨H, n, p, jr, j⟩ = .ret (.int .i64 (atE N x.at' x.gas 100000), ⟨H, n, p, jr, backJ jr [b4, b3] [.cells [.func 104 [.ptr b3 0]] true 0, .cells [.int .i64 N] true 0] j⟩) := by
 have e34 := Ze hne
 have e43 := Ze (Ne.symm hne)
 refine Yo (bs := [b4, b3]) (xs := [.cells [.func 104 [.ptr b3 0]] true 0, .cells [.int .i64 N] true 0]) (args' := [inlV x, .ptr [0] 0]) (xs' := [.cells [.func 104 [.ptr [1] 0]] true 0, .cells [.int .i64 N] true 0]) Zi0 Zhz (by show lendM (199 + 1) [b4] [] [] _ = _; rw [Ye 199 rfl hb4]; show lendM (198 + 1) [b3] [b4] [_] _ = _; rw [Ye 198 (by simp only [memNm, e34]) hb3]; exact Zs 197 _ _ _) (by simp only [getAll, hb4, hb3]) (by simp only [nodupN, memNm, e43]) rfl (by show renVs [(b4, [0]), (b3, [1])] _ = _; simp only [renVs, renV, inlV, lookN, Zf])
  (by show renBs [(b4, [0]), (b3, [1])] _ = _; simp only [renBs, renB, renVs, renV, lookN, e34, Zf]) rfl (fun _ => rfl) (fun c h => by rcases List.mem_cons.1 h with rfl | h; rfl; cases h) (show (1 : Nat) < 200 by decide) rfl rfl ?_
 refine Z9 rfl fun T hT' hA => ?_
 have a0 := hA 0 _ rfl
 have a1 := hA 1 _ rfl
 have hT : T.length = 10 := hT'
 clear hA hT'
 have hz : zipB (namesFrom [] 0 [b4, b3].length) [Blk.cells [.func 104 [.ptr [1] 0]] true 0, .cells [.int .i64 N] true 0] = [([0], .cells [.func 104 [.ptr [1] 0]] true 0), ([1], .cells [.int .i64 N] true 0)] := rfl
 have hy : ∀ X, getAll [([2], X), ([0], .cells [.func 104 [.ptr [1] 0]] true 0), ([1], .cells [.int .i64 N] true 0)] (namesFrom [] 0 [b4, b3].length) = some [.cells [.func 104 [.ptr [1] 0]] true 0, .cells [.int .i64 N] true 0] := fun _ => rfl
 have hl2 : [b4, b3].length = 2 := rfl
 rw [hz, hl2]
 rw [hl2] at hy
 have hat := fun X at' r most j => Z9a at' r most N [1] K [([2], X), ([0], .cells [.func 104 [.ptr [1] 0]] true 0), ([1], .cells [.int .i64 N] true 0)] 3 [] false j rfl h1 h2
 simp only [rgV, Yl] at hat
 simp -implicitDefEqProofs only [go_sem, a0, a1, hT, hat _ x.at' ⟨x.gas.lo, x.gas.hi⟩, Try.results109]
 exact ⟨trivial, hy _⟩
theorem Zdm (x : Gtr) (N : Int) (b4 b3 : Nm) (hne : b3 ≠ b4) (K : Nat) (H : Heap) (n : Nat) (p : Nm) (jr : Bool) (j : Delta) (hb4 : hget H b4 = some (.cells [.func 104 [.ptr b3 0]] true 0)) (hb3 : hget H b3 = some (.cells [.int .i64 N] true 0)) (h1 : 0 <= N) (h2 : N <= 9223372036854775807) :
  acall cfg (K + 3) 110 [gtrV x, .ptr b4 0] ⟨H, n, p, jr, j⟩ = .ret (.int .i64 (getE N x), ⟨H, n, p, jr, backJ jr [b4, b3] [.cells [.func 104 [.ptr b3 0]] true 0, .cells [.int .i64 N] true 0] j⟩) := by
 have e34 := Ze hne
 have e43 := Ze (Ne.symm hne)
 refine Yo (bs := [b4, b3]) (xs := [.cells [.func 104 [.ptr b3 0]] true 0, .cells [.int .i64 N] true 0]) (args' := [gtrV x, .ptr [0] 0]) (xs' := [.cells [.func 104 [.ptr [1] 0]] true 0, .cells [.int .i64 N] true 0]) Zi2 Zi1 (by show lendM (199 + 1) [b4] [] [] _ = _; rw [Ye 199 rfl hb4]; show lendM (198 + 1) [b3] [b4] [_] _ = _; rw [Ye 198 (by simp only [memNm, e34]) hb3]; exact Zs 197 _ _ _) (by simp only [getAll, hb4, hb3]) (by simp only [nodupN, memNm, e43]) rfl (by show renVs [(b4, [0]), (b3, [1])] _ = _; simp only [renVs, renV, gtrV, lookN, Zf])
  (by show renBs [(b4, [0]), (b3, [1])] _ = _; simp only [renBs, renB, renVs, renV, lookN, e34, Zf]) rfl (fun _ => rfl) (fun c h => by rcases List.mem_cons.1 h with rfl | h; rfl; cases h) (show (1 : Nat) < 200 by decide) rfl rfl ?_
 refine Z9 rfl fun T hT' hA => ?_
 have a0 := hA 0 _ rfl
 have a1 := hA 1 _ rfl
 have hT : T.length = 17 := hT'
 clear hA hT'
 have hz : zipB (namesFrom [] 0 [b4, b3].length) [Blk.cells [.func 104 [.ptr [1] 0]] true 0, .cells [.int .i64 N] true 0] = [([0], .cells [.func 104 [.ptr [1] 0]] true 0), ([1], .cells [.int .i64 N] true 0)] := rfl
 have hy : ∀ X, getAll [([2], X), ([0], .cells [.func 104 [.ptr [1] 0]] true 0), ([1], .cells [.int .i64 N] true 0)] (namesFrom [] 0 [b4, b3].length) = some [.cells [.func 104 [.ptr [1] 0]] true 0, .cells [.int .i64 N] true 0] := fun _ => rfl
 have hl2 : [b4, b3].length = 2 := rfl
 rw [hz, hl2]
 rw [hl2] at hy
 have hat := fun X at' r most j => Z9a at' r most N [1] K [([2], X), ([0], .cells [.func 104 [.ptr [1] 0]] true 0), ([1], .cells [.int .i64 N] true 0)] 3 [] false j rfl h1 h2
 simp only [rgV, Yl] at hat
 have hsp := fun r s => Xq r 1000000000 (K + 1) s
 simp only [rgV] at hsp
 unfold getE
 by_cases c1 : atE N x.at' x.part 1000000 = 0
 ·rw [if_pos c1]
  simp -implicitDefEqProofs only [go_sem, a0, a1, hT, hat _ x.at' ⟨x.part.lo, x.part.hi⟩, c1, hsp ⟨x.room.lo, x.room.hi⟩, Try.results110]
  exact ⟨trivial, hy _⟩
 ·rw [if_neg c1]
  simp -implicitDefEqProofs only [go_sem, a0, a1, hT, hat _ x.at' ⟨x.part.lo, x.part.hi⟩, c1, Try.results110]
  exact ⟨trivial, hy _⟩
end Go.Proofs.Ytgnpnfkncbnjnaa
namespace Go.Proofs.Ytgnpnfkncbnjnaa
attribute [local go_sem_proc] Int.reduceEq Int.reduceNeg Nat.reduceEqDiff Nat.reduceLT Nat.reduceAdd Nat.reduceSub Nat.reduceMul Int.reduceLE Int.reduceLT Int.reduceToNat Nat.reduceLeDiff
attribute [local go_sem] Int.toNat_natCast Bool.not_true Bool.not_false
open Go Go.Am
attribute [local congr] Za Z6 Z7
attribute [local go_sem] Go.Am.buildSliceA Go.Am.frozen Go.Am.freezeG Go.Am.freezeGs Go.Am.minmax
theorem Zfd (l : List Ves) (bl bf : Nm) (nblbf : bl ≠ bf) (K : Nat) (H : Heap) (n : Nat) (p : Nm) (jr : Bool) (j : Delta) (hbl : hget H bl = some (.cells [.lst (l.map vesV)] true 0)) (hbf : hget H bf = some (.cells [.func 113 []] true 0)) (hK : 20 < K) (hl : l.length < K) (hl2 : l.length <= 9223372036854775807) (hb : ∀ v ∈ l, v.bands.length <= 9223372036854775807) :
  acall cfg (K + 4) 153 [.ptr bl 0, .ptr bf 0] ⟨H, n, p, jr, j⟩ = .ret (.int .i64 (firstE vesE l), ⟨H, n, p, jr, backJ jr [bl, bf] [.cells [.lst (l.map vesV)] true 0, .cells [.func 113 []] true 0] j⟩) := by
 have eblbf := Ze nblbf
 have ebfbl := Ze (Ne.symm nblbf)
 refine Yo (bs := [bl, bf]) (xs := [.cells [.lst (l.map vesV)] true 0, .cells [.func 113 []] true 0]) (args' := [.ptr [0] 0, .ptr [1] 0]) (xs' := [.cells [.lst (l.map vesV)] true 0, .cells [.func 113 []] true 0]) Ziy Zix (by show lendM (199 + 1) [bl, bf] [] [] _ = _; rw [Ye 199 rfl hbl]; show lendM (198 + 1) [bf] [bl] [_] _ = _; rw [Ye 198 (by simp only [memNm, ebfbl]) hbf]; exact Zs 197 _ _ _) (by simp only [getAll, hbl, hbf]) (by simp only [nodupN, memNm, eblbf]) rfl (by show renVs [(bl, [0]), (bf, [1])] _ = _; simp only [renVs, renV, lookN, Zf, ebfbl])
  (by show renBs [(bl, [0]), (bf, [1])] _ = _; simp only [renBs, renB, renVs, renV, X5]) rfl (fun _ => rfl) (fun c h => by cases h) (show (0 : Nat) < 200 by decide) rfl (by show renBs [([0], bl), ([1], bf)] _ = _; simp only [renBs, renB, renVs, renV, X5]) ?_
 refine Z9 rfl fun T hT' hA => ?_
 have a0 := hA 0 _ rfl
 have a1 := hA 1 _ rfl
 have hT : T.length = 19 := hT'
 clear hA hT'
 have hz : zipB (namesFrom [] 0 [bl, bf].length) [Blk.cells [.lst (l.map vesV)] true 0, Blk.cells [.func 113 []] true 0] = [([0], .cells [.lst (l.map vesV)] true 0), ([1], .cells [.func 113 []] true 0)] := rfl
 have hl3 : [bl, bf].length = 2 := rfl
 rw [hz, hl3]
 simp -implicitDefEqProofs only [go_sem, a0, hT]
 simp only [Z3]
 refine Zj (fun k T s' => T.length = 19 /\ nth T 1 = some (.ptr [1] 0) /\ nth T 6 = some (.lst (l.map vesV)) /\ nth T 7 = some (.int .i64 l.length) /\ ∃ (i n : Nat) (H : Heap), nth T 8 = some (.int .i64 i) /\ i <= l.length /\ k = l.length - i /\ s' = ⟨H, n + 2, [], false, []⟩ /\ hget H [0] = some (.cells [.lst (l.map vesV)] true 0) /\ hget H [1] = some (.cells [.func 113 []] true 0) /\ firstE vesE l = firstE vesE (l.drop i)) (k := l.length) (by omega) ?_ ?_
 ·exact ⟨by simp -implicitDefEqProofs only [go_sem, hT], by simp -implicitDefEqProofs only [go_sem, a1], by simp -implicitDefEqProofs only [go_sem, hT], by simp -implicitDefEqProofs only [go_sem, hT], 0, 0, _, by simp -implicitDefEqProofs only [go_sem, hT] <;> rfl, by omega, rfl, rfl, rfl, rfl, rfl⟩
 clear a0 a1 hT T
 rintro k T s' ⟨hT, a1, a6, a7, i, n, H, a8, hi, rfl, rfl, g0, g1, he⟩
 have hy : getAll H (namesFrom [] 0 2) = some [.cells [.lst (l.map vesV)] true 0, .cells [.func 113 []] true 0] := by show getAll H [[0], [1]] = _; simp only [getAll, g0, g1]
 simp -implicitDefEqProofs only [go_sem, a7, a8, hT]
 by_cases hil : (i : Int) < (l.length : Int)
 ·have hi' : i < l.length := by omega
  have e1 := Zh (f := vesV) (l := l) (i := i) (z := 6) hi' rfl
  have hkk : l.length - (i + 1) < l.length - i := by omega
  have hbi := hb (l[i]) (List.getElem_mem hi')
  rw [List.drop_eq_getElem_cons hi'] at he
  have hw1 : wrapF .i64 ((i : Int) + 1) = ((i + 1 : Nat) : Int) := Z5 (by omega) (by omega)
  generalize l[i] = x at *
  simp only [firstE] at he
  have k0 : ∀ X, hget (([n + 2], X) :: H) [0] = _ := fun X => (Z4 _ _ (Y8 (by omega))).trans g0
  have k1 : ∀ X, hget (([n + 2], X) :: H) [1] = _ := fun X => (Z4 _ _ (Y8 (by omega))).trans g1
  have hy2 : ∀ X, getAll (([n + 2], X) :: H) (namesFrom [] 0 2) = some [.cells [.lst (l.map vesV)] true 0, .cells [.func 113 []] true 0] := fun X => by show getAll _ [[0], [1]] = _; simp only [getAll, k0 X, k1 X]
  have hc := fun s => Z98 x (K + 1) s (by omega) hbi
  simp only [vesV] at hc
  simp only [vesV] at e1
  by_cases c1 : vesE x = 0
  ·rw [if_pos c1] at he
   simp -implicitDefEqProofs only [go_sem, a1, a6, a7, a8, hT, hil, e1, hc, c1, hw1, k1]
   exact ⟨l.length - (i + 1), hkk, trivial, trivial, trivial, trivial, i + 1, n + 1, _, rfl, hi', rfl, rfl, k0 _, k1 _, he⟩
  ·rw [if_neg c1] at he
   simp -implicitDefEqProofs only [go_sem, a1, a6, a8, hT, hil, e1, hc, c1, k1, he, Try.results153]
   exact ⟨trivial, hy2 _⟩
 ·have hie : i = l.length := by omega
  subst hie
  rw [List.drop_length] at he
  simp only [firstE] at he
  simp -implicitDefEqProofs only [go_sem, hT, hil, he, Try.results153]
  exact ⟨trivial, hy⟩
theorem Zfe (l : List Pip) (N : Int) (bl bf b3 : Nm) (nblbf : bl ≠ bf) (nblb3 : bl ≠ b3) (nbfb3 : bf ≠ b3) (K : Nat) (H : Heap) (n : Nat) (p : Nm) (jr : Bool) (j : Delta) (hbl : hget H bl = some (.cells [.lst (l.map pipV)] true 0)) (hbf : hget H bf = some (.cells [.func 107 [.ptr b3 0]] true 0)) (hb3 : hget H b3 = some (.cells [.int .i64 N] true 0)) (h1 : 0 <= N) (h2 : N <= 9223372036854775807) (hK : 20 < K) (hl : l.length < K) (hl2 : l.length <= 9223372036854775807) :
  acall cfg (K + 4) 154 [.ptr bl 0, .ptr bf 0] ⟨H, n, p, jr, j⟩ = .ret (.int .i64 (firstE (pipE N) l), ⟨H, n, p, jr, backJ jr [bl, bf, b3] [.cells [.lst (l.map pipV)] true 0, .cells [.func 107 [.ptr b3 0]] true 0, .cells [.int .i64 N] true 0] j⟩) := by
 have eblbf := Ze nblbf
 have ebfbl := Ze (Ne.symm nblbf)
 have eblb3 := Ze nblb3
 have eb3bl := Ze (Ne.symm nblb3)
 have ebfb3 := Ze nbfb3
 have eb3bf := Ze (Ne.symm nbfb3)
 refine Yo (bs := [bl, bf, b3]) (xs := [.cells [.lst (l.map pipV)] true 0, .cells [.func 107 [.ptr b3 0]] true 0, .cells [.int .i64 N] true 0]) (args' := [.ptr [0] 0, .ptr [1] 0]) (xs' := [.cells [.lst (l.map pipV)] true 0, .cells [.func 107 [.ptr [2] 0]] true 0, .cells [.int .i64 N] true 0]) Zj0 Ziz (by show lendM (199 + 1) [bl, bf] [] [] _ = _; rw [Ye 199 rfl hbl]; show lendM (198 + 1) [bf] [bl] [_] _ = _; rw [Ye 198 (by simp only [memNm, ebfbl]) hbf]; show lendM (197 + 1) [b3] [bl, bf] _ _ = _; rw [Ye 197 (by simp only [memNm, eb3bl, eb3bf]) hb3]; exact Zs 196 _ _ _) (by simp only [getAll, hbl, hbf, hb3]) (by simp only [nodupN, memNm, eblbf, eblb3, ebfb3]) rfl (by show renVs [(bl, [0]), (bf, [1]), (b3, [2])] _ = _; simp only [renVs, renV, lookN, Zf, ebfbl])
  (by show renBs [(bl, [0]), (bf, [1]), (b3, [2])] _ = _; simp only [renBs, renB, renVs, renV, lookN, X6, Zf, eb3bl, eb3bf]) rfl (fun _ => rfl) (fun c h => by rcases List.mem_cons.1 h with rfl | h; rfl; cases h) (show (1 : Nat) < 200 by decide) rfl (by show renBs [([0], bl), ([1], bf), ([2], b3)] _ = _; simp only [renBs, renB, renVs, renV, X6]; rfl) ?_
 refine Z9 rfl fun T hT' hA => ?_
 have a0 := hA 0 _ rfl
 have a1 := hA 1 _ rfl
 have hT : T.length = 19 := hT'
 clear hA hT'
 have hz : zipB (namesFrom [] 0 [bl, bf, b3].length) [Blk.cells [.lst (l.map pipV)] true 0, Blk.cells [.func 107 [.ptr [2] 0]] true 0, Blk.cells [.int .i64 N] true 0] = [([0], .cells [.lst (l.map pipV)] true 0), ([1], .cells [.func 107 [.ptr [2] 0]] true 0), ([2], .cells [.int .i64 N] true 0)] := rfl
 have hl3 : [bl, bf, b3].length = 3 := rfl
 rw [hz, hl3]
 simp -implicitDefEqProofs only [go_sem, a0, hT]
 simp only [Z3]
 refine Zj (fun k T s' => T.length = 19 /\ nth T 1 = some (.ptr [1] 0) /\ nth T 6 = some (.lst (l.map pipV)) /\ nth T 7 = some (.int .i64 l.length) /\ ∃ (i n : Nat) (H : Heap), nth T 8 = some (.int .i64 i) /\ i <= l.length /\ k = l.length - i /\ s' = ⟨H, n + 3, [], false, []⟩ /\ hget H [0] = some (.cells [.lst (l.map pipV)] true 0) /\ hget H [1] = some (.cells [.func 107 [.ptr [2] 0]] true 0) /\ hget H [2] = some (.cells [.int .i64 N] true 0) /\ firstE (pipE N) l = firstE (pipE N) (l.drop i)) (k := l.length) (by omega) ?_ ?_
 ·exact ⟨by simp -implicitDefEqProofs only [go_sem, hT], by simp -implicitDefEqProofs only [go_sem, a1], by simp -implicitDefEqProofs only [go_sem, hT], by simp -implicitDefEqProofs only [go_sem, hT], 0, 0, _, by simp -implicitDefEqProofs only [go_sem, hT] <;> rfl, by omega, rfl, rfl, rfl, rfl, rfl, rfl⟩
 clear a0 a1 hT T
 rintro k T s' ⟨hT, a1, a6, a7, i, n, H, a8, hi, rfl, rfl, g0, g1, g2, he⟩
 have hy : getAll H (namesFrom [] 0 3) = some [.cells [.lst (l.map pipV)] true 0, .cells [.func 107 [.ptr [2] 0]] true 0, .cells [.int .i64 N] true 0] := by show getAll H [[0], [1], [2]] = _; simp only [getAll, g0, g1, g2]
 simp -implicitDefEqProofs only [go_sem, a7, a8, hT]
 by_cases hil : (i : Int) < (l.length : Int)
 ·have hi' : i < l.length := by omega
  have e1 := Zh (f := pipV) (l := l) (i := i) (z := 6) hi' rfl
  have hkk : l.length - (i + 1) < l.length - i := by omega
  rw [List.drop_eq_getElem_cons hi'] at he
  have hw1 : wrapF .i64 ((i : Int) + 1) = ((i + 1 : Nat) : Int) := Z5 (by omega) (by omega)
  generalize l[i] = x at *
  simp only [firstE] at he
  have k0 : ∀ X, hget (([n + 3], X) :: H) [0] = _ := fun X => (Z4 _ _ (Y8 (by omega))).trans g0
  have k1 : ∀ X, hget (([n + 3], X) :: H) [1] = _ := fun X => (Z4 _ _ (Y8 (by omega))).trans g1
  have k2 : ∀ X, hget (([n + 3], X) :: H) [2] = _ := fun X => (Z4 _ _ (Y8 (by omega))).trans g2
  have hy2 : ∀ X, getAll (([n + 3], X) :: H) (namesFrom [] 0 3) = some [.cells [.lst (l.map pipV)] true 0, .cells [.func 107 [.ptr [2] 0]] true 0, .cells [.int .i64 N] true 0] := fun X => by show getAll _ [[0], [1], [2]] = _; simp only [getAll, k0 X, k1 X, k2 X]
  have hc := fun X => Zdl x N [2] (K + 1) (([n + 3], X) :: H) (n + 3 + 1) [] false [] (k2 X) h1 h2
  simp only [pipV, Yl] at hc
  by_cases c1 : pipE N x = 0
  ·rw [if_pos c1] at he
   simp -implicitDefEqProofs only [go_sem, a1, a6, a7, a8, hT, hil, e1, hc, c1, hw1, k1]
   exact ⟨l.length - (i + 1), hkk, trivial, trivial, trivial, trivial, i + 1, n + 1, _, rfl, hi', rfl, rfl, k0 _, k1 _, k2 _, he⟩
  ·rw [if_neg c1] at he
   simp -implicitDefEqProofs only [go_sem, a1, a6, a8, hT, hil, e1, hc, c1, k1, he, Try.results154]
   exact ⟨trivial, hy2 _⟩
 ·have hie : i = l.length := by omega
  subst hie
  rw [List.drop_length] at he
  simp only [firstE] at he
  simp -implicitDefEqProofs only [go_sem, hT, hil, he, Try.results154]
  exact ⟨trivial, hy⟩
theorem Zff (l : List Pmp) (N : Int) (bl bf b4 b3 : Nm) (nblbf : bl ≠ bf) (nblb4 : bl ≠ b4) (nblb3 : bl ≠ b3) (nbfb4 : bf ≠ b4) (nbfb3 : bf ≠ b3) (nb4b3 : b4 ≠ b3) (K : Nat) (H : Heap) (n : Nat) (p : Nm) (jr : Bool) (j : Delta) (hbl : hget H bl = some (.cells [.lst (l.map pmpV)] true 0)) (hbf : hget H bf = some (.cells [.func 108 [.ptr b4 0]] true 0)) (hb4 : hget H b4 = some (.cells [.func 104 [.ptr b3 0]] true 0)) (hb3 : hget H b3 = some (.cells [.int .i64 N] true 0)) (h1 : 0 <= N) (h2 : N <= 9223372036854775807) (hK : 20 < K) (hl : l.length < K) (hl2 : l.length <= 9223372036854775807) :
  acall cfg (K + 4) 155 [.ptr bl 0, .ptr bf 0] ⟨H, n, p, jr, j⟩ = .ret (.int .i64 (firstE (fun q : Pmp => atE N q.at' q.part 1000000) l), ⟨H, n, p, jr, backJ jr [bl, bf, b4, b3] [.cells [.lst (l.map pmpV)] true 0, .cells [.func 108 [.ptr b4 0]] true 0, .cells [.func 104 [.ptr b3 0]] true 0, .cells [.int .i64 N] true 0] j⟩) := by
 have eblbf := Ze nblbf
 have ebfbl := Ze (Ne.symm nblbf)
 have eblb4 := Ze nblb4
 have eb4bl := Ze (Ne.symm nblb4)
 have eblb3 := Ze nblb3
 have eb3bl := Ze (Ne.symm nblb3)
 have ebfb4 := Ze nbfb4
 have eb4bf := Ze (Ne.symm nbfb4)
 have ebfb3 := Ze nbfb3
 have eb3bf := Ze (Ne.symm nbfb3)
 have eb4b3 := Ze nb4b3
 have eb3b4 := Ze (Ne.symm nb4b3)
 refine Yo (bs := [bl, bf, b4, b3]) (xs := [.cells [.lst (l.map pmpV)] true 0, .cells [.func 108 [.ptr b4 0]] true 0, .cells [.func 104 [.ptr b3 0]] true 0, .cells [.int .i64 N] true 0]) (args' := [.ptr [0] 0, .ptr [1] 0]) (xs' := [.cells [.lst (l.map pmpV)] true 0, .cells [.func 108 [.ptr [2] 0]] true 0, .cells [.func 104 [.ptr [3] 0]] true 0, .cells [.int .i64 N] true 0]) Zj2 Zj1 (by show lendM (199 + 1) [bl, bf] [] [] _ = _; rw [Ye 199 rfl hbl]; show lendM (198 + 1) [bf] [bl] [_] _ = _; rw [Ye 198 (by simp only [memNm, ebfbl]) hbf]; show lendM (197 + 1) [b4] [bl, bf] _ _ = _; rw [Ye 197 (by simp only [memNm, eb4bl, eb4bf]) hb4]; show lendM (196 + 1) [b3] [bl, bf, b4] _ _ = _; rw [Ye 196 (by simp only [memNm, eb3bl, eb3bf, eb3b4]) hb3]; exact Zs 195 _ _ _) (by simp only [getAll, hbl, hbf, hb4, hb3]) (by simp only [nodupN, memNm, eblbf, eblb4, eblb3, ebfb4, ebfb3, eb4b3]) rfl (by show renVs [(bl, [0]), (bf, [1]), (b4, [2]), (b3, [3])] _ = _; simp only [renVs, renV, lookN, Zf, ebfbl])
  (by show renBs [(bl, [0]), (bf, [1]), (b4, [2]), (b3, [3])] _ = _; simp only [renBs, renB, renVs, renV, lookN, X7, Zf, eb4bl, eb3bl, eb4bf, eb3bf, eb3b4]) rfl (fun _ => rfl) (fun c h => by rcases List.mem_cons.1 h with rfl | h; rfl; rcases List.mem_cons.1 h with rfl | h; rfl; cases h) (show (2 : Nat) < 200 by decide) rfl (by show renBs [([0], bl), ([1], bf), ([2], b4), ([3], b3)] _ = _; simp only [renBs, renB, renVs, renV, X7]; rfl) ?_
 refine Z9 rfl fun T hT' hA => ?_
 have a0 := hA 0 _ rfl
 have a1 := hA 1 _ rfl
 have hT : T.length = 19 := hT'
 clear hA hT'
 have hz : zipB (namesFrom [] 0 [bl, bf, b4, b3].length) [Blk.cells [.lst (l.map pmpV)] true 0, Blk.cells [.func 108 [.ptr [2] 0]] true 0, Blk.cells [.func 104 [.ptr [3] 0]] true 0, Blk.cells [.int .i64 N] true 0] = [([0], .cells [.lst (l.map pmpV)] true 0), ([1], .cells [.func 108 [.ptr [2] 0]] true 0), ([2], .cells [.func 104 [.ptr [3] 0]] true 0), ([3], .cells [.int .i64 N] true 0)] := rfl
 have hl3 : [bl, bf, b4, b3].length = 4 := rfl
 rw [hz, hl3]
 simp -implicitDefEqProofs only [go_sem, a0, hT]
 simp only [Z3]
 refine Zj (fun k T s' => T.length = 19 /\ nth T 1 = some (.ptr [1] 0) /\ nth T 6 = some (.lst (l.map pmpV)) /\ nth T 7 = some (.int .i64 l.length) /\ ∃ (i n : Nat) (H : Heap), nth T 8 = some (.int .i64 i) /\ i <= l.length /\ k = l.length - i /\ s' = ⟨H, n + 4, [], false, []⟩ /\ hget H [0] = some (.cells [.lst (l.map pmpV)] true 0) /\ hget H [1] = some (.cells [.func 108 [.ptr [2] 0]] true 0) /\ hget H [2] = some (.cells [.func 104 [.ptr [3] 0]] true 0) /\ hget H [3] = some (.cells [.int .i64 N] true 0) /\ firstE (fun q : Pmp => atE N q.at' q.part 1000000) l = firstE (fun q : Pmp => atE N q.at' q.part 1000000) (l.drop i)) (k := l.length) (by omega) ?_ ?_
 ·exact ⟨by simp -implicitDefEqProofs only [go_sem, hT], by simp -implicitDefEqProofs only [go_sem, a1], by simp -implicitDefEqProofs only [go_sem, hT], by simp -implicitDefEqProofs only [go_sem, hT], 0, 0, _, by simp -implicitDefEqProofs only [go_sem, hT] <;> rfl, by omega, rfl, rfl, rfl, rfl, rfl, rfl, rfl⟩
 clear a0 a1 hT T
 rintro k T s' ⟨hT, a1, a6, a7, i, n, H, a8, hi, rfl, rfl, g0, g1, g2, g3, he⟩
 have hy : getAll H (namesFrom [] 0 4) = some [.cells [.lst (l.map pmpV)] true 0, .cells [.func 108 [.ptr [2] 0]] true 0, .cells [.func 104 [.ptr [3] 0]] true 0, .cells [.int .i64 N] true 0] := by show getAll H [[0], [1], [2], [3]] = _; simp only [getAll, g0, g1, g2, g3]
 simp -implicitDefEqProofs only [go_sem, a7, a8, hT]
 by_cases hil : (i : Int) < (l.length : Int)
 ·have hi' : i < l.length := by omega
  have e1 := Zh (f := pmpV) (l := l) (i := i) (z := 3) hi' rfl
  have hkk : l.length - (i + 1) < l.length - i := by omega
  rw [List.drop_eq_getElem_cons hi'] at he
  have hw1 : wrapF .i64 ((i : Int) + 1) = ((i + 1 : Nat) : Int) := Z5 (by omega) (by omega)
  generalize l[i] = x at *
  simp only [firstE] at he
  have k0 : ∀ X, hget (([n + 4], X) :: H) [0] = _ := fun X => (Z4 _ _ (Y8 (by omega))).trans g0
  have k1 : ∀ X, hget (([n + 4], X) :: H) [1] = _ := fun X => (Z4 _ _ (Y8 (by omega))).trans g1
  have k2 : ∀ X, hget (([n + 4], X) :: H) [2] = _ := fun X => (Z4 _ _ (Y8 (by omega))).trans g2
  have k3 : ∀ X, hget (([n + 4], X) :: H) [3] = _ := fun X => (Z4 _ _ (Y8 (by omega))).trans g3
  have hy2 : ∀ X, getAll (([n + 4], X) :: H) (namesFrom [] 0 4) = some [.cells [.lst (l.map pmpV)] true 0, .cells [.func 108 [.ptr [2] 0]] true 0, .cells [.func 104 [.ptr [3] 0]] true 0, .cells [.int .i64 N] true 0] := fun X => by show getAll _ [[0], [1], [2], [3]] = _; simp only [getAll, k0 X, k1 X, k2 X, k3 X]
  have hc := fun X => Zbo x N [2] [3] (by decide) K (([n + 4], X) :: H) (n + 4 + 1) [] false [] (k2 X) (k3 X) h1 h2
  simp only [pmpV, Yl] at hc
  by_cases c1 : atE N x.at' x.part 1000000 = 0
  ·rw [if_pos c1] at he
   simp -implicitDefEqProofs only [go_sem, a1, a6, a7, a8, hT, hil, e1, hc, c1, hw1, k1]
   exact ⟨l.length - (i + 1), hkk, trivial, trivial, trivial, trivial, i + 1, n + 1, _, rfl, hi', rfl, rfl, k0 _, k1 _, k2 _, k3 _, he⟩
  ·rw [if_neg c1] at he
   simp -implicitDefEqProofs only [go_sem, a1, a6, a8, hT, hil, e1, hc, c1, k1, he, Try.results155]
   exact ⟨trivial, hy2 _⟩
 ·have hie : i = l.length := by omega
  subst hie
  rw [List.drop_length] at he
  simp only [firstE] at he
  simp -implicitDefEqProofs only [go_sem, hT, hil, he, Try.results155]
  exact ⟨trivial, hy⟩
theorem Zfg (l : List Inl) (N : Int) (bl bf b4 b3 : Nm) (nblbf : bl ≠ bf) (nblb4 : bl ≠ b4) (nblb3 : bl ≠ b3) (nbfb4 : bf ≠ b4) (nbfb3 : bf ≠ b3) (nb4b3 : b4 ≠ b3) (K : Nat) (H : Heap) (n : Nat) (p : Nm) (jr : Bool) (j : Delta) (hbl : hget H bl = some (.cells [.lst (l.map inlV)] true 0)) (hbf : hget H bf = some (.cells [.func 109 [.ptr b4 0]] true 0)) (hb4 : hget H b4 = some (.cells [.func 104 [.ptr b3 0]] true 0)) (hb3 : hget H b3 = some (.cells [.int .i64 N] true 0)) (h1 : 0 <= N) (h2 : N <= 9223372036854775807) (hK : 20 < K) (hl : l.length < K) (hl2 : l.length <= 9223372036854775807) :
  acall cfg (K + 4) 156 [.ptr bl 0, .ptr bf 0] ⟨H, n, p, jr, j⟩ = .ret (.int .i64 (firstE (fun l : Inl => atE N l.at' l.gas 100000) l), ⟨H, n, p, jr, backJ jr [bl, bf, b4, b3] [.cells [.lst (l.map inlV)] true 0, .cells [.func 109 [.ptr b4 0]] true 0, .cells [.func 104 [.ptr b3 0]] true 0, .cells [.int .i64 N] true 0] j⟩) := by
 have eblbf := Ze nblbf
 have ebfbl := Ze (Ne.symm nblbf)
 have eblb4 := Ze nblb4
 have eb4bl := Ze (Ne.symm nblb4)
 have eblb3 := Ze nblb3
 have eb3bl := Ze (Ne.symm nblb3)
 have ebfb4 := Ze nbfb4
 have eb4bf := Ze (Ne.symm nbfb4)
 have ebfb3 := Ze nbfb3
 have eb3bf := Ze (Ne.symm nbfb3)
 have eb4b3 := Ze nb4b3
 have eb3b4 := Ze (Ne.symm nb4b3)
 refine Yo (bs := [bl, bf, b4, b3]) (xs := [.cells [.lst (l.map inlV)] true 0, .cells [.func 109 [.ptr b4 0]] true 0, .cells [.func 104 [.ptr b3 0]] true 0, .cells [.int .i64 N] true 0]) (args' := [.ptr [0] 0, .ptr [1] 0]) (xs' := [.cells [.lst (l.map inlV)] true 0, .cells [.func 109 [.ptr [2] 0]] true 0, .cells [.func 104 [.ptr [3] 0]] true 0, .cells [.int .i64 N] true 0]) Zj4 Zj3 (by show lendM (199 + 1) [bl, bf] [] [] _ = _; rw [Ye 199 rfl hbl]; show lendM (198 + 1) [bf] [bl] [_] _ = _; rw [Ye 198 (by simp only [memNm, ebfbl]) hbf]; show lendM (197 + 1) [b4] [bl, bf] _ _ = _; rw [Ye 197 (by simp only [memNm, eb4bl, eb4bf]) hb4]; show lendM (196 + 1) [b3] [bl, bf, b4] _ _ = _; rw [Ye 196 (by simp only [memNm, eb3bl, eb3bf, eb3b4]) hb3]; exact Zs 195 _ _ _) (by simp only [getAll, hbl, hbf, hb4, hb3]) (by simp only [nodupN, memNm, eblbf, eblb4, eblb3, ebfb4, ebfb3, eb4b3]) rfl (by show renVs [(bl, [0]), (bf, [1]), (b4, [2]), (b3, [3])] _ = _; simp only [renVs, renV, lookN, Zf, ebfbl])
  (by show renBs [(bl, [0]), (bf, [1]), (b4, [2]), (b3, [3])] _ = _; simp only [renBs, renB, renVs, renV, lookN, X8, Zf, eb4bl, eb3bl, eb4bf, eb3bf, eb3b4]) rfl (fun _ => rfl) (fun c h => by rcases List.mem_cons.1 h with rfl | h; rfl; rcases List.mem_cons.1 h with rfl | h; rfl; cases h) (show (2 : Nat) < 200 by decide) rfl (by show renBs [([0], bl), ([1], bf), ([2], b4), ([3], b3)] _ = _; simp only [renBs, renB, renVs, renV, X8]; rfl) ?_
 refine Z9 rfl fun T hT' hA => ?_
 have a0 := hA 0 _ rfl
 have a1 := hA 1 _ rfl
 have hT : T.length = 19 := hT'
 clear hA hT'
 have hz : zipB (namesFrom [] 0 [bl, bf, b4, b3].length) [Blk.cells [.lst (l.map inlV)] true 0, Blk.cells [.func 109 [.ptr [2] 0]] true 0, Blk.cells [.func 104 [.ptr [3] 0]] true 0, Blk.cells [.int .i64 N] true 0] = [([0], .cells [.lst (l.map inlV)] true 0), ([1], .cells [.func 109 [.ptr [2] 0]] true 0), ([2], .cells [.func 104 [.ptr [3] 0]] true 0), ([3], .cells [.int .i64 N] true 0)] := rfl
 have hl3 : [bl, bf, b4, b3].length = 4 := rfl
 rw [hz, hl3]
 simp -implicitDefEqProofs only [go_sem, a0, hT]
 simp only [Z3]
 refine Zj (fun k T s' => T.length = 19 /\ nth T 1 = some (.ptr [1] 0) /\ nth T 6 = some (.lst (l.map inlV)) /\ nth T 7 = some (.int .i64 l.length) /\ ∃ (i n : Nat) (H : Heap), nth T 8 = some (.int .i64 i) /\ i <= l.length /\ k = l.length - i /\ s' = ⟨H, n + 4, [], false, []⟩ /\ hget H [0] = some (.cells [.lst (l.map inlV)] true 0) /\ hget H [1] = some (.cells [.func 109 [.ptr [2] 0]] true 0) /\ hget H [2] = some (.cells [.func 104 [.ptr [3] 0]] true 0) /\ hget H [3] = some (.cells [.int .i64 N] true 0) /\ firstE (fun l : Inl => atE N l.at' l.gas 100000) l = firstE (fun l : Inl => atE N l.at' l.gas 100000) (l.drop i)) (k := l.length) (by omega) ?_ ?_
 ·exact ⟨by simp -implicitDefEqProofs only [go_sem, hT], by simp -implicitDefEqProofs only [go_sem, a1], by simp -implicitDefEqProofs only [go_sem, hT], by simp -implicitDefEqProofs only [go_sem, hT], 0, 0, _, by simp -implicitDefEqProofs only [go_sem, hT] <;> rfl, by omega, rfl, rfl, rfl, rfl, rfl, rfl, rfl⟩
 clear a0 a1 hT T
 rintro k T s' ⟨hT, a1, a6, a7, i, n, H, a8, hi, rfl, rfl, g0, g1, g2, g3, he⟩
 have hy : getAll H (namesFrom [] 0 4) = some [.cells [.lst (l.map inlV)] true 0, .cells [.func 109 [.ptr [2] 0]] true 0, .cells [.func 104 [.ptr [3] 0]] true 0, .cells [.int .i64 N] true 0] := by show getAll H [[0], [1], [2], [3]] = _; simp only [getAll, g0, g1, g2, g3]
 simp -implicitDefEqProofs only [go_sem, a7, a8, hT]
 by_cases hil : (i : Int) < (l.length : Int)
 ·have hi' : i < l.length := by omega
  have e1 := Zh (f := inlV) (l := l) (i := i) (z := 3) hi' rfl
  have hkk : l.length - (i + 1) < l.length - i := by omega
  rw [List.drop_eq_getElem_cons hi'] at he
  have hw1 : wrapF .i64 ((i : Int) + 1) = ((i + 1 : Nat) : Int) := Z5 (by omega) (by omega)
  generalize l[i] = x at *
  simp only [firstE] at he
  have k0 : ∀ X, hget (([n + 4], X) :: H) [0] = _ := fun X => (Z4 _ _ (Y8 (by omega))).trans g0
  have k1 : ∀ X, hget (([n + 4], X) :: H) [1] = _ := fun X => (Z4 _ _ (Y8 (by omega))).trans g1
  have k2 : ∀ X, hget (([n + 4], X) :: H) [2] = _ := fun X => (Z4 _ _ (Y8 (by omega))).trans g2
  have k3 : ∀ X, hget (([n + 4], X) :: H) [3] = _ := fun X => (Z4 _ _ (Y8 (by omega))).trans g3
  have hy2 : ∀ X, getAll (([n + 4], X) :: H) (namesFrom [] 0 4) = some [.cells [.lst (l.map inlV)] true 0, .cells [.func 109 [.ptr [2] 0]] true 0, .cells [.func 104 [.ptr [3] 0]] true 0, .cells [.int .i64 N] true 0] := fun X => by show getAll _ [[0], [1], [2], [3]] = _; simp only [getAll, k0 X, k1 X, k2 X, k3 X]
  have hc := fun X => Zbp x N [2] [3] (by decide) K (([n + 4], X) :: H) (n + 4 + 1) [] false [] (k2 X) (k3 X) h1 h2
  simp only [inlV, Yl] at hc
  by_cases c1 : atE N x.at' x.gas 100000 = 0
  ·rw [if_pos c1] at he
   simp -implicitDefEqProofs only [go_sem, a1, a6, a7, a8, hT, hil, e1, hc, c1, hw1, k1]
   exact ⟨l.length - (i + 1), hkk, trivial, trivial, trivial, trivial, i + 1, n + 1, _, rfl, hi', rfl, rfl, k0 _, k1 _, k2 _, k3 _, he⟩
  ·rw [if_neg c1] at he
   simp -implicitDefEqProofs only [go_sem, a1, a6, a8, hT, hil, e1, hc, c1, k1, he, Try.results156]
   exact ⟨trivial, hy2 _⟩
 ·have hie : i = l.length := by omega
  subst hie
  rw [List.drop_length] at he
  simp only [firstE] at he
  simp -implicitDefEqProofs only [go_sem, hT, hil, he, Try.results156]
  exact ⟨trivial, hy⟩
theorem Zfh (l : List Gtr) (N : Int) (bl bf b4 b3 : Nm) (nblbf : bl ≠ bf) (nblb4 : bl ≠ b4) (nblb3 : bl ≠ b3) (nbfb4 : bf ≠ b4) (nbfb3 : bf ≠ b3) (nb4b3 : b4 ≠ b3) (K : Nat) (H : Heap) (n : Nat) (p : Nm) (jr : Bool) (j : Delta) (hbl : hget H bl = some (.cells [.lst (l.map gtrV)] true 0)) (hbf : hget H bf = some (.cells [.func 110 [.ptr b4 0]] true 0)) (hb4 : hget H b4 = some (.cells [.func 104 [.ptr b3 0]] true 0)) (hb3 : hget H b3 = some (.cells [.int .i64 N] true 0)) (h1 : 0 <= N) (h2 : N <= 9223372036854775807) (hK : 20 < K) (hl : l.length < K) (hl2 : l.length <= 9223372036854775807) :
  acall cfg (K + 4) 157 [.ptr bl 0, .ptr bf 0] ⟨H, n, p, jr, j⟩ = .ret (.int .i64 (firstE (getE N) l), ⟨H, n, p, jr, backJ jr [bl, bf, b4, b3] [.cells [.lst (l.map gtrV)] true 0, .cells [.func 110 [.ptr b4 0]] true 0, .cells [.func 104 [.ptr b3 0]] true 0, .cells [.int .i64 N] true 0] j⟩) := by
 have eblbf := Ze nblbf
 have ebfbl := Ze (Ne.symm nblbf)
 have eblb4 := Ze nblb4
 have eb4bl := Ze (Ne.symm nblb4)
 have eblb3 := Ze nblb3
 have eb3bl := Ze (Ne.symm nblb3)
 have ebfb4 := Ze nbfb4
 have eb4bf := Ze (Ne.symm nbfb4)
 have ebfb3 := Ze nbfb3
 have eb3bf := Ze (Ne.symm nbfb3)
 have eb4b3 := Ze nb4b3
 have eb3b4 := Ze (Ne.symm nb4b3)
 refine Yo (bs := [bl, bf, b4, b3]) (xs := [.cells [.lst (l.map gtrV)] true 0, .cells [.func 110 [.ptr b4 0]] true 0, .cells [.func 104 [.ptr b3 0]] true 0, .cells [.int .i64 N] true 0]) (args' := [.ptr [0] 0, .ptr [1] 0]) (xs' := [.cells [.lst (l.map gtrV)] true 0, .cells [.func 110 [.ptr [2] 0]] true 0, .cells [.func 104 [.ptr [3] 0]] true 0, .cells [.int .i64 N] true 0]) Zj6 Zj5 (by show lendM (199 + 1) [bl, bf] [] [] _ = _; rw [Ye 199 rfl hbl]; show lendM (198 + 1) [bf] [bl] [_] _ = _; rw [Ye 198 (by simp only [memNm, ebfbl]) hbf]; show lendM (197 + 1) [b4] [bl, bf] _ _ = _; rw [Ye 197 (by simp only [memNm, eb4bl, eb4bf]) hb4]; show lendM (196 + 1) [b3] [bl, bf, b4] _ _ = _; rw [Ye 196 (by simp only [memNm, eb3bl, eb3bf, eb3b4]) hb3]; exact Zs 195 _ _ _) (by simp only [getAll, hbl, hbf, hb4, hb3]) (by simp only [nodupN, memNm, eblbf, eblb4, eblb3, ebfb4, ebfb3, eb4b3]) rfl (by show renVs [(bl, [0]), (bf, [1]), (b4, [2]), (b3, [3])] _ = _; simp only [renVs, renV, lookN, Zf, ebfbl])
  (by show renBs [(bl, [0]), (bf, [1]), (b4, [2]), (b3, [3])] _ = _; simp only [renBs, renB, renVs, renV, lookN, X9, Zf, eb4bl, eb3bl, eb4bf, eb3bf, eb3b4]) rfl (fun _ => rfl) (fun c h => by rcases List.mem_cons.1 h with rfl | h; rfl; rcases List.mem_cons.1 h with rfl | h; rfl; cases h) (show (2 : Nat) < 200 by decide) rfl (by show renBs [([0], bl), ([1], bf), ([2], b4), ([3], b3)] _ = _; simp only [renBs, renB, renVs, renV, X9]; rfl) ?_
 refine Z9 rfl fun T hT' hA => ?_
 have a0 := hA 0 _ rfl
 have a1 := hA 1 _ rfl
 have hT : T.length = 19 := hT'
 clear hA hT'
 have hz : zipB (namesFrom [] 0 [bl, bf, b4, b3].length) [Blk.cells [.lst (l.map gtrV)] true 0, Blk.cells [.func 110 [.ptr [2] 0]] true 0, Blk.cells [.func 104 [.ptr [3] 0]] true 0, Blk.cells [.int .i64 N] true 0] = [([0], .cells [.lst (l.map gtrV)] true 0), ([1], .cells [.func 110 [.ptr [2] 0]] true 0), ([2], .cells [.func 104 [.ptr [3] 0]] true 0), ([3], .cells [.int .i64 N] true 0)] := rfl
 have hl3 : [bl, bf, b4, b3].length = 4 := rfl
 rw [hz, hl3]
 simp -implicitDefEqProofs only [go_sem, a0, hT]
 simp only [Z3]
 refine Zj (fun k T s' => T.length = 19 /\ nth T 1 = some (.ptr [1] 0) /\ nth T 6 = some (.lst (l.map gtrV)) /\ nth T 7 = some (.int .i64 l.length) /\ ∃ (i n : Nat) (H : Heap), nth T 8 = some (.int .i64 i) /\ i <= l.length /\ k = l.length - i /\ s' = ⟨H, n + 4, [], false, []⟩ /\ hget H [0] = some (.cells [.lst (l.map gtrV)] true 0) /\ hget H [1] = some (.cells [.func 110 [.ptr [2] 0]] true 0) /\ hget H [2] = some (.cells [.func 104 [.ptr [3] 0]] true 0) /\ hget H [3] = some (.cells [.int .i64 N] true 0) /\ firstE (getE N) l = firstE (getE N) (l.drop i)) (k := l.length) (by omega) ?_ ?_
 ·exact ⟨by simp -implicitDefEqProofs only [go_sem, hT], by simp -implicitDefEqProofs only [go_sem, a1], by simp -implicitDefEqProofs only [go_sem, hT], by simp -implicitDefEqProofs only [go_sem, hT], 0, 0, _, by simp -implicitDefEqProofs only [go_sem, hT] <;> rfl, by omega, rfl, rfl, rfl, rfl, rfl, rfl, rfl⟩
 clear a0 a1 hT T
 rintro k T s' ⟨hT, a1, a6, a7, i, n, H, a8, hi, rfl, rfl, g0, g1, g2, g3, he⟩
 have hy : getAll H (namesFrom [] 0 4) = some [.cells [.lst (l.map gtrV)] true 0, .cells [.func 110 [.ptr [2] 0]] true 0, .cells [.func 104 [.ptr [3] 0]] true 0, .cells [.int .i64 N] true 0] := by show getAll H [[0], [1], [2], [3]] = _; simp only [getAll, g0, g1, g2, g3]
 simp -implicitDefEqProofs only [go_sem, a7, a8, hT]
 by_cases hil : (i : Int) < (l.length : Int)
 ·have hi' : i < l.length := by omega
  have e1 := Zh (f := gtrV) (l := l) (i := i) (z := 5) hi' rfl
  have hkk : l.length - (i + 1) < l.length - i := by omega
  rw [List.drop_eq_getElem_cons hi'] at he
  have hw1 : wrapF .i64 ((i : Int) + 1) = ((i + 1 : Nat) : Int) := Z5 (by omega) (by omega)
  generalize l[i] = x at *
  simp only [firstE] at he
  have k0 : ∀ X, hget (([n + 4], X) :: H) [0] = _ := fun X => (Z4 _ _ (Y8 (by omega))).trans g0
  have k1 : ∀ X, hget (([n + 4], X) :: H) [1] = _ := fun X => (Z4 _ _ (Y8 (by omega))).trans g1
  have k2 : ∀ X, hget (([n + 4], X) :: H) [2] = _ := fun X => (Z4 _ _ (Y8 (by omega))).trans g2
  have k3 : ∀ X, hget (([n + 4], X) :: H) [3] = _ := fun X => (Z4 _ _ (Y8 (by omega))).trans g3
  have hy2 : ∀ X, getAll (([n + 4], X) :: H) (namesFrom [] 0 4) = some [.cells [.lst (l.map gtrV)] true 0, .cells [.func 110 [.ptr [2] 0]] true 0, .cells [.func 104 [.ptr [3] 0]] true 0, .cells [.int .i64 N] true 0] := fun X => by show getAll _ [[0], [1], [2], [3]] = _; simp only [getAll, k0 X, k1 X, k2 X, k3 X]
  have hc := fun X => Zdm x N [2] [3] (by decide) K (([n + 4], X) :: H) (n + 4 + 1) [] false [] (k2 X) (k3 X) h1 h2
  simp only [gtrV, Yl] at hc
  by_cases c1 : getE N x = 0
  ·rw [if_pos c1] at he
   simp -implicitDefEqProofs only [go_sem, a1, a6, a7, a8, hT, hil, e1, hc, c1, hw1, k1]
   exact ⟨l.length - (i + 1), hkk, trivial, trivial, trivial, trivial, i + 1, n + 1, _, rfl, hi', rfl, rfl, k0 _, k1 _, k2 _, k3 _, he⟩
  ·rw [if_neg c1] at he
   simp -implicitDefEqProofs only [go_sem, a1, a6, a8, hT, hil, e1, hc, c1, k1, he, Try.results157]
   exact ⟨trivial, hy2 _⟩
 ·have hie : i = l.length := by omega
  subst hie
  rw [List.drop_length] at he
  simp only [firstE] at he
  simp -implicitDefEqProofs only [go_sem, hT, hil, he, Try.results157]
  exact ⟨trivial, hy⟩
end Go.Proofs.Ytgnpnfkncbnjnaa
namespace Go.Proofs.Ytgnpnfkncbnjnaa
attribute [local go_sem_proc] Int.reduceEq Int.reduceNeg Nat.reduceEqDiff Nat.reduceLT Nat.reduceAdd Nat.reduceSub Nat.reduceMul Int.reduceLE Int.reduceLT Int.reduceToNat Nat.reduceLeDiff
attribute [local go_sem] Int.toNat_natCast Bool.not_true Bool.not_false
open Go Go.Am
attribute [local congr] Za Z6 Z7
attribute [local go_sem] Go.Am.buildSliceA Go.Am.frozen Go.Am.freezeG Go.Am.freezeGs Go.Am.minmax
@[go_sem] theorem Zri : ofConst .nilFunc = some .nilf := rfl
theorem Zfi (l : List AV) (g : FuncId) (c : List AV) (K : Nat) (s : St) : acall cfg (K + 1) 112 [.lst l, .func g c] s = .ret (.func 153 [.ptr s.name 0, .ptr (s.new (.cells [.lst l] true 0)).name 0], (s.new (.cells [.lst l] true 0)).new (.cells [.func g c] true 0)) := by
 suffices h : (acall cfg (K + 1) 112 [.lst l, .func g c] s).Does fun x => x = (.func 153 [.ptr s.name 0, .ptr (s.new (.cells [.lst l] true 0)).name 0], (s.new (.cells [.lst l] true 0)).new (.cells [.func g c] true 0)) by
  obtain ⟨a, e, rfl⟩ := h; exact e
 rw [Z4n Zi6 Zi5]
 refine Z9 rfl fun T hT' hA => ?_
 have a0 := hA 0 _ rfl
 have a1 := hA 1 _ rfl
 have hT : T.length = 6 := hT'
 clear hA hT'
 obtain ⟨H, n, p, jr, j⟩ := s
 simp -implicitDefEqProofs only [go_sem, a0, a1, hT, Try.results112]
theorem Zfj (l : List AV) (g : FuncId) (c : List AV) (K : Nat) (s : St) : acall cfg (K + 1) 114 [.lst l, .func g c] s = .ret (.func 154 [.ptr s.name 0, .ptr (s.new (.cells [.lst l] true 0)).name 0], (s.new (.cells [.lst l] true 0)).new (.cells [.func g c] true 0)) := by
 suffices h : (acall cfg (K + 1) 114 [.lst l, .func g c] s).Does fun x => x = (.func 154 [.ptr s.name 0, .ptr (s.new (.cells [.lst l] true 0)).name 0], (s.new (.cells [.lst l] true 0)).new (.cells [.func g c] true 0)) by
  obtain ⟨a, e, rfl⟩ := h; exact e
 rw [Z4n Zia Zi9]
 refine Z9 rfl fun T hT' hA => ?_
 have a0 := hA 0 _ rfl
 have a1 := hA 1 _ rfl
 have hT : T.length = 6 := hT'
 clear hA hT'
 obtain ⟨H, n, p, jr, j⟩ := s
 simp -implicitDefEqProofs only [go_sem, a0, a1, hT, Try.results114]
theorem Zfk (l : List AV) (g : FuncId) (c : List AV) (K : Nat) (s : St) : acall cfg (K + 1) 115 [.lst l, .func g c] s = .ret (.func 155 [.ptr s.name 0, .ptr (s.new (.cells [.lst l] true 0)).name 0], (s.new (.cells [.lst l] true 0)).new (.cells [.func g c] true 0)) := by
 suffices h : (acall cfg (K + 1) 115 [.lst l, .func g c] s).Does fun x => x = (.func 155 [.ptr s.name 0, .ptr (s.new (.cells [.lst l] true 0)).name 0], (s.new (.cells [.lst l] true 0)).new (.cells [.func g c] true 0)) by
  obtain ⟨a, e, rfl⟩ := h; exact e
 rw [Z4n Zic Zib]
 refine Z9 rfl fun T hT' hA => ?_
 have a0 := hA 0 _ rfl
 have a1 := hA 1 _ rfl
 have hT : T.length = 6 := hT'
 clear hA hT'
 obtain ⟨H, n, p, jr, j⟩ := s
 simp -implicitDefEqProofs only [go_sem, a0, a1, hT, Try.results115]
theorem Zfl (l : List AV) (g : FuncId) (c : List AV) (K : Nat) (s : St) : acall cfg (K + 1) 116 [.lst l, .func g c] s = .ret (.func 156 [.ptr s.name 0, .ptr (s.new (.cells [.lst l] true 0)).name 0], (s.new (.cells [.lst l] true 0)).new (.cells [.func g c] true 0)) := by
 suffices h : (acall cfg (K + 1) 116 [.lst l, .func g c] s).Does fun x => x = (.func 156 [.ptr s.name 0, .ptr (s.new (.cells [.lst l] true 0)).name 0], (s.new (.cells [.lst l] true 0)).new (.cells [.func g c] true 0)) by
  obtain ⟨a, e, rfl⟩ := h; exact e
 rw [Z4n Zie Zid]
 refine Z9 rfl fun T hT' hA => ?_
 have a0 := hA 0 _ rfl
 have a1 := hA 1 _ rfl
 have hT : T.length = 6 := hT'
 clear hA hT'
 obtain ⟨H, n, p, jr, j⟩ := s
 simp -implicitDefEqProofs only [go_sem, a0, a1, hT, Try.results116]
theorem Zfm (l : List AV) (g : FuncId) (c : List AV) (K : Nat) (s : St) : acall cfg (K + 1) 117 [.lst l, .func g c] s = .ret (.func 157 [.ptr s.name 0, .ptr (s.new (.cells [.lst l] true 0)).name 0], (s.new (.cells [.lst l] true 0)).new (.cells [.func g c] true 0)) := by
 suffices h : (acall cfg (K + 1) 117 [.lst l, .func g c] s).Does fun x => x = (.func 157 [.ptr s.name 0, .ptr (s.new (.cells [.lst l] true 0)).name 0], (s.new (.cells [.lst l] true 0)).new (.cells [.func g c] true 0)) by
  obtain ⟨a, e, rfl⟩ := h; exact e
 rw [Z4n Zig Zif]
 refine Z9 rfl fun T hT' hA => ?_
 have a0 := hA 0 _ rfl
 have a1 := hA 1 _ rfl
 have hT : T.length = 6 := hT'
 clear hA hT'
 obtain ⟨H, n, p, jr, j⟩ := s
 simp -implicitDefEqProofs only [go_sem, a0, a1, hT, Try.results117]
structure Chk' where
 f : FuncId
 c : List AV
 e : Int
 J : Delta -> Delta
def Chk'.av (x : Chk') : AV := .func x.f x.c
def firstJ : List Chk' -> Delta -> Delta
 | [], j => j
 | x :: r, j => if x.e = 0 then firstJ r (x.J j) else x.J j
theorem Z9b (cs : List Chk') (K : Nat) (H : Heap) (n : Nat) (p : Nm) (jr : Bool) (j : Delta) (hc : ∀ x ∈ cs, ∀ j, acall cfg K x.f x.c ⟨H, n, p, jr, j⟩ = .ret (.int .i64 x.e, ⟨H, n, p, jr, x.J j⟩))
  (hl : cs.length < K) (hl2 : cs.length <= 9223372036854775807) :
  acall cfg (K + 1) 111 [.lst (cs.map Chk'.av)] ⟨H, n, p, jr, j⟩ = .ret (.int .i64 (firstE Chk'.e cs), ⟨H, n, p, jr, firstJ cs j⟩) := by
 suffices h : (acall cfg (K + 1) 111 [.lst (cs.map Chk'.av)] ⟨H, n, p, jr, j⟩).Does fun x => x = (.int .i64 (firstE Chk'.e cs), ⟨H, n, p, jr, firstJ cs j⟩) by
  obtain ⟨a, e, rfl⟩ := h; exact e
 rw [Z4n Zi4 Zi3]
 refine Z9 rfl fun T hT' hA => ?_
 have a0 := hA 0 _ rfl
 have hT : T.length = 18 := hT'
 clear hA hT'
 simp -implicitDefEqProofs only [go_sem, a0, hT]
 simp only [Z3]
 refine Zj (fun k T s' => T.length = 18 /\ nth T 6 = some (.lst (cs.map Chk'.av)) /\ nth T 7 = some (.int .i64 cs.length) /\ ∃ (i : Nat) (j2 : Delta), nth T 8 = some (.int .i64 i) /\ i <= cs.length /\ k = cs.length - i /\ s' = ⟨H, n, p, jr, j2⟩ /\ firstE Chk'.e cs = firstE Chk'.e (cs.drop i) /\ firstJ cs j = firstJ (cs.drop i) j2) (k := cs.length) (by omega) ?_ ?_
 ·exact ⟨by simp -implicitDefEqProofs only [go_sem, hT], by simp -implicitDefEqProofs only [go_sem, hT], by simp -implicitDefEqProofs only [go_sem, hT], 0, j, by simp -implicitDefEqProofs only [go_sem, hT] <;> rfl, by omega, rfl, rfl, rfl, rfl⟩
 clear a0 hT T
 rintro k T s' ⟨hT, a6, a7, i, j2, a8, hi, rfl, rfl, he, hj⟩
 simp -implicitDefEqProofs only [go_sem, a7, a8, hT]
 by_cases hil : (i : Int) < (cs.length : Int)
 ·have hi' : i < cs.length := by omega
  have e1 := Zh (f := Chk'.av) (l := cs) (i := i) (z := 1) hi' rfl
  have hkk : cs.length - (i + 1) < cs.length - i := by omega
  have hc1 := hc _ (List.getElem_mem hi')
  rw [List.drop_eq_getElem_cons hi'] at he hj
  have hw1 : wrapF .i64 ((i : Int) + 1) = ((i + 1 : Nat) : Int) := Z5 (by omega) (by omega)
  generalize cs[i] = x at *
  simp only [firstE] at he
  simp only [firstJ] at hj
  simp only [Chk'.av] at e1
  by_cases c1 : x.e = 0
  ·rw [if_pos c1] at he hj
   simp -implicitDefEqProofs only [go_sem, a6, a7, a8, hT, hil, e1, hc1, c1, hw1]
   exact ⟨cs.length - (i + 1), hkk, trivial, trivial, trivial, i + 1, _, rfl, hi', rfl, rfl, he, hj⟩
  ·rw [if_neg c1] at he hj
   simp -implicitDefEqProofs only [go_sem, a6, a8, hT, hil, e1, hc1, c1, he, hj, Try.results111]
 ·have hie : i = cs.length := by omega
  subst hie
  rw [List.drop_length] at he hj
  simp only [firstE] at he
  simp only [firstJ] at hj
  simp -implicitDefEqProofs only [go_sem, hT, hil, he, hj, Try.results111]
end Go.Proofs.Ytgnpnfkncbnjnaa
namespace Go.Am
open Go
theorem Zdn {C : Cfg} {t kt vt : TypeId} (hd : C.desc t = some (.map kt vt)) {m : Nm} {es : List (AV × AV)} {fz : Bool} {s : St} (hm : hget s.H m = some (.map es fz)) :
  rangeA C t (.map m) s = .ret (.ptr (s.put m (.map es true)).name 0, (s.put m (.map es true)).new (.mapIter m es none)) := by
 unfold rangeA
 rw [hd]
 simp only [Z8, Yb, hm, Tr.bind_ret, Y7, X2, Ya]
theorem Zfn {r m : Nm} {es left : List (AV × AV)} {cur : Option (AV × AV)} {s : St} {Q : AV × St -> Prop} (hr : hget s.H r = some (.mapIter m left cur)) (hm : hget s.H m = some (.map es true))
  (h0 : left = [] -> Q (.tuple [.bool false], s)) (h1 : ∀ (i : Nat) (h : i < left.length), Q (.tuple [.bool true, left[i].1, left[i].2], s.put r (.mapIter m (dropAt left i) (some left[i])))) :
  (nextA (.ptr r 0) false s).All Q := by
 unfold nextA
 simp only [Z8, Yb, hr, hm, Tr.bind_ret]
 match left, h0, h1, hr with
 | [], h0, _, _ => exact h0 rfl
 | [e], _, h1, hr =>
  simp only [Z8, Y7, hr, Tr.bind_ret, Ya]
  exact h1 0 (by simp)
 | x :: y :: l, _, h1, hr =>
  show ((askM (x :: y :: l).length s).bind _).All Q
  intro i hi
  show Tr.All Q ((match nth (x :: y :: l) i with
    | some e => (putM r (.mapIter m (dropAt (x :: y :: l) i) (some e))).bind fun _ => M.ret (AV.tuple [.bool true, e.1, e.2])
    | none => M.fail) s)
  rw [Zo, List.getElem?_eq_getElem hi]
  simp only [Z8, Y7, hr, Tr.bind_ret, Ya]
  exact h1 i hi
theorem Zjn {r m : Nm} {es left : List (AV × AV)} {e : AV × AV} {s : St} (hr : hget s.H r = some (.mapIter m left (some e))) (hm : hget s.H m = some (.map es true)) :
  entryA (.ptr r 0) s = .ret (.tuple [e.1, e.2], s) := by
 unfold entryA
 simp only [Z8, Yb, hr, hm, Tr.bind_ret, Ya]
theorem Zai {α : Type} : ∀ (l : List α) (i : Nat) (h : i < l.length) (x : α), x ∈ l ↔ x = l[i] \/ x ∈ dropAt l i
 | a :: r, 0, h, x => by simp [dropAt]
 | a :: r, i + 1, h, x => by
  simp only [dropAt, List.mem_cons, List.getElem_cons_succ]
  rw [Zai r i (by simpa using h) x]
  constructor
  ·rintro (h | h | h)
   ·exact .inr (.inl h)
   ·exact .inl h
   ·exact .inr (.inr h)
  ·rintro (h | h | h)
   ·exact .inr (.inl h)
   ·exact .inl h
   ·exact .inr (.inr h)
theorem Zaj {α : Type} : ∀ (l : List α) (i : Nat), i < l.length -> (dropAt l i).length = l.length - 1
 | a :: r, 0, h => by simp [dropAt]
 | a :: r, i + 1, h => by
  simp only [dropAt, List.length_cons]
  rw [Zaj r i (by simpa using h)]
  simp at h; omega
theorem Zak {α β : Type} (f : α -> β) : ∀ (l : List α) (i : Nat), dropAt (l.map f) i = (dropAt l i).map f
 | [], 0 => rfl
 | [], _ + 1 => rfl
 | a :: r, 0 => rfl
 | a :: r, i + 1 => by simp only [List.map_cons, dropAt, Zak f r i]
end Go.Am
namespace Go.Proofs.Ytgnpnfkncbnjnaa
open Go Go.Am
def keysIn (P : Int -> Prop) (es : List (Int × Rg)) : Prop := ∀ e ∈ es, P e.1
def KeyND : List (Int × Rg) -> Prop
 | [] => True
 | e :: r => (∀ x ∈ r, x.1 ≠ e.1) /\ KeyND r
theorem Z1r {P : Int -> Prop} {k : Int} {x : Rg} (hk : P k) : ∀ {es : List (Int × Rg)}, keysIn P es -> keysIn P (setS es k x)
 | [], _ => fun e he => by
  simp only [setS, List.mem_singleton] at he
  subst he; exact hk
 | a :: r, h => fun e he => by
  unfold setS at he
  split at he
  ·rcases List.mem_cons.1 he with rfl | he
   ·exact hk
   ·exact h e (List.mem_cons_of_mem _ he)
  ·rcases List.mem_cons.1 he with rfl | he
   ·exact h _ List.mem_cons_self
   ·exact Z1r hk (fun e he => h e (List.mem_cons_of_mem _ he)) e he
theorem Zal {k : Int} {x : Rg} : ∀ {es : List (Int × Rg)}, KeyND es -> KeyND (setS es k x)
 | [], _ => ⟨fun _ h => (by cases h), trivial⟩
 | a :: r, h => by
  unfold setS
  split
  ·rename_i hk
   refine ⟨fun y hy => ?_, h.2⟩
   show y.1 ≠ k
   rw [hk]; exact h.1 y hy
  ·rename_i hk
   refine ⟨?_, Zal h.2⟩
   exact Z1r (P := fun q => q ≠ a.1) hk h.1
theorem Zdo : ∀ {es : List (Int × Rg)}, KeyND es -> ∀ e ∈ es, getS es e.1 = e.2
 | [], _, _, h => by cases h
 | a :: r, hn, e, h => by
  unfold getS
  rcases List.mem_cons.1 h with rfl | h
  ·rw [if_pos rfl]
  ·rw [if_neg (hn.1 e h)]
   exact Zdo hn.2 e h
theorem Zdp : ∀ (es : List (Int × Rg)) (k : Int), (k, getS es k) ∈ es \/ getS es k = ⟨0, 0⟩
 | [], _ => .inr rfl
 | a :: r, k => by
  unfold getS
  split
  ·rename_i h; subst h; exact .inl List.mem_cons_self
  ·rcases Zdp r k with h | h
   ·exact .inl (List.mem_cons_of_mem _ h)
   ·exact .inr h
theorem Z45 {P : Int -> Prop} (shut : List Int) : ∀ (l : List Pip) (i : Nat) (es : List (Int × Rg)), (∀ p ∈ l, P p.a /\ P p.b) -> keysIn P es -> KeyND es -> keysIn P (leaveP shut i es l) /\ KeyND (leaveP shut i es l)
 | [], _, _, _, h1, h2 => ⟨h1, h2⟩
 | p :: r, i, es, h, h1, h2 => by
  unfold leaveP
  have hp := h p List.mem_cons_self
  have hr := fun q hq => h q (List.mem_cons_of_mem _ hq)
  split
  ·exact Z45 shut r _ _ hr h1 h2
  ·exact Z45 shut r _ _ hr (Z1r hp.2 (Z1r hp.1 h1)) (Zal (Zal h2))
theorem Z7t {P : Int -> Prop} : ∀ (l : List Pmp) (es : List (Int × Rg)), (∀ q ∈ l, P q.at') -> keysIn P es -> KeyND es -> keysIn P (leaveM es l) /\ KeyND (leaveM es l)
 | [], _, _, h1, h2 => ⟨h1, h2⟩
 | q :: r, es, h, h1, h2 => by
  unfold leaveM
  exact Z7t r _ (fun x hx => h x (List.mem_cons_of_mem _ hx)) (Z1r (h q List.mem_cons_self) h1) (Zal h2)
theorem Yj {α : Type} {f : α -> Int} : ∀ {l : List α}, firstE f l = 0 -> ∀ a ∈ l, f a = 0
 | [], _, _, h => by cases h
 | x :: r, he, a, h => by
  unfold firstE at he
  split at he
  ·rename_i hx
   rcases List.mem_cons.1 h with rfl | h
   ·exact hx
   ·exact Yj he a h
  ·contradiction
theorem Z9c {n a most : Int} {r : Rg} (h : atE n a r most = 0) : 0 <= a /\ a < n := by
 unfold atE at h
 split at h
 ·rename_i hc; unfold fromB at hc; simp only [decide_eq_true_eq] at hc; omega
 ·exact absurd h (by decide)
theorem Z6g {n : Int} {p : Pip} (h : pipE n p = 0) : (0 <= p.a /\ p.a < n) /\ (0 <= p.b /\ p.b < n) /\ p.a ≠ p.b /\ spansE p.out 1000000 = 0 /\ spansE p.back 1000000 = 0 := by
 unfold pipE at h
 split at h
 ·rename_i hc
  unfold fromB at hc; simp only [decide_eq_true_eq] at hc
  split at h
  ·exact absurd h (by decide)
  ·rename_i hne
   split at h
   ·rename_i h0; exact ⟨⟨by omega, by omega⟩, ⟨by omega, by omega⟩, hne, h0, h⟩
   ·contradiction
 ·exact absurd h (by decide)
theorem Zfo (v : Vac) (shut : List Int) (h : partsE v = 0) : keysIn (fun k => 0 <= k /\ k < v.vessels.length) (leaveL v shut) /\ KeyND (leaveL v shut) := by
 unfold partsE at h
 split at h
 ·rename_i h1
  split at h
  ·rename_i h2
   have a := Z45 (P := fun k => 0 <= k /\ k < (v.vessels.length : Int)) shut v.pipes 0 [] (fun p hp => ⟨(Z6g (Yj h1 p hp)).1, (Z6g (Yj h1 p hp)).2.1⟩) (fun _ h => by cases h) trivial
   exact Z7t v.pumps _ (fun q hq => Z9c (Yj h2 q hq)) a.1 a.2
  ·contradiction
 ·contradiction
theorem Z6h (k : Int) (x : Rg) : ∀ es : List (Int × Rg), (setS es k x).length <= es.length + 1
 | [] => by simp [setS]
 | a :: r => by
  unfold setS
  split
  ·simp
  ·simp only [List.length_cons]; have := Z6h k x r; omega
theorem Z2d (shut : List Int) : ∀ (l : List Pip) (i : Nat) (es : List (Int × Rg)), (leaveP shut i es l).length <= es.length + 2 * l.length
 | [], _, es => by simp [leaveP]
 | p :: r, i, es => by
  unfold leaveP
  split
  ·have := Z2d shut r (i + 1) es; simp only [List.length_cons]; omega
  ·refine Nat.le_trans (Z2d shut r _ _) ?_
   have h1 := Z6h p.a (plusR (getS es p.a) p.out) es
   have h2 := Z6h p.b (plusR (getS (setS es p.a (plusR (getS es p.a) p.out)) p.b) p.back) (setS es p.a (plusR (getS es p.a) p.out))
   simp only [List.length_cons]; omega
theorem Z5i : ∀ (l : List Pmp) (es : List (Int × Rg)), (leaveM es l).length <= es.length + l.length
 | [], es => by simp [leaveM]
 | q :: r, es => by
  unfold leaveM
  refine Nat.le_trans (Z5i r _) ?_
  have h1 := Z6h q.at' (plusR (getS es q.at') q.part) es
  simp only [List.length_cons]; omega
theorem Zdq (v : Vac) (shut : List Int) : (leaveL v shut).length <= 2 * v.pipes.length + v.pumps.length := by
 unfold leaveL
 refine Nat.le_trans (Z5i _ _) ?_
 have := Z2d shut v.pipes 0 []
 simp only [List.length_nil] at this
 omega
theorem Z6i (v : Vac) : ∀ (k i : Nat), outB v i k = true ↔ ∃ m, i <= m /\ m < i + k /\ 1000000 < (outR v m []).hi
 | 0, i => by
  constructor
  ·intro h; cases h
  ·rintro ⟨m, h1, h2, _⟩; omega
 | k + 1, i => by
  unfold outB
  rw [Bool.or_eq_true, decide_eq_true_eq, Z6i v k (i + 1)]
  constructor
  ·rintro (h | ⟨m, h1, h2, h3⟩)
   ·exact ⟨i, by omega, by omega, h⟩
   ·exact ⟨m, by omega, by omega, h3⟩
  ·rintro ⟨m, h1, h2, h3⟩
   by_cases h : m = i
   ·subst h; exact .inl h3
   ·exact .inr ⟨m, by omega, by omega, h3⟩
theorem Zfp (v : Vac) (h : partsE v = 0) (e : Int × Rg) (he : e ∈ leaveL v []) (hi : 1000000 < e.2.hi) : outB v 0 v.vessels.length = true := by
 obtain ⟨h1, h2⟩ := Zfo v [] h
 rw [Z6i]
 have hk := h1 e he
 refine ⟨e.1.toNat, by omega, by omega, ?_⟩
 rw [show ((e.1.toNat : Nat) : Int) = e.1 by omega, <- Z44, Zdo h2 e he]
 exact hi
theorem Zdr (v : Vac) (h : ∀ e ∈ leaveL v [], ¬ 1000000 < e.2.hi) : ¬ outB v 0 v.vessels.length = true := by
 rw [Z6i]
 rintro ⟨m, _, _, hm⟩
 rw [<- Z44] at hm
 rcases Zdp (leaveL v []) m with h1 | h1
 ·exact h _ h1 hm
 ·rw [h1] at hm; exact absurd hm (by decide)
end Go.Proofs.Ytgnpnfkncbnjnaa
namespace Go.Proofs.Ytgnpnfkncbnjnaa
attribute [local go_sem_proc] Int.reduceEq Int.reduceNeg Nat.reduceEqDiff Nat.reduceLT Nat.reduceAdd Nat.reduceSub Nat.reduceMul Int.reduceLE Int.reduceLT Int.reduceToNat Nat.reduceLeDiff
attribute [local go_sem] Int.toNat_natCast Bool.not_true Bool.not_false
open Go Go.Am
attribute [local congr] Za Z6 Z7
attribute [local go_sem] Go.Am.buildSliceA Go.Am.frozen Go.Am.freezeG Go.Am.freezeGs
def max3 (a b c : Int) : Int := if (if a < b then b else a) < c then c else if a < b then b else a
theorem mm3 (a b c : Int) : minmax true (.int .i64 a) [.int .i64 b, .int .i64 c] = some (.int .i64 (max3 a b c)) := by
 unfold max3
 by_cases h : a < b
 ·rw [if_pos h]
  by_cases h2 : b < c
  ·rw [if_pos h2]; simp [minmax, h, h2]
  ·rw [if_neg h2]; simp [minmax, h, h2]
 ·rw [if_neg h]
  by_cases h2 : a < c
  ·rw [if_pos h2]; simp [minmax, h, h2]
  ·rw [if_neg h2]; simp [minmax, h, h2]
theorem Zds (a b c : Int) : (decide (8 < a) || decide (8 < b) || decide (8 < c)) = decide (8 < max3 a b c) := by
 rw [Bool.eq_iff_iff]; simp only [Bool.or_eq_true, decide_eq_true_eq]
 unfold max3
 split <;> split <;> omega
theorem Z5j (v : Vac) (K : Nat) (s : St) (hK : 50 < K) (hv : v.Lens K) : acall cfg (K + 9) 49 [vacV v] s = .ret (.int .i64 (checkE v), s) := by
 refine Z7i Zlc Zlb (by first | rfl | simp -implicitDefEqProofs only [redoH, redo1, go_sem]) (by first | rfl | simp -implicitDefEqProofs only [go_sem]) (by first | rfl | simp -implicitDefEqProofs only [redoH, redo1, go_sem]) ?_
 refine Zf3 rfl fun T hT' hA => ?_
 have a0 := hA 0 _ rfl
 have hT : T.length = 77 := hT'
 clear hA hT'
 have hlc := fun s => Z2n v [] (K + 5) s ⟨⟨by have := hv.ves.1; omega, hv.ves.2⟩, ⟨by have := hv.pip.1; omega, hv.pip.2⟩, ⟨by have := hv.pmp.1; omega, hv.pmp.2⟩, ⟨by have := hv.inl.1; omega, hv.inl.2⟩, ⟨by have := hv.gtr.1; omega, hv.gtr.2⟩, hv.bands⟩ (by simp) (by simp)
 obtain ⟨⟨hv1, hv2⟩, ⟨hp1, hp2⟩, ⟨hm1, hm2⟩, ⟨hi1, hi2⟩, ⟨hg1, hg2⟩, hbd⟩ := hv
 simp only [vacV, List.map_nil] at hlc
 have q1 : (8 : Int) < (v.vessels.length : Int) ↔ 8 < v.vessels.length := by omega
 have q2 : (16 : Int) < (v.pipes.length : Int) ↔ 16 < v.pipes.length := by omega
 have q3 : (8 : Int) < (v.pumps.length : Int) ↔ 8 < v.pumps.length := by omega
 have q4 : (8 : Int) < (v.leaks.length : Int) ↔ 8 < v.leaks.length := by omega
 have q5 : (8 : Int) < (v.getters.length : Int) ↔ 8 < v.getters.length := by omega
 unfold checkE
 simp -implicitDefEqProofs only [go_sem, a0, hT]
 by_cases c1 : v.vessels.length = 0
 ·have c1' : (v.vessels.length : Int) = 0 := by omega
  rw [if_pos c1]
  simp -implicitDefEqProofs only [go_sem, hT, c1', Try.results49]
 ·have c1' : ¬ (v.vessels.length : Int) = 0 := by omega
  rw [if_neg c1]
  simp -implicitDefEqProofs only [go_sem, hT, c1']
  have hov : overB v = (decide ((8 : Int) < (v.vessels.length : Int)) || decide ((16 : Int) < (v.pipes.length : Int)) || decide ((8 : Int) < (v.pumps.length : Int)) || decide ((8 : Int) < (v.leaks.length : Int)) || decide ((8 : Int) < (v.getters.length : Int))) := by
   unfold overB
   simp only [q1, q2, q3, q4, q5]
  rw [hov]
  by_cases o1 : (8 : Int) < (v.vessels.length : Int)
  ·simp -implicitDefEqProofs only [go_sem, hT, o1, Bool.true_or, Try.results49]
  ·by_cases o2 : (16 : Int) < (v.pipes.length : Int)
   ·simp -implicitDefEqProofs only [go_sem, hT, o1, o2, Bool.true_or, Bool.or_true, Try.results49]
   ·rw [show ((decide ((8 : Int) < (v.vessels.length : Int)) || decide ((16 : Int) < (v.pipes.length : Int)) || decide ((8 : Int) < (v.pumps.length : Int)) || decide ((8 : Int) < (v.leaks.length : Int)) || decide ((8 : Int) < (v.getters.length : Int)))) = decide (8 < max3 v.pumps.length v.leaks.length v.getters.length) by rw [<- Zds, decide_eq_false o1, decide_eq_false o2]; rfl]
    simp -implicitDefEqProofs only [go_sem, hT, o1, o2, mm3]
    by_cases o3 : 8 < max3 v.pumps.length v.leaks.length v.getters.length
    ·simp -implicitDefEqProofs only [go_sem, hT, o3, Try.results49]
    ·clear q1 q2 q3 q4 q5 hov
     simp -implicitDefEqProofs only [go_sem, hT, o3, Bool.false_eq_true, if_false]
     have hne1 : (0 : Int) <= v.vessels.length := by omega
     have hN : (v.vessels.length : Int) <= 9223372036854775807 := by omega
     let cs : List Chk' := [⟨153, [.ptr [3, 2, 0] 0, .ptr [3, 2, 1] 0], firstE vesE v.vessels, backJ true [[3, 2, 0], [3, 2, 1]] [.cells [.lst (v.vessels.map vesV)] true 0, .cells [.func 113 []] true 0]⟩,
      ⟨154, [.ptr [3, 6, 0] 0, .ptr [3, 6, 1] 0], firstE (pipE v.vessels.length) v.pipes, backJ true [[3, 6, 0], [3, 6, 1], [1]] [.cells [.lst (v.pipes.map pipV)] true 0, .cells [.func 107 [.ptr [1] 0]] true 0, .cells [.int .i64 v.vessels.length] true 0]⟩,
      ⟨155, [.ptr [3, 10, 0] 0, .ptr [3, 10, 1] 0], firstE (fun q : Pmp => atE v.vessels.length q.at' q.part 1000000) v.pumps, backJ true [[3, 10, 0], [3, 10, 1], [2], [1]] [.cells [.lst (v.pumps.map pmpV)] true 0, .cells [.func 108 [.ptr [2] 0]] true 0, .cells [.func 104 [.ptr [1] 0]] true 0, .cells [.int .i64 v.vessels.length] true 0]⟩,
      ⟨156, [.ptr [3, 14, 0] 0, .ptr [3, 14, 1] 0], firstE (fun l : Inl => atE v.vessels.length l.at' l.gas 100000) v.leaks, backJ true [[3, 14, 0], [3, 14, 1], [2], [1]] [.cells [.lst (v.leaks.map inlV)] true 0, .cells [.func 109 [.ptr [2] 0]] true 0, .cells [.func 104 [.ptr [1] 0]] true 0, .cells [.int .i64 v.vessels.length] true 0]⟩,
      ⟨157, [.ptr [3, 18, 0] 0, .ptr [3, 18, 1] 0], firstE (getE v.vessels.length) v.getters, backJ true [[3, 18, 0], [3, 18, 1], [2], [1]] [.cells [.lst (v.getters.map gtrV)] true 0, .cells [.func 110 [.ptr [2] 0]] true 0, .cells [.func 104 [.ptr [1] 0]] true 0, .cells [.int .i64 v.vessels.length] true 0]⟩]
     have hfc : ∀ H n p, hget H [1] = some (.cells [.int .i64 v.vessels.length] true 0) -> hget H [2] = some (.cells [.func 104 [.ptr [1] 0]] true 0) -> hget H [3, 2, 0] = some (.cells [.lst (v.vessels.map vesV)] true 0) -> hget H [3, 2, 1] = some (.cells [.func 113 []] true 0) ->
       hget H [3, 6, 0] = some (.cells [.lst (v.pipes.map pipV)] true 0) -> hget H [3, 6, 1] = some (.cells [.func 107 [.ptr [1] 0]] true 0) -> hget H [3, 10, 0] = some (.cells [.lst (v.pumps.map pmpV)] true 0) -> hget H [3, 10, 1] = some (.cells [.func 108 [.ptr [2] 0]] true 0) ->
       hget H [3, 14, 0] = some (.cells [.lst (v.leaks.map inlV)] true 0) -> hget H [3, 14, 1] = some (.cells [.func 109 [.ptr [2] 0]] true 0) -> hget H [3, 18, 0] = some (.cells [.lst (v.getters.map gtrV)] true 0) -> hget H [3, 18, 1] = some (.cells [.func 110 [.ptr [2] 0]] true 0) ->
       acall cfg (K + 8) 111 [.lst (cs.map Chk'.av)] ⟨H, n, p, true, []⟩ = .ret (.int .i64 (firstE Chk'.e cs), ⟨H, n, p, true, firstJ cs []⟩) := by
      intro H n p k1 k2 v0 v1 p0 p1 m0 m1 i0 i1 q0 q1
      refine Z9b cs (K + 7) H n p true [] (fun x hx j => ?_) (show 5 < K + 7 by omega) (show 5 <= 9223372036854775807 by decide)
      rcases List.mem_cons.1 hx with rfl | hx
      ·exact Zfd v.vessels [3, 2, 0] [3, 2, 1] (by decide) (K + 3) H n p true j v0 v1 (by omega) (by omega) (by omega) hbd
      rcases List.mem_cons.1 hx with rfl | hx
      ·exact Zfe v.pipes v.vessels.length [3, 6, 0] [3, 6, 1] [1] (by decide) (by decide) (by decide) (K + 3) H n p true j p0 p1 k1 hne1 hN (by omega) (by omega) (by omega)
      rcases List.mem_cons.1 hx with rfl | hx
      ·exact Zff v.pumps v.vessels.length [3, 10, 0] [3, 10, 1] [2] [1] (by decide) (by decide) (by decide) (by decide) (by decide) (by decide) (K + 3) H n p true j m0 m1 k2 k1 hne1 hN (by omega) (by omega) (by omega)
      rcases List.mem_cons.1 hx with rfl | hx
      ·exact Zfg v.leaks v.vessels.length [3, 14, 0] [3, 14, 1] [2] [1] (by decide) (by decide) (by decide) (by decide) (by decide) (by decide) (K + 3) H n p true j i0 i1 k2 k1 hne1 hN (by omega) (by omega) (by omega)
      rcases List.mem_cons.1 hx with rfl | hx
      ·exact Zfh v.getters v.vessels.length [3, 18, 0] [3, 18, 1] [2] [1] (by decide) (by decide) (by decide) (by decide) (by decide) (by decide) (K + 3) H n p true j q0 q1 k2 k1 hne1 hN (by omega) (by omega) (by omega)
      cases hx
     have hE : firstE Chk'.e cs = if firstE vesE v.vessels = 0 then partsE v else firstE vesE v.vessels := by
      simp only [cs, firstE, partsE]
      split
      ·split
       ·split
        ·split
         ·split
          ·rename_i h; exact h.symm
          ·rfl
         ·rfl
        ·rfl
       ·rfl
      ·rfl
     have hJ : firstE Chk'.e cs = 0 -> firstJ cs [] = backJ true [[3, 18, 0], [3, 18, 1], [2], [1]] [.cells [.lst (v.getters.map gtrV)] true 0, .cells [.func 110 [.ptr [2] 0]] true 0, .cells [.func 104 [.ptr [1] 0]] true 0, .cells [.int .i64 v.vessels.length] true 0]
       (backJ true [[3, 14, 0], [3, 14, 1], [2], [1]] [.cells [.lst (v.leaks.map inlV)] true 0, .cells [.func 109 [.ptr [2] 0]] true 0, .cells [.func 104 [.ptr [1] 0]] true 0, .cells [.int .i64 v.vessels.length] true 0]
       (backJ true [[3, 10, 0], [3, 10, 1], [2], [1]] [.cells [.lst (v.pumps.map pmpV)] true 0, .cells [.func 108 [.ptr [2] 0]] true 0, .cells [.func 104 [.ptr [1] 0]] true 0, .cells [.int .i64 v.vessels.length] true 0]
       (backJ true [[3, 6, 0], [3, 6, 1], [1]] [.cells [.lst (v.pipes.map pipV)] true 0, .cells [.func 107 [.ptr [1] 0]] true 0, .cells [.int .i64 v.vessels.length] true 0]
       (backJ true [[3, 2, 0], [3, 2, 1]] [.cells [.lst (v.vessels.map vesV)] true 0, .cells [.func 113 []] true 0] [])))) := by
      simp only [cs, firstE, firstJ]
      intro h
      split at h
      ·rename_i h1; rw [if_pos h1]
       split at h
       ·rename_i h1; rw [if_pos h1]
        split at h
        ·rename_i h1; rw [if_pos h1]
         split at h
         ·rename_i h1; rw [if_pos h1]
          split at h
          ·rename_i h1; rw [if_pos h1]
          ·contradiction
         ·contradiction
        ·contradiction
       ·contradiction
      ·contradiction
     generalize firstE Chk'.e cs = E0 at *
     generalize firstJ cs [] = J0 at *
     simp only [cs, List.map_cons, List.map_nil, Chk'.av] at hfc
     clear_value cs
     simp only [Tr.all_bind]
     refine Tr.Does.all ?_
     refine Zbk [[], [0], [1, 0], [], [3], [], [4, 3, 5, 2, 1, 0], [], [7], [], [8, 7, 9, 6, 4, 3, 5, 2, 1, 0], [], [11], [], [12, 11, 13, 10, 8, 7, 9, 6, 4, 3, 5, 2, 1, 0], [], [15], [], [16, 15, 17, 14, 12, 11, 13, 10, 8, 7, 9, 6, 4, 3, 5, 2, 1, 0], [18, 16, 15, 17, 14, 12, 11, 13, 10, 8, 7, 9, 6, 4, 3, 5, 2, 1, 0], [19, 18, 16, 15, 17, 14, 12, 11, 13, 10, 8, 7, 9, 6, 4, 3, 5, 2, 1, 0], [20, 19, 18, 16, 15, 17, 14, 12, 11, 13, 10, 8, 7, 9, 6, 4, 3, 5, 2, 1, 0]] [20] (by kernel_rfl) (by kernel_rfl) ?_
     simp -implicitDefEqProofs only [redoH, redo1, go_sem, hT, Zfi, Zfj, Zfk, Zfl, Zfm, hfc]
     by_cases e0 : E0 = 0
     ·have hF : firstE vesE v.vessels = 0 /\ partsE v = 0 := by
       rw [e0] at hE
       split at hE
       ·rename_i h; exact ⟨h, hE.symm⟩
       ·rename_i h; exact absurd hE.symm h
      rw [if_pos hF.1, if_pos hF.2]
      rw [hJ e0]
      have hrg := fun (H : Heap) (n : Nat) (hm : hget H [4] = some (.map (encE (leaveL v [])) false)) => Zdn (C := cfg.at 49) (t := 181) (m := [4]) (s := ⟨H, n, [], false, []⟩) Z99 hm
      have hln := Zdq v []
      have hx3 : v.pumps.length <= 8 := by
       have h := Zds v.pumps.length v.leaks.length v.getters.length
       rw [decide_eq_false o3, Bool.or_eq_false_iff, Bool.or_eq_false_iff] at h
       have := h.1.1
       simp only [decide_eq_false_iff_not] at this
       omega
      have hx2 : v.pipes.length <= 16 := by omega
      clear hfc hJ hE
      generalize hes : leaveL v [] = es at *
      simp -implicitDefEqProofs only [redoH, redo1, go_sem, hT, e0, backJ, hlc, hrg]
      simp only [Tr.all_bind]
      refine Zko (fun k T s' => T.length = 77 /\ nth T 69 = some (.ptr [5] 0) /\ ∃ (left : List (Int × Rg)) (cur : Option (AV × AV)) (n : Nat) (H : Heap), k = left.length /\ s' = ⟨H, n + 6, [], false, []⟩ /\ hget H [5] = some (.mapIter [4] (encE left) cur) /\ hget H [4] = some (.map (encE es) true) /\
       (∀ e ∈ es, e ∈ left \/ ¬ 1000000 < e.2.hi) /\ (∀ e ∈ left, e ∈ es)) (k := es.length) (by omega) ?_ ?_
      ·exact ⟨by simp -implicitDefEqProofs only [go_sem, hT], by simp -implicitDefEqProofs only [go_sem, hT], es, none, 0, _, rfl, rfl, rfl, rfl, fun e h => .inl h, fun e h => h⟩
      clear a0 hT T
      rintro k T s' ⟨hT, a69, left, cur, n, H, rfl, rfl, g5, g4, hL, hS⟩
      simp -implicitDefEqProofs only [go_sem, a69]
      simp only [Tr.all_bind]
      refine Zfn g5 g4 (fun h0 => ?_) (fun i hi => ?_)
      ·have hn := Zdr v (fun e he => by
        rw [hes] at he
        rcases hL e he with h | h
        ·have h0' : left = [] := List.map_eq_nil_iff.1 h0
         rw [h0'] at h; cases h
        ·exact h)
       rw [if_neg hn]
       simp -implicitDefEqProofs only [go_sem, hT, Try.results49]
      ·have hi' : i < left.length := by rw [show (encE left).length = left.length from List.length_map _] at hi; exact hi
       have hge : (encE left)[i] = (iV left[i].1, rgV left[i].2) := List.getElem_map _
       have hgd : dropAt (encE left) i = encE (dropAt left i) := Zak _ left i
       have hdl := Zaj left i hi'
       have hdm := Zai left i hi'
       have hhit := Zfp v hF.2 left[i] (by rw [hes]; exact hS _ (List.getElem_mem hi'))
       rw [hge, hgd]
       generalize left[i] = e at *
       have u5 : ∀ X, hget (hset H [5] X) [5] = some X := fun X => Zi X g5
       have u4 : ∀ X, hget (hset H [5] X) [4] = some (.map (encE es) true) := fun X => (Z1 H X (by decide)).trans g4
       have w5 : ∀ X Y, hget (([n + 6], Y) :: hset H [5] X) [5] = some X := fun X Y => (Z4 _ _ (Y8 (by omega))).trans (u5 X)
       have w4 : ∀ X Y, hget (([n + 6], Y) :: hset H [5] X) [4] = some (.map (encE es) true) := fun X Y => (Z4 _ _ (Y8 (by omega))).trans (u4 X)
       have hent := Zjn (s := ⟨hset H [5] (.mapIter [4] (encE (dropAt left i)) (some (iV e.1, rgV e.2))), n + 6, [], false, []⟩) (u5 _) (u4 _)
       simp only [rgV, iV] at hent
       by_cases ov : 1000000 < e.2.hi
       ·rw [if_pos (hhit ov)]
        simp -implicitDefEqProofs only [go_sem, a69, hT, hent, ov, Try.results49]
       ·simp -implicitDefEqProofs only [go_sem, a69, hT, hent, ov]
        refine ⟨(dropAt left i).length, by omega, trivial, trivial, dropAt left i, _, n + 1, _, rfl, rfl, w5 _ _, w4 _ _, fun x hx => ?_, fun x hx => hS x ((hdm x).2 (.inr hx))⟩
        rcases hL x hx with h | h
        ·rcases (hdm x).1 h with rfl | h
         ·exact .inr ov
         ·exact .inl h
        ·exact .inr h
     ·have hF : (if firstE vesE v.vessels = 0 then if partsE v = 0 then if outB v 0 v.vessels.length = true then 14 else 0 else partsE v else firstE vesE v.vessels) = E0 := by
       rw [hE]
       split
       ·rename_i h
        rw [if_pos h] at hE
        rw [if_neg (by rw [<- hE]; exact e0)]
       ·rfl
      rw [hF]
      simp -implicitDefEqProofs only [go_sem, hT, e0, Try.results49]
end Go.Proofs.Ytgnpnfkncbnjnaa
namespace Go.Am
open Go
section
variable {H : Heap} {X Y : Blk} {a b k c k' c' : Nat}
theorem n11 (h : a ≠ b) : ([a] : Nm) ≠ [b] := fun e => h (by injection e)
theorem n13 : ([a] : Nm) ≠ [b, k, c] := fun e => by injection e with _ e; cases e
theorem n31 : ([a, k, c] : Nm) ≠ [b] := fun e => by injection e with _ e; cases e
theorem n33 (h : a ≠ b) : ([a, k, c] : Nm) ≠ [b, k', c'] := fun e => h (by injection e)
theorem hc11 (h : a ≠ b) : hget (([a], X) :: H) [b] = hget H [b] := Z4 X H (n11 h)
theorem hc13 : hget (([a], X) :: H) [b, k, c] = hget H [b, k, c] := Z4 X H n13
theorem hs11 (h : a ≠ b) : hget (hset H [a] X) [b] = hget H [b] := Z1 H X (n11 h)
theorem hs13 : hget (hset H [a] X) [b, k, c] = hget H [b, k, c] := Z1 H X n13
theorem hd11 (h : a ≠ b) : hget (hdel H [a]) [b] = hget H [b] := Zl H (n11 h)
theorem hd31 : hget (hdel H [a, k, c]) [b] = hget H [b] := Zl H n31
theorem Z9d {i j : Nm} (h : i ≠ j) : hset ((i, Y) :: H) j X = (i, Y) :: hset H j X := by
 show (match eqb i j with | true => (i, X) :: H | false => (i, Y) :: hset H j X) = _
 rw [Ze h]
theorem Z7u (b : Nm) : hset (hset H b X) b Y = hset H b Y := by
 induction H with
 | nil => rfl
 | cons e t ih =>
  obtain ⟨i, y⟩ := e
  by_cases he : i = b
  ·subst he
   show hset (match eqb i i with | true => (i, X) :: t | false => (i, y) :: hset t i X) i Y = (match eqb i i with | true => (i, Y) :: t | false => (i, y) :: hset t i Y)
   rw [Zf]; simp only
   show (match eqb i i with | true => (i, Y) :: t | false => (i, X) :: hset t i Y) = _
   rw [Zf]
  ·rw [Z9d he, Z9d he, Z9d he, ih]
end
theorem hss {H : Heap} {b : Nm} {X Y : Blk} (h : hget H b = some Y) : hget (hset H b X) b = some X := Zi X h
section
variable {x : Option Blk} {r : Delta} {a b k c k' c' : Nat}
theorem lkn (q : Nm) : lkD [] q = none := rfl
theorem Ju {i q : Nm} (h : i ≠ q) : lkD ((i, x) :: r) q = lkD r q := by show (if i = q then some x else lkD r q) = _; rw [if_neg h]
theorem Zd (i : Nm) : lkD ((i, x) :: r) i = some x := by show (if i = i then some x else lkD r i) = _; rw [if_pos rfl]
theorem lk11 (h : a ≠ b) : lkD (([a], x) :: r) [b] = lkD r [b] := Ju (n11 h)
theorem lk13 : lkD (([a], x) :: r) [b, k, c] = lkD r [b, k, c] := Ju n13
theorem lk31 : lkD (([a, k, c], x) :: r) [b] = lkD r [b] := Ju n31
theorem lk33 (h : a ≠ b) : lkD (([a, k, c], x) :: r) [b, k', c'] = lkD r [b, k', c'] := Ju (n33 h)
theorem Z46 (h : k ≠ k') : lkD (([a, k, c], x) :: r) [b, k', c'] = lkD r [b, k', c'] := Ju fun e => h (by injection e with _ e; injection e)
end
def mutV (b : Nm) : Nat -> AV
 | 0 => .nils
 | n + 1 => .slice b 0 (n + 1) (n + 1) false
theorem Zdt (b : Nm) (n : Nat) : mutV b (n + 1) = .slice b 0 (n + 1) (n + 1) false := rfl
noncomputable def dropRow (n : Nat) (b : Nm) (H : Heap) : Heap := match n with | 0 => H | _ + 1 => hdel H b
def rowJ (n : Nat) (b : Nm) (j : Delta) : Delta := match n with | 0 => j | _ + 1 => (b, none) :: j
theorem Z7v (n : Nat) {b c : Nm} (H : Heap) (h : b ≠ c) : hget (dropRow n b H) c = hget H c := by
 cases n with
 | zero => rfl
 | succ n => exact Zl H h
section
variable {C : Cfg} {sT e : TypeId} {i : TI} {zv : AV}
theorem Z5k (l : List AV) (n : Nat) (h : l.length = n) : readN l 0 n = some l := by
 subst h
 have e := Z33 [] l []
 simpa using e
theorem Z5l (hd : C.desc sT = some (.slice e)) (hi : C.ty.get e = some i) (hz : i.zero = some zv) (hzl : Nat.beq zv.cells.length i.size = true) (h1 : Nat.ble 1 i.size = true) (hb : Nat.ble 1 i.bytes = true)
  {b : Nm} {cs : List AV} {x : AV} {H : Heap} {m n z : Nat} {p : Nm} {jr : Bool} {j : Delta} (hzz : i.size = z) (hx : Nat.beq x.cells.length i.size = true) (hroom : (m + 1) * i.bytes <= 140737488355328) (hcs : cs.length = m * z) (ht : m ≠ 0 -> hget H b = some (.cells cs true z)) :
  appendA C false sT sT (mutV b m) (.lst [x]) ⟨H, n, p, jr, j⟩ = .ret (mutV (p ++ [n]) (m + 1), ⟨(p ++ [n], .cells (cs ++ x.cells) true z) :: dropRow m b H, n + 1, p, jr, match jr with | true => (p ++ [n], some (.cells (cs ++ x.cells) true z)) :: rowJ m b j | false => j⟩) := by
 subst hzz
 unfold appendA
 have hsrc : srcA i zv (.slice e) (.lst [x]) = M.ret (1, x.cells) := by
  show (match okZ i.size [x] with | true => M.ret (([x] : List AV).length, flatA [x]) | false => M.fail) = _
  simp only [okZ, hx, flatA, List.append_nil]; rfl
 rw [hd]; simp only
 rw [hi]; simp only
 rw [hz]; simp only
 rw [hzl]; simp only
 rw [hsrc, Z8, Ya, Tr.bind_ret]
 have hr : roomy m 1 i.bytes = true := by
  unfold roomy
  rw [hb, Nat.ble_eq_true_of_le hroom]
 cases m with
 | zero =>
  have hc0 : cs = [] := by cases cs with | nil => rfl | cons a r => simp at hcs
  subst hc0
  show appendTo i .nils 1 x.cells _ = _
  unfold appendTo
  simp only [hr]
  unfold grow
  rw [Z8, X2, Tr.bind_ret]
  cases jr <;> rfl
 | succ m =>
  have hg := ht (by omega)
  show appendTo i (.slice b 0 (m + 1) (m + 1) false) 1 x.cells _ = _
  unfold appendTo
  have ho : oldA cs 0 (m + 1) i.size = some cs := Z5k cs _ hcs
  simp only [Z8, Yb, hg, hr, Tr.bind_ret, ho, Nat.beq_refl, h1, Z6e]
  unfold grow
  rw [Z8, X2, Tr.bind_ret]
  cases jr <;> rfl
end
end Go.Am
namespace Go.Am
open Go
structure Bare (cs : List AV) : Prop where
 nm : ∀ op r, namesVs op cs r = r
 rn : ∀ mp, renVs mp cs = some cs
theorem Zfq : Bare [] := ⟨fun _ _ => rfl, fun _ => rfl⟩
theorem Z0u (op : Bool) : ∀ (a b : List AV) (r : List Nm), namesVs op (a ++ b) r = namesVs op a (namesVs op b r)
 | [], b, r => rfl
 | x :: a, b, r => by
  show namesV op x (namesVs op (a ++ b) r) = namesV op x (namesVs op a (namesVs op b r))
  rw [Z0u op a b r]
theorem Z2o (mp : List (Nm × Nm)) : ∀ (a b a' b' : List AV), renVs mp a = some a' -> renVs mp b = some b' -> renVs mp (a ++ b) = some (a' ++ b')
 | [], b, a', b', h1, h2 => by injection h1 with h1; subst h1; exact h2
 | x :: a, b, a', b', h1, h2 => by
  unfold renVs at h1
  cases hx : renV mp x with
  | none => rw [hx] at h1; cases h1
  | some y =>
   rw [hx] at h1; simp only at h1
   cases ha : renVs mp a with
   | none => rw [ha] at h1; cases h1
   | some a1 =>
    rw [ha] at h1
    injection h1 with h1; subst h1
    show renVs mp (x :: (a ++ b)) = _
    unfold renVs
    rw [hx]; simp only
    rw [Z2o mp a b a1 b' ha h2]; rfl
theorem Bare.append {a b : List AV} (ha : Bare a) (hb : Bare b) : Bare (a ++ b) :=
 ⟨fun op r => by rw [Z0u, hb.nm, ha.nm], fun mp => Z2o mp a b a b (ha.rn mp) (hb.rn mp)⟩
theorem Z2p {α : Type} {g : α -> List AV} (h : ∀ a, Bare (g a)) : ∀ l : List α, Bare (l.flatMap g)
 | [] => Zfq
 | a :: l => by rw [List.flatMap_cons]; exact (h a).append (Z2p h l)
section
variable {C : Cfg} {K : Nat}
theorem Z07 {f : FuncId} {fn : Func} {args args' : List AV} {bs : List Nm} {xs xs0 ys' zs' : List Blk} {v' : AV} {H : Heap} {n : Nat} {p : Nm} {jr : Bool} {j : Delta} {s2 s3 : St}
  (hm : C.mode.get f = some 3) (hf : C.fn.get f = some fn)
  (hl : lendM 200 (namesVs false args []) [] [] ⟨H, n, p, jr, j⟩ = .ret ((bs, xs), ⟨H, n, p, jr, j⟩)) (hnd : nodupN bs = true) (hcalm : calm xs = true)
  (hra : renVs (zipN bs (namesFrom [] 0 bs.length)) args = some args') (hrx : renBs (zipN bs (namesFrom [] 0 bs.length)) xs = some xs0)
  (hd : (bodyA (C.at f) (acall C K) (around C K) (K + 1) fn args' ⟨zipB (namesFrom [] 0 bs.length) xs0, bs.length, [], false, []⟩).Does fun x => ∃ ys ns zs, getAll x.2.H (namesFrom [] 0 bs.length) = some ys /\
   reachL x.2.H 200 (namesV true x.1 (namesBs true ys [])) (namesFrom [] 0 bs.length) [] = some (ns, zs) /\ nodupN ns = true /\ renV (zipN ns (bs ++ namesFrom p n zs.length)) x.1 = some v' /\ renBs (zipN ns (bs ++ namesFrom p n zs.length)) ys = some ys' /\ renBs (zipN ns (bs ++ namesFrom p n zs.length)) zs = some zs')
  (hput : putAll bs ys' ⟨H, n, p, jr, j⟩ = .ret ((), s2)) (hnew : newAll zs' s2 = .ret ((), s3)) :
  acall C (K + 1) f args ⟨H, n, p, jr, j⟩ = .ret (v', s3) := by
 obtain ⟨⟨v1, s1⟩, e1, ys, ns, zs, e2, e3, e4, e5, e6, e7⟩ := hd
 simp only at e2 e3 e5
 rw [Y4]
 unfold enterA
 rw [hf]; simp only
 rw [hm]; simp only
 unfold handA
 rw [Z8, hl]
 simp only [Tr.bind_ret, hnd, hcalm, hra, hrx]
 rw [e1]
 have ho : oneR false (.ret (v1, s1)) = some (v1, s1.H) := rfl
 rw [ho]; simp only
 rw [e2]; simp only
 rw [e3]; simp only
 rw [e4]; simp only
 rw [Z8]
 show (Tr.ret ((p, n), (⟨H, n, p, jr, j⟩ : St))).bind _ = _
 rw [Tr.bind_ret]
 simp only [e5, e6, e7]
 rw [Z8, hput, Tr.bind_ret, Z8, hnew, Tr.bind_ret]
 rfl
theorem Z08 {H : Heap} {k : Nat} {b : Nm} {r bs : List Nm} {xs : List Blk} {cs : List AV} {w : Bool} {u : Nat} (hm : memNm b bs = false) (hg : hget H b = some (.cells cs w u)) (hb : Bare cs) : reachL H (k + 1) (b :: r) bs xs = reachL H k r (bs ++ [b]) (xs ++ [.cells cs w u]) := by
 rw [Xv, hm]
 simp only [hg]
 show reachL H k (namesVs true cs r) _ _ = _
 rw [hb.nm]
theorem J9 {mp : List (Nm × Nm)} {cs : List AV} {u : Nat} (hb : Bare cs) : renB mp (.cells cs true u) = some (.cells cs true u) := by
 unfold renB; simp only [hb.rn]
theorem Z9e {f : FuncId} {fn : Func} {args : List AV} {n1 n2 n3 : Nat} {c1 c2 c3 tl : List AV} {H : Heap} {n : Nat} {p : Nm} {jr : Bool} {j : Delta}
  (hm : C.mode.get f = some 3) (hf : C.fn.get f = some fn) (hn : namesVs false args [] = []) (hr : renVs [] args = some args) (h1 : Bare c1) (h2 : Bare c2) (h3 : Bare c3) (ht : Bare tl)
  (hd : (bodyA (C.at f) (acall C K) (around C K) (K + 1) fn args s0).Does fun x => ∃ b1 b2 b3, x.1 = .agg (.slice b1 0 n1 n1 false :: .slice b2 0 n2 n2 false :: .slice b3 0 n3 n3 false :: tl) /\ eqb b1 b2 = false /\ eqb b1 b3 = false /\ eqb b2 b1 = false /\ eqb b2 b3 = false /\ eqb b3 b1 = false /\ eqb b3 b2 = false /\
   hget x.2.H b1 = some (.cells c1 true 2) /\ hget x.2.H b2 = some (.cells c2 true 2) /\ hget x.2.H b3 = some (.cells c3 true 2)) :
  acall C (K + 1) f args ⟨H, n, p, jr, j⟩ = .ret (.agg (.slice (p ++ [n]) 0 n1 n1 false :: .slice (p ++ [n + 1]) 0 n2 n2 false :: .slice (p ++ [n + 2]) 0 n3 n3 false :: tl),
   ((St.new ⟨H, n, p, jr, j⟩ (.cells c1 true 2)).new (.cells c2 true 2)).new (.cells c3 true 2)) := by
 refine Z07 (bs := []) (xs := []) (xs0 := []) (ys' := []) (zs' := [.cells c1 true 2, .cells c2 true 2, .cells c3 true 2]) hm hf (by rw [hn]; rfl) rfl rfl hr rfl ?_ rfl rfl
 refine hd.mono ?_
 rintro ⟨v, s⟩ ⟨b1, b2, b3, rfl, n12, n13, n21, n23, n31, n32, g1, g2, g3⟩
 refine ⟨[], [b1, b2, b3], [.cells c1 true 2, .cells c2 true 2, .cells c3 true 2], rfl, ?_, by simp only [nodupN, memNm, n12, n13, n23], ?_, rfl, by simp only [renBs, J9 h1, J9 h2, J9 h3]⟩
 ·show reachL s.H (199 + 1) (b1 :: b2 :: b3 :: namesVs true tl []) [] [] = _
  rw [ht.nm, Z08 rfl g1 h1]
  show reachL s.H (198 + 1) [b2, b3] [b1] _ = _
  rw [Z08 (by simp only [memNm, n21]) g2 h2]
  show reachL s.H (197 + 1) [b3] [b1, b2] _ = _
  rw [Z08 (by simp only [memNm, n31, n32]) g3 h3]
  rfl
 ·show renV [(b1, p ++ [n]), (b2, p ++ [n + 1]), (b3, p ++ [n + 1 + 1])] _ = _
  simp only [renV, renVs, lookN, Zf, n21, n31, n32, ht.rn]
theorem Z9f {f : FuncId} {fn : Func} {args : List AV} {n1 n2 : Nat} {c1 c2 tl : List AV} {H : Heap} {n : Nat} {p : Nm} {jr : Bool} {j : Delta}
  (hm : C.mode.get f = some 3) (hf : C.fn.get f = some fn) (hn : namesVs false args [] = []) (hr : renVs [] args = some args) (h1 : Bare c1) (h2 : Bare c2) (ht : Bare tl)
  (hd : (bodyA (C.at f) (acall C K) (around C K) (K + 1) fn args s0).Does fun x => ∃ b1 b2, x.1 = .agg (.slice b1 0 n1 n1 false :: .slice b2 0 n2 n2 false :: tl) /\ eqb b1 b2 = false /\ eqb b2 b1 = false /\
   hget x.2.H b1 = some (.cells c1 true 2) /\ hget x.2.H b2 = some (.cells c2 true 2)) :
  acall C (K + 1) f args ⟨H, n, p, jr, j⟩ = .ret (.agg (.slice (p ++ [n]) 0 n1 n1 false :: .slice (p ++ [n + 1]) 0 n2 n2 false :: tl),
   (St.new ⟨H, n, p, jr, j⟩ (.cells c1 true 2)).new (.cells c2 true 2)) := by
 refine Z07 (bs := []) (xs := []) (xs0 := []) (ys' := []) (zs' := [.cells c1 true 2, .cells c2 true 2]) hm hf (by rw [hn]; rfl) rfl rfl hr rfl ?_ rfl rfl
 refine hd.mono ?_
 rintro ⟨v, s⟩ ⟨b1, b2, rfl, n12, n21, g1, g2⟩
 refine ⟨[], [b1, b2], [.cells c1 true 2, .cells c2 true 2], rfl, ?_, by simp only [nodupN, memNm, n12], ?_, rfl, by simp only [renBs, J9 h1, J9 h2]⟩
 ·show reachL s.H (199 + 1) (b1 :: b2 :: namesVs true tl []) [] [] = _
  rw [ht.nm, Z08 rfl g1 h1]
  show reachL s.H (198 + 1) [b2] [b1] _ = _
  rw [Z08 (by simp only [memNm, n21]) g2 h2]
  rfl
 ·show renV [(b1, p ++ [n]), (b2, p ++ [n + 1])] _ = _
  simp only [renV, renVs, lookN, Zf, n21, ht.rn]
end
end Go.Am
namespace Go.Am
open Go
theorem Zfr (x : Int) : wrapF .i64 x % 18446744073709551616 = x % 18446744073709551616 := by
 show wrapS 18446744073709551616 9223372036854775808 x % _ = _
 unfold wrapS
 split <;> omega
theorem Zbq {x y : Int} (h : x % 18446744073709551616 = y % 18446744073709551616) : wrapF .i64 x = wrapF .i64 y := by
 show wrapS 18446744073709551616 9223372036854775808 x = wrapS 18446744073709551616 9223372036854775808 y
 unfold wrapS
 split <;> split <;> omega
theorem Z7w (m a : Int) : wrapF .i64 (m + wrapF .i64 a) = wrapF .i64 (m + a) := by
 apply Zbq
 have h := Zfr a
 generalize wrapF .i64 a = w at *
 omega
end Go.Am
namespace Go.Proofs.Ytgnpnfkncbnjnaa
attribute [local go_sem_proc] Int.reduceEq Int.reduceNeg Nat.reduceEqDiff Nat.reduceLT Nat.reduceAdd Nat.reduceSub Nat.reduceMul Int.reduceLE Int.reduceLT Int.reduceToNat Nat.reduceLeDiff
attribute [local go_sem] Int.toNat_natCast Bool.not_true Bool.not_false
open Go Go.Am
attribute [local congr] Za Z6 Z7
attribute [local go_sem] Go.Am.buildSliceA Go.Am.frozen Go.Am.freezeG Go.Am.freezeGs Go.Am.minmax
def rgC (r : Rg) : List AV := [.int .i64 r.lo, .int .i64 r.hi]
theorem Z19 (r : Rg) : (rgC r).length = 2 := rfl
theorem Zfs (r : Rg) : Bare (rgC r) := ⟨fun _ _ => rfl, fun _ => rfl⟩
theorem Xk (l : List Rg) : Bare (l.flatMap rgC) := Z2p Zfs l
theorem Z34 (l : List Rg) : (l.flatMap rgC).length = l.length * 2 := Xw Z19 l
theorem Z09 (l : List Rg) (r : Rg) : (l ++ [r]).flatMap rgC = l.flatMap rgC ++ (rgV r).cells := by rw [List.flatMap_append]; rfl
def mostF : Int -> List Ves -> Int
 | m, [] => m
 | m, x :: r => mostF (wrapF .i64 (m + (x.free.hi + x.bound.hi))) r
def beginG (v : Vac) : Gs := ⟨v.vessels.map Ves.free, v.vessels.map Ves.bound, v.getters.map Gtr.room, mostF 0 v.vessels, false⟩
theorem Zam : cfg.desc 50 = some (.slice 26) := by kernel_rfl
def gasM (b1 b2 b3 : Nm) (g : Gs) : AV := .agg [mutV b1 g.free.length, mutV b2 g.bound.length, mutV b3 g.room.length, .int .i64 g.most, .bool g.flashed]
theorem Zbr (v : Vac) (K : Nat) (hv : v.Lens K) (h8 : v.vessels.length <= 1000000) (hg8 : v.getters.length <= 1000000) :
  (bodyA (cfg.at 94) (acall cfg K) (around cfg K) (K + 1) Try.f94 [vacV v] s0).Does fun x => ∃ (a d : Nat), x.1 = gasM [a, 5, 0] [a, 11, 0] [d] (beginG v) /\
   (v.vessels ≠ [] -> hget x.2.H [a, 5, 0] = some (.cells ((v.vessels.map Ves.free).flatMap rgC) true 2) /\ hget x.2.H [a, 11, 0] = some (.cells ((v.vessels.map Ves.bound).flatMap rgC) true 2)) /\
   (v.getters ≠ [] -> hget x.2.H [d] = some (.cells ((v.getters.map Gtr.room).flatMap rgC) true 2)) := by
 refine Z9 rfl fun T hT' hA => ?_
 have a0 := hA 0 _ rfl
 have hT : T.length = 57 := hT'
 clear hA hT'
 obtain ⟨⟨hv1, hv2⟩, ⟨hp1, hp2⟩, ⟨hm1, hm2⟩, ⟨hi1, hi2⟩, ⟨hg1, hg2⟩, hbd⟩ := hv
 simp -implicitDefEqProofs only [go_sem, a0, hT]
 simp only [Z3]
 refine Zj (fun k T s' => T.length = 57 /\ nth T 1 = some (.ptr [0] 0) /\ nth T 2 = some (.ptr [1] 0) /\ nth T 3 = some (.ptr [2] 0) /\ nth T 9 = some (.lst (v.vessels.map vesV)) /\ nth T 10 = some (.int .i64 v.vessels.length) /\ ∃ (i n c : Nat) (H : Heap) (m : Int), nth T 11 = some (.int .i64 i) /\ i <= v.vessels.length /\ k = v.vessels.length - i /\ s' = ⟨H, n + 3, [], false, []⟩ /\ c < n + 3 /\ hget H [0] = some (.cells [.lst (v.vessels.map vesV), .lst (v.pipes.map pipV), .lst (v.pumps.map pmpV), .lst (v.leaks.map inlV), .lst (v.getters.map gtrV)] true 0) /\
   hget H [1] = some (.cells [.nils, .nils, .nils, .int .i64 0, .bool false] true 0) /\ hget H [2] = some (.cells [mutV [c, 5, 0] i, mutV [c, 11, 0] i, .nils, .int .i64 m, .bool false] true 0) /\ (i ≠ 0 -> hget H [c, 5, 0] = some (.cells (((v.vessels.take i).map Ves.free).flatMap rgC) true 2) /\ hget H [c, 11, 0] = some (.cells (((v.vessels.take i).map Ves.bound).flatMap rgC) true 2)) /\
   mostF 0 v.vessels = mostF m (v.vessels.drop i)) (k := v.vessels.length) (by omega) ?_ ?_
 ·exact ⟨by simp -implicitDefEqProofs only [go_sem, hT], by simp -implicitDefEqProofs only [go_sem, hT], by simp -implicitDefEqProofs only [go_sem, hT], by simp -implicitDefEqProofs only [go_sem, hT], by simp -implicitDefEqProofs only [go_sem, hT], by simp -implicitDefEqProofs only [go_sem, hT], 0, 0, 0, _, 0, by simp -implicitDefEqProofs only [go_sem, hT] <;> rfl, by omega, rfl, rfl, by omega, rfl, rfl, rfl, fun h => absurd rfl h, rfl⟩
 clear a0 hT T
 rintro k T s' ⟨hT, a1, a2, a3, a9, a10, i, n, c, H, m, a11, hi, rfl, rfl, hc, g0, g1, g2, gr, hm⟩
 simp -implicitDefEqProofs only [go_sem, a10, a11, hT]
 by_cases hil : (i : Int) < (v.vessels.length : Int)
 ·have hi' : i < v.vessels.length := by omega
  have e1 := Zh (f := vesV) (l := v.vessels) (i := i) (z := 6) hi' rfl
  have hkk : v.vessels.length - (i + 1) < v.vessels.length - i := by omega
  have htk : v.vessels.take (i + 1) = v.vessels.take i ++ [v.vessels[i]] := List.take_succ_eq_append_getElem hi'
  have hln : ((v.vessels.take i).map Ves.free).length = i := by simp; omega
  have hln2 : ((v.vessels.take i).map Ves.bound).length = i := by simp; omega
  rw [List.drop_eq_getElem_cons hi'] at hm
  have hi1 : i + 1 <= v.vessels.length := hi'
  have hn4 : n + 4 < n + 2 + 3 := by omega
  generalize v.vessels[i] = x at *
  simp only [mostF] at hm
  have hap := fun (cs : List AV) (m n : Nat) (b p : Nm) (H : Heap) (r : Rg) (hr : (m + 1) * 16 <= 140737488355328) (hcs : cs.length = m * 2) (hg : m ≠ 0 -> hget H b = some (.cells cs true 2)) => Z5l (C := cfg.at 94) (sT := 50) (b := b) (cs := cs) (x := rgV r) (H := H) (m := m) (n := n) (p := p) (jr := true) (j := []) (z := 2) Zam Z7j rfl rfl rfl rfl rfl rfl hr hcs hg
  by_cases i0 : i = 0
  ·subst i0
   have hap0 := fun (n : Nat) (p : Nm) (H : Heap) (r : Rg) => hap [] 0 n [] p H r (by omega) rfl (fun h => absurd rfl h)
   simp only [mutV, dropRow, rowJ, rgV, AV.cells, List.nil_append] at hap0 g2
   have hw1 : wrapF .i64 (((0 : Nat) : Int) + 1) = ((0 + 1 : Nat) : Int) := rfl
   simp -implicitDefEqProofs only [go_sem, a9, a11, hT, hil, e1]
   try simp only [Z3]
   refine Zc [[], [0], [], [2], [3, 2], [1, 0, 4, 3, 2], [], [6], [], [8], [9, 8], [7, 6, 10, 9, 8, 5, 1, 0, 4, 3, 2], [5, 1, 0, 4, 3, 2, 7, 6], [12, 11, 10, 9, 8, 5, 1, 0, 4, 3, 2, 7, 6], [13, 12, 11, 10, 9, 8, 5, 1, 0, 4, 3, 2, 7, 6], [14, 13, 12, 11, 10, 9, 8, 5, 1, 0, 4, 3, 2, 7, 6]] [[], [], [], [], [], [], [], [], [], [], [], [], [], [[2]], [], [[2]]] (by kernel_rfl) rfl rfl ?_
   simp -implicitDefEqProofs only [go_sem, Z0, lkn, Zd, lk11, lk31, Option.getD_some, Option.getD_none, a1, a2, a3, a9, a10, a11, hT, g2, hap0 _ _ _ ⟨x.free.lo, x.free.hi⟩, hap0 _ _ _ ⟨x.bound.lo, x.bound.hi⟩]
   refine ⟨v.vessels.length - (0 + 1), hkk, trivial, trivial, trivial, trivial, trivial, trivial, 0 + 1, n + 2, n + 4, _, wrapF .i64 (m + wrapF .i64 (x.free.hi + x.bound.hi)), by rw [hw1], hi1, rfl, rfl, hn4, ?_, ?_, ?_, fun _ => ⟨?_, ?_⟩, ?_⟩
   all_goals clear hw1
   ·simp (disch := omega) only [hc11, hs11, Z0, lkn, lk11, lk31, Option.getD_none, g0]
   ·simp (disch := omega) only [hc11, hs11, Z0, lkn, lk11, lk31, Option.getD_none, g1]
   ·exact hss (Y := .cells _ true 0) (by simp (disch := omega) only [hc11, Z0, Zd, Option.getD_some, g2]; rfl)
   ·rw [htk, List.map_append, List.map_cons, List.map_nil, Z09]
    simp (disch := omega) only [hc13, hs13, Z0, Zd, lk13, Z46, Option.getD_some]
    rfl
   ·rw [htk, List.map_append, List.map_cons, List.map_nil, Z09]
    simp (disch := omega) only [hc13, hs13, Z0, Zd, lk13, Option.getD_some]
    rfl
   ·rw [hm, Z7w]
  ·obtain ⟨i, rfl⟩ : ∃ q, i = q + 1 := ⟨i - 1, by omega⟩
   obtain ⟨r1, r2⟩ := gr (by omega)
   have hapF := fun (n : Nat) (p : Nm) (H : Heap) (r : Rg) (hg : hget H [c, 5, 0] = some (.cells (((v.vessels.take (i + 1)).map Ves.free).flatMap rgC) true 2)) => hap _ (i + 1) n [c, 5, 0] p H r (by omega) (by rw [Z34, hln]) (fun _ => hg)
   have hapB := fun (n : Nat) (p : Nm) (H : Heap) (r : Rg) (hg : hget H [c, 11, 0] = some (.cells (((v.vessels.take (i + 1)).map Ves.bound).flatMap rgC) true 2)) => hap _ (i + 1) n [c, 11, 0] p H r (by omega) (by rw [Z34, hln2]) (fun _ => hg)
   simp only [mutV, dropRow, rowJ, rgV, AV.cells] at hapF hapB g2
   have d1 : ∀ X, hget (hdel (([n + 3], X) :: H) [c, 5, 0]) [2] = hget H [2] := fun X => by simp (disch := omega) only [hc11, hd31]
   have d2 : ∀ X, hget (hdel (([n + 3], X) :: H) [c, 5, 0]) [n + 3] = some X := fun X => by simp (disch := omega) only [Z2, hd31]
   have e11 : ∀ X, hget (([n + 3], X) :: H) [c, 11, 0] = hget H [c, 11, 0] := fun X => hc13
   have e5 : ∀ X, hget (([n + 3], X) :: H) [c, 5, 0] = hget H [c, 5, 0] := fun X => hc13
   have nc : (n + 3 + 1 = c) = False := by simp; omega
   have nc' : (c = n + 3 + 1) = False := by simp; omega
   have hw1 : wrapF .i64 (((i + 1 : Nat) : Int) + 1) = ((i + 1 + 1 : Nat) : Int) := Z5 (by omega) (by omega)
   have d3 : hget (hdel H [c, 5, 0]) [2] = hget H [2] := hd31
   simp -implicitDefEqProofs only [go_sem, a9, a11, hT, hil, e1]
   try simp only [Z3]
   refine Zc [[], [0], [], [2], [3, 2], [1, 0, 4, 3, 2], [], [6], [], [8], [9, 8], [7, 6, 10, 9, 8, 5, 1, 0, 4, 3, 2], [5, 1, 0, 4, 3, 2, 7, 6], [12, 11, 10, 9, 8, 5, 1, 0, 4, 3, 2, 7, 6], [13, 12, 11, 10, 9, 8, 5, 1, 0, 4, 3, 2, 7, 6], [14, 13, 12, 11, 10, 9, 8, 5, 1, 0, 4, 3, 2, 7, 6]] [[], [], [], [], [], [[c, 5, 0]], [], [], [], [], [], [[c, 11, 0]], [], [[2]], [], [[2]]] (by kernel_rfl) rfl rfl ?_
   simp -implicitDefEqProofs only [go_sem, Z0, lkn, Zd, lk11, lk31, lk33, Z46, Option.getD_some, Option.getD_none, a1, a2, a3, a9, a10, a11, hT, g2, r1, r2, e5, e11, nc, d3, Zb, hapF _ _ _ ⟨x.free.lo, x.free.hi⟩, hapB _ _ _ ⟨x.bound.lo, x.bound.hi⟩]
   refine ⟨v.vessels.length - (i + 1 + 1), hkk, trivial, trivial, trivial, trivial, trivial, trivial, i + 1 + 1, n + 2, n + 4, _, wrapF .i64 (m + wrapF .i64 (x.free.hi + x.bound.hi)), by rw [hw1], hi1, rfl, rfl, hn4, ?_, ?_, ?_, fun _ => ⟨?_, ?_⟩, ?_⟩
   all_goals clear hw1
   ·simp (disch := omega) only [hc11, hs11, Z0, lkn, lk11, lk31, Option.getD_none, g0]
   ·simp (disch := omega) only [hc11, hs11, Z0, lkn, lk11, lk31, Option.getD_none, g1]
   ·exact hss (Y := .cells _ true 0) (by simp (disch := omega) only [hc11, Z0, Zd, Option.getD_some, g2]; rfl)
   ·rw [htk, List.map_append, List.map_cons, List.map_nil, Z09]
    simp (disch := omega) only [hc13, hs13, Z0, Zd, lk13, lk33, Z46, Option.getD_some]
    rfl
   ·rw [htk, List.map_append, List.map_cons, List.map_nil, Z09]
    simp (disch := omega) only [hc13, hs13, Z0, Zd, lk13, Option.getD_some]
    rfl
   ·rw [hm, Z7w]
 ·have hie : i = v.vessels.length := by omega
  subst hie
  rw [List.drop_length] at hm
  rw [List.take_length] at gr
  simp only [mostF] at hm
  have hN : v.vessels ≠ [] -> hget H [c, 5, 0] = some (.cells ((v.vessels.map Ves.free).flatMap rgC) true 2) /\ hget H [c, 11, 0] = some (.cells ((v.vessels.map Ves.bound).flatMap rgC) true 2) := fun h => gr (fun e => h (List.length_eq_zero_iff.1 e))
  clear gr
  simp -implicitDefEqProofs only [go_sem, a1, hT, hil, g0]
  simp only [Z3]
  refine Zj (fun k T s' => T.length = 57 /\ nth T 2 = some (.ptr [1] 0) /\ nth T 3 = some (.ptr [2] 0) /\ nth T 42 = some (.lst (v.getters.map gtrV)) /\ nth T 43 = some (.int .i64 v.getters.length) /\ ∃ (i n d : Nat) (H : Heap), nth T 44 = some (.int .i64 i) /\ i <= v.getters.length /\ k = v.getters.length - i /\ s' = ⟨H, n + 3, [], false, []⟩ /\
   hget H [1] = some (.cells [.nils, .nils, .nils, .int .i64 0, .bool false] true 0) /\ hget H [2] = some (.cells [mutV [c, 5, 0] v.vessels.length, mutV [c, 11, 0] v.vessels.length, mutV [d + 3] i, .int .i64 m, .bool false] true 0) /\ (i ≠ 0 -> d < n /\ hget H [d + 3] = some (.cells (((v.getters.take i).map Gtr.room).flatMap rgC) true 2)) /\
   (v.vessels ≠ [] -> hget H [c, 5, 0] = some (.cells ((v.vessels.map Ves.free).flatMap rgC) true 2) /\ hget H [c, 11, 0] = some (.cells ((v.vessels.map Ves.bound).flatMap rgC) true 2))) (k := v.getters.length) (by omega) ?_ ?_
  ·exact ⟨by simp -implicitDefEqProofs only [go_sem, hT], by simp -implicitDefEqProofs only [go_sem, a2], by simp -implicitDefEqProofs only [go_sem, a3], by simp -implicitDefEqProofs only [go_sem, hT], by simp -implicitDefEqProofs only [go_sem, hT], 0, n, 0, H, by simp -implicitDefEqProofs only [go_sem, hT] <;> rfl, by omega, rfl, rfl, g1, g2, fun h => absurd rfl h, hN⟩
  clear a1 a2 a3 a9 a10 a11 hT T g0 g1 g2 hN H
  rintro k T s' ⟨hT, a2, a3, a42, a43, i, n, d, H, a44, hi, rfl, rfl, g1, g2, gr, hN⟩
  simp -implicitDefEqProofs only [go_sem, a43, a44, hT]
  by_cases hil2 : (i : Int) < (v.getters.length : Int)
  ·have hi' : i < v.getters.length := by omega
   have e1 := Zh (f := gtrV) (l := v.getters) (i := i) (z := 5) hi' rfl
   have hkk : v.getters.length - (i + 1) < v.getters.length - i := by omega
   have htk : v.getters.take (i + 1) = v.getters.take i ++ [v.getters[i]] := List.take_succ_eq_append_getElem hi'
   have hln : ((v.getters.take i).map Gtr.room).length = i := by simp; omega
   have hi1 : i + 1 <= v.getters.length := hi'
   have hn4 : n + 1 < n + 2 := by omega
   generalize v.getters[i] = x at *
   have hap := fun (cs : List AV) (m n : Nat) (b p : Nm) (H : Heap) (r : Rg) (hr : (m + 1) * 16 <= 140737488355328) (hcs : cs.length = m * 2) (hg : m ≠ 0 -> hget H b = some (.cells cs true 2)) => Z5l (C := cfg.at 94) (sT := 50) (b := b) (cs := cs) (x := rgV r) (H := H) (m := m) (n := n) (p := p) (jr := false) (j := []) (z := 2) Zam Z7j rfl rfl rfl rfl rfl rfl hr hcs hg
   have hapG := hap _ i (n + 4) [d + 3] [] (([n + 3], .cells [.int .i64 x.at', .int .i64 x.part.lo, .int .i64 x.part.hi, .int .i64 x.room.lo, .int .i64 x.room.hi] true 0) :: H) x.room (by omega) (by rw [Z34, hln]) (fun h => (hc11 (by have := (gr h).1; omega)).trans (gr h).2)
   simp only [rgV, AV.cells] at hapG
   have f2 : ∀ X, hget (([n + 3], X) :: H) [2] = hget H [2] := fun X => hc11 (by omega)
   have dr1 : ∀ G q, (i ≠ 0 -> q ≠ d + 3) -> hget (dropRow i [d + 3] G) [q] = hget G [q] := fun G q h => by
    cases i with
    | zero => rfl
    | succ i => exact Zl G (n11 (Ne.symm (h (by omega))))
   have dr3 : ∀ G q a b, hget (dropRow i [d + 3] G) [q, a, b] = hget G [q, a, b] := fun G q a b => Z7v i G n13
   have f3 : ∀ X Y, hget (([n + 3 + 1], Y) :: dropRow i [d + 3] (([n + 3], X) :: H)) [2] = hget H [2] := fun X Y => by rw [hc11 (by omega), dr1 _ _ (by omega), f2]
   have hw1 : wrapF .i64 ((i : Int) + 1) = ((i + 1 : Nat) : Int) := Z5 (by omega) (by omega)
   simp -implicitDefEqProofs only [go_sem, a2, a3, a42, a43, a44, hT, hil2, e1, f2, f3, g2, hapG, hw1, Zdt]
   clear hw1
   refine ⟨v.getters.length - (i + 1), hkk, trivial, trivial, trivial, trivial, trivial, i + 1, n + 2, n + 1, _, rfl, hi1, rfl, rfl, ?_, ?_, fun _ => ⟨hn4, ?_⟩, fun h => ⟨?_, ?_⟩⟩
   ·rw [hc11 (by omega), hs11 (by omega), dr1 _ _ (by omega), hc11 (by omega)]; exact g1
   ·rw [hc11 (by omega)]
    exact hss ((dr1 _ _ (by omega)).trans ((f2 _).trans g2))
   ·rw [htk, List.map_append, List.map_cons, List.map_nil, Z09]
    exact Z2 ..
   ·rw [hc13, hs13, dr3, hc13]; exact (hN h).1
   ·rw [hc13, hs13, dr3, hc13]; exact (hN h).2
  ·have hie : i = v.getters.length := by omega
   subst hie
   rw [List.take_length] at gr
   have z1 : ∀ X, hget (hset H [1] X) [1] = some X := fun X => Zi X g1
   simp -implicitDefEqProofs only [go_sem, a2, a3, hT, hil2, g1, g2, z1, Try.results94]
   refine ⟨c, d + 3, ?_, fun h => ?_, fun h => ?_⟩
   ·unfold gasM beginG
    simp only [List.length_map, hm]
   ·rw [hs13, hs13]; exact hN h
   ·rw [hs11 (by omega)]
    exact (gr (fun e => h (List.length_eq_zero_iff.1 e))).2
theorem Zjo (m : Int) (f : Bool) : Bare [.int .i64 m, .bool f] := ⟨fun _ _ => rfl, fun _ => rfl⟩
def gasS (s : St) (g : Gs) : St := match g.room with
 | [] => (s.new (.cells (g.free.flatMap rgC) true 2)).new (.cells (g.bound.flatMap rgC) true 2)
 | _ :: _ => ((s.new (.cells (g.free.flatMap rgC) true 2)).new (.cells (g.bound.flatMap rgC) true 2)).new (.cells (g.room.flatMap rgC) true 2)
theorem Zdu (v : Vac) : renVs [] [vacV v] = some [vacV v] := by simp only [renVs, renV, vacV, X5, X6, X7, X8, X9]
theorem Zbs (v : Vac) (K : Nat) (H : Heap) (n : Nat) (p : Nm) (jr : Bool) (j : Delta) (hv : v.Lens K) (h8 : v.vessels.length <= 1000000) (hg8 : v.getters.length <= 1000000) (h1 : v.vessels ≠ []) :
  acall cfg (K + 1) 94 [vacV v] ⟨H, n, p, jr, j⟩ = .ret (gasM (p ++ [n]) (p ++ [n + 1]) (p ++ [n + 2]) (beginG v), gasS ⟨H, n, p, jr, j⟩ (beginG v)) := by
 have hb := Zbr v K hv h8 hg8
 obtain ⟨q, hq⟩ : ∃ q, v.vessels.length = q + 1 := ⟨v.vessels.length - 1, by
  have : v.vessels.length ≠ 0 := fun e => h1 (List.length_eq_zero_iff.1 e)
  omega⟩
 by_cases h2 : v.getters = []
 ·have e0 : gasS ⟨H, n, p, jr, j⟩ (beginG v) = (St.new ⟨H, n, p, jr, j⟩ (.cells ((v.vessels.map Ves.free).flatMap rgC) true 2)).new (.cells ((v.vessels.map Ves.bound).flatMap rgC) true 2) := by
   unfold gasS beginG; rw [h2]; rfl
  have e1 : ∀ b1 b2 b3, gasM b1 b2 b3 (beginG v) = .agg (.slice b1 0 (q + 1) (q + 1) false :: .slice b2 0 (q + 1) (q + 1) false :: [.nils, .int .i64 (mostF 0 v.vessels), .bool false]) := fun b1 b2 b3 => by
   unfold gasM beginG; simp only [List.length_map, hq, h2, List.map_nil, List.length_nil]; rfl
  rw [e0, e1]
  refine Z9f Zgw Zgv rfl (Zdu v) (Xk _) (Xk _) ⟨fun _ _ => rfl, fun _ => rfl⟩ ?_
  refine hb.mono ?_
  rintro x ⟨a, d, hx, hf, _⟩
  exact ⟨[a, 5, 0], [a, 11, 0], by rw [hx, e1], Ze (by simp), Ze (by simp), (hf h1).1, (hf h1).2⟩
 ·obtain ⟨r, hr⟩ : ∃ r, v.getters.length = r + 1 := ⟨v.getters.length - 1, by
   have : v.getters.length ≠ 0 := fun e => h2 (List.length_eq_zero_iff.1 e)
   omega⟩
  have e0 : gasS ⟨H, n, p, jr, j⟩ (beginG v) = ((St.new ⟨H, n, p, jr, j⟩ (.cells ((v.vessels.map Ves.free).flatMap rgC) true 2)).new (.cells ((v.vessels.map Ves.bound).flatMap rgC) true 2)).new (.cells ((v.getters.map Gtr.room).flatMap rgC) true 2) := by
   unfold gasS beginG
   cases hg : v.getters with
   | nil => exact absurd hg h2
   | cons a l => rfl
  have e1 : ∀ b1 b2 b3, gasM b1 b2 b3 (beginG v) = .agg (.slice b1 0 (q + 1) (q + 1) false :: .slice b2 0 (q + 1) (q + 1) false :: .slice b3 0 (r + 1) (r + 1) false :: [.int .i64 (mostF 0 v.vessels), .bool false]) := fun b1 b2 b3 => by
   unfold gasM beginG; simp only [List.length_map, hq, hr]; rfl
  rw [e0, e1]
  refine Z9e Zgw Zgv rfl (Zdu v) (Xk _) (Xk _) (Xk _) (Zjo _ _) ?_
  refine hb.mono ?_
  rintro x ⟨a, d, hx, hf, hg⟩
  exact ⟨[a, 5, 0], [a, 11, 0], [d], by rw [hx, e1], Ze (by simp), Ze (by simp), Ze (by simp), Ze (by simp), Ze (by simp), Ze (by simp), (hf h1).1, (hf h1).2, hg h2⟩
end Go.Proofs.Ytgnpnfkncbnjnaa
namespace Go.Proofs.Ytgnpnfkncbnjnaa
open Go Go.Am
attribute [local congr] Za Z6 Z7
attribute [local go_sem] Go.Am.buildSliceA Go.Am.minmax
theorem Zdv {H : Heap} {d : Nat} (l : List Rg) : freezeD H (d + 1) (l.flatMap rgC) = some (l.flatMap rgC) := by
 show freezeGs (freezeD H d) H _ = _
 refine Z0t (g := rgC) (fun a r t h => ?_) l
 show freezeGs (freezeD H d) H (.int .i64 a.lo :: .int .i64 a.hi :: r) = _
 simp only [freezeGs, freezeG, h]; rfl
structure GasAt (H : Heap) (b1 b2 b3 : Nm) (g : Gs) : Prop where
 f : g.free ≠ [] -> hget H b1 = some (.cells (g.free.flatMap rgC) true 2)
 b : g.bound ≠ [] -> hget H b2 = some (.cells (g.bound.flatMap rgC) true 2)
 r : g.room ≠ [] -> hget H b3 = some (.cells (g.room.flatMap rgC) true 2)
def zeroG : Gs := ⟨[], [], [], 0, false⟩
def gasE (e : Int) (g : Gs) : AV := .tuple [gsV (if e = 0 then g else zeroG), .int .i64 e]
@[go_sem] theorem Zm8 (e : Int) (g : Gs) : (gasE e g).flat = true := by
 unfold gasE; simp only [gsV, AV.flat, flats, Z96]
end Go.Proofs.Ytgnpnfkncbnjnaa
namespace Go.Proofs.Ytgnpnfkncbnjnaa
open Go Go.Am
attribute [local congr] Za Z6 Z7
attribute [local go_sem] Go.Am.buildSliceA Go.Am.minmax
theorem Yf (b : Nm) (l : List AV) (x : AV) : ownV b (l ++ [x]) = .own b (l ++ [x]) := by cases l <;> rfl
end Go.Proofs.Ytgnpnfkncbnjnaa
namespace Go.Proofs.Ytgnpnfkncbnjnaa
open Go Go.Am
attribute [local congr] Za Z6 Z7
attribute [local go_sem] Go.Am.buildSliceA Go.Am.frozen Go.Am.freezeG Go.Am.freezeGs Go.Am.minmax
theorem Vac.Lens.more {v : Vac} {K : Nat} (hv : v.Lens K) (q : Nat) : v.Lens (K + q) := ⟨⟨by have := hv.ves.1; omega, hv.ves.2⟩, ⟨by have := hv.pip.1; omega, hv.pip.2⟩, ⟨by have := hv.pmp.1; omega, hv.pmp.2⟩, ⟨by have := hv.inl.1; omega, hv.inl.2⟩, ⟨by have := hv.gtr.1; omega, hv.gtr.2⟩, hv.bands⟩
end Go.Proofs.Ytgnpnfkncbnjnaa
namespace Go.Am
open Go
def isD (u : Nat) (H : Heap) : Prop := ∃ w, hget H [0] = some (.cells [.int .u64 w] true u)
def wordB : Option Blk -> Int
 | some (.cells [.int _ w] _ _) => w
 | _ => 0
noncomputable def dW (H : Heap) : Int := wordB (hget H [0])
section
variable {u a k c : Nat} {w : Int} {H H' : Heap} {X : Blk} {x : Option Blk} {d : Delta}
theorem Jo (h : isD u H) : hget H [0] = some (.cells [.int .u64 (dW H)] true u) := by
 obtain ⟨w, h⟩ := h
 have e : dW H = w := by unfold dW; rw [h]; rfl
 rw [e, h]
theorem Zjp (h : hget H [0] = some (.cells [.int .u64 w] true u)) : dW H = w := by unfold dW; rw [h]; rfl
theorem Zan (e : hget H [0] = hget H' [0]) : isD u H = isD u H' := by unfold isD; rw [e]
theorem Zrj (e : hget H [0] = hget H' [0]) : dW H = dW H' := by unfold dW; rw [e]
theorem Zdw (h : isD u H) : hget (hset H [0] X) [0] = some X := hss (Jo h)
theorem Ys (h : isD u H) : isD u (hset H [0] (.cells [.int .u64 w] true u)) := ⟨w, Zdw h⟩
theorem Zdx (h : isD u H) : dW (hset H [0] (.cells [.int .u64 w] true u)) = w := Zjp (u := u) (Zdw h)
theorem Zdy : isD u (([0], .cells [.int .u64 w] true u) :: H) = True := eq_true ⟨w, Z2 ..⟩
theorem Z6j : dW (([0], .cells [.int .u64 w] true u) :: H) = w := Zjp (u := u) (Z2 ..)
theorem Xx : isD u (([a + 1], X) :: H) = isD u H := Zan (hc11 (by omega))
theorem Z1s : dW (([a + 1], X) :: H) = dW H := Zrj (hc11 (by omega))
theorem Zft : isD u (hset H [a + 1] X) = isD u H := Zan (hs11 (by omega))
theorem Y2 : isD u (redoH H (([0], some (.cells [.int .u64 w] true u)) :: d)) = True := eq_true ⟨w, by rw [Z0, Zd]; rfl⟩
theorem Z0o : dW (redoH H (([0], some (.cells [.int .u64 w] true u)) :: d)) = w := Zjp (u := u) (by rw [Z0, Zd]; rfl)
theorem Yp : isD u (redoH H (([a + 1], x) :: d)) = isD u (redoH H d) := Zan (by rw [Z0, Z0, lk11 (by omega)])
theorem Yq : isD u (redoH H (([a, k, c], x) :: d)) = isD u (redoH H d) := Zan (by rw [Z0, Z0, lk31])
end
end Go.Am
namespace Go.Proofs.Ytgnpnfkncbnjnaa
open Go Go.Am
attribute [local congr] Za Z6 Z7
attribute [local go_sem] Go.Am.buildSliceA Go.Am.frozen Go.Am.freezeG Go.Am.freezeGs Go.Am.minmax
structure RgG (m : Int) (r : Rg) : Prop where
 lo : 0 <= r.lo
 le : r.lo <= r.hi
 hi : r.hi <= m
def BandsG (k : Int) : List Rel -> Prop
 | [] => True
 | b :: l => 0 <= b.frm /\ b.frm < k /\ (∀ m ∈ l, b.frm < m.frm) /\ RgG 400000 b.rate /\ BandsG k l
theorem Z47 {k k' : Int} {r : Rg} (h0 : 0 <= k) (h1 : k < k') (hr : RgG 400000 r) : ∀ {l : List Rel}, BandsG k l -> BandsG k' (l ++ [⟨k, r⟩])
 | [], _ => ⟨h0, h1, (fun _ h => by cases h), hr, trivial⟩
 | b :: l, ⟨g1, g2, g3, g4, g5⟩ => ⟨g1, by omega, fun m hm => by
   rcases List.mem_append.1 hm with hm | hm
   ·exact g3 m hm
   ·simp only [List.mem_singleton] at hm; subst hm; exact g2, g4, Z47 h0 h1 hr g5⟩
theorem Z48 {k k' : Int} (h : k <= k') : ∀ {l : List Rel}, BandsG k l -> BandsG k' l
 | [], _ => trivial
 | b :: l, ⟨g1, g2, g3, g4, g5⟩ => ⟨g1, by omega, g3, g4, Z48 h g5⟩
structure VesG (v : Ves) : Prop where
 vol : 1 <= v.vol /\ v.vol <= 50
 free : RgG 20000 v.free
 bound : RgG 50000 v.bound
 len : v.bands.length <= 2
 bands : BandsG 1100 v.bands
structure PipG (n : Int) (p : Pip) : Prop where
 a : 0 <= p.a /\ p.a < n
 b : 0 <= p.b /\ p.b < n
 ab : p.a ≠ p.b
 out : RgG 120000 p.out
 back : RgG 120000 p.back
structure PmpG (n : Int) (p : Pmp) : Prop where
 at' : 0 <= p.at' /\ p.at' < n
 part : RgG 200000 p.part
structure InlG (n : Int) (p : Inl) : Prop where
 at' : 0 <= p.at' /\ p.at' < n
 gas : RgG 30 p.gas
structure GtrG (n : Int) (p : Gtr) : Prop where
 at' : 0 <= p.at' /\ p.at' < n
 part : RgG 300000 p.part
 room : RgG 9000 p.room
structure VacG (v : Vac) : Prop where
 n1 : 1 <= v.vessels.length
 n4 : v.vessels.length <= 4
 ves : ∀ x ∈ v.vessels, VesG x
 np : v.pipes.length <= 4
 pip : ∀ x ∈ v.pipes, PipG v.vessels.length x
 nm : v.pumps.length <= 2
 pmp : ∀ x ∈ v.pumps, PmpG v.vessels.length x
 nl : v.leaks.length <= 2
 inl : ∀ x ∈ v.leaks, InlG v.vessels.length x
 ng : v.getters.length <= 2
 gtr : ∀ x ∈ v.getters, GtrG v.vessels.length x
theorem Z1t (w m : Int) (h : 0 <= m) : RgG m (rangeR w 0 m) := by
 have := Z97 w 0 m h
 exact ⟨this.1, this.2.1, this.2.2⟩
theorem Zfu (m : Int) (h : 0 <= m) : RgG m ⟨0, 0⟩ := ⟨Int.le_refl _, Int.le_refl _, h⟩
section
variable {H : Heap} {m u : Nat} {p : Nm} {jr : Bool} {j : Delta}
def jD (jr : Bool) (w : Int) (u : Nat) (j : Delta) : Delta := match jr with | true => ([0], some (.cells [.int .u64 w] true u)) :: j | false => j
@[go_sem] theorem Zrk (w : Int) (u : Nat) (j : Delta) : jD true w u j = ([0], some (.cells [.int .u64 w] true u)) :: j := rfl
@[go_sem] theorem Zp1 (w : Int) (u : Nat) (j : Delta) : jD false w u j = j := rfl
theorem Js (n : Int) (K : Nat) (hd : isD u H) (hn : n <= 9223372036854775807) : acall cfg (K + 2) 25 [.ptr [0] 0, .int .i64 n] ⟨H, m, p, jr, j⟩ = .ret (.int .i64 (uptoN (dW H) n), ⟨hset H [0] (.cells [.int .u64 (nextW (dW H))] true u), m, p, jr, jD jr (nextW (dW H)) u j⟩) :=
 Z3z (dW H) n [0] u K ⟨H, m, p, jr, j⟩ (Jo hd) hn
theorem Zjq (n : Int) (K : Nat) (hd : isD u H) (hn : n <= 9223372036854775807) : acall cfg (K + 3) 44 [.ptr [0] 0, .int .i64 n] ⟨H, m, p, jr, j⟩ = .ret (.bool (oneB (dW H) n), ⟨hset H [0] (.cells [.int .u64 (nextW (dW H))] true u), m, p, jr, jD jr (nextW (dW H)) u j⟩) :=
 Zf7 (dW H) n [0] u K ⟨H, m, p, jr, j⟩ (Jo hd) hn
theorem Z1u (lo hi : Int) (K : Nat) (h1 : -1000000000000 <= lo) (h2 : lo <= hi) (h3 : hi <= 1000000000000) (hd : isD u H) : acall cfg (K + 3) 85 [.ptr [0] 0, .int .i64 lo, .int .i64 hi] ⟨H, m, p, jr, j⟩ = .ret (.int .i64 (betweenN (dW H) lo hi), ⟨hset H [0] (.cells [.int .u64 (nextW (dW H))] true u), m, p, jr, jD jr (nextW (dW H)) u j⟩) :=
 Z2k (dW H) lo hi [0] u K ⟨H, m, p, jr, j⟩ (Jo hd) h1 h2 h3
theorem Z6k (lo hi : Int) (K : Nat) (h1 : -1000000000000 <= lo) (h2 : lo <= hi) (h3 : hi <= 1000000000000) (hd : isD u H) : acall cfg (K + 4) 87 [.ptr [0] 0, .int .i64 lo, .int .i64 hi] ⟨H, m, p, jr, j⟩ = .ret (rgV (rangeR (dW H) lo hi), ⟨hset H [0] (.cells [.int .u64 (nextW (nextW (dW H)))] true u), m, p, jr, jD jr (nextW (nextW (dW H))) u j⟩) :=
 Z5c (dW H) lo hi [0] u K ⟨H, m, p, jr, j⟩ (Jo hd) h1 h2 h3
theorem Z7x (most : Int) (K : Nat) (h2 : 0 <= most) (h3 : most <= 1000000000000) (hd : isD u H) : acall cfg (K + 5) 88 [.ptr [0] 0, .int .i64 most] ⟨H, m, p, jr, j⟩ = .ret (rgV (rangeR (dW H) 0 most), ⟨hset H [0] (.cells [.int .u64 (nextW (nextW (dW H)))] true u), m, p, jr, jD jr (nextW (nextW (dW H))) u j⟩) :=
 Zdh (dW H) most [0] u K ⟨H, m, p, jr, j⟩ (Jo hd) h2 h3
end
end Go.Proofs.Ytgnpnfkncbnjnaa
namespace Go.Proofs.Ytgnpnfkncbnjnaa
attribute [local go_sem_proc] Int.reduceEq Int.reduceNeg Nat.reduceEqDiff Nat.reduceLT Nat.reduceAdd Nat.reduceSub Nat.reduceMul Int.reduceLE Int.reduceLT Int.reduceToNat Nat.reduceLeDiff
attribute [local go_sem] Int.toNat_natCast Bool.not_true Bool.not_false
open Go Go.Am
attribute [local congr] Za Z6 Z7
attribute [local go_sem] Go.Am.frozen Go.Am.freezeG Go.Am.freezeGs Go.Am.minmax
theorem bs69 (fr a b : Int) (s : St) : buildSliceA (cfg.at 23) true 69 1 [(0, .agg [.int .i64 fr, .int .i64 a, .int .i64 b])] s = .ret (.lst [.agg [.int .i64 fr, .int .i64 a, .int .i64 b]], s) := by
 simp -implicitDefEqProofs only [go_sem, Go.Am.buildSliceA]
theorem bs33 (a b c d e : Int) (q : Nm) (l : List AV) (s : St) : buildSliceA (cfg.at 23) true 33 1 [(0, .agg [.int .i64 a, .int .i64 b, .int .i64 c, .int .i64 d, .int .i64 e, ownV q l])] s = .ret (.lst [.agg [.int .i64 a, .int .i64 b, .int .i64 c, .int .i64 d, .int .i64 e, .lst l]], s) := by
 have h : (ownV q l).shut = .lst l := Xj q l
 have h2 : shuts [.int .i64 a, .int .i64 b, .int .i64 c, .int .i64 d, .int .i64 e, ownV q l] = [.int .i64 a, .int .i64 b, .int .i64 c, .int .i64 d, .int .i64 e, .lst l] := by
  simp only [shuts, AV.shut, h]
 simp -implicitDefEqProofs only [go_sem, Go.Am.buildSliceA, h2]
theorem bs34 (a b c d e f : Int) (s : St) : buildSliceA (cfg.at 23) true 34 1 [(0, .agg [.int .i64 a, .int .i64 b, .int .i64 c, .int .i64 d, .int .i64 e, .int .i64 f])] s = .ret (.lst [.agg [.int .i64 a, .int .i64 b, .int .i64 c, .int .i64 d, .int .i64 e, .int .i64 f]], s) := by
 simp -implicitDefEqProofs only [go_sem, Go.Am.buildSliceA]
theorem bs35 (a b c : Int) (s : St) : buildSliceA (cfg.at 23) true 35 1 [(0, .agg [.int .i64 a, .int .i64 b, .int .i64 c])] s = .ret (.lst [.agg [.int .i64 a, .int .i64 b, .int .i64 c]], s) := by
 simp -implicitDefEqProofs only [go_sem, Go.Am.buildSliceA]
theorem bs36 (a b c : Int) (s : St) : buildSliceA (cfg.at 23) true 36 1 [(0, .agg [.int .i64 a, .int .i64 b, .int .i64 c])] s = .ret (.lst [.agg [.int .i64 a, .int .i64 b, .int .i64 c]], s) := by
 simp -implicitDefEqProofs only [go_sem, Go.Am.buildSliceA]
theorem bs37 (a b c d e : Int) (s : St) : buildSliceA (cfg.at 23) true 37 1 [(0, .agg [.int .i64 a, .int .i64 b, .int .i64 c, .int .i64 d, .int .i64 e])] s = .ret (.lst [.agg [.int .i64 a, .int .i64 b, .int .i64 c, .int .i64 d, .int .i64 e]], s) := by
 simp -implicitDefEqProofs only [go_sem, Go.Am.buildSliceA]
theorem Zjr {a bw : Int} {N : Int} (ha : 0 <= a /\ a < N) (hb : 1 <= bw /\ bw <= N - 1) : 0 <= (a + bw).tmod N /\ (a + bw).tmod N < N /\ a ≠ (a + bw).tmod N := by
 have e0 : (a + bw).tmod N = (a + bw) % N := Int.tmod_eq_emod_of_nonneg (by omega)
 rw [e0]
 by_cases h : a + bw < N
 ·rw [Int.emod_eq_of_lt (by omega) h]; omega
 ·have e : a + bw = (a + bw - N) + N := by omega
  have e2 : (a + bw) % N = (a + bw - N) % N := by
   conv => lhs; rw [e]
   rw [Int.add_emod_right]
  rw [e2, Int.emod_eq_of_lt (by omega) (by omega)]; omega
theorem Zm9 : cfg.desc 69 = some (.slice 138) := by kernel_rfl
theorem Zma : cfg.desc 33 = some (.slice 71) := by kernel_rfl
theorem Zmb : cfg.desc 34 = some (.slice 140) := by kernel_rfl
theorem Zmc : cfg.desc 35 = some (.slice 128) := by kernel_rfl
theorem Zmd : cfg.desc 36 = some (.slice 61) := by kernel_rfl
theorem Zme : cfg.desc 37 = some (.slice 142) := by kernel_rfl
theorem Z6l {α : Type} (f : α -> AV) (b : Nm) (l : List α) (x : α) : ownV b ((l ++ [x]).map f) = .own b ((l ++ [x]).map f) := by
 rw [List.map_append]; exact Yf _ _ _
def nil5 : List AV := [.nils, .nils, .nils, .nils, .nils]
theorem Z6m (w : Int) (b : Nm) (u : Nat) (K : Nat) (st : St) (hb : hget st.H b = some (.cells [.int .u64 w] true u)) (hK : 100 < K) :
  ∃ v w', VacG v /\ acall cfg (K + 10) 23 [.ptr b 0] st = .ret (vacV v, st.put b (.cells [.int .u64 w'] true u)) := by
 have key : ∃ v w', VacG v /\ (bodyA (cfg.at 23) (acall cfg (K + 9)) (around cfg (K + 9)) (K + 9 + 1) Try.f23 [.ptr [0] 0] ⟨[([0], .cells [.int .u64 w] true u)], 1, [], false, []⟩).Does fun x => x.1.shut = vacV v /\ hget x.2.H [0] = some (.cells [.int .u64 w'] true u) := by
  suffices h : (bodyA (cfg.at 23) (acall cfg (K + 9)) (around cfg (K + 9)) (K + 9 + 1) Try.f23 [.ptr [0] 0] ⟨[([0], .cells [.int .u64 w] true u)], 1, [], false, []⟩).Does fun x => ∃ v w', VacG v /\ x.1.shut = vacV v /\ hget x.2.H [0] = some (.cells [.int .u64 w'] true u) by
   obtain ⟨x, e, v, w', h1, h2, h3⟩ := h
   exact ⟨v, w', h1, x, e, h2, h3⟩
  refine Z9 rfl fun T hT' hA => ?_
  have a0 := hA 0 _ rfl
  have hT : T.length = 144 := hT'
  clear hA hT'
  have bt := fun H m jr j hd => Z1u (H := H) (m := m) (u := u) (p := []) (jr := jr) (j := j) 1 4 (K + 6) (by decide) (by decide) (by decide) hd
  have d0 : isD u [([0], .cells [.int .u64 w] true u)] := ⟨w, rfl⟩
  simp -implicitDefEqProofs (maxDischargeDepth := 9) only [go_sem, Z6j, Xx, Z1s, a0, hT, bt, d0]
  have hb1 := Yd w 1 4 (by decide)
  generalize betweenN w 1 4 = N at *
  clear bt d0
  simp only [Z3]
  refine Zj (fun k T s' => T.length = 144 /\ nth T 0 = some (.ptr [0] 0) /\ nth T 2 = some (.ptr [1] 0) /\ nth T 3 = some (.ptr [2] 0) /\ nth T 4 = some (.int .i64 N) /\ ∃ (i n c : Nat) (H : Heap) (vs : List Ves), nth T 5 = some (.int .i64 i) /\ (i : Int) <= N /\ k = N.toNat - i /\ s' = ⟨H, n + 3, [], false, []⟩ /\ isD u H /\ hget H [1] = some (.cells nil5 true 0) /\ hget H [2] = some (.cells (ownV [c + 3] (vs.map vesV) :: [.nils, .nils, .nils, .nils]) true 0) /\ (vs.map vesV ≠ [] -> c < n /\ hget H [c + 3] = some (.tok vs.length 6)) /\ vs.length = i /\ ∀ x ∈ vs, VesG x) (k := N.toNat) (by omega) ?_ ?_
  ·exact ⟨by simp -implicitDefEqProofs only [go_sem, hT], by simp -implicitDefEqProofs only [go_sem, a0], by simp -implicitDefEqProofs only [go_sem, hT], by simp -implicitDefEqProofs only [go_sem, hT], by simp -implicitDefEqProofs only [go_sem, hT], 0, 0, 0, _, [], by simp -implicitDefEqProofs only [go_sem, hT] <;> rfl, by omega, rfl, rfl, ⟨_, rfl⟩, rfl, rfl, fun h => absurd rfl h, rfl, fun _ h => by cases h⟩
  clear a0 hT T
  rintro k T s' ⟨hT, a0, a2, a3, a4, i, n, c, H, vs, a5, hi, rfl, rfl, hd, g1, g2, gt, hvl, hvs⟩
  simp -implicitDefEqProofs (maxDischargeDepth := 9) only [go_sem, a4, a5, hT]
  by_cases hlo : (i : Int) < N
  ·have bt := fun H m jr j hd => Z1u (H := H) (m := m) (u := u) (p := []) (jr := jr) (j := j) 1 50 (K + 6) (by decide) (by decide) (by decide) hd
   have rt := fun H m jr j hd => Z6k (H := H) (m := m) (u := u) (p := []) (jr := jr) (j := j) 0 20000 (K + 5) (by decide) (by decide) (by decide) hd
   have ot := fun H m jr j hd => Zjq (H := H) (m := m) (u := u) (p := []) (jr := jr) (j := j) 2 (K + 6) hd (by decide)
   simp -implicitDefEqProofs (maxDischargeDepth := 9) only [go_sem, Ys, Zdx, Xx, Z1s, Z7u, a0, hT, hlo, bt, rt, ot, hd]
   have hvol := Yd (dW H) 1 50 (by decide)
   have hfree := Z1t (nextW (dW H)) 20000 (by decide)
   generalize betweenN (dW H) 1 50 = vol at *
   generalize rangeR (nextW (dW H)) 0 20000 = free at *
   generalize oneB (nextW (nextW (nextW (dW H)))) 2 = ob at *
   generalize nextW (nextW (nextW (nextW (dW H)))) = w1 at *
   clear bt rt ot
   obtain ⟨H1, hH1, d1, q1, q2, qt⟩ : ∃ H1, H1 = hset H [0] (.cells [.int .u64 w1] true u) /\ isD u H1 /\ hget H1 [1] = some (.cells nil5 true 0) /\ hget H1 [2] = some (.cells (ownV [c + 3] (vs.map vesV) :: [.nils, .nils, .nils, .nils]) true 0) /\ (vs.map vesV ≠ [] -> c < n /\ hget H1 [c + 3] = some (.tok vs.length 6)) :=
    ⟨_, rfl, Ys hd, by rw [hs11 (by decide)]; exact g1, by rw [hs11 (by decide)]; exact g2, fun h => ⟨(gt h).1, by rw [hs11 (by omega)]; exact (gt h).2⟩⟩
   rw [<- hH1]
   clear hH1 hd g1 g2 gt
   simp only [Z3]
   refine Tr.Does.mono (Q := fun x => ∃ bd T' H', x = ((AExit.normal, T'), (⟨H', n + 4, [], false, []⟩ : St)) /\ RgG 50000 bd /\ T'.length = 144 /\ nth T' 0 = some (.ptr [0] 0) /\ nth T' 2 = some (.ptr [1] 0) /\ nth T' 3 = some (.ptr [2] 0) /\ nth T' 4 = some (.int .i64 N) /\ nth T' 5 = some (.int .i64 i) /\ nth T' 6 = some (.ptr [n + 3] 0) /\
    isD u H' /\ hget H' [1] = some (.cells nil5 true 0) /\ hget H' [2] = some (.cells (ownV [c + 3] (vs.map vesV) :: [.nils, .nils, .nils, .nils]) true 0) /\ (vs.map vesV ≠ [] -> c < n /\ hget H' [c + 3] = some (.tok vs.length 6)) /\ hget H' [n + 3] = some (.cells [.int .i64 vol, .int .i64 free.lo, .int .i64 free.hi, .int .i64 bd.lo, .int .i64 bd.hi, .nils] true 0)) ?_ ?_
   ·cases ob with
    | true =>
     have rt := fun H m jr j hd => Z6k (H := H) (m := m) (u := u) (p := []) (jr := jr) (j := j) 0 50000 (K + 5) (by decide) (by decide) (by decide) hd
     simp -implicitDefEqProofs (maxDischargeDepth := 9) only [go_sem, Xx, Z1s, a0, hT, rt, d1]
     have hz := Z1t (dW H1) 50000 (by decide)
     refine ⟨rangeR (dW H1) 0 50000, _, _, rfl, hz, by simp -implicitDefEqProofs only [go_sem, hT], by simp -implicitDefEqProofs only [go_sem, a0], by simp -implicitDefEqProofs only [go_sem, a2], by simp -implicitDefEqProofs only [go_sem, a3], by simp -implicitDefEqProofs only [go_sem, a4], by simp -implicitDefEqProofs only [go_sem, a5], by simp -implicitDefEqProofs only [go_sem, hT], by simp only [Ys, Xx, d1], ?_, ?_, fun h => ⟨(qt h).1, ?_⟩, Z2 ..⟩
     ·rw [hc11 (by omega), hs11 (by decide)]; exact q1
     ·rw [hc11 (by omega), hs11 (by decide)]; exact q2
     ·rw [hc11 (by have := (qt h).1; omega), hs11 (by omega)]; exact (qt h).2
    | false =>
     simp -implicitDefEqProofs (maxDischargeDepth := 9) only [go_sem]
     refine ⟨⟨0, 0⟩, _, _, rfl, Zfu _ (by decide), by simp -implicitDefEqProofs only [go_sem, hT], by simp -implicitDefEqProofs only [go_sem, a0], by simp -implicitDefEqProofs only [go_sem, a2], by simp -implicitDefEqProofs only [go_sem, a3], by simp -implicitDefEqProofs only [go_sem, a4], by simp -implicitDefEqProofs only [go_sem, a5], by simp -implicitDefEqProofs only [go_sem, hT], by simp only [Xx, d1], ?_, ?_, fun h => ⟨(qt h).1, ?_⟩, Z2 ..⟩
     ·rw [hc11 (by omega)]; exact q1
     ·rw [hc11 (by omega)]; exact q2
     ·rw [hc11 (by have := (qt h).1; omega)]; exact (qt h).2
   clear a0 a2 a3 a4 a5 hT T d1 q1 q2 qt H1
   rintro _ ⟨bd, T, H, rfl, hbd, hT, a0, a2, a3, a4, a5, a6, hd, g1, g2, gt, g3⟩
   have ut := fun n H m jr j hn hd => Js (H := H) (m := m) (u := u) (p := []) (jr := jr) (j := j) n (K + 7) hd hn
   have ut1 := fun H m jr j hd => ut 300 H m jr j (by decide) hd
   have ut2 := fun H m jr j hd => ut 3 H m jr j (by decide) hd
   simp -implicitDefEqProofs (maxDischargeDepth := 9) only [go_sem, Ys, Zdx, Z7u, a0, hT, ut1, ut2, hd]
   have hfr := Zy (dW H) 300 (by decide)
   have hct := Zy (nextW (dW H)) 3 (by decide)
   generalize uptoN (dW H) 300 = fr0 at *
   generalize uptoN (nextW (dW H)) 3 = ct0 at *
   generalize nextW (nextW (dW H)) = w1 at *
   clear ut1 ut2
   obtain ⟨ct, rfl⟩ : ∃ q : Nat, ct0 = q := ⟨ct0.toNat, by omega⟩
   simp only [Z3]
   refine Zj (fun l T s' => T.length = 144 /\ nth T 0 = some (.ptr [0] 0) /\ nth T 2 = some (.ptr [1] 0) /\ nth T 3 = some (.ptr [2] 0) /\ nth T 4 = some (.int .i64 N) /\ nth T 5 = some (.int .i64 i) /\ nth T 6 = some (.ptr [n + 3] 0) /\ nth T 8 = some (.int .i64 l) /\ ∃ (fr : Int) (m cb : Nat) (H : Heap) (bs : List Rel), nth T 7 = some (.int .i64 fr) /\ s' = ⟨H, m + n + 4, [], false, []⟩ /\ isD u H /\ hget H [1] = some (.cells nil5 true 0) /\ hget H [2] = some (.cells (ownV [c + 3] (vs.map vesV) :: [.nils, .nils, .nils, .nils]) true 0) /\ (vs.map vesV ≠ [] -> c < n /\ hget H [c + 3] = some (.tok vs.length 6)) /\
    hget H [n + 3] = some (.cells [.int .i64 vol, .int .i64 free.lo, .int .i64 free.hi, .int .i64 bd.lo, .int .i64 bd.hi, ownV [cb, 7, 0] (bs.map relV)] true 0) /\ (bs ≠ [] -> cb < m + n + 4 /\ hget H [cb, 7, 0] = some (.tok bs.length 3)) /\ bs.length + l <= 2 /\ 0 <= fr /\ fr < 300 + 400 * (bs.length : Int) /\ BandsG fr bs) (k := ct) (by omega) ?_ ?_
   ·exact ⟨by simp -implicitDefEqProofs only [go_sem, hT], by simp -implicitDefEqProofs only [go_sem, a0], by simp -implicitDefEqProofs only [go_sem, a2], by simp -implicitDefEqProofs only [go_sem, a3], by simp -implicitDefEqProofs only [go_sem, a4], by simp -implicitDefEqProofs only [go_sem, a5], by simp -implicitDefEqProofs only [go_sem, a6], by simp -implicitDefEqProofs only [go_sem, hT], fr0, 0, 0, _, [], by simp -implicitDefEqProofs only [go_sem, hT], by rw [Nat.zero_add], Ys hd, by rw [hs11 (by decide)]; exact g1, by rw [hs11 (by decide)]; exact g2, fun h => ⟨(gt h).1, by rw [hs11 (by omega)]; exact (gt h).2⟩, by rw [hs11 (by omega)]; exact g3, fun h => absurd rfl h, by show 0 + ct <= 2; omega, hfr.1, by show fr0 < 300 + 400 * ((0 : Nat) : Int); omega, trivial⟩
   clear a0 a2 a3 a4 a5 a6 hT T hd g1 g2 gt g3 H w1 hfr hct fr0 ct ut
   rintro l T s' ⟨hT, a0, a2, a3, a4, a5, a6, a8, fr, m, cb, H, bs, a7, rfl, hd, g1, g2, gt, g3, gb, hbl, hf0, hf1, hbg⟩
   simp -implicitDefEqProofs only [go_sem, a8, hT]
   by_cases hlo : (0 : Int) < (l : Int)
   ·have hl1 : l - 1 < l := by omega
    have pt := fun m p jr j => Z7x (H := H) (m := m) (u := u) (p := p) (jr := jr) (j := j) 400000 (K + 4) (by decide) (by decide) hd
    have hrg := Z1t (dW H) 400000 (by decide)
    generalize rangeR (dW H) 0 400000 = rg at *
    generalize nextW (nextW (dW H)) = w2 at *
    have pt' : ∀ m p, acall cfg (K + 9) 88 [.ptr [0] 0, .int .i64 400000] ⟨H, m, p, true, []⟩ = .ret (.agg [.int .i64 rg.lo, .int .i64 rg.hi], ⟨hset H [0] (.cells [.int .u64 w2] true u), m, p, true, [([0], some (.cells [.int .u64 w2] true u))]⟩) := fun m p => pt m p true []
    clear pt
    have gv : hget (hdel H [0]) [n + 3] = some (.cells [.int .i64 vol, .int .i64 free.lo, .int .i64 free.hi, .int .i64 bd.lo, .int .i64 bd.hi, ownV [cb, 7, 0] (bs.map relV)] true 0) := (hd11 (by omega)).trans g3
    have hap := fun (l : List AV) (n : Nat) (b p : Nm) (H : Heap) (r : Rg) (hr : (l.length + 1) * 24 <= 140737488355328) (hg : l ≠ [] -> hget H b = some (.tok l.length 3)) => Yi (C := cfg.at 23) (sT := 69) (b := b) (l := l) (x := .agg [.int .i64 fr, .int .i64 r.lo, .int .i64 r.hi]) (H := H) (n := n) (p := p) (jr := true) (j := []) (z := 3) Zm9 Zhm rfl rfl rfl rfl rfl rfl hr hg
    simp -implicitDefEqProofs only [go_sem, hlo]
    simp only [Z3]
    refine Tr.Does.mono (Q := fun x => ∃ T' H2, x = (T', (⟨H2, m + n + 5, [], false, []⟩ : St)) /\ T'.length = 144 /\ nth T' 0 = some (.ptr [0] 0) /\ nth T' 2 = some (.ptr [1] 0) /\ nth T' 3 = some (.ptr [2] 0) /\ nth T' 4 = some (.int .i64 N) /\ nth T' 5 = some (.int .i64 i) /\ nth T' 6 = some (.ptr [n + 3] 0) /\ nth T' 7 = some (.int .i64 fr) /\ nth T' 8 = some (.int .i64 l) /\
     isD u H2 /\ hget H2 [1] = some (.cells nil5 true 0) /\ hget H2 [2] = some (.cells (ownV [c + 3] (vs.map vesV) :: [.nils, .nils, .nils, .nils]) true 0) /\ (vs.map vesV ≠ [] -> c < n /\ hget H2 [c + 3] = some (.tok vs.length 6)) /\
     hget H2 [n + 3] = some (.cells [.int .i64 vol, .int .i64 free.lo, .int .i64 free.hi, .int .i64 bd.lo, .int .i64 bd.hi, ownV [m + n + 4, 7, 0] ((bs ++ [(⟨fr, rg⟩ : Rel)]).map relV)] true 0) /\ hget H2 [m + n + 4, 7, 0] = some (.tok (bs ++ [(⟨fr, rg⟩ : Rel)]).length 3)) ?_ ?_
    ·cases bs with
     | nil =>
      have hap0 := fun (n : Nat) (p : Nm) (H : Heap) (r : Rg) => hap [] n [] p H r (by simp) (fun h => absurd rfl h)
      simp only [ownV, dropTok, tokJ, List.nil_append, List.length_nil, List.map_nil] at hap0 g3 gv
      have ip : isPre [m + n + 4, 9] [n + 3] = false := Go.Am.Yc _ _ (by omega)
      try simp only [Z3]
      refine Zc [[], [0], [], [], [3], [2, 4, 3], [5, 2, 4, 3], [1, 0, 6, 5, 2, 4, 3], [7, 1, 0, 6, 5, 2, 4, 3], [8, 7, 1, 0, 6, 5, 2, 4, 3]] [[], [], [], [], [[0]], [], [], [], [], [[n + 3]]] (by kernel_rfl) rfl rfl ?_
      simp -implicitDefEqProofs only [go_sem, Z0, lkn, lk11, lk31, Option.getD_some, Option.getD_none, a0, a6, a7, hT, g3, gv, pt', bs69, hap0 _ _ _ ⟨rg.lo, rg.hi⟩, ip, Zb]
      refine ⟨_, _, rfl, by simp -implicitDefEqProofs only [go_sem, hT], by simp -implicitDefEqProofs only [go_sem, a0], by simp -implicitDefEqProofs only [go_sem, a2], by simp -implicitDefEqProofs only [go_sem, a3], by simp -implicitDefEqProofs only [go_sem, a4], by simp -implicitDefEqProofs only [go_sem, a5], by simp -implicitDefEqProofs only [go_sem, a6], by simp -implicitDefEqProofs only [go_sem, a7], by simp -implicitDefEqProofs only [go_sem, a8], by simp only [Y2, Yp, Yq], ?_, ?_, fun h => ⟨(gt h).1, ?_⟩, ?_, ?_⟩
      ·simp (disch := omega) only [Z0, lkn, lk11, lk31, Option.getD_none, g1]
      ·simp (disch := omega) only [Z0, lkn, lk11, lk31, Option.getD_none, g2]
      ·have := (gt h).1
       simp (disch := omega) only [Z0, lkn, lk11, lk31, Option.getD_none, (gt h).2]
      ·simp (disch := omega) only [Z0, Zd, Option.getD_some]; rfl
      ·simp (disch := omega) only [Z0, Zd, lk13, Option.getD_some] <;> rfl
     | cons b0 bs =>
      obtain ⟨hcb, r1⟩ := gb (by simp)
      have hapN := fun (n : Nat) (p : Nm) (H : Heap) (r : Rg) (hg : hget H [cb, 7, 0] = some (.tok (b0 :: bs).length 3)) => hap ((b0 :: bs).map relV) n [cb, 7, 0] p H r (by rw [List.length_map]; omega) (fun _ => by rw [List.length_map]; exact hg)
      have hrel : ((b0 :: bs) ++ [(⟨fr, rg⟩ : Rel)]).map relV = (b0 :: bs).map relV ++ [.agg [.int .i64 fr, .int .i64 rg.lo, .int .i64 rg.hi]] := by rw [List.map_append]; rfl
      have hrl : ((b0 :: bs) ++ [(⟨fr, rg⟩ : Rel)]).length = (b0 :: bs).length + 1 := by simp
      have n1 : (b0 :: bs).map relV ≠ [] := by simp
      have hlm : ((b0 :: bs).map relV).length = (b0 :: bs).length := List.length_map ..
      rw [hrel, hrl]
      generalize (b0 :: bs).map relV = R at *
      generalize (b0 :: bs).length = ln at *
      have o1 : ∀ b, ownV b R = .own b R := fun b => by cases R with | nil => exact absurd rfl n1 | cons a r => rfl
      have o3 : ∀ b j, tokJ R b j = (b, none) :: j := fun b j => by cases R with | nil => exact absurd rfl n1 | cons a r => rfl
      have o5 : ∀ b H, dropTok R b H = hdel H b := fun b H => by cases R with | nil => exact absurd rfl n1 | cons a r => rfl
      simp only [o1, o3, o5, Yf, hlm] at hapN g3 gv
      rw [Yf]
      have ip : isPre [m + n + 4, 9] [n + 3] = false := Go.Am.Yc _ _ (by omega)
      have ip2 : isPre [m + n + 4, 7] [cb, 7, 0] = false := Go.Am.Yc _ _ (by omega)
      try simp only [Z3]
      refine Zc [[], [0], [], [], [3], [2, 4, 3], [5, 2, 4, 3], [1, 0, 6, 5, 2, 4, 3], [7, 1, 0, 6, 5, 2, 4, 3], [8, 7, 1, 0, 6, 5, 2, 4, 3]] [[], [], [], [], [[0]], [], [], [[cb, 7, 0]], [], [[n + 3]]] (by kernel_rfl) rfl rfl ?_
      simp -implicitDefEqProofs only [go_sem, Z0, lkn, lk11, lk13, lk31, Option.getD_some, Option.getD_none, a0, a6, a7, hT, g3, gv, r1, pt', bs69, hapN _ _ _ ⟨rg.lo, rg.hi⟩, ip, ip2, Zb]
      refine ⟨_, _, rfl, by simp -implicitDefEqProofs only [go_sem, hT], by simp -implicitDefEqProofs only [go_sem, a0], by simp -implicitDefEqProofs only [go_sem, a2], by simp -implicitDefEqProofs only [go_sem, a3], by simp -implicitDefEqProofs only [go_sem, a4], by simp -implicitDefEqProofs only [go_sem, a5], by simp -implicitDefEqProofs only [go_sem, a6], by simp -implicitDefEqProofs only [go_sem, a7], by simp -implicitDefEqProofs only [go_sem, a8], by simp only [Y2, Yp, Yq], ?_, ?_, fun h => ⟨(gt h).1, ?_⟩, ?_, ?_⟩
      ·simp (disch := omega) only [Z0, lkn, lk11, lk31, Option.getD_none, g1]
      ·simp (disch := omega) only [Z0, lkn, lk11, lk31, Option.getD_none, g2]
      ·have := (gt h).1
       simp (disch := omega) only [Z0, lkn, lk11, lk31, Option.getD_none, (gt h).2]
      ·simp (disch := omega) only [Z0, Zd, Option.getD_some] <;> rfl
      ·simp (disch := omega) only [Z0, Zd, lk13, Option.getD_some] <;> rfl
    clear a0 a2 a3 a4 a5 a6 a7 a8 hT T hd g1 g2 gt g3 gv gb H pt' hap cb
    rintro _ ⟨T, H, rfl, hT, a0, a2, a3, a4, a5, a6, a7, a8, hd, g1, g2, gt, g3, gb⟩
    have bt := fun H m jr j hd => Z1u (H := H) (m := m) (u := u) (p := []) (jr := jr) (j := j) 1 400 (K + 6) (by decide) (by decide) (by decide) hd
    have hbr := Yd (dW H) 1 400 (by decide)
    have hlen : (bs ++ [(⟨fr, rg⟩ : Rel)]).length + (l - 1) <= 2 := by rw [List.length_append, List.length_singleton]; omega
    have hbs2 := Z47 (k := fr) (k' := fr + betweenN (dW H) 1 400) hf0 (by omega) hrg hbg
    have hf2 : 0 <= fr + betweenN (dW H) 1 400 := by omega
    have hf3 : fr + betweenN (dW H) 1 400 < 300 + 400 * ((bs ++ [(⟨fr, rg⟩ : Rel)]).length : Int) := by rw [List.length_append, List.length_singleton]; omega
    have hlt : m + n + 4 < (m + 1) + n + 4 := by omega
    have heq : m + n + 5 = (m + 1) + n + 4 := by omega
    have hneb : bs ++ [(⟨fr, rg⟩ : Rel)] ≠ [] := by simp
    generalize bs ++ [(⟨fr, rg⟩ : Rel)] = bs2 at *
    have e1 : wrapF .i64 (fr + betweenN (dW H) 1 400) = fr + betweenN (dW H) 1 400 := Z5 (by omega) (by omega)
    have e2 : wrapF .i64 ((l : Int) - 1) = ((l - 1 : Nat) : Int) := by rw [Z5 (by omega) (by omega)]; omega
    have bt := fun m jr j => bt H m jr j hd
    generalize betweenN (dW H) 1 400 = bw at *
    generalize nextW (dW H) = w3 at *
    simp -implicitDefEqProofs only [go_sem, a0, a2, a3, a4, a5, a6, a7, a8, hT, bt, e1, e2]
    clear e1 e2
    exact ⟨l - 1, hl1, trivial, trivial, trivial, trivial, trivial, trivial, trivial, rfl, fr + bw, m + 1, m + n + 4, _, bs2, rfl, by rw [heq], Ys hd, by rw [hs11 (by decide)]; exact g1, by rw [hs11 (by decide)]; exact g2, fun h => ⟨(gt h).1, by rw [hs11 (by omega)]; exact (gt h).2⟩, by rw [hs11 (by omega)]; exact g3, fun _ => ⟨hlt, by rw [hs13]; exact gb⟩, hlen, hf2, hf3, hbs2⟩
   ·clear gb
    have hVes : VesG ⟨vol, free, bd, bs⟩ := ⟨hvol, hfree, hbd, by show bs.length <= 2; omega, Z48 (by omega) hbg⟩
    have hv1 : vesV ⟨vol, free, bd, bs⟩ = .agg [.int .i64 vol, .int .i64 free.lo, .int .i64 free.hi, .int .i64 bd.lo, .int .i64 bd.hi, .lst (bs.map relV)] := rfl
    have hap := Yi (C := cfg.at 23) (sT := 33) (b := [c + 3]) (l := vs.map vesV) (x := .agg [.int .i64 vol, .int .i64 free.lo, .int .i64 free.hi, .int .i64 bd.lo, .int .i64 bd.hi, .lst (bs.map relV)]) (H := H) (n := m + n + 4) (p := []) (jr := false) (j := []) (z := 6) Zma Zkv rfl rfl rfl rfl rfl rfl (by rw [List.length_map]; show (vs.length + 1) * 64 <= _; omega) (fun hx => by rw [List.length_map]; exact (gt hx).2)
    have hrm : (vs ++ [(⟨vol, free, bd, bs⟩ : Ves)]).map vesV = vs.map vesV ++ [.agg [.int .i64 vol, .int .i64 free.lo, .int .i64 free.hi, .int .i64 bd.lo, .int .i64 bd.hi, .lst (bs.map relV)]] := by rw [List.map_append, <- hv1]; rfl
    have hvs2 : ∀ x ∈ vs ++ [(⟨vol, free, bd, bs⟩ : Ves)], VesG x := by
     intro x hx
     rcases List.mem_append.1 hx with hx | hx
     ·exact hvs x hx
     ·rw [List.mem_singleton] at hx; rw [hx]; exact hVes
    have hvl2 : (vs ++ [(⟨vol, free, bd, bs⟩ : Ves)]).length = vs.length + 1 := by simp
    rw [Yf, <- hrm, List.length_map] at hap
    obtain ⟨H2, hH2, s0, s1, s2, s3⟩ : ∃ H2, H2 = dropTok (vs.map vesV) [c + 3] H /\ isD u H2 /\ hget H2 [1] = some (.cells nil5 true 0) /\ hget H2 [2] = some (.cells (ownV [c + 3] (vs.map vesV) :: [.nils, .nils, .nils, .nils]) true 0) /\ hget H2 [n + 3] = some (.cells [.int .i64 vol, .int .i64 free.lo, .int .i64 free.hi, .int .i64 bd.lo, .int .i64 bd.hi, ownV [cb, 7, 0] (bs.map relV)] true 0) :=
     ⟨_, rfl, ⟨_, (Y3 _ _ (n11 (by omega))).trans (Jo hd)⟩, (Y3 _ _ (n11 (by omega))).trans g1, (Y3 _ _ (n11 (by omega))).trans g2, by
      cases hvv : vs.map vesV with
      | nil => exact g3
      | cons a r => rw [<- hvv]; exact (Y3 _ _ (n11 (by have := (gt (by rw [hvv]; simp)).1; omega))).trans g3⟩
    rw [<- hH2] at hap
    clear hH2 hv1 hrm
    simp -implicitDefEqProofs only [go_sem, a0, a2, a3, a4, a5, a6, hT, hlo, g2, g3, bs33, hap, s2]
    have hkk : N.toNat - (i + 1) < N.toNat - i := by omega
    have hi2 : ((i + 1 : Nat) : Int) <= N := by omega
    have hc2 : m + n + 1 < m + n + 2 := by omega
    have hw1 : wrapF .i64 ((i : Int) + 1) = ((i + 1 : Nat) : Int) := Z5 (by omega) (by omega)
    refine ⟨N.toNat - (i + 1), hkk, trivial, trivial, trivial, trivial, trivial, i + 1, m + n + 2, m + n + 1, _, vs ++ [(⟨vol, free, bd, bs⟩ : Ves)], by rw [hw1], hi2, rfl, rfl, ?_, ?_, ?_, fun _ => ⟨hc2, ?_⟩, by rw [hvl2, hvl], hvs2⟩
    all_goals clear hw1
    ·simp only [Xx, Zft, s0]
    ·simp (disch := omega) only [hc11, hs11, s1]
    ·rw [show m + n + 1 + 3 = m + n + 4 from rfl, List.map_append, <- List.map_append, Z6l]
     rw [hc11 (by omega)]
     exact hss s2
    ·rw [show m + n + 1 + 3 = m + n + 4 from rfl, hvl2]
     exact Z2 ..
  ·have hNv : N = (vs.length : Int) := by omega
   subst hNv
   clear hi hvl
   have hA0 : (ownV [c + 3] (vs.map vesV)).shut = .lst (vs.map vesV) := Xj _ _
   generalize ownV [c + 3] (vs.map vesV) = A0 at *
   clear gt
   have ut1 := fun m jr j => Js (H := H) (m := m) (u := u) (p := []) (jr := jr) (j := j) 5 (K + 7) hd (by decide)
   have hct := Zy (dW H) 5 (by decide)
   generalize uptoN (dW H) 5 = ct0 at *
   generalize nextW (dW H) = w1 at *
   obtain ⟨ct, rfl⟩ : ∃ q : Nat, ct0 = q := ⟨ct0.toNat, by omega⟩
   simp -implicitDefEqProofs only [go_sem, a0, hT, ut1, hlo]
   clear ut1
   simp only [Z3]
   refine Tr.Does.mono (Q := fun x => ∃ (T' : List AV) (m : Nat) (H : Heap) (ps : List Pip) (A1 : AV), x = ((AExit.exit 4, T'), (⟨H, m + 3, [], false, []⟩ : St)) /\ T'.length = 144 /\ nth T' 0 = some (.ptr [0] 0) /\ nth T' 2 = some (.ptr [1] 0) /\ nth T' 3 = some (.ptr [2] 0) /\ nth T' 4 = some (.int .i64 vs.length) /\ isD u H /\ hget H [1] = some (.cells nil5 true 0) /\ hget H [2] = some (.cells [A0, A1, .nils, .nils, .nils] true 0) /\ A1.shut = .lst (ps.map pipV) /\ ps.length <= 4 /\ ∀ x ∈ ps, PipG vs.length x) ?_ ?_
   ·refine Zj (fun k T s' => T.length = 144 /\ nth T 0 = some (.ptr [0] 0) /\ nth T 2 = some (.ptr [1] 0) /\ nth T 3 = some (.ptr [2] 0) /\ nth T 4 = some (.int .i64 vs.length) /\ nth T 9 = some (.int .i64 k) /\ ∃ (m cb : Nat) (H : Heap) (ps : List Pip), s' = ⟨H, m + 3, [], false, []⟩ /\ isD u H /\ hget H [1] = some (.cells nil5 true 0) /\ hget H [2] = some (.cells [A0, ownV [cb, 17, 0] (ps.map pipV), .nils, .nils, .nils] true 0) /\ (ps ≠ [] -> cb < m + 3 /\ hget H [cb, 17, 0] = some (.tok ps.length 6)) /\ ps.length + k <= 4 /\ ∀ x ∈ ps, PipG vs.length x) (k := ct) (by omega) ?_ ?_
    ·exact ⟨by simp -implicitDefEqProofs only [go_sem, hT], by simp -implicitDefEqProofs only [go_sem, a0], by simp -implicitDefEqProofs only [go_sem, a2], by simp -implicitDefEqProofs only [go_sem, a3], by simp -implicitDefEqProofs only [go_sem, a4], by simp -implicitDefEqProofs only [go_sem, hT], n, 0, _, [], rfl, Ys hd, by rw [hs11 (by decide)]; exact g1, by rw [hs11 (by decide)]; exact g2, fun h => absurd rfl h, by show 0 + ct <= 4; omega, fun _ h => by cases h⟩
    clear a0 a2 a3 a4 a5 hT T hd g1 g2 H hct
    rintro k T s' ⟨hT, a0, a2, a3, a4, a9, m, cb, H, ps, rfl, hd, g1, g2, gb, hpl, hps⟩
    simp -implicitDefEqProofs only [go_sem, a4, a9, hT]
    by_cases hlo : (0 : Int) < (k : Int)
    ·by_cases hn : (1 : Int) < (vs.length : Int)
     ·have hl1 : k - 1 < k := by omega
      have ut := fun m jr j => Js (H := H) (m := m) (u := u) (p := []) (jr := jr) (j := j) vs.length (K + 7) hd (by omega)
      have har := Zy (dW H) vs.length (by omega)
      generalize uptoN (dW H) vs.length = a at *
      generalize nextW (dW H) = w1 at *
      simp -implicitDefEqProofs only [go_sem, a0, a4, hT, hlo, hn, ut]
      clear ut
      obtain ⟨H1, hH1, d1, q1, q2, qb⟩ : ∃ H1, H1 = hset H [0] (.cells [.int .u64 w1] true u) /\ isD u H1 /\ hget H1 [1] = some (.cells nil5 true 0) /\ hget H1 [2] = some (.cells [A0, ownV [cb, 17, 0] (ps.map pipV), .nils, .nils, .nils] true 0) /\ (ps ≠ [] -> cb < m + 3 /\ hget H1 [cb, 17, 0] = some (.tok ps.length 6)) :=
       ⟨_, rfl, Ys hd, by rw [hs11 (by decide)]; exact g1, by rw [hs11 (by decide)]; exact g2, fun h => ⟨(gb h).1, by rw [hs13]; exact (gb h).2⟩⟩
      rw [<- hH1]
      clear hH1 hd g1 g2 gb H
      have p1 := fun m p => Z1u (H := H1) (m := m) (u := u) (p := p) (jr := true) (j := []) 1 ((vs.length : Int) - 1) (K + 6) (by decide) (by omega) (by omega) d1
      have hbw := Yd (dW H1) 1 ((vs.length : Int) - 1) (by omega)
      generalize betweenN (dW H1) 1 ((vs.length : Int) - 1) = bw at *
      generalize nextW (dW H1) = w2 at *
      have p2 := fun m p => Z7x (H := redoH H1 [([0], some (.cells [.int .u64 w2] true u))]) (m := m) (u := u) (p := p) (jr := true) (j := []) 120000 (K + 4) (by decide) (by decide) (Y2 (u := u) (d := []) ▸ trivial)
      rw [Z0o] at p2
      have hr1 := Z1t w2 120000 (by decide)
      generalize rangeR w2 0 120000 = r1 at *
      generalize nextW (nextW w2) = w3 at *
      have p3 := fun m p => Z7x (H := redoH (redoH H1 [([0], some (.cells [.int .u64 w2] true u))]) [([0], some (.cells [.int .u64 w3] true u))]) (m := m) (u := u) (p := p) (jr := true) (j := []) 120000 (K + 4) (by decide) (by decide) (Y2 (u := u) (d := []) ▸ trivial)
      rw [Z0o] at p3
      have hr2 := Z1t w3 120000 (by decide)
      generalize rangeR w3 0 120000 = r2 at *
      generalize nextW (nextW w3) = w4 at *
      obtain ⟨b2, hb2, hP⟩ : ∃ b2, (a + bw).tmod vs.length = b2 /\ PipG vs.length ⟨a, b2, r1, r2⟩ := by
       obtain ⟨x1, x2, x3⟩ := Zjr har hbw
       exact ⟨_, rfl, har, ⟨x1, x2⟩, x3, hr1, hr2⟩
      have hn0 : ¬ (vs.length : Int) = 0 := by omega
      have hw6 : (wrapF .i64 (a + bw)).tmod vs.length = b2 := by rw [Z5 (by omega) (by omega), hb2]
      have hw5 : wrapF .i64 ((vs.length : Int) - 1) = (vs.length : Int) - 1 := Z5 (by omega) (by omega)
      clear hb2
      simp only [Z3]
      refine Tr.Does.mono (Q := fun x => ∃ (T' : List AV) (H2 : Heap) (e : Pip), x = (T', (⟨H2, m + 4, [], false, []⟩ : St)) /\ PipG vs.length e /\ T'.length = 144 /\ nth T' 0 = some (.ptr [0] 0) /\ nth T' 2 = some (.ptr [1] 0) /\ nth T' 3 = some (.ptr [2] 0) /\ nth T' 4 = some (.int .i64 vs.length) /\ nth T' 9 = some (.int .i64 k) /\
       isD u H2 /\ hget H2 [1] = some (.cells nil5 true 0) /\ hget H2 [2] = some (.cells [A0, ownV [m + 3, 17, 0] ((ps ++ [e]).map pipV), .nils, .nils, .nils] true 0) /\ hget H2 [m + 3, 17, 0] = some (.tok (ps ++ [e]).length 6)) ?_ ?_
      ·have hap := fun (l : List AV) (n : Nat) (b p : Nm) (H : Heap) (hr : (l.length + 1) * 48 <= 140737488355328) (hg : l ≠ [] -> hget H b = some (.tok l.length 6)) => Yi (C := cfg.at 23) (sT := 34) (b := b) (l := l) (x := .agg [.int .i64 a, .int .i64 b2, .int .i64 r1.lo, .int .i64 r1.hi, .int .i64 r2.lo, .int .i64 r2.hi]) (H := H) (n := n) (p := p) (jr := true) (j := []) (z := 6) Zmb Zhn rfl rfl rfl rfl rfl rfl hr hg
       have gv : hget (hdel (hdel (hdel H1 [0]) [0]) [0]) [2] = some (.cells [A0, ownV [cb, 17, 0] (ps.map pipV), .nils, .nils, .nils] true 0) := by
        rw [hd11 (by decide), hd11 (by decide), hd11 (by decide)]; exact q2
       cases ps with
       | nil =>
        have hap0 := fun (n : Nat) (p : Nm) (H : Heap) => hap [] n [] p H (by simp) (fun h => absurd rfl h)
        simp only [ownV, dropTok, tokJ, List.nil_append, List.length_nil, List.map_nil] at hap0 q2 gv
        try simp only [Z3]
        refine Zc [[], [0], [], [], [], [], [5], [4, 6, 5], [3, 7, 4, 6, 5], [], [8, 3, 7, 4, 6, 5, 9], [], [11, 7, 4, 6, 5], [], [13, 12, 11, 7, 4, 6, 5], [2, 10, 8, 3, 9, 14, 13, 12, 11, 7, 4, 6, 5], [15, 2, 10, 8, 3, 9, 14, 13, 12, 11, 7, 4, 6, 5], [1, 0, 16, 15, 2, 10, 8, 3, 9, 14, 13, 12, 11, 7, 4, 6, 5], [17, 1, 0, 16, 15, 2, 10, 8, 3, 9, 14, 13, 12, 11, 7, 4, 6, 5], [18, 17, 1, 0, 16, 15, 2, 10, 8, 3, 9, 14, 13, 12, 11, 7, 4, 6, 5]] [[], [], [], [], [], [], [], [[0]], [], [], [], [], [[0]], [], [[0]], [], [], [], [], [[2]]] (by kernel_rfl) rfl rfl ?_
        simp -implicitDefEqProofs only [go_sem, Z0, lkn, lk11, lk31, Option.getD_some, Option.getD_none, a0, a3, a4, hT, q2, gv, p1, p2, p3, hw5, hw6, hn0, bs34, hap0, Zb]
        refine ⟨_, _, ⟨a, b2, r1, r2⟩, rfl, hP, by simp -implicitDefEqProofs only [go_sem, hT], by simp -implicitDefEqProofs only [go_sem, a0], by simp -implicitDefEqProofs only [go_sem, a2], by simp -implicitDefEqProofs only [go_sem, a3], by simp -implicitDefEqProofs only [go_sem, a4], by simp -implicitDefEqProofs only [go_sem, a9], by simp only [Y2, Yp, Yq], ?_, ?_, ?_⟩
        all_goals clear hw5 hw6
        ·simp (disch := omega) only [Z0, lkn, lk11, lk31, Option.getD_none, q1]
        ·simp (disch := omega) only [Z0, Zd, Option.getD_some] <;> rfl
        ·simp (disch := omega) only [Z0, Zd, lk13, Option.getD_some] <;> rfl
       | cons b0 ps =>
        obtain ⟨hcb, r0⟩ := qb (by simp)
        have hapN := fun (n : Nat) (p : Nm) (H : Heap) (hg : hget H [cb, 17, 0] = some (.tok (b0 :: ps).length 6)) => hap ((b0 :: ps).map pipV) n [cb, 17, 0] p H (by rw [List.length_map]; omega) (fun _ => by rw [List.length_map]; exact hg)
        have hrel : ∀ e : Pip, ((b0 :: ps) ++ [e]).map pipV = (b0 :: ps).map pipV ++ [pipV e] := fun e => by rw [List.map_append]; rfl
        have hrl : ∀ e : Pip, ((b0 :: ps) ++ [e]).length = (b0 :: ps).length + 1 := fun e => by simp
        have n1 : (b0 :: ps).map pipV ≠ [] := by simp
        have hlm : ((b0 :: ps).map pipV).length = (b0 :: ps).length := List.length_map ..
        simp only [hrel, hrl]
        generalize (b0 :: ps).map pipV = R at *
        generalize (b0 :: ps).length = ln at *
        have o1 : ∀ b, ownV b R = .own b R := fun b => by cases R with | nil => exact absurd rfl n1 | cons a r => rfl
        have o3 : ∀ b j, tokJ R b j = (b, none) :: j := fun b j => by cases R with | nil => exact absurd rfl n1 | cons a r => rfl
        have o5 : ∀ b H, dropTok R b H = hdel H b := fun b H => by cases R with | nil => exact absurd rfl n1 | cons a r => rfl
        simp only [o1, o3, o5, Yf, hlm] at hapN q2 gv
        simp only [Yf]
        have ip2 : isPre [m + 3, 17] [cb, 17, 0] = false := Go.Am.Yc _ _ (by omega)
        try simp only [Z3]
        refine Zc [[], [0], [], [], [], [], [5], [4, 6, 5], [3, 7, 4, 6, 5], [], [8, 3, 7, 4, 6, 5, 9], [], [11, 7, 4, 6, 5], [], [13, 12, 11, 7, 4, 6, 5], [2, 10, 8, 3, 9, 14, 13, 12, 11, 7, 4, 6, 5], [15, 2, 10, 8, 3, 9, 14, 13, 12, 11, 7, 4, 6, 5], [1, 0, 16, 15, 2, 10, 8, 3, 9, 14, 13, 12, 11, 7, 4, 6, 5], [17, 1, 0, 16, 15, 2, 10, 8, 3, 9, 14, 13, 12, 11, 7, 4, 6, 5], [18, 17, 1, 0, 16, 15, 2, 10, 8, 3, 9, 14, 13, 12, 11, 7, 4, 6, 5]] [[], [], [], [], [], [], [], [[0]], [], [], [], [], [[0]], [], [[0]], [], [], [[cb, 17, 0]], [], [[2]]] (by kernel_rfl) rfl rfl ?_
        simp -implicitDefEqProofs only [go_sem, Z0, lkn, lk11, lk13, lk31, Option.getD_some, Option.getD_none, a0, a3, a4, hT, q2, gv, r0, p1, p2, p3, hw5, hw6, hn0, bs34, hapN, ip2, Zb]
        refine ⟨_, _, ⟨a, b2, r1, r2⟩, rfl, hP, by simp -implicitDefEqProofs only [go_sem, hT], by simp -implicitDefEqProofs only [go_sem, a0], by simp -implicitDefEqProofs only [go_sem, a2], by simp -implicitDefEqProofs only [go_sem, a3], by simp -implicitDefEqProofs only [go_sem, a4], by simp -implicitDefEqProofs only [go_sem, a9], by simp only [Y2, Yp, Yq], ?_, ?_, ?_⟩
        all_goals clear hw5 hw6
        ·simp (disch := omega) only [Z0, lkn, lk11, lk31, Option.getD_none, q1]
        ·simp (disch := omega) only [Z0, Zd, Option.getD_some] <;> rfl
        ·simp (disch := omega) only [Z0, Zd, lk13, Option.getD_some] <;> rfl
      clear hw5 hw6 p1 p2 p3 a0 a2 a3 a4 a9 hT T d1 q1 q2 qb H1
      rintro _ ⟨T, H, e, rfl, he, hT, a0, a2, a3, a4, a9, d1, q1, q2, qb⟩
      have hps2 : ∀ x ∈ ps ++ [e], PipG vs.length x := by
       intro x hx
       rcases List.mem_append.1 hx with hx | hx
       ·exact hps x hx
       ·rw [List.mem_singleton] at hx; rw [hx]; exact he
      have hpl2 : (ps ++ [e]).length + (k - 1) <= 4 := by rw [List.length_append, List.length_singleton]; omega
      have hlt : m + 3 < (m + 1) + 3 := by omega
      have e2 : wrapF .i64 ((k : Int) - 1) = ((k - 1 : Nat) : Int) := by rw [Z5 (by omega) (by omega)]; omega
      simp -implicitDefEqProofs only [go_sem, a0, a2, a3, a4, a9, hT, e2]
      clear e2
      exact ⟨k - 1, hl1, trivial, trivial, trivial, trivial, trivial, rfl, m + 1, m + 3, _, ps ++ [e], rfl, d1, q1, q2, fun _ => ⟨hlt, qb⟩, hpl2, hps2⟩
     ·simp -implicitDefEqProofs only [go_sem, hT, hlo, hn]
      exact ⟨_, m, H, ps, _, rfl, by simp -implicitDefEqProofs only [go_sem, hT], by simp -implicitDefEqProofs only [go_sem, a0], by simp -implicitDefEqProofs only [go_sem, a2], by simp -implicitDefEqProofs only [go_sem, a3], by simp -implicitDefEqProofs only [go_sem, a4], hd, g1, g2, Xj _ _, by omega, hps⟩
    ·simp -implicitDefEqProofs only [go_sem, hT, hlo]
     exact ⟨_, m, H, ps, _, rfl, by simp -implicitDefEqProofs only [go_sem, hT], by simp -implicitDefEqProofs only [go_sem, a0], by simp -implicitDefEqProofs only [go_sem, a2], by simp -implicitDefEqProofs only [go_sem, a3], by simp -implicitDefEqProofs only [go_sem, a4], hd, g1, g2, Xj _ _, by omega, hps⟩
   clear a0 a2 a3 a4 a5 hT T hd g1 g2 H hct
   rintro _ ⟨T, m, H, ps, A1, rfl, hT, a0, a2, a3, a4, hd, g1, g2, hA1, hpsl, hps⟩
   have ut1 := fun m jr j => Js (H := H) (m := m) (u := u) (p := []) (jr := jr) (j := j) 3 (K + 7) hd (by decide)
   have hct := Zy (dW H) 3 (by decide)
   generalize uptoN (dW H) 3 = ct0 at *
   generalize nextW (dW H) = w1 at *
   obtain ⟨ct, rfl⟩ : ∃ q : Nat, ct0 = q := ⟨ct0.toNat, by omega⟩
   simp -implicitDefEqProofs only [go_sem, a0, hT, ut1]
   clear ut1
   simp only [Z3]
   refine Tr.Does.mono (Q := fun x => ∃ (T' : List AV) (m : Nat) (H : Heap) (ms : List Pmp) (A2 : AV), x = ((AExit.exit 6, T'), (⟨H, m + 3, [], false, []⟩ : St)) /\ T'.length = 144 /\ nth T' 0 = some (.ptr [0] 0) /\ nth T' 2 = some (.ptr [1] 0) /\ nth T' 3 = some (.ptr [2] 0) /\ nth T' 4 = some (.int .i64 vs.length) /\ isD u H /\ hget H [1] = some (.cells nil5 true 0) /\ hget H [2] = some (.cells [A0, A1, A2, .nils, .nils] true 0) /\ A2.shut = .lst (ms.map pmpV) /\ ms.length <= 2 /\ ∀ x ∈ ms, PmpG vs.length x) ?_ ?_
   ·refine Zj (fun k T s' => T.length = 144 /\ nth T 0 = some (.ptr [0] 0) /\ nth T 2 = some (.ptr [1] 0) /\ nth T 3 = some (.ptr [2] 0) /\ nth T 4 = some (.int .i64 vs.length) /\ nth T 11 = some (.int .i64 k) /\ ∃ (m cb : Nat) (H : Heap) (ms : List Pmp), s' = ⟨H, m + 3, [], false, []⟩ /\ isD u H /\ hget H [1] = some (.cells nil5 true 0) /\ hget H [2] = some (.cells [A0, A1, ownV [cb, 9, 0] (ms.map pmpV), .nils, .nils] true 0) /\ (ms ≠ [] -> cb < m + 3 /\ hget H [cb, 9, 0] = some (.tok ms.length 3)) /\ ms.length + k <= 2 /\ ∀ x ∈ ms, PmpG vs.length x) (k := ct) (by omega) ?_ ?_
    ·exact ⟨by simp -implicitDefEqProofs only [go_sem, hT], by simp -implicitDefEqProofs only [go_sem, a0], by simp -implicitDefEqProofs only [go_sem, a2], by simp -implicitDefEqProofs only [go_sem, a3], by simp -implicitDefEqProofs only [go_sem, a4], by simp -implicitDefEqProofs only [go_sem, hT], m, 0, _, [], rfl, Ys hd, by rw [hs11 (by decide)]; exact g1, by rw [hs11 (by decide)]; exact g2, fun h => absurd rfl h, by show 0 + ct <= 2; omega, fun _ h => by cases h⟩
    clear a0 a2 a3 a4 hT T hd g1 g2 H hct m
    rintro k T s' ⟨hT, a0, a2, a3, a4, a9, m, cb, H1, ms, rfl, d1, q1, q2, qb, hpl, hps⟩
    simp -implicitDefEqProofs only [go_sem, a9, hT]
    by_cases hlo : (0 : Int) < (k : Int)
    ·have hl1 : k - 1 < k := by omega
     have p1 := fun m p => Js (H := H1) (m := m) (u := u) (p := p) (jr := true) (j := []) vs.length (K + 7) d1 (by omega)
     have har := Zy (dW H1) vs.length (by omega)
     generalize uptoN (dW H1) vs.length = a at *
     generalize nextW (dW H1) = w2 at *
     have p2 := fun m p => Z7x (H := redoH H1 [([0], some (.cells [.int .u64 w2] true u))]) (m := m) (u := u) (p := p) (jr := true) (j := []) 200000 (K + 4) (by decide) (by decide) (Y2 (u := u) (d := []) ▸ trivial)
     rw [Z0o] at p2
     have hr1 := Z1t w2 200000 (by decide)
     generalize rangeR w2 0 200000 = r1 at *
     generalize nextW (nextW w2) = w3 at *
     have hP : PmpG vs.length ⟨a, r1⟩ := ⟨har, hr1⟩
     simp -implicitDefEqProofs only [go_sem, hlo]
     simp only [Z3]
     refine Tr.Does.mono (Q := fun x => ∃ (T' : List AV) (H2 : Heap) (e : Pmp), x = (T', (⟨H2, m + 4, [], false, []⟩ : St)) /\ PmpG vs.length e /\ T'.length = 144 /\ nth T' 0 = some (.ptr [0] 0) /\ nth T' 2 = some (.ptr [1] 0) /\ nth T' 3 = some (.ptr [2] 0) /\ nth T' 4 = some (.int .i64 vs.length) /\ nth T' 11 = some (.int .i64 k) /\
      isD u H2 /\ hget H2 [1] = some (.cells nil5 true 0) /\ hget H2 [2] = some (.cells [A0, A1, ownV [m + 3, 9, 0] ((ms ++ [e]).map pmpV), .nils, .nils] true 0) /\ hget H2 [m + 3, 9, 0] = some (.tok (ms ++ [e]).length 3)) ?_ ?_
     ·have hap := fun (l : List AV) (n : Nat) (b p : Nm) (H : Heap) (hr : (l.length + 1) * 24 <= 140737488355328) (hg : l ≠ [] -> hget H b = some (.tok l.length 3)) => Yi (C := cfg.at 23) (sT := 35) (b := b) (l := l) (x := .agg [.int .i64 a, .int .i64 r1.lo, .int .i64 r1.hi]) (H := H) (n := n) (p := p) (jr := true) (j := []) (z := 3) Zmc Zhl rfl rfl rfl rfl rfl rfl hr hg
      have gv : hget (hdel (hdel H1 [0]) [0]) [2] = some (.cells [A0, A1, ownV [cb, 9, 0] (ms.map pmpV), .nils, .nils] true 0) := by
       rw [hd11 (by decide), hd11 (by decide)]; exact q2
      cases ms with
      | nil =>
       have hap0 := fun (n : Nat) (p : Nm) (H : Heap) => hap [] n [] p H (by simp) (fun h => absurd rfl h)
       simp only [ownV, dropTok, tokJ, List.nil_append, List.length_nil, List.map_nil] at hap0 q2 gv
       try simp only [Z3]
       refine Zc [[], [0], [], [], [2, 3], [], [5, 4, 2, 3], [6, 5, 4, 2, 3], [7, 6, 5, 4, 2, 3], [1, 0, 8, 7, 6, 5, 4, 2, 3], [9, 1, 0, 8, 7, 6, 5, 4, 2, 3], [10, 9, 1, 0, 8, 7, 6, 5, 4, 2, 3]] [[], [], [], [], [[0]], [], [[0]], [], [], [], [], [[2]]] (by kernel_rfl) rfl rfl ?_
       simp -implicitDefEqProofs only [go_sem, Z0, lkn, lk11, lk31, Option.getD_some, Option.getD_none, a0, a3, a4, hT, q2, gv, p1, p2, bs35, hap0, Zb]
       refine ⟨_, _, ⟨a, r1⟩, rfl, hP, by simp -implicitDefEqProofs only [go_sem, hT], by simp -implicitDefEqProofs only [go_sem, a0], by simp -implicitDefEqProofs only [go_sem, a2], by simp -implicitDefEqProofs only [go_sem, a3], by simp -implicitDefEqProofs only [go_sem, a4], by simp -implicitDefEqProofs only [go_sem, a9], by simp only [Y2, Yp, Yq], ?_, ?_, ?_⟩
       ·simp (disch := omega) only [Z0, lkn, lk11, lk31, Option.getD_none, q1]
       ·simp (disch := omega) only [Z0, Zd, Option.getD_some] <;> rfl
       ·simp (disch := omega) only [Z0, Zd, lk13, Option.getD_some] <;> rfl
      | cons b0 ms =>
       obtain ⟨hcb, r0⟩ := qb (by simp)
       have hapN := fun (n : Nat) (p : Nm) (H : Heap) (hg : hget H [cb, 9, 0] = some (.tok (b0 :: ms).length 3)) => hap ((b0 :: ms).map pmpV) n [cb, 9, 0] p H (by rw [List.length_map]; omega) (fun _ => by rw [List.length_map]; exact hg)
       have hrel : ∀ e : Pmp, ((b0 :: ms) ++ [e]).map pmpV = (b0 :: ms).map pmpV ++ [pmpV e] := fun e => by rw [List.map_append]; rfl
       have hrl : ∀ e : Pmp, ((b0 :: ms) ++ [e]).length = (b0 :: ms).length + 1 := fun e => by simp
       have n1 : (b0 :: ms).map pmpV ≠ [] := by simp
       have hlm : ((b0 :: ms).map pmpV).length = (b0 :: ms).length := List.length_map ..
       simp only [hrel, hrl]
       generalize (b0 :: ms).map pmpV = R at *
       generalize (b0 :: ms).length = ln at *
       have o1 : ∀ b, ownV b R = .own b R := fun b => by cases R with | nil => exact absurd rfl n1 | cons a r => rfl
       have o3 : ∀ b j, tokJ R b j = (b, none) :: j := fun b j => by cases R with | nil => exact absurd rfl n1 | cons a r => rfl
       have o5 : ∀ b H, dropTok R b H = hdel H b := fun b H => by cases R with | nil => exact absurd rfl n1 | cons a r => rfl
       simp only [o1, o3, o5, Yf, hlm] at hapN q2 gv
       simp only [Yf]
       have ip2 : isPre [m + 3, 9] [cb, 9, 0] = false := Go.Am.Yc _ _ (by omega)
       try simp only [Z3]
       refine Zc [[], [0], [], [], [2, 3], [], [5, 4, 2, 3], [6, 5, 4, 2, 3], [7, 6, 5, 4, 2, 3], [1, 0, 8, 7, 6, 5, 4, 2, 3], [9, 1, 0, 8, 7, 6, 5, 4, 2, 3], [10, 9, 1, 0, 8, 7, 6, 5, 4, 2, 3]] [[], [], [], [], [[0]], [], [[0]], [], [], [[cb, 9, 0]], [], [[2]]] (by kernel_rfl) rfl rfl ?_
       simp -implicitDefEqProofs only [go_sem, Z0, lkn, lk11, lk13, lk31, Option.getD_some, Option.getD_none, a0, a3, a4, hT, q2, gv, p1, p2, bs35, r0, hapN, ip2, Zb]
       refine ⟨_, _, ⟨a, r1⟩, rfl, hP, by simp -implicitDefEqProofs only [go_sem, hT], by simp -implicitDefEqProofs only [go_sem, a0], by simp -implicitDefEqProofs only [go_sem, a2], by simp -implicitDefEqProofs only [go_sem, a3], by simp -implicitDefEqProofs only [go_sem, a4], by simp -implicitDefEqProofs only [go_sem, a9], by simp only [Y2, Yp, Yq], ?_, ?_, ?_⟩
       ·simp (disch := omega) only [Z0, lkn, lk11, lk31, Option.getD_none, q1]
       ·simp (disch := omega) only [Z0, Zd, Option.getD_some] <;> rfl
       ·simp (disch := omega) only [Z0, Zd, lk13, Option.getD_some] <;> rfl
     clear p1 p2 a0 a2 a3 a4 a9 hT T d1 q1 q2 qb H1
     rintro _ ⟨T, H, e, rfl, he, hT, a0, a2, a3, a4, a9, d1, q1, q2, qb⟩
     have hps2 : ∀ x ∈ ms ++ [e], PmpG vs.length x := by
      intro x hx
      rcases List.mem_append.1 hx with hx | hx
      ·exact hps x hx
      ·rw [List.mem_singleton] at hx; rw [hx]; exact he
     have hpl2 : (ms ++ [e]).length + (k - 1) <= 2 := by rw [List.length_append, List.length_singleton]; omega
     have hlt : m + 3 < (m + 1) + 3 := by omega
     have e2 : wrapF .i64 ((k : Int) - 1) = ((k - 1 : Nat) : Int) := by rw [Z5 (by omega) (by omega)]; omega
     simp -implicitDefEqProofs only [go_sem, a0, a2, a3, a4, a9, hT, e2]
     clear e2
     exact ⟨k - 1, hl1, trivial, trivial, trivial, trivial, trivial, rfl, m + 1, m + 3, _, ms ++ [e], rfl, d1, q1, q2, fun _ => ⟨hlt, qb⟩, hpl2, hps2⟩
    ·simp -implicitDefEqProofs only [go_sem, hlo]
     exact ⟨_, m, H1, ms, _, rfl, by simp -implicitDefEqProofs only [go_sem, hT], by simp -implicitDefEqProofs only [go_sem, a0], by simp -implicitDefEqProofs only [go_sem, a2], by simp -implicitDefEqProofs only [go_sem, a3], by simp -implicitDefEqProofs only [go_sem, a4], d1, q1, q2, Xj _ _, by omega, hps⟩
   clear a0 a2 a3 a4 hT T hd g1 g2 H hct m
   rintro _ ⟨T, m, H, ms, A2, rfl, hT, a0, a2, a3, a4, hd, g1, g2, hA2, hmsl, hms⟩
   have ut1 := fun m jr j => Js (H := H) (m := m) (u := u) (p := []) (jr := jr) (j := j) 3 (K + 7) hd (by decide)
   have hct := Zy (dW H) 3 (by decide)
   generalize uptoN (dW H) 3 = ct0 at *
   generalize nextW (dW H) = w1 at *
   obtain ⟨ct, rfl⟩ : ∃ q : Nat, ct0 = q := ⟨ct0.toNat, by omega⟩
   simp -implicitDefEqProofs only [go_sem, a0, hT, ut1]
   clear ut1
   simp only [Z3]
   refine Tr.Does.mono (Q := fun x => ∃ (T' : List AV) (m : Nat) (H : Heap) (ls : List Inl) (A3 : AV), x = ((AExit.exit 8, T'), (⟨H, m + 3, [], false, []⟩ : St)) /\ T'.length = 144 /\ nth T' 0 = some (.ptr [0] 0) /\ nth T' 2 = some (.ptr [1] 0) /\ nth T' 3 = some (.ptr [2] 0) /\ nth T' 4 = some (.int .i64 vs.length) /\ isD u H /\ hget H [1] = some (.cells nil5 true 0) /\ hget H [2] = some (.cells [A0, A1, A2, A3, .nils] true 0) /\ A3.shut = .lst (ls.map inlV) /\ ls.length <= 2 /\ ∀ x ∈ ls, InlG vs.length x) ?_ ?_
   ·refine Zj (fun k T s' => T.length = 144 /\ nth T 0 = some (.ptr [0] 0) /\ nth T 2 = some (.ptr [1] 0) /\ nth T 3 = some (.ptr [2] 0) /\ nth T 4 = some (.int .i64 vs.length) /\ nth T 12 = some (.int .i64 k) /\ ∃ (m cb : Nat) (H : Heap) (ls : List Inl), s' = ⟨H, m + 3, [], false, []⟩ /\ isD u H /\ hget H [1] = some (.cells nil5 true 0) /\ hget H [2] = some (.cells [A0, A1, A2, ownV [cb, 9, 0] (ls.map inlV), .nils] true 0) /\ (ls ≠ [] -> cb < m + 3 /\ hget H [cb, 9, 0] = some (.tok ls.length 3)) /\ ls.length + k <= 2 /\ ∀ x ∈ ls, InlG vs.length x) (k := ct) (by omega) ?_ ?_
    ·exact ⟨by simp -implicitDefEqProofs only [go_sem, hT], by simp -implicitDefEqProofs only [go_sem, a0], by simp -implicitDefEqProofs only [go_sem, a2], by simp -implicitDefEqProofs only [go_sem, a3], by simp -implicitDefEqProofs only [go_sem, a4], by simp -implicitDefEqProofs only [go_sem, hT], m, 0, _, [], rfl, Ys hd, by rw [hs11 (by decide)]; exact g1, by rw [hs11 (by decide)]; exact g2, fun h => absurd rfl h, by show 0 + ct <= 2; omega, fun _ h => by cases h⟩
    clear a0 a2 a3 a4 hT T hd g1 g2 H hct m
    rintro k T s' ⟨hT, a0, a2, a3, a4, a9, m, cb, H1, ls, rfl, d1, q1, q2, qb, hpl, hps⟩
    simp -implicitDefEqProofs only [go_sem, a9, hT]
    by_cases hlo : (0 : Int) < (k : Int)
    ·have hl1 : k - 1 < k := by omega
     have p1 := fun m p => Js (H := H1) (m := m) (u := u) (p := p) (jr := true) (j := []) vs.length (K + 7) d1 (by omega)
     have har := Zy (dW H1) vs.length (by omega)
     generalize uptoN (dW H1) vs.length = a at *
     generalize nextW (dW H1) = w2 at *
     have p2 := fun m p => Z6k (H := redoH H1 [([0], some (.cells [.int .u64 w2] true u))]) (m := m) (u := u) (p := p) (jr := true) (j := []) 0 30 (K + 5) (by decide) (by decide) (by decide) (Y2 (u := u) (d := []) ▸ trivial)
     rw [Z0o] at p2
     have hr1 := Z1t w2 30 (by decide)
     generalize rangeR w2 0 30 = r1 at *
     generalize nextW (nextW w2) = w3 at *
     have hP : InlG vs.length ⟨a, r1⟩ := ⟨har, hr1⟩
     simp -implicitDefEqProofs only [go_sem, hlo]
     simp only [Z3]
     refine Tr.Does.mono (Q := fun x => ∃ (T' : List AV) (H2 : Heap) (e : Inl), x = (T', (⟨H2, m + 4, [], false, []⟩ : St)) /\ InlG vs.length e /\ T'.length = 144 /\ nth T' 0 = some (.ptr [0] 0) /\ nth T' 2 = some (.ptr [1] 0) /\ nth T' 3 = some (.ptr [2] 0) /\ nth T' 4 = some (.int .i64 vs.length) /\ nth T' 12 = some (.int .i64 k) /\
      isD u H2 /\ hget H2 [1] = some (.cells nil5 true 0) /\ hget H2 [2] = some (.cells [A0, A1, A2, ownV [m + 3, 9, 0] ((ls ++ [e]).map inlV), .nils] true 0) /\ hget H2 [m + 3, 9, 0] = some (.tok (ls ++ [e]).length 3)) ?_ ?_
     ·have hap := fun (l : List AV) (n : Nat) (b p : Nm) (H : Heap) (hr : (l.length + 1) * 24 <= 140737488355328) (hg : l ≠ [] -> hget H b = some (.tok l.length 3)) => Yi (C := cfg.at 23) (sT := 36) (b := b) (l := l) (x := .agg [.int .i64 a, .int .i64 r1.lo, .int .i64 r1.hi]) (H := H) (n := n) (p := p) (jr := true) (j := []) (z := 3) Zmd Zku rfl rfl rfl rfl rfl rfl hr hg
      have gv : hget (hdel (hdel H1 [0]) [0]) [2] = some (.cells [A0, A1, A2, ownV [cb, 9, 0] (ls.map inlV), .nils] true 0) := by
       rw [hd11 (by decide), hd11 (by decide)]; exact q2
      cases ls with
      | nil =>
       have hap0 := fun (n : Nat) (p : Nm) (H : Heap) => hap [] n [] p H (by simp) (fun h => absurd rfl h)
       simp only [ownV, dropTok, tokJ, List.nil_append, List.length_nil, List.map_nil] at hap0 q2 gv
       try simp only [Z3]
       refine Zc [[], [0], [], [], [2, 3], [], [5, 4, 2, 3], [6, 5, 4, 2, 3], [7, 6, 5, 4, 2, 3], [1, 0, 8, 7, 6, 5, 4, 2, 3], [9, 1, 0, 8, 7, 6, 5, 4, 2, 3], [10, 9, 1, 0, 8, 7, 6, 5, 4, 2, 3]] [[], [], [], [], [[0]], [], [[0]], [], [], [], [], [[2]]] (by kernel_rfl) rfl rfl ?_
       simp -implicitDefEqProofs only [go_sem, Z0, lkn, lk11, lk31, Option.getD_some, Option.getD_none, a0, a3, a4, hT, q2, gv, p1, p2, bs36, hap0, Zb]
       refine ⟨_, _, ⟨a, r1⟩, rfl, hP, by simp -implicitDefEqProofs only [go_sem, hT], by simp -implicitDefEqProofs only [go_sem, a0], by simp -implicitDefEqProofs only [go_sem, a2], by simp -implicitDefEqProofs only [go_sem, a3], by simp -implicitDefEqProofs only [go_sem, a4], by simp -implicitDefEqProofs only [go_sem, a9], by simp only [Y2, Yp, Yq], ?_, ?_, ?_⟩
       ·simp (disch := omega) only [Z0, lkn, lk11, lk31, Option.getD_none, q1]
       ·simp (disch := omega) only [Z0, Zd, Option.getD_some] <;> rfl
       ·simp (disch := omega) only [Z0, Zd, lk13, Option.getD_some] <;> rfl
      | cons b0 ls =>
       obtain ⟨hcb, r0⟩ := qb (by simp)
       have hapN := fun (n : Nat) (p : Nm) (H : Heap) (hg : hget H [cb, 9, 0] = some (.tok (b0 :: ls).length 3)) => hap ((b0 :: ls).map inlV) n [cb, 9, 0] p H (by rw [List.length_map]; omega) (fun _ => by rw [List.length_map]; exact hg)
       have hrel : ∀ e : Inl, ((b0 :: ls) ++ [e]).map inlV = (b0 :: ls).map inlV ++ [inlV e] := fun e => by rw [List.map_append]; rfl
       have hrl : ∀ e : Inl, ((b0 :: ls) ++ [e]).length = (b0 :: ls).length + 1 := fun e => by simp
       have n1 : (b0 :: ls).map inlV ≠ [] := by simp
       have hlm : ((b0 :: ls).map inlV).length = (b0 :: ls).length := List.length_map ..
       simp only [hrel, hrl]
       generalize (b0 :: ls).map inlV = R at *
       generalize (b0 :: ls).length = ln at *
       have o1 : ∀ b, ownV b R = .own b R := fun b => by cases R with | nil => exact absurd rfl n1 | cons a r => rfl
       have o3 : ∀ b j, tokJ R b j = (b, none) :: j := fun b j => by cases R with | nil => exact absurd rfl n1 | cons a r => rfl
       have o5 : ∀ b H, dropTok R b H = hdel H b := fun b H => by cases R with | nil => exact absurd rfl n1 | cons a r => rfl
       simp only [o1, o3, o5, Yf, hlm] at hapN q2 gv
       simp only [Yf]
       have ip2 : isPre [m + 3, 9] [cb, 9, 0] = false := Go.Am.Yc _ _ (by omega)
       try simp only [Z3]
       refine Zc [[], [0], [], [], [2, 3], [], [5, 4, 2, 3], [6, 5, 4, 2, 3], [7, 6, 5, 4, 2, 3], [1, 0, 8, 7, 6, 5, 4, 2, 3], [9, 1, 0, 8, 7, 6, 5, 4, 2, 3], [10, 9, 1, 0, 8, 7, 6, 5, 4, 2, 3]] [[], [], [], [], [[0]], [], [[0]], [], [], [[cb, 9, 0]], [], [[2]]] (by kernel_rfl) rfl rfl ?_
       simp -implicitDefEqProofs only [go_sem, Z0, lkn, lk11, lk13, lk31, Option.getD_some, Option.getD_none, a0, a3, a4, hT, q2, gv, p1, p2, bs36, r0, hapN, ip2, Zb]
       refine ⟨_, _, ⟨a, r1⟩, rfl, hP, by simp -implicitDefEqProofs only [go_sem, hT], by simp -implicitDefEqProofs only [go_sem, a0], by simp -implicitDefEqProofs only [go_sem, a2], by simp -implicitDefEqProofs only [go_sem, a3], by simp -implicitDefEqProofs only [go_sem, a4], by simp -implicitDefEqProofs only [go_sem, a9], by simp only [Y2, Yp, Yq], ?_, ?_, ?_⟩
       ·simp (disch := omega) only [Z0, lkn, lk11, lk31, Option.getD_none, q1]
       ·simp (disch := omega) only [Z0, Zd, Option.getD_some] <;> rfl
       ·simp (disch := omega) only [Z0, Zd, lk13, Option.getD_some] <;> rfl
     clear p1 p2 a0 a2 a3 a4 a9 hT T d1 q1 q2 qb H1
     rintro _ ⟨T, H, e, rfl, he, hT, a0, a2, a3, a4, a9, d1, q1, q2, qb⟩
     have hps2 : ∀ x ∈ ls ++ [e], InlG vs.length x := by
      intro x hx
      rcases List.mem_append.1 hx with hx | hx
      ·exact hps x hx
      ·rw [List.mem_singleton] at hx; rw [hx]; exact he
     have hpl2 : (ls ++ [e]).length + (k - 1) <= 2 := by rw [List.length_append, List.length_singleton]; omega
     have hlt : m + 3 < (m + 1) + 3 := by omega
     have e2 : wrapF .i64 ((k : Int) - 1) = ((k - 1 : Nat) : Int) := by rw [Z5 (by omega) (by omega)]; omega
     simp -implicitDefEqProofs only [go_sem, a0, a2, a3, a4, a9, hT, e2]
     clear e2
     exact ⟨k - 1, hl1, trivial, trivial, trivial, trivial, trivial, rfl, m + 1, m + 3, _, ls ++ [e], rfl, d1, q1, q2, fun _ => ⟨hlt, qb⟩, hpl2, hps2⟩
    ·simp -implicitDefEqProofs only [go_sem, hlo]
     exact ⟨_, m, H1, ls, _, rfl, by simp -implicitDefEqProofs only [go_sem, hT], by simp -implicitDefEqProofs only [go_sem, a0], by simp -implicitDefEqProofs only [go_sem, a2], by simp -implicitDefEqProofs only [go_sem, a3], by simp -implicitDefEqProofs only [go_sem, a4], d1, q1, q2, Xj _ _, by omega, hps⟩
   clear a0 a2 a3 a4 hT T hd g1 g2 H hct m
   rintro _ ⟨T, m, H, ls, A3, rfl, hT, a0, a2, a3, a4, hd, g1, g2, hA3, hlsl, hls⟩
   have ut1 := fun m jr j => Js (H := H) (m := m) (u := u) (p := []) (jr := jr) (j := j) 3 (K + 7) hd (by decide)
   have hct := Zy (dW H) 3 (by decide)
   generalize uptoN (dW H) 3 = ct0 at *
   generalize nextW (dW H) = w1 at *
   obtain ⟨ct, rfl⟩ : ∃ q : Nat, ct0 = q := ⟨ct0.toNat, by omega⟩
   simp -implicitDefEqProofs only [go_sem, a0, hT, ut1]
   clear ut1
   simp only [Z3]
   refine Tr.Does.mono (Q := fun x => ∃ (T' : List AV) (m : Nat) (H : Heap) (qs : List Gtr) (A4 : AV), x = ((AExit.exit 10, T'), (⟨H, m + 3, [], false, []⟩ : St)) /\ T'.length = 144 /\ nth T' 0 = some (.ptr [0] 0) /\ nth T' 2 = some (.ptr [1] 0) /\ nth T' 3 = some (.ptr [2] 0) /\ nth T' 4 = some (.int .i64 vs.length) /\ isD u H /\ hget H [1] = some (.cells nil5 true 0) /\ hget H [2] = some (.cells [A0, A1, A2, A3, A4] true 0) /\ A4.shut = .lst (qs.map gtrV) /\ qs.length <= 2 /\ ∀ x ∈ qs, GtrG vs.length x) ?_ ?_
   ·refine Zj (fun k T s' => T.length = 144 /\ nth T 0 = some (.ptr [0] 0) /\ nth T 2 = some (.ptr [1] 0) /\ nth T 3 = some (.ptr [2] 0) /\ nth T 4 = some (.int .i64 vs.length) /\ nth T 13 = some (.int .i64 k) /\ ∃ (m cb : Nat) (H : Heap) (qs : List Gtr), s' = ⟨H, m + 3, [], false, []⟩ /\ isD u H /\ hget H [1] = some (.cells nil5 true 0) /\ hget H [2] = some (.cells [A0, A1, A2, A3, ownV [cb, 11, 0] (qs.map gtrV)] true 0) /\ (qs ≠ [] -> cb < m + 3 /\ hget H [cb, 11, 0] = some (.tok qs.length 5)) /\ qs.length + k <= 2 /\ ∀ x ∈ qs, GtrG vs.length x) (k := ct) (by omega) ?_ ?_
    ·exact ⟨by simp -implicitDefEqProofs only [go_sem, hT], by simp -implicitDefEqProofs only [go_sem, a0], by simp -implicitDefEqProofs only [go_sem, a2], by simp -implicitDefEqProofs only [go_sem, a3], by simp -implicitDefEqProofs only [go_sem, a4], by simp -implicitDefEqProofs only [go_sem, hT], m, 0, _, [], rfl, Ys hd, by rw [hs11 (by decide)]; exact g1, by rw [hs11 (by decide)]; exact g2, fun h => absurd rfl h, by show 0 + ct <= 2; omega, fun _ h => by cases h⟩
    clear a0 a2 a3 a4 hT T hd g1 g2 H hct m
    rintro k T s' ⟨hT, a0, a2, a3, a4, a9, m, cb, H1, qs, rfl, d1, q1, q2, qb, hpl, hps⟩
    simp -implicitDefEqProofs only [go_sem, a9, hT]
    by_cases hlo : (0 : Int) < (k : Int)
    ·have hl1 : k - 1 < k := by omega
     have p1 := fun m p => Js (H := H1) (m := m) (u := u) (p := p) (jr := true) (j := []) vs.length (K + 7) d1 (by omega)
     have har := Zy (dW H1) vs.length (by omega)
     generalize uptoN (dW H1) vs.length = a at *
     generalize nextW (dW H1) = w2 at *
     have p2 := fun m p => Z7x (H := redoH H1 [([0], some (.cells [.int .u64 w2] true u))]) (m := m) (u := u) (p := p) (jr := true) (j := []) 300000 (K + 4) (by decide) (by decide) (Y2 (u := u) (d := []) ▸ trivial)
     rw [Z0o] at p2
     have hr1 := Z1t w2 300000 (by decide)
     generalize rangeR w2 0 300000 = r1 at *
     generalize nextW (nextW w2) = w3 at *
     have p3 := fun m p => Z6k (H := redoH (redoH H1 [([0], some (.cells [.int .u64 w2] true u))]) [([0], some (.cells [.int .u64 w3] true u))]) (m := m) (u := u) (p := p) (jr := true) (j := []) 0 9000 (K + 5) (by decide) (by decide) (by decide) (Y2 (u := u) (d := []) ▸ trivial)
     rw [Z0o] at p3
     have hr2 := Z1t w3 9000 (by decide)
     generalize rangeR w3 0 9000 = r2 at *
     generalize nextW (nextW w3) = w4 at *
     have hP : GtrG vs.length ⟨a, r1, r2⟩ := ⟨har, hr1, hr2⟩
     simp -implicitDefEqProofs only [go_sem, hlo]
     simp only [Z3]
     refine Tr.Does.mono (Q := fun x => ∃ (T' : List AV) (H2 : Heap) (e : Gtr), x = (T', (⟨H2, m + 4, [], false, []⟩ : St)) /\ GtrG vs.length e /\ T'.length = 144 /\ nth T' 0 = some (.ptr [0] 0) /\ nth T' 2 = some (.ptr [1] 0) /\ nth T' 3 = some (.ptr [2] 0) /\ nth T' 4 = some (.int .i64 vs.length) /\ nth T' 13 = some (.int .i64 k) /\
      isD u H2 /\ hget H2 [1] = some (.cells nil5 true 0) /\ hget H2 [2] = some (.cells [A0, A1, A2, A3, ownV [m + 3, 11, 0] ((qs ++ [e]).map gtrV)] true 0) /\ hget H2 [m + 3, 11, 0] = some (.tok (qs ++ [e]).length 5)) ?_ ?_
     ·have hap := fun (l : List AV) (n : Nat) (b p : Nm) (H : Heap) (hr : (l.length + 1) * 40 <= 140737488355328) (hg : l ≠ [] -> hget H b = some (.tok l.length 5)) => Yi (C := cfg.at 23) (sT := 37) (b := b) (l := l) (x := .agg [.int .i64 a, .int .i64 r1.lo, .int .i64 r1.hi, .int .i64 r2.lo, .int .i64 r2.hi]) (H := H) (n := n) (p := p) (jr := true) (j := []) (z := 5) Zme Zho rfl rfl rfl rfl rfl rfl hr hg
      have gv : hget (hdel (hdel (hdel H1 [0]) [0]) [0]) [2] = some (.cells [A0, A1, A2, A3, ownV [cb, 11, 0] (qs.map gtrV)] true 0) := by
       rw [hd11 (by decide), hd11 (by decide), hd11 (by decide)]; exact q2
      cases qs with
      | nil =>
       have hap0 := fun (n : Nat) (p : Nm) (H : Heap) => hap [] n [] p H (by simp) (fun h => absurd rfl h)
       simp only [ownV, dropTok, tokJ, List.nil_append, List.length_nil, List.map_nil] at hap0 q2 gv
       try simp only [Z3]
       refine Zc [[], [0], [], [], [2, 3], [], [5, 4, 2, 3], [], [7, 6, 5, 4, 2, 3], [8, 7, 6, 5, 4, 2, 3], [9, 8, 7, 6, 5, 4, 2, 3], [1, 0, 10, 9, 8, 7, 6, 5, 4, 2, 3], [11, 1, 0, 10, 9, 8, 7, 6, 5, 4, 2, 3], [12, 11, 1, 0, 10, 9, 8, 7, 6, 5, 4, 2, 3]] [[], [], [], [], [[0]], [], [[0]], [], [[0]], [], [], [], [], [[2]]] (by kernel_rfl) rfl rfl ?_
       simp -implicitDefEqProofs only [go_sem, Z0, lkn, lk11, lk31, Option.getD_some, Option.getD_none, a0, a3, a4, hT, q2, gv, p1, p2, p3, bs37, hap0, Zb]
       refine ⟨_, _, ⟨a, r1, r2⟩, rfl, hP, by simp -implicitDefEqProofs only [go_sem, hT], by simp -implicitDefEqProofs only [go_sem, a0], by simp -implicitDefEqProofs only [go_sem, a2], by simp -implicitDefEqProofs only [go_sem, a3], by simp -implicitDefEqProofs only [go_sem, a4], by simp -implicitDefEqProofs only [go_sem, a9], by simp only [Y2, Yp, Yq], ?_, ?_, ?_⟩
       ·simp (disch := omega) only [Z0, lkn, lk11, lk31, Option.getD_none, q1]
       ·simp (disch := omega) only [Z0, Zd, Option.getD_some] <;> rfl
       ·simp (disch := omega) only [Z0, Zd, lk13, Option.getD_some] <;> rfl
      | cons b0 qs =>
       obtain ⟨hcb, r0⟩ := qb (by simp)
       have hapN := fun (n : Nat) (p : Nm) (H : Heap) (hg : hget H [cb, 11, 0] = some (.tok (b0 :: qs).length 5)) => hap ((b0 :: qs).map gtrV) n [cb, 11, 0] p H (by rw [List.length_map]; omega) (fun _ => by rw [List.length_map]; exact hg)
       have hrel : ∀ e : Gtr, ((b0 :: qs) ++ [e]).map gtrV = (b0 :: qs).map gtrV ++ [gtrV e] := fun e => by rw [List.map_append]; rfl
       have hrl : ∀ e : Gtr, ((b0 :: qs) ++ [e]).length = (b0 :: qs).length + 1 := fun e => by simp
       have n1 : (b0 :: qs).map gtrV ≠ [] := by simp
       have hlm : ((b0 :: qs).map gtrV).length = (b0 :: qs).length := List.length_map ..
       simp only [hrel, hrl]
       generalize (b0 :: qs).map gtrV = R at *
       generalize (b0 :: qs).length = ln at *
       have o1 : ∀ b, ownV b R = .own b R := fun b => by cases R with | nil => exact absurd rfl n1 | cons a r => rfl
       have o3 : ∀ b j, tokJ R b j = (b, none) :: j := fun b j => by cases R with | nil => exact absurd rfl n1 | cons a r => rfl
       have o5 : ∀ b H, dropTok R b H = hdel H b := fun b H => by cases R with | nil => exact absurd rfl n1 | cons a r => rfl
       simp only [o1, o3, o5, Yf, hlm] at hapN q2 gv
       simp only [Yf]
       have ip2 : isPre [m + 3, 11] [cb, 11, 0] = false := Go.Am.Yc _ _ (by omega)
       try simp only [Z3]
       refine Zc [[], [0], [], [], [2, 3], [], [5, 4, 2, 3], [], [7, 6, 5, 4, 2, 3], [8, 7, 6, 5, 4, 2, 3], [9, 8, 7, 6, 5, 4, 2, 3], [1, 0, 10, 9, 8, 7, 6, 5, 4, 2, 3], [11, 1, 0, 10, 9, 8, 7, 6, 5, 4, 2, 3], [12, 11, 1, 0, 10, 9, 8, 7, 6, 5, 4, 2, 3]] [[], [], [], [], [[0]], [], [[0]], [], [[0]], [], [], [[cb, 11, 0]], [], [[2]]] (by kernel_rfl) rfl rfl ?_
       simp -implicitDefEqProofs only [go_sem, Z0, lkn, lk11, lk13, lk31, Option.getD_some, Option.getD_none, a0, a3, a4, hT, q2, gv, p1, p2, p3, bs37, r0, hapN, ip2, Zb]
       refine ⟨_, _, ⟨a, r1, r2⟩, rfl, hP, by simp -implicitDefEqProofs only [go_sem, hT], by simp -implicitDefEqProofs only [go_sem, a0], by simp -implicitDefEqProofs only [go_sem, a2], by simp -implicitDefEqProofs only [go_sem, a3], by simp -implicitDefEqProofs only [go_sem, a4], by simp -implicitDefEqProofs only [go_sem, a9], by simp only [Y2, Yp, Yq], ?_, ?_, ?_⟩
       ·simp (disch := omega) only [Z0, lkn, lk11, lk31, Option.getD_none, q1]
       ·simp (disch := omega) only [Z0, Zd, Option.getD_some] <;> rfl
       ·simp (disch := omega) only [Z0, Zd, lk13, Option.getD_some] <;> rfl
     clear p1 p2 p3 a0 a2 a3 a4 a9 hT T d1 q1 q2 qb H1
     rintro _ ⟨T, H, e, rfl, he, hT, a0, a2, a3, a4, a9, d1, q1, q2, qb⟩
     have hps2 : ∀ x ∈ qs ++ [e], GtrG vs.length x := by
      intro x hx
      rcases List.mem_append.1 hx with hx | hx
      ·exact hps x hx
      ·rw [List.mem_singleton] at hx; rw [hx]; exact he
     have hpl2 : (qs ++ [e]).length + (k - 1) <= 2 := by rw [List.length_append, List.length_singleton]; omega
     have hlt : m + 3 < (m + 1) + 3 := by omega
     have e2 : wrapF .i64 ((k : Int) - 1) = ((k - 1 : Nat) : Int) := by rw [Z5 (by omega) (by omega)]; omega
     simp -implicitDefEqProofs only [go_sem, a0, a2, a3, a4, a9, hT, e2]
     clear e2
     exact ⟨k - 1, hl1, trivial, trivial, trivial, trivial, trivial, rfl, m + 1, m + 3, _, qs ++ [e], rfl, d1, q1, q2, fun _ => ⟨hlt, qb⟩, hpl2, hps2⟩
    ·simp -implicitDefEqProofs only [go_sem, hlo]
     exact ⟨_, m, H1, qs, _, rfl, by simp -implicitDefEqProofs only [go_sem, hT], by simp -implicitDefEqProofs only [go_sem, a0], by simp -implicitDefEqProofs only [go_sem, a2], by simp -implicitDefEqProofs only [go_sem, a3], by simp -implicitDefEqProofs only [go_sem, a4], d1, q1, q2, Xj _ _, by omega, hps⟩
   clear a0 a2 a3 a4 hT T hd g1 g2 H hct m
   rintro _ ⟨T, m, H, qs, A4, rfl, hT, a0, a2, a3, a4, hd, g1, g2, hA4, hqsl, hqs⟩
   have e1 : ∀ Z, hget (hset H [1] Z) [1] = some Z := fun Z => hss g1
   have e0 : ∀ Z, hget (hset H [1] Z) [0] = hget H [0] := fun Z => hs11 (by decide)
   have hz : (AV.agg [A0, A1, A2, A3, A4]).shut = vacV ⟨vs, ps, ms, ls, qs⟩ := by
    simp only [AV.shut, shuts, hA0, hA1, hA2, hA3, hA4, vacV]
   simp only [nil5] at g1
   simp -implicitDefEqProofs only [go_sem, a2, a3, hT, g1, g2, e1, e0, Try.results23]
   exact ⟨⟨vs, ps, ms, ls, qs⟩, dW H, ⟨by show 1 <= vs.length; omega, by show vs.length <= 4; omega, hvs, hpsl, hps, hmsl, hms, hlsl, hls, hqsl, hqs⟩, hz, Jo hd⟩
 obtain ⟨v, w', hg, hd⟩ := key
 refine ⟨v, w', hg, ?_⟩
 exact Z5g (v := vacV v) Zl2 Zl1 hb rfl rfl rfl rfl rfl rfl (by rfl) (by simp only [vacV, renV, renVs, X5, X6, X7, X8, X9]) hd
end Go.Proofs.Ytgnpnfkncbnjnaa
namespace Go.Proofs.Ytgnpnfkncbnjnaa
attribute [local go_sem_proc] Int.reduceEq Int.reduceNeg Nat.reduceEqDiff Nat.reduceLT Nat.reduceAdd Nat.reduceSub Nat.reduceMul Int.reduceLE Int.reduceLT Int.reduceToNat Nat.reduceLeDiff
attribute [local go_sem] Int.toNat_natCast Bool.not_true Bool.not_false
open Go Go.Am
attribute [local congr] Za Z6 Z7
attribute [local go_sem] Go.Am.buildSliceA Go.Am.frozen Go.Am.freezeG Go.Am.freezeGs Go.Am.minmax
def RowM (lo n : Nat) (H : Heap) (v : AV) (L : List Rg) : Prop := (L = [] /\ v = .nils) \/ ∃ (b c : Nat) (cs : List AV), v = .slice [b] 0 L.length c false /\ lo <= b /\ b < n /\ hget H [b] = some (.cells cs true 2) /\ (L ≠ [] -> cs = L.flatMap rgC)
theorem Zfv (l : List Rg) : flatA (l.map rgV) = l.flatMap rgC := by
 induction l with
 | nil => rfl
 | cons a l ih => simp only [List.map_cons, flatA, List.flatMap_cons, ih]; rfl
theorem Z9g {lo n : Nat} {H : Heap} {v : AV} {L : List Rg} (hv : RowM lo n H v L) (hlo : lo <= n) (l2 : List Rg) (hr : (L.length + l2.length) * 16 <= 140737488355328) (C : Cfg) (hC : C.ty = cfg.ty) :
  ∃ v' H' n', appendA C false 50 50 v (.lst (l2.map rgV)) ⟨H, n, [], false, []⟩ = .ret (v', ⟨H', n', [], false, []⟩) /\ RowM lo n' H' v' (L ++ l2) /\ n <= n' /\ ∀ k, k < lo -> hget H' [k] = hget H [k] := by
 have hd : C.desc 50 = some (.slice 26) := by unfold Cfg.desc; rw [hC]; exact Zam
 have hi : C.ty.get 26 = some ty26 := by rw [hC]; exact Z7j
 have e0 : ∀ s, appendA C false 50 50 v (.lst (l2.map rgV)) s = appendTo ty26 v l2.length (l2.flatMap rgC) s := fun s => by
  unfold appendA
  rw [hd]; simp only
  rw [hi]; simp only
  have hz : ty26.zero = some (.agg [.int .i64 0, .int .i64 0]) := rfl
  rw [hz]; simp only
  have hb : Nat.beq (AV.agg [.int .i64 0, .int .i64 0]).cells.length ty26.size = true := rfl
  rw [hb]; simp only
  have hs : srcA ty26 (.agg [.int .i64 0, .int .i64 0]) (.slice 26) (.lst (l2.map rgV)) = M.ret (l2.length, l2.flatMap rgC) := by
   show (match okZ 2 (l2.map rgV) with | true => M.ret ((l2.map rgV).length, flatA (l2.map rgV)) | false => M.fail) = _
   rw [z_rg, Zfv, List.length_map]
  rw [hs, Z8, Ya, Tr.bind_ret]
 have hroom : ∀ k m, k + m = L.length + l2.length -> roomy k m ty26.bytes = true := fun k m h => by
  unfold roomy
  have h16 : ty26.bytes = 16 := rfl
  rw [h16, Nat.ble_eq_true_of_le (show (k + m) * 16 <= 140737488355328 by rw [h]; exact hr)]
 rw [e0]
 cases l2 with
 | nil =>
  have e1 : appendTo ty26 v 0 [] = M.ret v := by
   rcases hv with ⟨_, rfl⟩ | ⟨b, c, cs, rfl, _⟩ <;> rfl
  refine ⟨v, H, n, by show appendTo ty26 v 0 [] _ = _; rw [e1]; rfl, by rw [List.append_nil]; exact hv, Nat.le_refl _, fun _ _ => rfl⟩
 | cons a r =>
  have hm : (a :: r).length = r.length + 1 := rfl
  rcases hv with ⟨rfl, rfl⟩ | ⟨b, c, cs, rfl, h1, h2, h3, h4⟩
  ·refine ⟨.slice [n] 0 (a :: r).length (a :: r).length false, ([n], .cells ((a :: r).flatMap rgC) true 2) :: H, n + 1, ?_, .inr ⟨n, _, _, rfl, hlo, by omega, Z2 .., fun _ => rfl⟩, by omega, fun k hk => hc11 (by omega)⟩
   unfold appendTo
   rw [hm]
   simp only
   have hr1 := hroom 0 (r.length + 1) (by simp)
   rw [hr1]; simp only
   unfold grow
   rw [Z8, X2, Tr.bind_ret]
   rfl
  ·refine ⟨.slice [n] 0 (L.length + (a :: r).length) (L.length + (a :: r).length) false, ([n], .cells ((L ++ a :: r).flatMap rgC) true 2) :: hdel H [b], n + 1, ?_, .inr ⟨n, _, _, by rw [List.length_append], hlo, by omega, Z2 .., fun _ => rfl⟩, by omega, fun k hk => (hc11 (by omega)).trans (hd11 (by omega))⟩
   unfold appendTo
   rw [hm]
   simp only [Z8, Yb, h3, Tr.bind_ret]
   have hr1 := hroom L.length (r.length + 1) rfl
   rw [hr1]; simp only
   have ho : oldA cs 0 L.length ty26.size = some (L.flatMap rgC) := by
    cases L with
    | nil => rfl
    | cons x y =>
     have := h4 (by simp)
     subst this
     show readN ((x :: y).flatMap rgC) 0 ((x :: y).length * 2) = _
     exact Z5k _ _ (Z34 _)
   rw [ho]; simp only
   have hu : Nat.beq 2 ty26.size = true := rfl
   have hu1 : Nat.ble 1 2 = true := rfl
   rw [hu]
   simp only [hu1]
   rw [Z8, Z6e]
   simp only [h3, Tr.bind_ret]
   unfold grow
   rw [Z8, X2, Tr.bind_ret, List.flatMap_append]
   rfl
theorem Zjs (s : St) : sliceOp (cfg.at 171) 50 .nils none (some (.int .i64 0)) none s = .ret (.nils, s) := by
 have h0 : (0 : Int) <= ((0 : Nat) : Int) := by decide
 simp -implicitDefEqProofs only [go_sem, sliceOp, h0]
theorem Zmf (b : Nm) (k : Nat) (cs : List AV) (s : St) (hb : hget s.H b = some (.cells cs true 2)) : sliceOp (cfg.at 171) 50 (.slice b 0 k k false) none (some (.int .i64 0)) none s = .ret (.slice b 0 0 k false, s) := by
 have h0 : (0 : Int) <= (k : Int) := by omega
 simp -implicitDefEqProofs only [go_sem, sliceOp, unitM, hb, Int.le_refl, h0, Nat.sub_zero]
theorem Zmg (b : Nm) (k : Nat) (cs : List AV) (H : Heap) (n : Nat) (p : Nm) (jr : Bool) (j : Delta) : sliceOp (cfg.at 171) 50 (.slice b 0 k k false) none (some (.int .i64 0)) none ⟨(b, .cells cs true 2) :: H, n, p, jr, j⟩ = .ret (.slice b 0 0 k false, ⟨(b, .cells cs true 2) :: H, n, p, jr, j⟩) :=
 Zmf b k cs _ (Z2 ..)
theorem Zfw (m : Nat) (h : m <= 1000001) : roomy 0 m ty26.bytes = true := by
 unfold roomy
 have h16 : ty26.bytes = 16 := rfl
 rw [h16, Nat.ble_eq_true_of_le (show (0 + m) * 16 <= 140737488355328 by omega)]
theorem Zjt (i : TI) (z : AV) (n : Int) (m : Nat) (hw : wrapF .i64 n = (m : Int)) (hb : m * i.bytes <= 140737488355328) : srcA i z (.int .i64) (.int .i64 n) = M.ret (m, repeatN z.cells m) := by
 have h0' : decide ((0 : Int) <= (m : Int)) = true := decide_eq_true (by omega)
 have hzz : (m : Int).toNat = m := by omega
 have hb' := Nat.ble_eq_true_of_le hb
 show (match decide (0 <= wrapF .i64 n), Nat.ble ((wrapF .i64 n).toNat * i.bytes) 140737488355328 with
   | true, true => M.ret ((wrapF .i64 n).toNat, repeatN z.cells (wrapF .i64 n).toNat)
   | _, _ => M.fail) = _
 rw [hw, h0', hzz, hb']
theorem Zju (m : Nat) (h : m <= 1000001) : srcA ty26 (.agg [.int .i64 0, .int .i64 0]) (.int .i64) (.int .i64 (m : Int)) = M.ret (m, repeatN [.int .i64 0, .int .i64 0] m) :=
 Zjt ty26 _ m m (Z5 (by omega) (by omega)) (show m * 16 <= _ by omega)
theorem Zmh (n : Nat) (s : St) (hn : n <= 1000000) : appendA (cfg.at 171) false 50 3 .nils (.int .i64 ((n + 1 : Nat) : Int)) s = .ret (.slice s.name 0 (n + 1) (n + 1) false, s.new (.cells (repeatN [.int .i64 0, .int .i64 0] (n + 1)) true 2)) := by
 have hr := Zfw (n + 1) (by omega)
 have hd : (cfg.at 171).desc 50 = some (.slice 26) := Zam
 have hd3 : (cfg.at 171).desc 3 = some (.int .i64) := by kernel_rfl
 have hsrc := Zju (n + 1) (by omega)
 unfold appendA
 rw [hd, hd3]; simp only
 rw [show (cfg.at 171).ty.get 26 = some ty26 from Z7j]; simp only
 rw [show ty26.zero = some (.agg [.int .i64 0, .int .i64 0]) from rfl]; simp only
 rw [show Nat.beq (AV.agg [.int .i64 0, .int .i64 0]).cells.length ty26.size = true from rfl]; simp only
 rw [hsrc, Z8, Ya, Tr.bind_ret]
 unfold appendTo
 simp only [hr]
 unfold grow
 rw [Z8, X2, Tr.bind_ret]
 rfl
theorem Z7y (n : Nat) (K : Nat) (s : St) (hn : n <= 1000000) : acall cfg (K + 1) 171 [.nils, .int .i64 n] s = .ret (match n with | 0 => (.nils, s) | n + 1 => (.slice s.name 0 0 (n + 1) false, s.new (.cells (repeatN [.int .i64 0, .int .i64 0] (n + 1)) true 2))) := by
 suffices h : (acall cfg (K + 1) 171 [.nils, .int .i64 n] s).Does fun x => x = (match n with | 0 => (.nils, s) | n + 1 => (.slice s.name 0 0 (n + 1) false, s.new (.cells (repeatN [.int .i64 0, .int .i64 0] (n + 1)) true 2))) by
  obtain ⟨a, e, rfl⟩ := h; exact e
 rw [Z4n Zjc Zjb]
 refine Z9 rfl fun T hT' hA => ?_
 have a0 := hA 0 _ rfl
 have a1 := hA 1 _ rfl
 have hT : T.length = 27 := hT'
 clear hA hT'
 obtain ⟨H, m, p, jr, j⟩ := s
 have hn0 : ¬ (n : Int) < 0 := by omega
 cases n with
 | zero =>
  have a1' : nth T 1 = some (.int .i64 0) := a1
  have hw0 : wrapF .i64 0 = 0 := rfl
  clear a1
  simp -implicitDefEqProofs only [go_sem, a0, a1', hT, hw0, Int.sub_self, Int.lt_irrefl, Try.results171]
 | succ n =>
  have h0 : (0 : Int) < ((n + 1 : Nat) : Int) := by omega
  have h0' : (0 : Int) <= ((n + 1 : Nat) : Int) := by omega
  have hw : wrapF .i64 (((n + 1 : Nat) : Int) - 0) = ((n + 1 : Nat) : Int) := by rw [Z5 (by omega) (by omega)]; omega
  have hw2 : wrapF .i64 ((n + 1 : Nat) : Int) = ((n + 1 : Nat) : Int) := Z5 (by omega) (by omega)
  have hw0 : wrapF .i64 (0 - 0) = 0 := rfl
  have hn' : n <= 1000000 := by omega
  have hzz : ((n + 1 : Nat) : Int).toNat = n + 1 := by omega
  simp -implicitDefEqProofs only [go_sem, a0, a1, hT, hn0, h0, hw0, hw, Zjs, Zmg, Zmh, hn', Try.results171]
end Go.Proofs.Ytgnpnfkncbnjnaa
namespace Go.Proofs.Ytgnpnfkncbnjnaa
attribute [local go_sem_proc] Int.reduceEq Int.reduceNeg Nat.reduceEqDiff Nat.reduceLT Nat.reduceAdd Nat.reduceSub Nat.reduceMul Int.reduceLE Int.reduceLT Int.reduceToNat Nat.reduceLeDiff
attribute [local go_sem] Int.toNat_natCast Bool.not_true Bool.not_false
open Go Go.Am
attribute [local congr] Za Z6 Z7
attribute [local go_sem] Go.Am.buildSliceA Go.Am.minmax
def rowV (l : List Rg) : AV := .lst (l.map rgV)
@[go_sem] theorem Zuu (R : List (List Rg)) : flats (R.map rowV) = true := by
 induction R with
 | nil => rfl
 | cons a r ih =>
  show flats (AV.lst (a.map rgV) :: r.map rowV) = true
  simp only [flats, AV.flat, Z96, ih]
theorem Z9h {lo n : Nat} {H : Heap} {v : AV} {L : List Rg} (h : RowM lo n H v L) : Go.Am.frozen H v = some (.lst (L.map rgV)) := by
 have h1 : freezeG (freezeD H 6) H v = some (.lst (L.map rgV)) := by
  rcases h with ⟨rfl, rfl⟩ | ⟨b, c, cs, rfl, _, _, hb, hcs⟩
  ·rfl
  ·cases L with
   | nil => rfl
   | cons x y =>
    have := hcs (by simp)
    subst this
    exact Z2a (g := rgC) (z := 2) Z19 (by decide) (f := rgV) (fun _ => rfl) (row := freezeD H 6) (H := H) (x :: y) (Zdv _) hb c false
 unfold Go.Am.frozen
 rw [h1]
 have h2 : (AV.lst (L.map rgV)).flat = true := by simp only [AV.flat, Z96]
 simp only [h2]
theorem Z1v {α : Type} (R : List (List α)) {i : Nat} (h : i < R.length) : (R.take (i + 1)).flatten = (R.take i).flatten ++ R[i] := by
 rw [List.take_succ_eq_append_getElem h, List.flatten_append]; simp
theorem Z2q {α : Type} (R : List (List α)) (i : Nat) : (R.take i).flatten.length <= R.flatten.length := by
 conv => rhs; rw [<- List.take_append_drop i R, List.flatten_append, List.length_append]
 omega
theorem Zfx (n : Nat) (K : Nat) (hn : n <= 1000000) : ∃ v H m, acall cfg (K + 1) 171 [.nils, .int .i64 n] ⟨[], 0, [], false, []⟩ = .ret (v, ⟨H, m, [], false, []⟩) /\ RowM 0 m H v [] := by
 cases n with
 | zero => exact ⟨_, _, _, Z7y 0 K _ hn, .inl ⟨rfl, rfl⟩⟩
 | succ m => exact ⟨_, _, _, Z7y (m + 1) K _ hn, .inr ⟨0, _, _, rfl, Nat.le_refl _, by decide, rfl, fun h => absurd rfl h⟩⟩
theorem Z9i (R : List (List Rg)) (K : Nat) (s : St) (hR : R.length < K) (hR2 : R.length <= 1000000) (hs : R.flatten.length <= 1000000) :
  acall cfg (K + 2) 133 [.lst (R.map rowV)] s = .ret (.lst (R.flatten.map rgV), s) := by
 refine Jt Zik Zij (by first | rfl | simp -implicitDefEqProofs only [redoH, redo1, go_sem]) (by first | rfl | simp -implicitDefEqProofs only [go_sem]) (by first | rfl | simp -implicitDefEqProofs only [go_sem]) ?_
 refine Z9 rfl fun T hT' hA => ?_
 have a0 := hA 0 _ rfl
 have hT : T.length = 36 := hT'
 clear hA hT'
 simp -implicitDefEqProofs only [go_sem, a0, hT]
 simp only [Z3]
 refine Tr.Does.mono (Q := fun x => ∃ T', x = ((AExit.exit 0, T'), s0) /\ T'.length = 36 /\ nth T' 0 = some (.lst (R.map rowV)) /\ nth T' 3 = some (.int .i64 R.flatten.length)) ?_ ?_
 ·refine Zj (fun k T s' => T.length = 36 /\ nth T 0 = some (.lst (R.map rowV)) /\ nth T 9 = some (.lst (R.map rowV)) /\ nth T 10 = some (.int .i64 R.length) /\ s' = s0 /\ ∃ i : Nat, nth T 11 = some (.int .i64 i) /\ i <= R.length /\ k = R.length - i /\ nth T 3 = some (.int .i64 (R.take i).flatten.length)) (k := R.length) (by omega) ?_ ?_
  ·exact ⟨by simp -implicitDefEqProofs only [go_sem, hT], by simp -implicitDefEqProofs only [go_sem, a0], by simp -implicitDefEqProofs only [go_sem, hT], by simp -implicitDefEqProofs only [go_sem, hT], rfl, 0, by simp -implicitDefEqProofs only [go_sem, hT] <;> rfl, by omega, rfl, by simp -implicitDefEqProofs only [go_sem, hT] <;> rfl⟩
  clear a0 hT T
  rintro k T s' ⟨hT, a0, a9, a10, rfl, i, a11, hi, rfl, a3⟩
  simp -implicitDefEqProofs only [go_sem, a10, a11, hT]
  by_cases hil : (i : Int) < (R.length : Int)
  ·have hi' : i < R.length := by omega
   have e1 := Zh (f := rowV) (l := R) (i := i) (z := 1) hi' rfl
   have hkk : R.length - (i + 1) < R.length - i := by omega
   have hle := Z2q R (i + 1)
   rw [Z1v R hi', List.length_append] at hle
   have htk : (R.take (i + 1)).flatten.length = (R.take i).flatten.length + R[i].length := by rw [Z1v R hi', List.length_append]
   generalize R[i] = x at *
   have h0 : ¬ (((R.take i).flatten.length : Int) + (x.length : Int)) < 0 := by omega
   have hw2 : wrapF .i64 (((R.take i).flatten.length : Int) + (x.length : Int)) = ((R.take i).flatten.length : Int) + (x.length : Int) := Z5 (by omega) (by omega)
   have hw1 : wrapF .i64 ((i : Int) + 1) = ((i + 1 : Nat) : Int) := Z5 (by omega) (by omega)
   simp only [rowV] at e1
   simp -implicitDefEqProofs only [go_sem, a0, a9, a10, a11, a3, hT, hil, e1, hw2, h0, hw1]
   refine ⟨R.length - (i + 1), hkk, trivial, trivial, trivial, trivial, trivial, i + 1, rfl, hi', rfl, ?_⟩
   rw [htk]; rfl
  ·have hie : i = R.length := by omega
   subst hie
   rw [List.take_length] at a3
   simp -implicitDefEqProofs only [go_sem, hil]
   exact ⟨_, rfl, by simp -implicitDefEqProofs only [go_sem, hT], by simp -implicitDefEqProofs only [go_sem, a0], by simp -implicitDefEqProofs only [go_sem, a3]⟩
 clear a0 hT T
 rintro _ ⟨T, rfl, hT, a0, a3⟩
 obtain ⟨v, H, n, hgr, hrow⟩ := Zfx R.flatten.length K hs
 simp -implicitDefEqProofs only [go_sem, a0, a3, hT, hgr]
 simp only [Z3]
 refine Zj (fun k T s' => T.length = 36 /\ nth T 25 = some (.lst (R.map rowV)) /\ nth T 26 = some (.int .i64 R.length) /\ ∃ (i n : Nat) (H : Heap) (v : AV), nth T 27 = some (.int .i64 i) /\ i <= R.length /\ k = R.length - i /\ s' = ⟨H, n, [], false, []⟩ /\ nth T 6 = some v /\ RowM 0 n H v (R.take i).flatten) (k := R.length) (by omega) ?_ ?_
 ·exact ⟨by simp -implicitDefEqProofs only [go_sem, hT], by simp -implicitDefEqProofs only [go_sem, hT], by simp -implicitDefEqProofs only [go_sem, hT], 0, n, H, v, by simp -implicitDefEqProofs only [go_sem, hT] <;> rfl, by omega, rfl, rfl, by simp -implicitDefEqProofs only [go_sem, hT], hrow⟩
 clear a0 a3 hT T hgr hrow n H v
 rintro k T s' ⟨hT, a25, a26, i, n, H, v, a27, hi, rfl, rfl, a6, hrow⟩
 simp -implicitDefEqProofs only [go_sem, a26, a27, hT]
 by_cases hil : (i : Int) < (R.length : Int)
 ·have hi' : i < R.length := by omega
  have e1 := Zh (f := rowV) (l := R) (i := i) (z := 1) hi' rfl
  have hkk : R.length - (i + 1) < R.length - i := by omega
  have hle := Z2q R (i + 1)
  rw [Z1v R hi', List.length_append] at hle
  have htk := Z1v R hi'
  generalize R[i] = x at *
  obtain ⟨v', H', n', hap, hrow', _, _⟩ := Z9g hrow (Nat.zero_le _) x (by omega) (cfg.at 133) rfl
  have hw1 : wrapF .i64 ((i : Int) + 1) = ((i + 1 : Nat) : Int) := Z5 (by omega) (by omega)
  simp only [rowV] at e1
  simp -implicitDefEqProofs only [go_sem, a25, a26, a27, a6, hT, hil, e1, hap, hw1]
  exact ⟨R.length - (i + 1), hkk, trivial, trivial, trivial, i + 1, n', H', v', rfl, hi', rfl, rfl, rfl, by rw [htk]; exact hrow'⟩
 ·have hie : i = R.length := by omega
  subst hie
  rw [List.take_length] at hrow
  have hf := Z9h hrow
  simp -implicitDefEqProofs only [go_sem, a6, hT, hil, Try.results133]
  exact hf
end Go.Proofs.Ytgnpnfkncbnjnaa
namespace Go.Am
open Go
section
variable {C : Cfg} {sT e : TypeId} {i : TI} {zv : AV}
end
end Go.Am
namespace Go.Proofs.Ytgnpnfkncbnjnaa
attribute [local go_sem_proc] Int.reduceEq Int.reduceNeg Nat.reduceEqDiff Nat.reduceLT Nat.reduceAdd Nat.reduceSub Nat.reduceMul Int.reduceLE Int.reduceLT Int.reduceToNat Nat.reduceLeDiff
attribute [local go_sem] Int.toNat_natCast Bool.not_true Bool.not_false
open Go Go.Am
attribute [local congr] Za Z6 Z7
attribute [local go_sem] Go.Am.frozen Go.Am.freezeG Go.Am.freezeGs Go.Am.minmax
def gasL (g : Gs) : List Rg := g.free ++ g.bound ++ g.room
def belongsE (v : Vac) (g : Gs) : Int :=
 if checkE v = 0 then if g.free.length ≠ v.vessels.length \/ g.bound.length ≠ v.vessels.length \/ g.room.length ≠ v.getters.length then 3 else
  if firstE (fun r => spansE r 68719476736) (gasL g) = 0 then if fromB g.most 0 68719476736 = true then 0 else 2 else firstE (fun r => spansE r 68719476736) (gasL g)
 else checkE v
structure Gs.Lens (g : Gs) : Prop where
 f : g.free.length <= 9223372036854775807
 b : g.bound.length <= 9223372036854775807
 r : g.room.length <= 9223372036854775807
theorem Z35 {v : Vac} (h : checkE v = 0) : 1 <= v.vessels.length /\ v.vessels.length <= 8 /\ v.pipes.length <= 16 /\ v.pumps.length <= 8 /\ v.leaks.length <= 8 /\ v.getters.length <= 8 := by
 unfold checkE at h
 split at h
 ·exact absurd h (by decide)
 ·split at h
  ·exact absurd h (by decide)
  ·rename_i h0 h1
   unfold overB at h1
   simp only [Bool.or_eq_true, decide_eq_true_eq] at h1
   omega
theorem Z7z (v : Vac) (g : Gs) (K : Nat) (s : St) (hK : 100 < K) (hv : v.Lens K) (hg : g.Lens) : acall cfg (K + 11) 72 [vacV v, gsV g] s = .ret (.int .i64 (belongsE v g), s) := by
 refine Jt Zli Zlh (by first | rfl | simp -implicitDefEqProofs only [redoH, redo1, go_sem]) (by first | rfl | simp -implicitDefEqProofs only [go_sem]) (by first | rfl | simp -implicitDefEqProofs only [redoH, redo1, go_sem]) ?_
 refine Z9 rfl fun T hT' hA => ?_
 have a0 := hA 0 _ rfl
 have a1 := hA 1 _ rfl
 have hT : T.length = 62 := hT'
 clear hA hT'
 have hc := fun s => Z5j v (K + 1) s (by omega) (hv.more 1)
 simp only [vacV] at hc
 unfold belongsE
 by_cases c0 : checkE v = 0
 ·obtain ⟨n1, n2, _, _, _, n6⟩ := Z35 c0
  rw [if_pos c0]
  have hq1 : ((g.free.length : Int) = (v.vessels.length : Int)) ↔ g.free.length = v.vessels.length := by omega
  have hq2 : ((g.bound.length : Int) = (v.vessels.length : Int)) ↔ g.bound.length = v.vessels.length := by omega
  have hq3 : ((g.room.length : Int) = (v.getters.length : Int)) ↔ g.room.length = v.getters.length := by omega
  by_cases c1 : g.free.length = v.vessels.length
  ·by_cases c2 : g.bound.length = v.vessels.length
   ·by_cases c3 : g.room.length = v.getters.length
    ·rw [if_neg (fun h => h.elim (fun h => h c1) fun h => h.elim (fun h => h c2) fun h => h c3)]
     have hco := fun s => Z9i [g.free, g.bound, g.room] (K + 8) s (by show 3 < _; omega) (by show 3 <= _; omega) (by simp; omega)
     have hfl : [g.free, g.bound, g.room].flatten = gasL g := by simp [gasL]
     have hgl : (gasL g).length <= 24 := by unfold gasL; simp; omega
     rw [hfl] at hco
     simp only [List.map_cons, List.map_nil, rowV] at hco
     generalize gasL g = L at *
     have hbs : ∀ (x y z : List AV) s, buildSliceA (cfg.at 72) true 226 3 [(0, .lst x), (1, .lst y), (2, .lst z)] s = .ret (.lst [.lst x, .lst y, .lst z], s) := fun x y z s => by simp -implicitDefEqProofs only [go_sem, Go.Am.buildSliceA]
     simp -implicitDefEqProofs only [go_sem, a0, a1, hT, hc, c0, c1, c2, c3, hco, hbs]
     simp only [Z3]
     refine Zj (fun k T s' => T.length = 62 /\ nth T 3 = some (.ptr [1] 0) /\ nth T 46 = some (.lst (L.map rgV)) /\ nth T 47 = some (.int .i64 L.length) /\ ∃ (i n : Nat) (H : Heap), nth T 48 = some (.int .i64 i) /\ i <= L.length /\ k = L.length - i /\ s' = ⟨H, n + 2, [], false, []⟩ /\ hget H [1] = some (.cells [.lst (g.free.map rgV), .lst (g.bound.map rgV), .lst (g.room.map rgV), .int .i64 g.most, .bool g.flashed] true 0) /\ firstE (fun r => spansE r 68719476736) L = firstE (fun r => spansE r 68719476736) (L.drop i)) (k := L.length) (by omega) ?_ ?_
     ·exact ⟨by simp -implicitDefEqProofs only [go_sem, hT], by simp -implicitDefEqProofs only [go_sem, hT], by simp -implicitDefEqProofs only [go_sem, hT], by simp -implicitDefEqProofs only [go_sem, hT], 0, 0, _, by simp -implicitDefEqProofs only [go_sem, hT] <;> rfl, by omega, rfl, rfl, rfl, rfl⟩
     clear a0 a1 hT T hco hc
     rintro k T s' ⟨hT, a3, a46, a47, i, n, H, a48, hi, rfl, rfl, g1, he⟩
     simp -implicitDefEqProofs only [go_sem, a47, a48, hT]
     by_cases hil : (i : Int) < (L.length : Int)
     ·have hi' : i < L.length := by omega
      have e1 := Zh (f := rgV) (l := L) (i := i) (z := 2) hi' rfl
      have hkk : L.length - (i + 1) < L.length - i := by omega
      rw [List.drop_eq_getElem_cons hi'] at he
      generalize L[i] = x at *
      simp only [firstE] at he
      have hsp := fun s => Xq x 68719476736 (K + 9) s
      have k1 : ∀ X, hget (([n + 2], X) :: H) [1] = hget H [1] := fun X => hc11 (by omega)
      simp only [rgV] at e1 hsp
      by_cases cx : spansE x 68719476736 = 0
      ·rw [if_pos cx] at he
       have hw1 : wrapF .i64 ((i : Int) + 1) = ((i + 1 : Nat) : Int) := Z5 (by omega) (by omega)
       simp -implicitDefEqProofs only [go_sem, a3, a46, a47, a48, hT, hil, e1, hsp, cx, hw1]
       exact ⟨L.length - (i + 1), hkk, trivial, trivial, trivial, trivial, i + 1, n + 1, _, rfl, hi', rfl, rfl, by rw [k1]; exact g1, he⟩
      ·rw [if_neg cx] at he
       rw [he, if_neg cx]
       simp -implicitDefEqProofs only [go_sem, a46, a48, hT, hil, e1, hsp, cx, Try.results72]
     ·have hie : i = L.length := by omega
      subst hie
      rw [List.drop_length] at he
      simp only [firstE] at he
      rw [if_pos he]
      have hfr := fun s => X4 g.most 0 68719476736 (K + 9) s
      by_cases cf : fromB g.most 0 68719476736 = true
      ·rw [if_pos cf]
       simp -implicitDefEqProofs only [go_sem, a3, hT, hil, g1, hfr, cf, Try.results72]
      ·rw [if_neg cf]
       simp -implicitDefEqProofs only [go_sem, a3, hT, hil, g1, hfr, cf, Try.results72]
    ·rw [if_pos (.inr (.inr c3))]
     simp -implicitDefEqProofs only [go_sem, a0, a1, hT, hc, c0, hq3, c1, c2, c3, Try.results72]
   ·rw [if_pos (.inr (.inl c2))]
    simp -implicitDefEqProofs only [go_sem, a0, a1, hT, hc, c0, hq2, c1, c2, Try.results72]
  ·rw [if_pos (.inl c1)]
   simp -implicitDefEqProofs only [go_sem, a0, a1, hT, hc, c0, hq1, c1, Try.results72]
 ·rw [if_neg c0]
  simp -implicitDefEqProofs only [go_sem, a0, a1, hT, hc, c0, Try.results72]
end Go.Proofs.Ytgnpnfkncbnjnaa
namespace Go.Proofs.Ytgnpnfkncbnjnaa
attribute [local go_sem_proc] Int.reduceEq Int.reduceNeg Nat.reduceEqDiff Nat.reduceLT Nat.reduceAdd Nat.reduceSub Nat.reduceMul Int.reduceLE Int.reduceLT Int.reduceToNat Nat.reduceLeDiff
attribute [local go_sem] Int.toNat_natCast Bool.not_true Bool.not_false
open Go Go.Am
attribute [local congr] Za Z6 Z7
attribute [local go_sem] Go.Am.buildSliceA Go.Am.frozen Go.Am.freezeG Go.Am.freezeGs Go.Am.minmax
def pressR (f : Rg) (vol : Int) : Rg := ⟨wrapF .i64 ((wrapF .i64 (1000 * f.lo)).tdiv vol), wrapF .i64 ((wrapF .i64 (wrapF .i64 (wrapF .i64 (1000 * f.hi) + vol) - 1)).tdiv vol)⟩
theorem Z6n (v : Vac) (g : Gs) (x : Nat) (K : Nat) (H : Heap) (n : Nat) (h1 : x < v.vessels.length) (h2 : x < g.free.length) (hvol : 1 <= v.vessels[x].vol) (hvol2 : v.vessels[x].vol <= 1000000) :
  ∃ H' n', acall cfg (K + 1) 131 [vacV v, gsV g, .int .i64 x] ⟨H, n, [], false, []⟩ = .ret (rgV (pressR g.free[x] v.vessels[x].vol), ⟨H', n', [], false, []⟩) /\ n <= n' /\ ∀ k, k < n -> hget H' [k] = hget H [k] := by
 refine ⟨H, n, ?_, Nat.le_refl _, fun _ _ => rfl⟩
 have e1 := Zh (f := vesV) (l := v.vessels) (i := x) (z := 6) h1 rfl
 have e2 := Zh (f := rgV) (l := g.free) (i := x) (z := 2) h2 rfl
 generalize v.vessels[x] = y at *
 generalize g.free[x] = f at *
 have hn0 : ¬ y.vol = 0 := by omega
 simp only [vesV, rgV] at e1 e2
 refine Yo (bs := []) (xs := []) (xs' := []) (args' := [vacV v, gsV g, .int .i64 x]) Z95 Z94 rfl rfl rfl rfl (by simp only [vacV, gsV, zipN, renVs, renV, X5, X6, X7, X8, X9, Z96]) rfl rfl (fun _ => rfl) (fun b hb => by cases hb) (by decide) rfl rfl ?_
 refine Z9 rfl fun T hT' hA => ?_
 have a0 := hA 0 _ rfl
 have a1 := hA 1 _ rfl
 have a2 := hA 2 _ rfl
 have hT : T.length = 34 := hT'
 clear hA hT'
 have hz : ∀ z : Heap, zipB (namesFrom [] 0 ([] : List Nm).length) [] = [] := fun _ => rfl
 unfold vacV at a0
 unfold gsV at a1
 simp -implicitDefEqProofs only [go_sem, a0, a1, zipB, namesFrom]
 try simp only [Z3]
 refine Zc [[], [0], [], [1, 0, 2], [3, 1, 0, 2], [], [5], [], [6, 5, 7], [8, 6, 5, 7], [9, 8, 6, 5, 7], [], [4, 3, 1, 0, 2, 11], [10, 9, 8, 6, 5, 7, 12, 4, 3, 1, 0, 2, 11]] [[], [], [], [], [], [], [], [], [], [], [], [], [[3, 11, 0]], []] (by kernel_rfl) rfl rfl ?_
 simp -implicitDefEqProofs only [go_sem, Z0, Zd, Option.getD_some, a2, hT, e1, e2, Zb]
 try simp only [Z3]
 refine Zc [[], [0], [1, 0], [], [2, 1, 0, 3], [], [5], [6, 5], [], [7, 6, 5, 8], [9, 7, 6, 5, 8], [], [10, 9, 7, 6, 5, 8, 11], [4, 2, 1, 0, 3, 12, 10, 9, 7, 6, 5, 8, 11], [13, 4, 2, 1, 0, 3, 12, 10, 9, 7, 6, 5, 8, 11]] [[], [], [], [], [], [], [], [], [], [], [], [], [], [], [[2]]] (by kernel_rfl) rfl rfl ?_
 simp -implicitDefEqProofs only [go_sem, Z0, lkn, Zd, lk31, Option.getD_some, Option.getD_none, hT, hn0, Zb, Try.results131]
 exact ⟨rfl, rfl⟩
def pressE (v : Vac) (g : Gs) (x : Int) : Rg × Int :=
 if belongsE v g = 0 then if fromB x 0 ((v.vessels.length : Int) - 1) = true then (pressR (g.free[x.toNat]?.getD ⟨0, 0⟩) ((v.vessels[x.toNat]?.map Ves.vol).getD 0), 0) else (⟨0, 0⟩, 7) else (⟨0, 0⟩, belongsE v g)
def pressV (p : Rg × Int) : AV := .tuple [rgV p.1, .int .i64 p.2]
theorem Z2r {v : Vac} {g : Gs} (h : belongsE v g = 0) : checkE v = 0 /\ g.free.length = v.vessels.length /\ g.bound.length = v.vessels.length /\ g.room.length = v.getters.length /\ (∀ r ∈ gasL g, spansE r 68719476736 = 0) /\ fromB g.most 0 68719476736 = true := by
 unfold belongsE at h
 by_cases c0 : checkE v = 0
 ·rw [if_pos c0] at h
  split at h
  ·exact absurd h (by decide)
  ·rename_i h1
   split at h
   ·rename_i h2
    split at h
    ·rename_i h3
     exact ⟨c0, Decidable.byContradiction fun e => h1 (.inl e), Decidable.byContradiction fun e => h1 (.inr (.inl e)), Decidable.byContradiction fun e => h1 (.inr (.inr e)), fun r hr => Yj h2 r hr, h3⟩
    ·exact absurd h (by decide)
   ·rename_i h2
    exact absurd h h2
 ·rw [if_neg c0] at h
  exact absurd h c0
theorem Zmi {v : Vac} (h : checkE v = 0) (i : Nat) (hi : i < v.vessels.length) : 1 <= v.vessels[i].vol /\ v.vessels[i].vol <= 1000000 := by
 have h1 : firstE vesE v.vessels = 0 := by
  unfold checkE at h
  split at h
  ·exact absurd h (by decide)
  ·split at h
   ·exact absurd h (by decide)
   ·split at h
    ·rename_i h2; exact h2
    ·rename_i h2; exact absurd h h2
 have h2 := Yj h1 _ (List.getElem_mem hi)
 unfold vesE at h2
 split at h2
 ·rename_i h3
  unfold fromB at h3
  exact of_decide_eq_true h3
 ·exact absurd h2 (by decide)
theorem Jp (v : Vac) (g : Gs) (x : Int) (K : Nat) (s : St) (hK : 100 < K) (hv : v.Lens K) (hg : g.Lens) : acall cfg (K + 12) 73 [vacV v, gsV g, .int .i64 x] s = .ret (pressV (pressE v g x), s) := by
 refine Jt Zlk Zlj (by first | rfl | simp -implicitDefEqProofs only [redoH, redo1, go_sem]) (by first | rfl | simp -implicitDefEqProofs only [go_sem]) (by first | rfl | simp -implicitDefEqProofs only [redoH, redo1, go_sem]) ?_
 refine Z9 rfl fun T hT' hA => ?_
 have a0 := hA 0 _ rfl
 have a1 := hA 1 _ rfl
 have a2 := hA 2 _ rfl
 have hT : T.length = 28 := hT'
 clear hA hT'
 have hb := fun s => Z7z v g K s hK hv hg
 unfold pressE
 simp only [vacV, gsV] at hb
 by_cases c0 : belongsE v g = 0
 ·obtain ⟨z0, z1, z2, z3, z4, z5⟩ := Z2r c0
  obtain ⟨n1, n2, _⟩ := Z35 z0
  rw [if_pos c0]
  have hw : wrapF .i64 ((v.vessels.length : Int) - 1) = (v.vessels.length : Int) - 1 := Z5 (by omega) (by omega)
  have hfr := fun s => X4 x 0 ((v.vessels.length : Int) - 1) (K + 10) s
  by_cases c1 : fromB x 0 ((v.vessels.length : Int) - 1) = true
  ·rw [if_pos c1]
   have hx : 0 <= x /\ x <= (v.vessels.length : Int) - 1 := by unfold fromB at c1; exact of_decide_eq_true c1
   obtain ⟨i, rfl⟩ : ∃ i : Nat, x = i := ⟨x.toNat, by omega⟩
   have h1 : i < v.vessels.length := by omega
   have h2 : i < g.free.length := by omega
   have hvo := Zmi z0 i h1
   rw [Int.toNat_natCast, List.getElem?_eq_getElem h1, List.getElem?_eq_getElem h2]
   simp only [Option.map_some, Option.getD_some]
   obtain ⟨H', n', hp, _, hk⟩ := Z6n v g i (K + 10) [([2], .cells [.int .i64 0, .int .i64 0] true 0), ([1], .cells [.lst (g.free.map rgV), .lst (g.bound.map rgV), .lst (g.room.map rgV), .int .i64 g.most, .bool g.flashed] true 0), ([0], .cells [.lst (v.vessels.map vesV), .lst (v.pipes.map pipV), .lst (v.pumps.map pmpV), .lst (v.leaks.map inlV), .lst (v.getters.map gtrV)] true 0)] 3 h1 h2 hvo.1 hvo.2
   have g2 : hget H' [2] = some (.cells [.int .i64 0, .int .i64 0] true 0) := hk 2 (by decide)
   have g2' := fun X => hss (X := X) g2
   generalize pressR g.free[i] v.vessels[i].vol = P at *
   simp only [vacV, gsV, rgV] at hp
   simp -implicitDefEqProofs only [go_sem, a0, a1, a2, hT, hb, c0, hw, hfr, c1, hp, g2, g2', Try.results73]
   rfl
  ·rw [if_neg c1]
   simp -implicitDefEqProofs only [go_sem, a0, a1, a2, hT, hb, c0, hw, hfr, c1, Try.results73]
   rfl
 ·rw [if_neg c0]
  simp -implicitDefEqProofs only [go_sem, a0, a1, hT, hb, c0, Try.results73]
  rfl
end Go.Proofs.Ytgnpnfkncbnjnaa
namespace Go.Proofs.Ytgnpnfkncbnjnaa
attribute [local go_sem_proc] Int.reduceEq Int.reduceNeg Nat.reduceEqDiff Nat.reduceLT Nat.reduceAdd Nat.reduceSub Nat.reduceMul Int.reduceLE Int.reduceLT Int.reduceToNat Nat.reduceLeDiff
attribute [local go_sem] Int.toNat_natCast Bool.not_true Bool.not_false
open Go Go.Am
attribute [local congr] Za Z6 Z7
attribute [local go_sem] Go.Am.buildSliceA Go.Am.frozen Go.Am.freezeG Go.Am.freezeGs Go.Am.minmax
def sealE (p : Rg × Int) (limit : Int) : Int × Int :=
 if p.2 = 0 then if limit < 0 then (0, 2) else if p.1.hi <= limit then (1, 0) else if limit < p.1.lo then (2, 0) else (3, 0) else (0, p.2)
def sealV (p : Int × Int) : AV := .tuple [.int .i64 p.1, .int .i64 p.2]
theorem Z80 (v : Vac) (g : Gs) (x limit : Int) (K : Nat) (s : St) (hK : 100 < K) (hv : v.Lens K) (hg : g.Lens) : acall cfg (K + 13) 76 [vacV v, gsV g, .int .i64 x, .int .i64 limit] s = .ret (sealV (sealE (pressE v g x) limit), s) := by
 refine Jt Zlm Zll (by first | rfl | simp -implicitDefEqProofs only [redoH, redo1, go_sem]) (by first | rfl | simp -implicitDefEqProofs only [go_sem]) (by first | rfl | simp -implicitDefEqProofs only [redoH, redo1, go_sem]) ?_
 refine Z9 rfl fun T hT' hA => ?_
 have a0 := hA 0 _ rfl
 have a1 := hA 1 _ rfl
 have a2 := hA 2 _ rfl
 have a3 := hA 3 _ rfl
 have hT : T.length = 36 := hT'
 clear hA hT'
 have hp := fun s => Jp v g x K s hK hv hg
 generalize pressE v g x = p at *
 obtain ⟨⟨lo, hi⟩, e⟩ := p
 simp only [pressV, rgV, vacV, gsV] at hp
 unfold sealE
 simp only
 by_cases c0 : e = 0
 ·subst c0
  by_cases c1 : limit < 0
  ·simp -implicitDefEqProofs only [go_sem, a0, a1, a2, a3, hT, hp, c1, if_true, Try.results76]
   rfl
  ·by_cases c2 : hi <= limit
   ·simp -implicitDefEqProofs only [go_sem, a0, a1, a2, a3, hT, hp, c1, c2, if_true, if_false, Try.results76]
    rfl
   ·by_cases c3 : limit < lo
    ·simp -implicitDefEqProofs only [go_sem, a0, a1, a2, a3, hT, hp, c1, c2, c3, if_true, if_false, Try.results76]
     rfl
    ·simp -implicitDefEqProofs only [go_sem, a0, a1, a2, a3, hT, hp, c1, c2, c3, if_true, if_false, Try.results76]
     rfl
 ·simp -implicitDefEqProofs only [go_sem, a0, a1, a2, hT, hp, c0, if_false, Try.results76]
  rfl
end Go.Proofs.Ytgnpnfkncbnjnaa
namespace Go.Proofs.Ytgnpnfkncbnjnaa
open Go Go.Am
attribute [local congr] Za Z6 Z7
attribute [local go_sem] Go.Am.frozen Go.Am.freezeG Go.Am.freezeGs Go.Am.minmax
structure GasG (v : Vac) (g : Gs) : Prop where
 fl : g.free.length = v.vessels.length
 bl : g.bound.length = v.vessels.length
 rl : g.room.length = v.getters.length
 f : ∀ r ∈ g.free, RgG 30000 r
 b : ∀ r ∈ g.bound, RgG 60000 r
 r : ∀ r ∈ g.room, RgG 9000 r
 m : 0 <= g.most /\ g.most <= 1000000
def vacC (v : Vac) : Blk := .cells [.lst (v.vessels.map vesV), .lst (v.pipes.map pipV), .lst (v.pumps.map pmpV), .lst (v.leaks.map inlV), .lst (v.getters.map gtrV)] true 0
end Go.Proofs.Ytgnpnfkncbnjnaa
namespace Go.Am
open Go
noncomputable def putsH : List Nm -> List Blk -> Heap -> Heap
 | b :: r, x :: q, H => putsH r q (hset H b x)
 | _, _, H => H
theorem Zdz {H : Heap} {b c : Nm} {x : Blk} (h : ∃ y, hget H c = some y) (hb : ∃ y, hget H b = some y) : ∃ y, hget (hset H b x) c = some y := by
 by_cases e : b = c
 ·subst e; obtain ⟨y, h⟩ := h; exact ⟨_, Zi _ h⟩
 ·rw [Z1 _ _ e]; exact h
theorem Z49 : ∀ (bs : List Nm) (ys : List Blk) (H : Heap) (n : Nat) (p : Nm) (j : Delta), bs.length = ys.length -> (∀ b ∈ bs, ∃ x, hget H b = some x) -> putAll bs ys ⟨H, n, p, false, j⟩ = .ret ((), ⟨putsH bs ys H, n, p, false, j⟩)
 | [], [], H, n, p, j, _, _ => rfl
 | b :: r, x :: q, H, n, p, j, hl, h => by
  obtain ⟨y, hy⟩ := h b List.mem_cons_self
  unfold putAll
  rw [Z8, Y7]
  simp only [hy, Tr.bind_ret]
  show putAll r q ⟨hset H b x, n, p, false, j⟩ = _
  rw [Z49 r q (hset H b x) n p j (by simpa using hl) (fun c hc => Zdz (h c (List.mem_cons_of_mem _ hc)) ⟨y, hy⟩)]
  rfl
 | [], _ :: _, _, _, _, _, hl, _ => by simp at hl
 | _ :: _, [], _, _, _, _, hl, _ => by simp at hl
section
variable {C : Cfg} {K : Nat}
theorem Z5m {f : FuncId} {fn : Func} {args args' : List AV} {bs : List Nm} {xs xs0 ys ys' : List Blk} {v : AV} {H : Heap} {n : Nat} {p : Nm} {j : Delta}
  (hm : C.mode.get f = some 3) (hf : C.fn.get f = some fn)
  (hl : lendM 200 (namesVs false args []) [] [] ⟨H, n, p, false, j⟩ = .ret ((bs, xs), ⟨H, n, p, false, j⟩)) (hnd : nodupN bs = true) (hcalm : calm xs = true)
  (hra : renVs (zipN bs (namesFrom [] 0 bs.length)) args = some args') (hrx : renBs (zipN bs (namesFrom [] 0 bs.length)) xs = some xs0)
  (hvn : namesV true v (namesBs true ys []) = namesBs true ys []) (hvr : ∀ mp, renV mp v = some v)
  (hmem : ∀ b ∈ namesBs true ys [], memNm b (namesFrom [] 0 bs.length) = true) (hmk : (namesBs true ys []).length < 200) (hnd2 : nodupN (namesFrom [] 0 bs.length) = true)
  (hback : renBs (zipN (namesFrom [] 0 bs.length) bs) ys = some ys') (hlen : bs.length = ys'.length) (hex : ∀ b ∈ bs, ∃ x, hget H b = some x)
  (hd : (bodyA (C.at f) (acall C K) (around C K) (K + 1) fn args' ⟨zipB (namesFrom [] 0 bs.length) xs0, bs.length, [], false, []⟩).Does fun x => x.1 = v /\ getAll x.2.H (namesFrom [] 0 bs.length) = some ys) :
  acall C (K + 1) f args ⟨H, n, p, false, j⟩ = .ret (v, ⟨putsH bs ys' H, n, p, false, j⟩) := by
 refine Z07 (bs := bs) (xs := xs) (xs0 := xs0) (ys' := ys') (zs' := []) hm hf hl hnd hcalm hra hrx ?_ (Z49 bs ys' H n p j hlen hex) rfl
 refine hd.mono ?_
 rintro ⟨v1, s1⟩ ⟨rfl, e2⟩
 simp only at e2
 refine ⟨ys, namesFrom [] 0 bs.length, [], e2, ?_, hnd2, hvr _, ?_, rfl⟩
 ·rw [hvn]; exact Z18 s1.H _ _ 200 hmem hmk
 ·have hap : bs ++ namesFrom p n ([] : List Blk).length = bs := by show bs ++ [] = bs; rw [List.append_nil]
  rw [hap]; exact hback
end
end Go.Am
namespace Go.Proofs.Ytgnpnfkncbnjnaa
open Go Go.Am
attribute [local congr] Za Z6 Z7
attribute [local go_sem] Go.Am.frozen Go.Am.freezeG Go.Am.freezeGs Go.Am.minmax
class Emp (E : AV) : Prop where
 out : E = .nils \/ E = .lst []
instance : Emp .nils := ⟨.inl rfl⟩
instance : Emp (.lst []) := ⟨.inr rfl⟩
def rowX (E : AV) (b : Nm) : Nat -> AV
 | 0 => E
 | n + 1 => .slice b 0 (n + 1) (n + 1) false
def rgB (L : List Rg) : Blk := .cells (L.flatMap rgC) true 2
def sysB (E : AV) (v : Vac) (f b r : Nm) (g : Gs) : Blk := .cells [.lst (v.vessels.map vesV), .lst (v.pipes.map pipV), .lst (v.pumps.map pmpV), .lst (v.leaks.map inlV), .lst (v.getters.map gtrV), .slice f 0 g.free.length g.free.length false, .slice b 0 g.bound.length g.bound.length false, rowX E r g.room.length, .int .i64 g.most, .bool g.flashed] true 0
structure SysAt (E : AV) (H : Heap) (X f b r : Nm) (v : Vac) (g : Gs) : Prop where
 x : hget H X = some (sysB E v f b r g)
 f : hget H f = some (rgB g.free)
 b : hget H b = some (rgB g.bound)
 r : g.room ≠ [] -> hget H r = some (rgB g.room)
structure Apart (X f b r : Nm) : Prop where
 xf : X ≠ f
 xb : X ≠ b
 xr : X ≠ r
 fb : f ≠ b
 fr : f ≠ r
 br : b ≠ r
noncomputable def sysPut (E : AV) (X f b r : Nm) (v : Vac) (g : Gs) (H : Heap) : Heap := match g.room with
 | [] => putsH [X, f, b] [sysB E v f b r g, rgB g.free, rgB g.bound] H
 | _ :: _ => putsH [X, f, b, r] [sysB E v f b r g, rgB g.free, rgB g.bound, rgB g.room] H
variable {E : AV}
theorem Ja {H : Heap} {X f b r : Nm} {v : Vac} {g g' : Gs} (h : SysAt E H X f b r v g) (ha : Apart X f b r) (hr : g'.room.length = g.room.length) : SysAt E (sysPut E X f b r v g' H) X f b r v g' := by
 unfold sysPut
 cases hg : g'.room with
 | nil =>
  show SysAt E (hset (hset (hset H X _) f _) b _) X f b r v g'
  exact ⟨by rw [Z1 _ _ (Ne.symm ha.xb), Z1 _ _ (Ne.symm ha.xf)]; exact hss h.x, by rw [Z1 _ _ (Ne.symm ha.fb)]; exact hss ((Z1 _ _ ha.xf).trans h.f), hss ((Z1 _ _ ha.fb).trans ((Z1 _ _ ha.xb).trans h.b)), fun e => absurd hg e⟩
 | cons a l =>
  have hr2 := h.r (fun e => by rw [hg, e] at hr; simp at hr)
  show SysAt E (hset (hset (hset (hset H X _) f _) b _) r _) X f b r v g'
  exact ⟨by rw [Z1 _ _ (Ne.symm ha.xr), Z1 _ _ (Ne.symm ha.xb), Z1 _ _ (Ne.symm ha.xf)]; exact hss h.x, by rw [Z1 _ _ (Ne.symm ha.fr), Z1 _ _ (Ne.symm ha.fb)]; exact hss ((Z1 _ _ ha.xf).trans h.f), by rw [Z1 _ _ (Ne.symm ha.br)]; exact hss ((Z1 _ _ ha.fb).trans ((Z1 _ _ ha.xb).trans h.b)),
   fun _ => by rw [hg]; exact hss ((Z1 _ _ ha.br).trans ((Z1 _ _ ha.fr).trans ((Z1 _ _ ha.xr).trans hr2)))⟩
theorem Z2s (mp : List (Nm × Nm)) (L : List Rg) : renB mp (rgB L) = some (rgB L) := J9 (Xk L)
theorem Z0p [hE : Emp E] {F : FuncId} {fn : Func} {K : Nat} {X f b r : Nm} {v : Vac} {g g' : Gs} {s : Bk} {H : Heap} {n : Nat} {p : Nm} {j : Delta} (hm : cfg.mode.get F = some 3) (hf : cfg.fn.get F = some fn)
  (h : SysAt E H X f b r v g) (ha : Apart X f b r) (h1 : g.free ≠ []) (h2 : g.bound ≠ []) (hl1 : g'.free.length = g.free.length) (hl2 : g'.bound.length = g.bound.length) (hl3 : g'.room.length = g.room.length)
  (hd : ∀ H0 m, SysAt E H0 [0] [1] [2] [3] v g -> (g.room ≠ [] -> 1 <= m) -> (bodyA (cfg.at F) (acall cfg K) (around cfg K) (K + 1) fn [.ptr [0] 0, bkV s] ⟨H0, m + 3, [], false, []⟩).Does fun x => x.1 = .tuple [] /\ SysAt E x.2.H [0] [1] [2] [3] v g') :
  acall cfg (K + 1) F [.ptr X 0, bkV s] ⟨H, n, p, false, j⟩ = .ret (.tuple [], ⟨sysPut E X f b r v g' H, n, p, false, j⟩) := by
 have exf := Ze ha.xf
 have exb := Ze ha.xb
 have exr := Ze ha.xr
 have efb := Ze ha.fb
 have efr := Ze ha.fr
 have ebr := Ze ha.br
 have efx := Ze (Ne.symm ha.xf)
 have ebx := Ze (Ne.symm ha.xb)
 have erx := Ze (Ne.symm ha.xr)
 have ebf := Ze (Ne.symm ha.fb)
 have erf := Ze (Ne.symm ha.fr)
 have erb := Ze (Ne.symm ha.br)
 have nb : ∀ op L r, namesB op (rgB L) r = r := fun op L r => (Xk L).nm op r
 have hx := h.x
 unfold sysPut
 cases hg : g.room with
 | nil =>
  have hg' : g'.room = [] := List.length_eq_zero_iff.1 (by rw [hl3, hg]; rfl)
  rw [hg']
  simp only
  have hl0 : rowX E r g.room.length = E := by rw [hg]; rfl
  have hl0' : ∀ q, rowX E q g'.room.length = E := fun q => by rw [hg']; rfl
  have hn1 : namesB false (sysB E v f b r g) [] = [f, b] := by
   unfold sysB
   rw [hl0]; rcases hE.out with e | e <;> rw [e] <;> rfl
  have hn2 : namesBs true [sysB E v [1] [2] [3] g', rgB g'.free, rgB g'.bound] [] = [[1], [2]] := by
   show namesB true (sysB E v [1] [2] [3] g') (namesB true (rgB g'.free) (namesB true (rgB g'.bound) [])) = _
   rw [nb, nb]
   unfold sysB
   rw [hl0']; rcases hE.out with e | e <;> rw [e] <;> rfl
  have hx0 : ∀ mp l1 l2 : List (Nm × Nm), ∀ a c d : Nm, lookN f mp = some a -> lookN b mp = some c -> renB mp (sysB E v f b r g) = some (sysB E v a c d g) := fun mp _ _ a c d e1 e2 => by
   have hl0'' : rowX E d g.room.length = E := by rw [hg]; rfl
   unfold sysB
   rw [hl0, hl0'']
   rcases hE.out with e | e <;> rw [e] <;> simp only [renB, renVs, renV, e1, e2, X5, X6, X7, X8, X9, flats]
  have hx1 : ∀ mp : List (Nm × Nm), lookN [1] mp = some f -> lookN [2] mp = some b -> renB mp (sysB E v [1] [2] [3] g') = some (sysB E v f b r g') := fun mp e1 e2 => by
   unfold sysB
   rw [hl0', hl0']
   rcases hE.out with e | e <;> rw [e] <;> simp only [renB, renVs, renV, e1, e2, X5, X6, X7, X8, X9, flats]
  refine Z5m (bs := [X, f, b]) (xs := [sysB E v f b r g, rgB g.free, rgB g.bound]) (args' := [.ptr [0] 0, bkV s]) (xs0 := [sysB E v [1] [2] [3] g, rgB g.free, rgB g.bound]) (ys := [sysB E v [1] [2] [3] g', rgB g'.free, rgB g'.bound]) hm hf ?_ ?_ rfl ?_ ?_ rfl (fun _ => rfl) ?_ ?_ rfl ?_ rfl ?_ ?_
  ·show lendM (199 + 1) [X] [] [] _ = _
   rw [Ye 199 rfl hx, hn1]
   show lendM (198 + 1) [f, b] [X] [_] _ = _
   rw [Ye 198 (by simp only [memNm, efx]) h.f, nb]
   show lendM (197 + 1) [b] [X, f] [_, _] _ = _
   rw [Ye 197 (by simp only [memNm, ebx, ebf]) h.b, nb]
   exact Zs 196 _ _ _
  ·simp only [nodupN, memNm, exf, exb, efb]
  ·show renVs [(X, [0]), (f, [1]), (b, [2])] _ = _
   simp only [renVs, renV, bkV, lookN, Zf, fl_i]
  ·show renBs [(X, [0]), (f, [1]), (b, [2])] _ = _
   simp only [renBs, Z2s, hx0 [(X, [0]), (f, [1]), (b, [2])] [] [] [1] [2] [3] (by simp only [lookN, efx, Zf]) (by simp only [lookN, ebx, ebf, Zf])]
  ·rw [hn2]
   intro q hq
   simp only [List.mem_cons, List.not_mem_nil, or_false] at hq
   rcases hq with rfl | rfl <;> rfl
  ·rw [hn2]; decide
  ·show renBs [([0], X), ([1], f), ([2], b)] _ = _
   simp only [renBs, Z2s, hx1 [([0], X), ([1], f), ([2], b)] rfl rfl]
  ·intro q hq
   simp only [List.mem_cons, List.not_mem_nil, or_false] at hq
   rcases hq with rfl | rfl | rfl
   ·exact ⟨_, hx⟩
   ·exact ⟨_, h.f⟩
   ·exact ⟨_, h.b⟩
  ·refine (hd _ 0 ⟨rfl, rfl, rfl, fun e => absurd hg e⟩ fun e => absurd hg e).mono ?_
   rintro x ⟨h1, h2⟩
   refine ⟨h1, ?_⟩
   show getAll x.2.H [[0], [1], [2]] = _
   simp only [getAll, h2.x, h2.f, h2.b]
 | cons a l =>
  have hrn : g.room ≠ [] := by rw [hg]; simp
  obtain ⟨a', l', hg'⟩ : ∃ a' l', g'.room = a' :: l' := by
   cases hq : g'.room with
   | nil => rw [hq, hg] at hl3; simp at hl3
   | cons a' l' => exact ⟨a', l', rfl⟩
  have hlm : ∃ m, g.room.length = m + 1 := ⟨l.length, by rw [hg]; rfl⟩
  obtain ⟨m, hlm⟩ := hlm
  have hl0 : ∀ q, rowX E q g.room.length = .slice q 0 (m + 1) (m + 1) false := fun q => by rw [hlm]; rfl
  have hl0' : ∀ q, rowX E q g'.room.length = .slice q 0 (m + 1) (m + 1) false := fun q => by rw [hl3, hlm]; rfl
  have hr := h.r hrn
  have hn1 : namesB false (sysB E v f b r g) [] = [f, b, r] := by
   unfold sysB
   rw [hl0]; rfl
  have hn2 : namesBs true [sysB E v [1] [2] [3] g', rgB g'.free, rgB g'.bound, rgB g'.room] [] = [[1], [2], [3]] := by
   show namesB true (sysB E v [1] [2] [3] g') (namesB true (rgB g'.free) (namesB true (rgB g'.bound) (namesB true (rgB g'.room) []))) = _
   rw [nb, nb, nb]
   unfold sysB
   rw [hl0']; rfl
  have hx0 : ∀ mp : List (Nm × Nm), lookN f mp = some [1] -> lookN b mp = some [2] -> lookN r mp = some [3] -> renB mp (sysB E v f b r g) = some (sysB E v [1] [2] [3] g) := fun mp e1 e2 e3 => by
   unfold sysB
   rw [hl0, hl0]
   simp only [renB, renVs, renV, e1, e2, e3, X5, X6, X7, X8, X9]
  have hx1 : ∀ mp : List (Nm × Nm), lookN [1] mp = some f -> lookN [2] mp = some b -> lookN [3] mp = some r -> renB mp (sysB E v [1] [2] [3] g') = some (sysB E v f b r g') := fun mp e1 e2 e3 => by
   unfold sysB
   rw [hl0', hl0']
   simp only [renB, renVs, renV, e1, e2, e3, X5, X6, X7, X8, X9]
  rw [hg']
  simp only
  rw [<- hg']
  refine Z5m (bs := [X, f, b, r]) (xs := [sysB E v f b r g, rgB g.free, rgB g.bound, rgB g.room]) (args' := [.ptr [0] 0, bkV s]) (xs0 := [sysB E v [1] [2] [3] g, rgB g.free, rgB g.bound, rgB g.room]) (ys := [sysB E v [1] [2] [3] g', rgB g'.free, rgB g'.bound, rgB g'.room]) hm hf ?_ ?_ rfl ?_ ?_ rfl (fun _ => rfl) ?_ ?_ rfl ?_ rfl ?_ ?_
  ·show lendM (199 + 1) [X] [] [] _ = _
   rw [Ye 199 rfl hx, hn1]
   show lendM (198 + 1) [f, b, r] [X] [_] _ = _
   rw [Ye 198 (by simp only [memNm, efx]) h.f, nb]
   show lendM (197 + 1) [b, r] [X, f] [_, _] _ = _
   rw [Ye 197 (by simp only [memNm, ebx, ebf]) h.b, nb]
   show lendM (196 + 1) [r] [X, f, b] [_, _, _] _ = _
   rw [Ye 196 (by simp only [memNm, erx, erf, erb]) hr, nb]
   exact Zs 195 _ _ _
  ·simp only [nodupN, memNm, exf, exb, exr, efb, efr, ebr]
  ·show renVs [(X, [0]), (f, [1]), (b, [2]), (r, [3])] _ = _
   simp only [renVs, renV, bkV, lookN, Zf, fl_i]
  ·show renBs [(X, [0]), (f, [1]), (b, [2]), (r, [3])] _ = _
   simp only [renBs, Z2s, hx0 [(X, [0]), (f, [1]), (b, [2]), (r, [3])] (by simp only [lookN, efx, Zf]) (by simp only [lookN, ebx, ebf, Zf]) (by simp only [lookN, erx, erf, erb, Zf])]
  ·rw [hn2]
   intro q hq
   simp only [List.mem_cons, List.not_mem_nil, or_false] at hq
   rcases hq with rfl | rfl | rfl <;> rfl
  ·rw [hn2]; decide
  ·show renBs [([0], X), ([1], f), ([2], b), ([3], r)] _ = _
   simp only [renBs, Z2s, hx1 [([0], X), ([1], f), ([2], b), ([3], r)] rfl rfl rfl]
  ·intro q hq
   simp only [List.mem_cons, List.not_mem_nil, or_false] at hq
   rcases hq with rfl | rfl | rfl | rfl
   ·exact ⟨_, hx⟩
   ·exact ⟨_, h.f⟩
   ·exact ⟨_, h.b⟩
   ·exact ⟨_, hr⟩
  ·refine (hd _ 1 ⟨rfl, rfl, rfl, fun e => rfl⟩ fun e => Nat.le_refl 1).mono ?_
   rintro x ⟨h1, h2⟩
   refine ⟨h1, ?_⟩
   show getAll x.2.H [[0], [1], [2], [3]] = _
   simp only [getAll, h2.x, h2.f, h2.b, h2.r (by rw [hg']; simp)]
end Go.Proofs.Ytgnpnfkncbnjnaa
namespace Go.Proofs.Ytgnpnfkncbnjnaa
attribute [local go_sem_proc] Int.reduceEq Int.reduceNeg Nat.reduceEqDiff Nat.reduceLT Nat.reduceAdd Nat.reduceSub Nat.reduceMul Int.reduceLE Int.reduceLT Int.reduceToNat Nat.reduceLeDiff
attribute [local go_sem] Int.toNat_natCast Bool.not_true Bool.not_false
open Go Go.Am
attribute [local congr] Za Z6 Z7
attribute [local go_sem] Go.Am.frozen Go.Am.freezeG Go.Am.freezeGs
variable {E : AV}
def min2 (a b : Int) : Int := if b < a then b else a
def max2 (a b : Int) : Int := if a < b then b else a
theorem Z81 (a b : Int) : minmax false (.int .i64 a) [.int .i64 b] = some (.int .i64 (min2 a b)) := by
 unfold min2
 by_cases c : b < a
 ·simp -implicitDefEqProofs only [go_sem, Go.Am.minmax, c, if_true]
 ·simp -implicitDefEqProofs only [go_sem, Go.Am.minmax, c, if_false]
theorem Z1w (a b : Int) : minmax true (.int .i64 a) [.int .i64 b] = some (.int .i64 (max2 a b)) := by
 unfold max2
 by_cases c : a < b
 ·simp -implicitDefEqProofs only [go_sem, Go.Am.minmax, c, if_true]
 ·simp -implicitDefEqProofs only [go_sem, Go.Am.minmax, c, if_false]
def leakF : Int -> List Inl -> Int
 | m, [] => m
 | m, l :: r => leakF (min2 68719476736 (wrapF .i64 (m + l.gas.hi))) r
def beginT (v : Vac) (g : Gs) (s : Bk) : Gs := ⟨g.free, g.bound, g.room, leakF g.most v.leaks, g.flashed || s.flash⟩
theorem Z9j [hE : Emp E] {K : Nat} {X f b r : Nm} {v : Vac} {g : Gs} {s : Bk} {H : Heap} {n : Nat} {p : Nm} {j : Delta} (h : SysAt E H X f b r v g) (ha : Apart X f b r) (h1 : g.free ≠ []) (h2 : g.bound ≠ []) (hK : v.leaks.length < K) (hl : v.leaks.length <= 1000000) :
  acall cfg (K + 1) 147 [.ptr X 0, bkV s] ⟨H, n, p, false, j⟩ = .ret (.tuple [], ⟨sysPut E X f b r v (beginT v g s) H, n, p, false, j⟩) := by
 refine Z0p Zim Zil h ha h1 h2 rfl rfl rfl fun H0 m hs hm => ?_
 refine Z9 rfl fun T hT' hA => ?_
 have a0 := hA 0 _ rfl
 have a1 := hA 1 _ rfl
 have hT : T.length = 44 := hT'
 clear hA hT'
 have g0 := hs.x
 unfold sysB at g0
 have hb := hs.b
 have hf := hs.f
 have hr := hs.r
 simp -implicitDefEqProofs only [go_sem, a0, a1, hT, g0]
 have k0 : ∀ X, hget (([m + 3], X) :: H0) [0] = hget H0 [0] := fun X => hc11 (by omega)
 have k0' : ∀ Z, hget (hset H0 [0] Z) [0] = some Z := fun Z => hss g0
 unfold beginT
 cases hfl : g.flashed with
 | true =>
  simp -implicitDefEqProofs only [go_sem, a0, hT, g0, hfl, k0, k0', Bool.true_or]
  simp only [Z3]
  refine Zj (fun k T s' => T.length = 44 /\ nth T 0 = some (.ptr [0] 0) /\ nth T 23 = some (.lst (v.leaks.map inlV)) /\ nth T 24 = some (.int .i64 v.leaks.length) /\ ∃ (i m : Nat) (H : Heap) (q : Int), nth T 25 = some (.int .i64 i) /\ i <= v.leaks.length /\ k = v.leaks.length - i /\ s' = ⟨H, m + 3, [], false, []⟩ /\ hget H [0] = some (.cells [.lst (v.vessels.map vesV), .lst (v.pipes.map pipV), .lst (v.pumps.map pmpV), .lst (v.leaks.map inlV), .lst (v.getters.map gtrV), .slice [1] 0 g.free.length g.free.length false, .slice [2] 0 g.bound.length g.bound.length false, rowX E [3] g.room.length, .int .i64 q, .bool true] true 0) /\ hget H [1] = some (rgB g.free) /\ hget H [2] = some (rgB g.bound) /\ (g.room ≠ [] -> 1 <= m /\ hget H [3] = some (rgB g.room)) /\ leakF g.most v.leaks = leakF q (v.leaks.drop i)) (k := v.leaks.length) (by omega) ?_ ?_
  ·exact ⟨by simp -implicitDefEqProofs only [go_sem, hT], by simp -implicitDefEqProofs only [go_sem, a0], by simp -implicitDefEqProofs only [go_sem, hT], by simp -implicitDefEqProofs only [go_sem, hT], 0, m + 1, _, g.most, by simp -implicitDefEqProofs only [go_sem, hT] <;> rfl, by omega, rfl, rfl, (hc11 (by omega)).trans (k0' _), (hc11 (by omega)).trans ((hs11 (by decide)).trans hf), (hc11 (by omega)).trans ((hs11 (by decide)).trans hb), fun e => ⟨by omega, (hc11 (by have := hm e; omega)).trans ((hs11 (by decide)).trans (hr e))⟩, rfl⟩
  clear a0 a1 hT T g0 k0 k0' hb hf hr hs hm m H0
  rintro k T s' ⟨hT, a0, a23, a24, i, m, H0, q, a25, hi, rfl, rfl, g0, hf, hb, hr, he⟩
  simp -implicitDefEqProofs only [go_sem, a24, a25, hT]
  by_cases hil : (i : Int) < (v.leaks.length : Int)
  ·have hi' : i < v.leaks.length := by omega
   have e1 := Zh (f := inlV) (l := v.leaks) (i := i) (z := 3) hi' rfl
   have hkk : v.leaks.length - (i + 1) < v.leaks.length - i := by omega
   rw [List.drop_eq_getElem_cons hi'] at he
   generalize v.leaks[i] = x at *
   simp only [leakF] at he
   have hw1 : wrapF .i64 ((i : Int) + 1) = ((i + 1 : Nat) : Int) := Z5 (by omega) (by omega)
   have k0 : ∀ X, hget (([m + 3], X) :: H0) [0] = hget H0 [0] := fun X => hc11 (by omega)
   have k3 : ∀ X, hget (([m + 3], X) :: H0) [m + 3] = some X := fun X => Z2 ..
   simp only [inlV] at e1
   simp -implicitDefEqProofs only [go_sem, a23, a25, hT, hil, e1]
   try simp only [Z3]
   refine Zc [[], [], [1], [2, 1], [3, 2, 1], [4, 3, 2, 1], [], [6], [7, 6], [5, 4, 3, 2, 1, 8, 7, 6], [9, 5, 4, 3, 2, 1, 8, 7, 6], [0, 10, 9, 5, 4, 3, 2, 1, 8, 7, 6], [11, 0, 10, 9, 5, 4, 3, 2, 1, 8, 7, 6], [12, 11, 0, 10, 9, 5, 4, 3, 2, 1, 8, 7, 6], [13, 12, 11, 0, 10, 9, 5, 4, 3, 2, 1, 8, 7, 6]] [[], [], [], [], [], [], [], [], [], [], [], [], [], [], [[0]]] (by kernel_rfl) rfl rfl ?_
   simp -implicitDefEqProofs only [go_sem, Option.getD_some, a0, a23, a24, a25, hT, k0, k3, g0, Z81, hw1, Zb]
   refine ⟨v.leaks.length - (i + 1), hkk, trivial, trivial, trivial, trivial, i + 1, m + 2, _, min2 68719476736 (wrapF .i64 (q + x.gas.hi)), rfl, hi', rfl, rfl, ?_, ?_, ?_, fun e => ⟨by omega, ?_⟩, he⟩
   all_goals clear hw1
   ·simp (disch := omega) only [hc11, Z0, Zd, Option.getD_some]
   ·simp (disch := omega) only [hc11, Z0, lkn, lk11, Option.getD_none, hf]
   ·simp (disch := omega) only [hc11, Z0, lkn, lk11, Option.getD_none, hb]
   ·have := (hr e).1
    simp (disch := omega) only [hc11, Z0, lkn, lk11, Option.getD_none, (hr e).2]
  ·have hie : i = v.leaks.length := by omega
   subst hie
   rw [List.drop_length] at he
   simp only [leakF] at he
   simp -implicitDefEqProofs only [go_sem, hil, Try.results147]
   rw [he]
   exact ⟨trivial, ⟨g0, hf, hb, fun e => (hr e).2⟩⟩
 | false =>
  simp -implicitDefEqProofs only [go_sem, a0, hT, g0, hfl, k0, k0', Bool.false_or]
  simp only [Z3]
  refine Zj (fun k T s' => T.length = 44 /\ nth T 0 = some (.ptr [0] 0) /\ nth T 23 = some (.lst (v.leaks.map inlV)) /\ nth T 24 = some (.int .i64 v.leaks.length) /\ ∃ (i m : Nat) (H : Heap) (q : Int), nth T 25 = some (.int .i64 i) /\ i <= v.leaks.length /\ k = v.leaks.length - i /\ s' = ⟨H, m + 3, [], false, []⟩ /\ hget H [0] = some (.cells [.lst (v.vessels.map vesV), .lst (v.pipes.map pipV), .lst (v.pumps.map pmpV), .lst (v.leaks.map inlV), .lst (v.getters.map gtrV), .slice [1] 0 g.free.length g.free.length false, .slice [2] 0 g.bound.length g.bound.length false, rowX E [3] g.room.length, .int .i64 q, .bool s.flash] true 0) /\ hget H [1] = some (rgB g.free) /\ hget H [2] = some (rgB g.bound) /\ (g.room ≠ [] -> 1 <= m /\ hget H [3] = some (rgB g.room)) /\ leakF g.most v.leaks = leakF q (v.leaks.drop i)) (k := v.leaks.length) (by omega) ?_ ?_
  ·exact ⟨by simp -implicitDefEqProofs only [go_sem, hT], by simp -implicitDefEqProofs only [go_sem, a0], by simp -implicitDefEqProofs only [go_sem, hT], by simp -implicitDefEqProofs only [go_sem, hT], 0, m + 1, _, g.most, by simp -implicitDefEqProofs only [go_sem, hT] <;> rfl, by omega, rfl, rfl, (hc11 (by omega)).trans (k0' _), (hc11 (by omega)).trans ((hs11 (by decide)).trans hf), (hc11 (by omega)).trans ((hs11 (by decide)).trans hb), fun e => ⟨by omega, (hc11 (by have := hm e; omega)).trans ((hs11 (by decide)).trans (hr e))⟩, rfl⟩
  clear a0 a1 hT T g0 k0 k0' hb hf hr hs hm m H0
  rintro k T s' ⟨hT, a0, a23, a24, i, m, H0, q, a25, hi, rfl, rfl, g0, hf, hb, hr, he⟩
  simp -implicitDefEqProofs only [go_sem, a24, a25, hT]
  by_cases hil : (i : Int) < (v.leaks.length : Int)
  ·have hi' : i < v.leaks.length := by omega
   have e1 := Zh (f := inlV) (l := v.leaks) (i := i) (z := 3) hi' rfl
   have hkk : v.leaks.length - (i + 1) < v.leaks.length - i := by omega
   rw [List.drop_eq_getElem_cons hi'] at he
   generalize v.leaks[i] = x at *
   simp only [leakF] at he
   have hw1 : wrapF .i64 ((i : Int) + 1) = ((i + 1 : Nat) : Int) := Z5 (by omega) (by omega)
   have k0 : ∀ X, hget (([m + 3], X) :: H0) [0] = hget H0 [0] := fun X => hc11 (by omega)
   have k3 : ∀ X, hget (([m + 3], X) :: H0) [m + 3] = some X := fun X => Z2 ..
   simp only [inlV] at e1
   simp -implicitDefEqProofs only [go_sem, a23, a25, hT, hil, e1]
   try simp only [Z3]
   refine Zc [[], [], [1], [2, 1], [3, 2, 1], [4, 3, 2, 1], [], [6], [7, 6], [5, 4, 3, 2, 1, 8, 7, 6], [9, 5, 4, 3, 2, 1, 8, 7, 6], [0, 10, 9, 5, 4, 3, 2, 1, 8, 7, 6], [11, 0, 10, 9, 5, 4, 3, 2, 1, 8, 7, 6], [12, 11, 0, 10, 9, 5, 4, 3, 2, 1, 8, 7, 6], [13, 12, 11, 0, 10, 9, 5, 4, 3, 2, 1, 8, 7, 6]] [[], [], [], [], [], [], [], [], [], [], [], [], [], [], [[0]]] (by kernel_rfl) rfl rfl ?_
   simp -implicitDefEqProofs only [go_sem, Option.getD_some, a0, a23, a24, a25, hT, k0, k3, g0, Z81, hw1, Zb]
   refine ⟨v.leaks.length - (i + 1), hkk, trivial, trivial, trivial, trivial, i + 1, m + 2, _, min2 68719476736 (wrapF .i64 (q + x.gas.hi)), rfl, hi', rfl, rfl, ?_, ?_, ?_, fun e => ⟨by omega, ?_⟩, he⟩
   all_goals clear hw1
   ·simp (disch := omega) only [hc11, Z0, Zd, Option.getD_some]
   ·simp (disch := omega) only [hc11, Z0, lkn, lk11, Option.getD_none, hf]
   ·simp (disch := omega) only [hc11, Z0, lkn, lk11, Option.getD_none, hb]
   ·have := (hr e).1
    simp (disch := omega) only [hc11, Z0, lkn, lk11, Option.getD_none, (hr e).2]
  ·have hie : i = v.leaks.length := by omega
   subst hie
   rw [List.drop_length] at he
   simp only [leakF] at he
   simp -implicitDefEqProofs only [go_sem, hil, Try.results147]
   rw [he]
   exact ⟨trivial, ⟨g0, hf, hb, fun e => (hr e).2⟩⟩
end Go.Proofs.Ytgnpnfkncbnjnaa
