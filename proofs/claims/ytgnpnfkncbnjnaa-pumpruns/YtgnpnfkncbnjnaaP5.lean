/- The statement PumpRuns holds for every input, without further conditions: a part of its proof (an abstract machine for the loaded code, its soundness, and what the functions answer in it). -/
import Derived.Test.YtgnpnfkncbnjnaaP4
import Derived.Test.YtgnpnfkncbnjnaaChecked
set_option linter.unusedSimpArgs false
set_option linter.unusedVariables false
set_option maxHeartbeats 4000000
set_option maxRecDepth 100000
namespace Go.Proofs.Ytgnpnfkncbnjnaa
attribute [local go_sem_proc] Int.reduceEq Int.reduceNeg Nat.reduceEqDiff Nat.reduceLT Nat.reduceAdd Nat.reduceSub Nat.reduceMul Int.reduceLE Int.reduceLT Int.reduceToNat Nat.reduceLeDiff
attribute [local go_sem] Int.toNat_natCast Bool.not_true Bool.not_false
open Go Go.Am
attribute [local congr] Ze Zb Zc
def getG (v : Vac) (g : Gs) : Gs := ⟨(getF v.getters 0 g.free g.room).1, g.bound, (getF v.getters 0 g.free g.room).2, g.most, g.flashed⟩
theorem Zez {K : Nat} {f b r : Nm} {v : Vac} {g : Gs} {H : Heap} {n : Nat} {p : Nm} {j : Delta} (h : GasAt H f b r g) (ha : Apart3 f b r) (h1 : g.free ≠ []) (h2 : g.bound ≠ []) (hl1 : g.free.length = v.vessels.length) (hl3 : g.room.length = v.getters.length) (hK : v.getters.length + 20 < K) (hl : v.getters.length <= 1000000) (hat : ∀ t ∈ v.getters, 0 <= t.at' /\ t.at' < v.vessels.length) :
  acall cfg (K + 2) 169 [vacV v, gasX f b r g] ⟨H, n, p, false, j⟩ = .ret (.tuple [], ⟨gasPut f b r (getG v g) H, n, p, false, j⟩) := by
 have hgl := Z3q v.getters 0 g.free g.room
 have hpos : 0 < g.free.length := List.length_pos_iff.2 h1
 have hpb : 0 < g.bound.length := List.length_pos_iff.2 h2
 refine Zbd (rest := []) Zkp Zko h ha h1 h2 hgl.2 (fun e => by (have : (getF v.getters 0 g.free g.room).1.length = 0 := by rw [show (getF v.getters 0 g.free g.room).1 = [] from e]; rfl); omega) h2 rfl (fun _ => rfl) fun H0 m hs hm => ?_
 refine Z6 rfl fun T hT' hA => ?_
 have a0 := hA 0 _ rfl
 have a1 := hA 1 _ rfl
 have hT : T.length = 86 := hT'
 clear hA hT'
 unfold gasX at a1
 rw [Xl hpos, Xl hpb] at a1
 simp -implicitDefEqProofs only [go_sem, a0, a1]
 simp only [Z1]
 unfold getG
 refine Zf (fun k T s' => T.length = 86 /\ nth T 2 = some (.ptr [m + 2] 0) /\ nth T 3 = some (.ptr [m + 3] 0) /\ ∃ (i m' : Nat) (H' : Heap) (F R : List Rg), nth T 4 = some (.int .i64 i) /\ i <= v.getters.length /\ k = v.getters.length - i /\ s' = ⟨H', m' + 4, [], false, []⟩ /\ m <= m' /\ hget H' [m + 2] = some (vacC v) /\ hget H' [m + 3] = some (.cells [.slice [0] 0 g.free.length g.free.length false, .slice [1] 0 g.bound.length g.bound.length false, rowX (.lst []) [2] g.room.length, .int .i64 g.most, .bool g.flashed] true 0) /\ hget H' [0] = some (rgB F) /\ hget H' [1] = some (rgB g.bound) /\ (g.room ≠ [] -> hget H' [2] = some (rgB R)) /\ F.length = g.free.length /\ R.length = g.room.length /\ getF v.getters 0 g.free g.room = getF (v.getters.drop i) i F R) (k := v.getters.length) (by omega) ?_ ?_
 ·exact ⟨by simp -implicitDefEqProofs only [go_sem, hT], by simp -implicitDefEqProofs only [go_sem, hT], by simp -implicitDefEqProofs only [go_sem, hT], 0, m, _, g.free, g.room, by simp -implicitDefEqProofs only [go_sem, hT] <;> rfl, by omega, rfl, rfl, Nat.le_refl _, (hc11 (by omega)).trans (Z3 ..), Z3 .., (hc11 (by omega)).trans ((hc11 (by omega)).trans (hs.f h1)), (hc11 (by omega)).trans ((hc11 (by omega)).trans (hs.b h2)), fun e => (hc11 (by have := hm e; omega)).trans ((hc11 (by have := hm e; omega)).trans (hs.r e)), rfl, rfl, rfl⟩
 clear a0 a1 hT T hs H0
 rintro k T s' ⟨hT, a2, a3, i, m', H0, F, R, a4, hi, rfl, rfl, hmm, hvc, hgc, hx0, hx1, hx2, lF, lR, he⟩
 unfold vacC at hvc
 simp -implicitDefEqProofs only [go_sem, a2, a4, hT, hvc]
 by_cases hil : (i : Int) < (v.getters.length : Int)
 ·have hi' : i < v.getters.length := by omega
  have e1 := Z9 (f := gtrV) (l := v.getters) (i := i) (z := 5) hi' rfl
  have hkk : v.getters.length - (i + 1) < v.getters.length - i := by omega
  have hax := hat _ (List.getElem_mem hi')
  rw [List.drop_eq_getElem_cons hi'] at he
  generalize v.getters[i] = x at *
  obtain ⟨a, hxa⟩ : ∃ a : Nat, x.at' = a := ⟨x.at'.toNat, by omega⟩
  have haF : a < F.length := by omega
  have hiR : i < R.length := by omega
  have hrne : g.room ≠ [] := fun e => by rw [e] at lR; simp at lR; rw [lR] at hiR; simp at hiR
  have hm1 := hm hrne
  simp only [getF] at he
  rw [hxa, Int.toNat_natCast, List.getElem?_eq_getElem haF, List.getElem?_eq_getElem hiR, Option.getD_some, Option.getD_some] at he
  have f0 := Ye F haF
  have f1 := Yf F haF
  have fw := Z0q F haF (getFr x F[a] R[i])
  have r0 := Ye R hiR
  have r1 := Yf R hiR
  have rw' := Z0q R hiR (getRo x F[a] R[i])
  generalize F[a] = fi at *
  generalize R[i] = ri at *
  generalize hF' : F.set a (getFr x fi ri) = F' at *
  generalize hR' : R.set i (getRo x fi ri) = R' at *
  have lF' : F'.length = F.length := by rw [<- hF']; simp
  have lR' : R'.length = R.length := by rw [<- hR']; simp
  simp only [getFr, getRo] at fw rw'
  have hinF : inR (a : Int) g.free.length = some a := X6 (by omega)
  have hinR : inR (i : Int) g.room.length = some i := X6 (by omega)
  rw [Xl (show 0 < g.room.length by omega)] at hgc
  have hx2' := hx2 hrne
  unfold rgB at hx0 hx2'
  simp only [gtrV] at e1
  rw [hxa] at e1
  have c1 := fun a b s => Z61 a b K s
  have c2 := fun a b s => Zav a b K s
  have hw1 : wrapF .i64 ((i : Int) + 1) = ((i + 1 : Nat) : Int) := Z5 (by omega) (by omega)
  have k0 : ∀ X, hget (([m' + 4], X) :: H0) [m' + 4] = some X := fun X => Z3 ..
  have k2 : ∀ X, hget (([m' + 4], X) :: H0) [m + 2] = hget H0 [m + 2] := fun X => hc11 (by omega)
  have k3 : ∀ X, hget (([m' + 4], X) :: H0) [m + 3] = hget H0 [m + 3] := fun X => hc11 (by omega)
  have z1 : (m' + 1 = m) = False := eq_false (by omega)
  have z2 : (m' + 2 = m) = False := eq_false (by omega)
  have nm4 : ∀ x r, lkD (([0], x) :: r) [m' + 4] = lkD r [m' + 4] := fun x r => lk11 (by omega)
  have nm3 : ∀ x r, lkD (([0], x) :: r) [m + 3] = lkD r [m + 3] := fun x r => lk11 (by omega)
  simp -implicitDefEqProofs only [go_sem, a2, a4, hT, hvc, hil, e1]
  try simp only [Z1]
  refine Z7 [[], [0], [], [2], [1, 0, 3, 2], [4, 1, 0, 3, 2], [], [6], [], [7, 6, 8], [9, 7, 6, 8], [], [], [5, 4, 1, 0, 3, 2, 11, 12], [10, 9, 7, 6, 8, 13, 5, 4, 1, 0, 3, 2, 11, 12]] [[], [], [], [], [], [], [], [], [], [], [], [], [], [[m' + 5, 11, 0]], [[m' + 5, 12, 0]]] (by kernel_rfl) rfl rfl ?_
  simp -implicitDefEqProofs only [go_sem, Z0, lkn, Za, Jm, Option.getD_some, Option.getD_none, a3, a4, hT, hgc, hx0, hx2', k0, k3, z1, hd31, hinF, hinR, f0, f1, r0, r1, Z8]
  try simp only [Z1]
  refine Z7 [[], [0], [], [2], [], [4], [], [6], [], [8], [9, 8], [7, 6, 10, 9, 8], [], [12], [11, 7, 6, 10, 9, 8, 13, 12], [5, 4, 14, 11, 7, 6, 10, 9, 8, 13, 12], [], [16], [], [18], [], [20], [21, 20], [19, 18, 22, 21, 20, 11, 7, 6, 10, 9, 8], [], [24], [23, 19, 18, 22, 21, 20, 11, 7, 6, 10, 9, 8, 25, 24], [17, 16, 26, 23, 19, 18, 22, 21, 20, 11, 7, 6, 10, 9, 8, 25, 24], [15, 5, 4, 14, 13, 12, 27, 17, 16, 26, 23, 19, 18, 22, 21, 20, 11, 7, 6, 10, 9, 8, 25, 24], [1, 0, 3, 2, 28, 15, 5, 4, 14, 13, 12, 27, 17, 16, 26, 23, 19, 18, 22, 21, 20, 11, 7, 6, 10, 9, 8, 25, 24], [29, 1, 0, 3, 2, 28, 15, 5, 4, 14, 13, 12, 27, 17, 16, 26, 23, 19, 18, 22, 21, 20, 11, 7, 6, 10, 9, 8, 25, 24]] [[], [], [], [], [], [], [], [], [], [], [], [], [], [], [], [], [], [], [], [], [], [], [], [], [], [], [], [], [], [], [[0]]] (by kernel_rfl) rfl rfl ?_
  simp -implicitDefEqProofs only [go_sem, Z0, lkn, Za, lk31, Jm, Option.getD_some, Option.getD_none, a3, hT, hgc, hx0, k0, k3, hinF, f0, f1, c1, c2, Z3d, Xb, fw, Z8]
  try simp only [Z1]
  refine Z7 [[], [0], [], [], [3], [], [5], [], [7], [8, 7], [6, 5, 9, 8, 7], [4, 3, 10, 6, 5, 9, 8, 7], [11, 4, 3, 10, 6, 5, 9, 8, 7], [], [13], [], [15], [], [17], [18, 17], [16, 15, 19, 18, 17, 10, 6, 5, 9, 8, 7], [14, 13, 20, 16, 15, 19, 18, 17, 10, 6, 5, 9, 8, 7], [21, 14, 13, 20, 16, 15, 19, 18, 17, 10, 6, 5, 9, 8, 7], [12, 11, 4, 3, 22, 21, 14, 13, 20, 16, 15, 19, 18, 17, 10, 6, 5, 9, 8, 7], [1, 0, 2, 23, 12, 11, 4, 3, 22, 21, 14, 13, 20, 16, 15, 19, 18, 17, 10, 6, 5, 9, 8, 7], [24, 1, 0, 2, 23, 12, 11, 4, 3, 22, 21, 14, 13, 20, 16, 15, 19, 18, 17, 10, 6, 5, 9, 8, 7]] [[], [], [], [], [], [], [], [], [], [], [], [], [], [], [], [], [], [], [], [], [], [], [], [], [], [[2]]] (by kernel_rfl) rfl rfl ?_
  simp -implicitDefEqProofs only [go_sem, Z0, lkn, Za, lk11, lk13, lk31, Jm, Option.getD_some, Option.getD_none, a2, a3, a4, hT, hgc, hx2', k0, k3, nm4, nm3, hinR, r0, r1, c1, c2, Z8n, Xb, rw', hw1, Z8]
  refine ⟨v.getters.length - (i + 1), hkk, trivial, trivial, trivial, i + 1, m' + 4, _, F', R', rfl, hi', rfl, rfl, by omega, ?_, ?_, ?_, ?_, fun _ => ?_, by omega, by omega, he⟩
  all_goals clear hw1
  ·simp (disch := omega) only [hc11, Z0, lkn, lk11, lk31, Option.getD_none]; exact hvc
  ·rw [Xl (show 0 < g.room.length by omega)]; simp (disch := omega) only [hc11, Z0, lkn, lk11, lk31, Option.getD_none]; exact hgc
  ·simp (disch := omega) only [hc11, Z0, lkn, Za, lk11, lk31, Option.getD_some, Option.getD_none]; rfl
  ·simp (disch := omega) only [hc11, Z0, lkn, lk11, lk31, Option.getD_none]; exact hx1
  ·simp (disch := omega) only [hc11, Z0, lkn, Za, lk11, lk31, Option.getD_some, Option.getD_none]; rfl
 ·have hie : i = v.getters.length := by omega
  subst hie
  rw [List.drop_length] at he
  simp only [getF] at he
  rw [he]
  simp -implicitDefEqProofs only [go_sem, hil, Try.results169]
  exact ⟨trivial, ⟨fun _ => hx0, fun _ => hx1, fun e => hx2 (fun e2 => e (List.length_eq_zero_iff.1 (by rw [lR, e2]; rfl)))⟩⟩
end Go.Proofs.Ytgnpnfkncbnjnaa
namespace Go.Proofs.Ytgnpnfkncbnjnaa
attribute [local go_sem_proc] Int.reduceEq Int.reduceNeg Nat.reduceEqDiff Nat.reduceLT Nat.reduceAdd Nat.reduceSub Nat.reduceMul Int.reduceLE Int.reduceLT Int.reduceToNat Nat.reduceLeDiff
attribute [local go_sem] Int.toNat_natCast Bool.not_true Bool.not_false
open Go Go.Am
attribute [local congr] Ze Zb Zc
def lkS (x : Int) : Rg -> List Inl -> Rg
 | acc, [] => acc
 | acc, l :: r => lkS x (if l.at' = x then plusR acc l.gas else acc) r
theorem Z8t (i : Nat) : ∀ (l : List Inl) (R : List Rg), (∀ q ∈ l, 0 <= q.at' /\ q.at' < R.length) -> (leakR R l)[i]? = (R[i]?).map fun acc => lkS i acc l
 | [], R, _ => by simp [leakR, lkS]
 | x :: l, R, h => by
  have hx := h x List.mem_cons_self
  obtain ⟨a, hxa⟩ : ∃ a : Nat, x.at' = a := ⟨x.at'.toNat, by omega⟩
  have ha : a < R.length := by omega
  unfold leakR
  rw [Z8t i l _ (fun q hq => by rw [List.length_set]; exact h q (List.mem_cons_of_mem _ hq)), hxa, Int.toNat_natCast, Z08 _ ha, List.getElem?_set]
  simp only [lkS, hxa]
  by_cases e : a = i
  ·subst e
   rw [if_pos rfl, if_pos ha, List.getElem?_eq_getElem ha]
   simp
  ·rw [if_neg e]
   have e2 : ¬ (a : Int) = (i : Int) := by omega
   simp only [e2, if_false]
theorem Zch {K : Nat} {f : Nm} {v : Vac} {F : List Rg} {shut : List Int} {H : Heap} {n : Nat} {p : Nm} {j : Delta} (hf : hget H f = some (rgB F)) (h1 : F ≠ []) (hl1 : F.length = v.vessels.length) (hK : v.vessels.length + 100 < K) (hl : v.vessels.length <= 1000000) (hv : v.Lens K) (hsh : shut.length < K) (hsh2 : shut.length <= 9223372036854775807)
  (hpp : ∀ q ∈ v.pipes, (0 <= q.a /\ q.a < v.vessels.length) /\ 0 <= q.b /\ q.b < v.vessels.length) (hll : ∀ q ∈ v.leaks, 0 <= q.at' /\ q.at' < v.vessels.length) :
  acall cfg (K + 3) 168 [vacV v, .slice f 0 F.length F.length false, .lst (shut.map iV)] ⟨H, n, p, false, j⟩ = .ret (.slice (p ++ [n]) 0 F.length F.length false, St.new ⟨H, n, p, false, j⟩ (rgB (leakR (flowG v shut F) v.leaks))) := by
 have hroom : ∀ i, i < F.length -> (i + 1) * 16 <= 140737488355328 := fun i hi => by clear hpp hll; omega
 have nb : ∀ op L r, namesB op (rgB L) r = r := fun op L r => (Yi L).nm op r
 have hGl : (leakR (flowG v shut F) v.leaks).length = F.length := by rw [Z2e, Xc]
 have hGx : ∀ i (h : i < F.length) (h2 : i < (leakR (flowG v shut F) v.leaks).length), (leakR (flowG v shut F) v.leaks)[i] = lkS i (quoR (flowS F shut i 0 (begR v shut F i) v.pipes)) v.leaks := fun i h h2 => by
  have e := Z8t i v.leaks (flowG v shut F) (fun q hq => by rw [Xc, hl1]; exact hll q hq)
  rw [List.getElem?_eq_getElem h2, List.getElem?_eq_getElem (by rw [Xc]; exact h)] at e
  simp only [Option.map_some, Option.some.injEq] at e
  rw [e]
  congr 1
  simp [flowG]
 have hpos : 0 < F.length := List.length_pos_iff.2 h1
 generalize hGG : leakR (flowG v shut F) v.leaks = G at *
 have hrv : ∀ mp, renV mp (vacV v) = some (vacV v) := fun mp => by simp only [vacV, renV, renVs, Xs, Xt, Xu, Xv, Xw]
 refine Ja (bs := [f]) (args' := [vacV v, .slice [0] 0 F.length F.length false, .lst (shut.map iV)]) (xs := [rgB F]) (xs0 := [rgB F]) (ys' := [rgB F]) (zs' := [rgB G]) (s2 := ⟨H, n, p, false, j⟩) Zkn Zkm ?_ rfl rfl ?_ ?_ ?_ ?_ rfl
 ·show lendM (199 + 1) [f] [] [] _ = _
  rw [Y6 199 rfl hf, nb]
  exact Zn 198 _ _ _
 ·show renVs [(f, [0])] _ = _
  simp only [renVs, hrv, renV, lookN, Zi, fl_i]
 ·simp only [renBs, Xe]
 ·refine Tr.Does.mono (Q := fun x => ∃ c, x.1 = .slice [c + 2] 0 F.length F.length false /\ hget x.2.H [0] = some (rgB F) /\ hget x.2.H [c + 2] = some (rgB G)) ?_ ?_
  ·refine Z6 rfl fun T hT' hA => ?_
   have a0 := hA 0 _ rfl
   have a1 := hA 1 _ rfl
   have a2 := hA 2 _ rfl
   have hT : T.length = 150 := hT'
   clear hA hT'
   have hz : zipB (namesFrom [] 0 [f].length) [rgB F] = [([0], rgB F)] := rfl
   have hl3 : [f].length = 1 := rfl
   rw [hz, hl3]
   simp -implicitDefEqProofs only [go_sem, a0]
   simp only [Z1]
   refine Zf (fun k T s' => T.length = 150 /\ nth T 1 = some (.slice [0] 0 F.length F.length false) /\ nth T 2 = some (.lst (shut.map iV)) /\ nth T 3 = some (.ptr [1] 0) /\ ∃ (i m c : Nat) (H : Heap), nth T 8 = some (.int .i64 i) /\ nth T 7 = some (mutV [c + 2] i) /\ i <= F.length /\ k = F.length - i /\ s' = ⟨H, m + 2, [], false, []⟩ /\ hget H [0] = some (rgB F) /\ hget H [1] = some (vacC v) /\ (i ≠ 0 -> c < m /\ hget H [c + 2] = some (rgB (G.take i)))) (k := F.length) (by omega) ?_ ?_
   ·exact ⟨by simp -implicitDefEqProofs only [go_sem, hT], by simp -implicitDefEqProofs only [go_sem, a1], by simp -implicitDefEqProofs only [go_sem, a2], by simp -implicitDefEqProofs only [go_sem, hT], 0, 0, 0, _, by simp -implicitDefEqProofs only [go_sem, hT] <;> rfl, by simp -implicitDefEqProofs only [go_sem, hT, mutV], by omega, rfl, rfl, rfl, rfl, fun e => absurd rfl e⟩
   clear a0 a1 a2 hT T
   rintro k T s' ⟨hT, a1, a2, a3, i, m, c, H0, a8, a7, hi, rfl, rfl, hx0, hvc, hrow⟩
   simp -implicitDefEqProofs only [go_sem, a1, a8, hT]
   by_cases hil : (i : Int) < (F.length : Int)
   ·have hi' : i < F.length := by omega
    have hkk : F.length - (i + 1) < F.length - i := by omega
    have hou := fun st => Zaz v i shut K st hv hsh hsh2
    have f0 := Ye F hi'
    have f1 := Yf F hi'
    have hin : inR (i : Int) F.length = some i := X6 hi'
    have hbg : begR v shut F i = mulR F[i] ⟨wrapF .i64 (1000000 - (outR v i shut).hi), wrapF .i64 (1000000 - (outR v i shut).lo)⟩ := by unfold begR; rw [Z08 _ hi']
    have hgx := hGx i hi'
    have x0 := hx0
    have vc := hvc
    unfold rgB at x0
    unfold vacC at vc
    have k0 : ∀ X, hget (([m + 2], X) :: H0) [0] = hget H0 [0] := fun X => hc11 (by omega)
    have k2 : ∀ X, hget (([m + 2], X) :: H0) [m + 2] = some X := fun X => Z3 ..
    have hcm : i ≠ 0 -> c < m := fun e => (hrow e).1
    simp only [vacV, rgV] at hou
    simp -implicitDefEqProofs only [go_sem, a2, a3, a8, hT, hil, vc, hou]
    try simp only [Z1]
    refine Z7 [[], [], [0, 1], [2, 0, 1], [3, 2, 0, 1], [], [5], [6, 5], [4, 3, 2, 0, 1, 7, 6, 5], [], [], [9, 10], [11, 9, 10], [12, 11, 9, 10], [], [14], [15, 14], [13, 12, 11, 9, 10, 16, 15, 14], [8, 4, 3, 2, 0, 1, 7, 6, 5], [17, 13, 12, 11, 9, 10, 16, 15, 14, 18, 8, 4, 3, 2, 0, 1, 7, 6, 5]] [[], [], [], [], [], [], [], [], [], [], [], [], [], [], [], [], [], [], [], []] (by kernel_rfl) rfl rfl ?_
    simp -implicitDefEqProofs only [go_sem, Option.getD_some, a1, a8, hT, k0, k2, x0, hin, f0, f1, Z8]
    simp only [Z1]
    refine Tr.Does.mono (Q := fun x => ∃ (T' : List AV) (m' : Nat) (H' : Heap), x = ((AExit.exit 2, T'), (⟨H', m' + 2, [], false, []⟩ : St)) /\ m < m' /\ T'.length = 150 /\ nth T' 1 = some (.slice [0] 0 F.length F.length false) /\ nth T' 2 = some (.lst (shut.map iV)) /\ nth T' 3 = some (.ptr [1] 0) /\ nth T' 8 = some (.int .i64 i) /\ nth T' 7 = some (mutV [c + 2] i) /\ nth T' 10 = some (.int .i64 (flowS F shut i 0 (begR v shut F i) v.pipes).lo) /\ nth T' 11 = some (.int .i64 (flowS F shut i 0 (begR v shut F i) v.pipes).hi) /\ hget H' [0] = some (rgB F) /\ hget H' [1] = some (vacC v) /\ (i ≠ 0 -> hget H' [c + 2] = some (rgB (G.take i)))) ?_ ?_
    ·refine Zf (fun k T s' => T.length = 150 /\ nth T 1 = some (.slice [0] 0 F.length F.length false) /\ nth T 2 = some (.lst (shut.map iV)) /\ nth T 3 = some (.ptr [1] 0) /\ nth T 8 = some (.int .i64 i) /\ nth T 7 = some (mutV [c + 2] i) /\ ∃ (q m' : Nat) (H' : Heap) (acc : Rg), nth T 12 = some (.int .i64 q) /\ nth T 10 = some (.int .i64 acc.lo) /\ nth T 11 = some (.int .i64 acc.hi) /\ q <= v.pipes.length /\ k = v.pipes.length - q /\ s' = ⟨H', m' + 2, [], false, []⟩ /\ m < m' /\ hget H' [0] = some (rgB F) /\ hget H' [1] = some (vacC v) /\ (i ≠ 0 -> hget H' [c + 2] = some (rgB (G.take i))) /\ flowS F shut i 0 (begR v shut F i) v.pipes = flowS F shut i q acc (v.pipes.drop q)) (k := v.pipes.length) (by have := hv.pip.1; omega) ?_ ?_
     ·exact ⟨by simp -implicitDefEqProofs only [go_sem, hT], by simp -implicitDefEqProofs only [go_sem, a1], by simp -implicitDefEqProofs only [go_sem, a2], by simp -implicitDefEqProofs only [go_sem, a3], by simp -implicitDefEqProofs only [go_sem, a8], by simp -implicitDefEqProofs only [go_sem, a7], 0, m + 2, _, begR v shut F i, by simp -implicitDefEqProofs only [go_sem, hT] <;> rfl, by rw [hbg]; simp -implicitDefEqProofs only [go_sem, hT, mulR], by rw [hbg]; simp -implicitDefEqProofs only [go_sem, hT, mulR], by omega, rfl, rfl, by omega, by simp (disch := omega) only [hc11, Z0, lkn, Option.getD_none]; exact hx0, by simp (disch := omega) only [hc11, Z0, lkn, Option.getD_none]; exact hvc, fun e => by have := (hrow e).1; simp (disch := omega) only [hc11, Z0, lkn, Option.getD_none]; exact (hrow e).2, rfl⟩
     clear a1 a2 a3 a7 a8 hT T hx0 hvc hrow x0 vc k0 k2 hbg H0
     rintro k T s' ⟨hT, a1, a2, a3, a8, a7, q, m', H0, acc, a12, a10, a11, hq, rfl, rfl, hmm, hx0, hvc, hrow, he⟩
     have vc := hvc
     unfold vacC at vc
     simp -implicitDefEqProofs only [go_sem, a3, a12, hT, vc]
     by_cases hql : (q : Int) < (v.pipes.length : Int)
     ·have hq' : q < v.pipes.length := by omega
      have e1 := Z9 (f := pipV) (l := v.pipes) (i := q) (z := 6) hq' rfl
      have hkk2 : v.pipes.length - (q + 1) < v.pipes.length - q := by omega
      have hpx := hpp _ (List.getElem_mem hq')
      rw [List.drop_eq_getElem_cons hq'] at he
      generalize v.pipes[q] = x at *
      simp only [flowS] at he
      have hco := fun st => Z8e shut q (K + 1) st (by omega) hsh2
      simp only [pipV] at e1
      have hw1 : wrapF .i64 ((q : Int) + 1) = ((q + 1 : Nat) : Int) := Z5 (by have := hv.pip.2; omega) (by have := hv.pip.2; omega)
      simp -implicitDefEqProofs only [go_sem, a2, a3, a12, hT, hql, vc, e1, hco]
      by_cases hin : (q : Int) ∈ shut
      ·simp only [if_pos hin] at he
       simp -implicitDefEqProofs only [go_sem, a1, a2, a3, a7, a8, a10, a11, a12, hT, hin, hw1]
       exact ⟨v.pipes.length - (q + 1), hkk2, trivial, trivial, trivial, trivial, trivial, trivial, q + 1, m' + 1, _, acc, rfl, rfl, rfl, hq', rfl, rfl, by omega, (hc11 (by omega)).trans hx0, (hc11 (by omega)).trans hvc, fun e => (hc11 (by have := hcm e; omega)).trans (hrow e), he⟩
      ·simp only [if_neg hin] at he
       obtain ⟨pa, hpa⟩ : ∃ q : Nat, x.a = q := ⟨x.a.toNat, by omega⟩
       obtain ⟨pb, hpb⟩ : ∃ q : Nat, x.b = q := ⟨x.b.toNat, by omega⟩
       have ha' : pa < F.length := by omega
       have hb' : pb < F.length := by omega
       rw [hpa, hpb, Z08 _ ha', Z08 _ hb'] at he
       have f0 := Ye F ha'
       have f1 := Yf F ha'
       have h0 := Ye F hb'
       have h1 := Yf F hb'
       have hia : inR (pa : Int) F.length = some pa := X6 ha'
       have hib : inR (pb : Int) F.length = some pb := X6 hb'
       generalize F[pa] = fa at *
       generalize F[pb] = fb at *
       have x0 := hx0
       unfold rgB at x0
       have k0 : ∀ X, hget (([m' + 2], X) :: H0) [0] = hget H0 [0] := fun X => hc11 (by omega)
       have k2 : ∀ X, hget (([m' + 2], X) :: H0) [m' + 2] = some X := fun X => Z3 ..
       simp -implicitDefEqProofs only [go_sem, a8, hT, hin, hpa, hpb, k2]
       have fr0 : hget (([m' + 2], .cells [.int .i64 pa, .int .i64 pb, .int .i64 x.out.lo, .int .i64 x.out.hi, .int .i64 x.back.lo, .int .i64 x.back.hi] true 0) :: H0) [0] = some (rgB F) := (k0 _).trans hx0
       have fr1 : hget (([m' + 2], .cells [.int .i64 pa, .int .i64 pb, .int .i64 x.out.lo, .int .i64 x.out.hi, .int .i64 x.back.lo, .int .i64 x.back.hi] true 0) :: H0) [1] = some (vacC v) := (hc11 (by omega)).trans hvc
       have frc : i ≠ 0 -> hget (([m' + 2], .cells [.int .i64 pa, .int .i64 pb, .int .i64 x.out.lo, .int .i64 x.out.hi, .int .i64 x.back.lo, .int .i64 x.back.hi] true 0) :: H0) [c + 2] = some (rgB (G.take i)) := fun e => (hc11 (by have := hcm e; omega)).trans (hrow e)
       by_cases eb : (pb : Int) = (i : Int)
       ·have ebT : ((pb : Int) = (i : Int)) = True := eq_true eb
        have eb' : ((i : Int) = (pb : Int)) = True := eq_true eb.symm
        simp only [eb', if_true] at he
        simp -implicitDefEqProofs only [go_sem, ebT]
        try simp only [Z1]
        refine Z7 [[], [], [], [2], [1, 3, 2], [4, 1, 3, 2], [5, 4, 1, 3, 2], [], [7], [8, 7], [6, 5, 4, 1, 3, 2, 9, 8, 7], [0, 10, 6, 5, 4, 1, 3, 2, 9, 8, 7], [], [], [], [14], [13, 15, 14], [16, 13, 15, 14], [17, 16, 13, 15, 14], [], [19], [20, 19], [18, 17, 16, 13, 15, 14, 21, 20, 19], [12, 22, 18, 17, 16, 13, 15, 14, 21, 20, 19], [11, 0, 10, 6, 5, 4, 1, 3, 2, 9, 8, 7], [23, 12, 22, 18, 17, 16, 13, 15, 14, 21, 20, 19, 24, 11, 0, 10, 6, 5, 4, 1, 3, 2, 9, 8, 7]] [[], [], [], [], [], [], [], [], [], [], [], [], [], [], [], [], [], [], [], [], [], [], [], [], [], []] (by kernel_rfl) rfl rfl ?_
        simp -implicitDefEqProofs only [go_sem, Z0, lkn, Option.getD_some, Option.getD_none, a1, a8, a10, a11, hT, k0, k2, x0, hia, f0, f1, Z8]
        by_cases ea : (pa : Int) = (i : Int)
        ·have eaT : ((pa : Int) = (i : Int)) = True := eq_true ea
         have ea' : ((i : Int) = (pa : Int)) = True := eq_true ea.symm
         simp only [ea', if_true] at he
         simp -implicitDefEqProofs only [go_sem, eaT]
         try simp only [Z1]
         refine Z7 [[], [], [], [2], [1, 3, 2], [4, 1, 3, 2], [5, 4, 1, 3, 2], [], [7], [8, 7], [6, 5, 4, 1, 3, 2, 9, 8, 7], [0, 10, 6, 5, 4, 1, 3, 2, 9, 8, 7], [], [], [], [14], [13, 15, 14], [16, 13, 15, 14], [17, 16, 13, 15, 14], [], [19], [20, 19], [18, 17, 16, 13, 15, 14, 21, 20, 19], [12, 22, 18, 17, 16, 13, 15, 14, 21, 20, 19], [11, 0, 10, 6, 5, 4, 1, 3, 2, 9, 8, 7], [23, 12, 22, 18, 17, 16, 13, 15, 14, 21, 20, 19, 24, 11, 0, 10, 6, 5, 4, 1, 3, 2, 9, 8, 7]] [[], [], [], [], [], [], [], [], [], [], [], [], [], [], [], [], [], [], [], [], [], [], [], [], [], []] (by kernel_rfl) rfl rfl ?_
         simp -implicitDefEqProofs only [go_sem, Z0, lkn, Option.getD_some, Option.getD_none, a1, a2, a3, a7, a8, a12, hT, k0, k2, x0, hib, h0, h1, Z8]
         simp -implicitDefEqProofs only [go_sem, hw1]
         exact ⟨v.pipes.length - (q + 1), hkk2, trivial, trivial, trivial, trivial, trivial, trivial, q + 1, m' + 3, _, (plusR (plusR acc (mulR fa x.out)) (mulR fb x.back)), rfl, rfl, rfl, hq', rfl, rfl, by omega, fr0, fr1, frc, he⟩
        ·have eaT : ((pa : Int) = (i : Int)) = False := eq_false ea
         have ea' : ((i : Int) = (pa : Int)) = False := eq_false (fun e => ea e.symm)
         simp only [ea', if_false] at he
         simp -implicitDefEqProofs only [go_sem, a1, a2, a3, a7, a8, a12, hT, eaT]
         simp -implicitDefEqProofs only [go_sem, hw1]
         exact ⟨v.pipes.length - (q + 1), hkk2, trivial, trivial, trivial, trivial, trivial, trivial, q + 1, m' + 2, _, (plusR acc (mulR fa x.out)), rfl, rfl, rfl, hq', rfl, rfl, by omega, fr0, fr1, frc, he⟩
       ·have ebT : ((pb : Int) = (i : Int)) = False := eq_false eb
        have eb' : ((i : Int) = (pb : Int)) = False := eq_false (fun e => eb e.symm)
        simp only [eb', if_false] at he
        simp -implicitDefEqProofs only [go_sem, a8, hT, k2, ebT]
        by_cases ea : (pa : Int) = (i : Int)
        ·have eaT : ((pa : Int) = (i : Int)) = True := eq_true ea
         have ea' : ((i : Int) = (pa : Int)) = True := eq_true ea.symm
         simp only [ea', if_true] at he
         simp -implicitDefEqProofs only [go_sem, eaT]
         try simp only [Z1]
         refine Z7 [[], [], [], [2], [1, 3, 2], [4, 1, 3, 2], [5, 4, 1, 3, 2], [], [7], [8, 7], [6, 5, 4, 1, 3, 2, 9, 8, 7], [0, 10, 6, 5, 4, 1, 3, 2, 9, 8, 7], [], [], [], [14], [13, 15, 14], [16, 13, 15, 14], [17, 16, 13, 15, 14], [], [19], [20, 19], [18, 17, 16, 13, 15, 14, 21, 20, 19], [12, 22, 18, 17, 16, 13, 15, 14, 21, 20, 19], [11, 0, 10, 6, 5, 4, 1, 3, 2, 9, 8, 7], [23, 12, 22, 18, 17, 16, 13, 15, 14, 21, 20, 19, 24, 11, 0, 10, 6, 5, 4, 1, 3, 2, 9, 8, 7]] [[], [], [], [], [], [], [], [], [], [], [], [], [], [], [], [], [], [], [], [], [], [], [], [], [], []] (by kernel_rfl) rfl rfl ?_
         simp -implicitDefEqProofs only [go_sem, Option.getD_some, a1, a2, a3, a7, a8, a10, a11, a12, hT, k0, k2, x0, hib, h0, h1, Z8]
         simp -implicitDefEqProofs only [go_sem, hw1]
         exact ⟨v.pipes.length - (q + 1), hkk2, trivial, trivial, trivial, trivial, trivial, trivial, q + 1, m' + 2, _, (plusR acc (mulR fb x.back)), rfl, rfl, rfl, hq', rfl, rfl, by omega, fr0, fr1, frc, he⟩
        ·have eaT : ((pa : Int) = (i : Int)) = False := eq_false ea
         have ea' : ((i : Int) = (pa : Int)) = False := eq_false (fun e => ea e.symm)
         simp only [ea', if_false] at he
         simp -implicitDefEqProofs only [go_sem, a1, a2, a3, a7, a8, a10, a11, a12, hT, eaT]
         simp -implicitDefEqProofs only [go_sem, hw1]
         exact ⟨v.pipes.length - (q + 1), hkk2, trivial, trivial, trivial, trivial, trivial, trivial, q + 1, m' + 1, _, acc, rfl, rfl, rfl, hq', rfl, rfl, by omega, fr0, fr1, frc, he⟩
     ·have hqe : q = v.pipes.length := by omega
      subst hqe
      rw [List.drop_length] at he
      simp only [flowS] at he
      simp -implicitDefEqProofs only [go_sem, hql]
      exact ⟨_, m', H0, rfl, hmm, by simp -implicitDefEqProofs only [go_sem, hT], by simp -implicitDefEqProofs only [go_sem, a1], by simp -implicitDefEqProofs only [go_sem, a2], by simp -implicitDefEqProofs only [go_sem, a3], by simp -implicitDefEqProofs only [go_sem, a8], by simp -implicitDefEqProofs only [go_sem, a7], by rw [he]; simp -implicitDefEqProofs only [go_sem, a10], by rw [he]; simp -implicitDefEqProofs only [go_sem, a11], hx0, hvc, hrow⟩
    clear a1 a2 a3 a7 a8 hT T hx0 hvc hrow x0 vc k0 k2 hbg H0
    rintro _ ⟨T, m', H0, rfl, hmm, hT, a1, a2, a3, a8, a7, a10, a11, hx0, hvc, hrow⟩
    generalize hac : flowS F shut i 0 (begR v shut F i) v.pipes = acc at *
    simp -implicitDefEqProofs only [go_sem, a10, a11, hT]
    simp only [Z1]
    refine Tr.Does.mono (Q := fun x => ∃ (T' : List AV) (m'' : Nat) (H' : Heap), x = ((AExit.exit 4, T'), (⟨H', m'' + 2, [], false, []⟩ : St)) /\ m' < m'' /\ T'.length = 150 /\ nth T' 1 = some (.slice [0] 0 F.length F.length false) /\ nth T' 2 = some (.lst (shut.map iV)) /\ nth T' 3 = some (.ptr [1] 0) /\ nth T' 8 = some (.int .i64 i) /\ nth T' 7 = some (mutV [c + 2] i) /\ nth T' 14 = some (.ptr [m' + 2] 0) /\ hget H' [m' + 2] = some (.cells [.int .i64 (lkS i (quoR acc) v.leaks).lo, .int .i64 (lkS i (quoR acc) v.leaks).hi] true 0) /\ hget H' [0] = some (rgB F) /\ hget H' [1] = some (vacC v) /\ (i ≠ 0 -> hget H' [c + 2] = some (rgB (G.take i)))) ?_ ?_
    ·refine Zf (fun k T s' => T.length = 150 /\ nth T 1 = some (.slice [0] 0 F.length F.length false) /\ nth T 2 = some (.lst (shut.map iV)) /\ nth T 3 = some (.ptr [1] 0) /\ nth T 8 = some (.int .i64 i) /\ nth T 7 = some (mutV [c + 2] i) /\ nth T 14 = some (.ptr [m' + 2] 0) /\ ∃ (q m'' : Nat) (H' : Heap) (ac : Rg), nth T 15 = some (.int .i64 q) /\ q <= v.leaks.length /\ k = v.leaks.length - q /\ s' = ⟨H', m'' + 2, [], false, []⟩ /\ m' < m'' /\ hget H' [m' + 2] = some (.cells [.int .i64 ac.lo, .int .i64 ac.hi] true 0) /\ hget H' [0] = some (rgB F) /\ hget H' [1] = some (vacC v) /\ (i ≠ 0 -> hget H' [c + 2] = some (rgB (G.take i))) /\ lkS i (quoR acc) v.leaks = lkS i ac (v.leaks.drop q)) (k := v.leaks.length) (by have := hv.inl.1; omega) ?_ ?_
     ·exact ⟨by simp -implicitDefEqProofs only [go_sem, hT], by simp -implicitDefEqProofs only [go_sem, a1], by simp -implicitDefEqProofs only [go_sem, a2], by simp -implicitDefEqProofs only [go_sem, a3], by simp -implicitDefEqProofs only [go_sem, a8], by simp -implicitDefEqProofs only [go_sem, a7], by simp -implicitDefEqProofs only [go_sem, hT], 0, m' + 1, _, quoR acc, by simp -implicitDefEqProofs only [go_sem, hT] <;> rfl, by omega, rfl, rfl, by omega, Z3 .., (hc11 (by omega)).trans hx0, (hc11 (by omega)).trans hvc, fun e => (hc11 (by have := hcm e; omega)).trans (hrow e), rfl⟩
     clear a1 a2 a3 a7 a8 a10 a11 hT T hx0 hvc hrow H0
     rintro k T s' ⟨hT, a1, a2, a3, a8, a7, a14, q, m2, H0, ac, a15, hq, rfl, rfl, hmm2, hxa, hx0, hvc, hrow, he⟩
     have vc := hvc
     unfold vacC at vc
     simp -implicitDefEqProofs only [go_sem, a3, a15, hT, vc]
     by_cases hql : (q : Int) < (v.leaks.length : Int)
     ·have hq' : q < v.leaks.length := by omega
      have e1 := Z9 (f := inlV) (l := v.leaks) (i := q) (z := 3) hq' rfl
      have hkk2 : v.leaks.length - (q + 1) < v.leaks.length - q := by omega
      rw [List.drop_eq_getElem_cons hq'] at he
      generalize v.leaks[q] = x at *
      simp only [lkS] at he
      have hpl := fun st => Z70 ac x.gas (K + 1) st
      simp only [rgV] at hpl
      simp only [inlV] at e1
      have hw1 : wrapF .i64 ((q : Int) + 1) = ((q + 1 : Nat) : Int) := Z5 (by have := hv.inl.2; omega) (by have := hv.inl.2; omega)
      by_cases ea : x.at' = (i : Int)
      ·have eaT : (x.at' = (i : Int)) = True := eq_true ea
       rw [if_pos ea] at he
       simp -implicitDefEqProofs only [go_sem, a3, a8, a15, hT, hql, vc, e1, eaT]
       try simp only [Z1]
       refine Z7 [[], [], [1], [], [2, 1, 3], [4, 2, 1, 3], [5, 4, 2, 1, 3], [0, 6, 5, 4, 2, 1, 3], [7, 0, 6, 5, 4, 2, 1, 3]] [[], [], [], [], [], [], [], [], [[m' + 2]]] (by kernel_rfl) rfl rfl ?_
       have zm : (m2 = m') = False := eq_false (by omega)
       simp -implicitDefEqProofs only [go_sem, Option.getD_some, a1, a2, a3, a7, a8, a14, a15, hT, vc, hxa, e1, hpl, zm, Z8, hw1]
       exact ⟨v.leaks.length - (q + 1), hkk2, trivial, trivial, trivial, trivial, trivial, trivial, trivial, q + 1, m2 + 1, _, plusR ac x.gas, rfl, hq', rfl, rfl, by omega, by simp (disch := omega) only [Z0, Za, Option.getD_some, hxa], by simp (disch := omega) only [Z0, lkn, lk11, Option.getD_none, hx0], by simp (disch := omega) only [Z0, lkn, lk11, Option.getD_none, hvc], fun e => by have := hcm e; simp (disch := omega) only [Z0, lkn, lk11, Option.getD_none, hrow e], he⟩
      ·have eaT : (x.at' = (i : Int)) = False := eq_false ea
       rw [if_neg ea] at he
       simp -implicitDefEqProofs only [go_sem, a1, a2, a3, a7, a8, a14, a15, hT, hql, vc, e1, eaT, hw1]
       exact ⟨v.leaks.length - (q + 1), hkk2, trivial, trivial, trivial, trivial, trivial, trivial, trivial, q + 1, m2, _, ac, rfl, hq', rfl, rfl, by omega, hxa, hx0, hvc, hrow, he⟩
     ·have hqe : q = v.leaks.length := by omega
      subst hqe
      rw [List.drop_length] at he
      simp only [lkS] at he
      simp -implicitDefEqProofs only [go_sem, hql]
      exact ⟨_, m2, H0, rfl, hmm2, by simp -implicitDefEqProofs only [go_sem, hT], by simp -implicitDefEqProofs only [go_sem, a1], by simp -implicitDefEqProofs only [go_sem, a2], by simp -implicitDefEqProofs only [go_sem, a3], by simp -implicitDefEqProofs only [go_sem, a8], by simp -implicitDefEqProofs only [go_sem, a7], by simp -implicitDefEqProofs only [go_sem, a14], by rw [he]; exact hxa, hx0, hvc, hrow⟩
    clear a1 a2 a3 a7 a8 a10 a11 hT T hx0 hvc hrow H0
    rintro _ ⟨T, m2, H0, rfl, hmm2, hT, a1, a2, a3, a8, a7, a14, hxa, hx0, hvc, hrow⟩
    generalize hal : lkS i (quoR acc) v.leaks = al at *
    have hgx2 := hgx (by omega)
    have htk : G.take (i + 1) = G.take i ++ [al] := by rw [List.take_succ_eq_append_getElem (by omega), hgx2]
    have hln : (G.take i).length = i := by simp; omega
    have hap := fun (cs : List AV) (m n : Nat) (b p : Nm) (H : Heap) (r : Rg) (hr : (m + 1) * 16 <= 140737488355328) (hcs : cs.length = m * 2) (hg : m ≠ 0 -> hget H b = some (.cells cs true 2)) => Z2x (C := cfg.at 168) (sT := 50) (b := b) (cs := cs) (x := rgV r) (H := H) (m := m) (n := n) (p := p) (jr := false) (j := []) (z := 2) Z6a Z36 rfl rfl rfl rfl rfl rfl hr hcs hg
    have hw1 : wrapF .i64 ((i : Int) + 1) = ((i + 1 : Nat) : Int) := Z5 (by omega) (by omega)
    have hap1 := hap ((G.take i).flatMap rgC) i (m2 + 2) [c + 2] [] H0 al (hroom i hi') (by rw [Z3o, hln]) (fun e => hrow e)
    simp only [rgV, List.nil_append] at hap1
    have bs := fun a b s => bs50 168 a b s
    have hrn : .cells ((G.take i).flatMap rgC ++ (AV.agg [.int .i64 al.lo, .int .i64 al.hi]).cells) true 2 = rgB (G.take (i + 1)) := by
     rw [htk]; unfold rgB; rw [Jp]; rfl
    rw [hrn] at hap1
    simp -implicitDefEqProofs only [go_sem, a1, a2, a3, a7, a8, a14, hT, hxa, bs, hap1, hw1]
    refine ⟨F.length - (i + 1), hkk, trivial, trivial, trivial, trivial, i + 1, m2 + 1, m2, _, rfl, rfl, hi', rfl, rfl, ?_, ?_, fun _ => ⟨by omega, Z3 ..⟩⟩
    ·rw [hc11 (by omega), Z0p _ _ (n11 (by omega))]; exact hx0
    ·rw [hc11 (by omega)]
     by_cases e : i = 0
     ·subst e; exact hvc
     ·rw [Z0p _ _ (n11 (by have := hcm e; omega))]; exact hvc
   ·have hie : i = F.length := by omega
    subst hie
    rw [List.take_of_length_le (by omega)] at hrow
    rw [Yz hpos] at a7
    simp -implicitDefEqProofs only [go_sem, a7, hT, hil, Try.results168]
    exact ⟨c, rfl, hx0, (hrow (by omega)).2⟩
  ·rintro ⟨v1, s1⟩ ⟨c, rfl, e0, e1⟩
   have e2 : memNm [c + 2] [[0]] = false := rfl
   refine ⟨[rgB F], [[0], [c + 2]], [rgB G], ?_, ?_, ?_, ?_, ?_, ?_⟩
   ·show getAll _ [[0]] = _
    simp only [getAll, e0]
   ·show reachL s1.H 200 (namesV true (AV.slice [c + 2] 0 F.length F.length false) (namesB true (rgB F) [])) [[0]] [] = _
    rw [nb]
    show reachL s1.H 200 [[c + 2]] [[0]] [] = _
    rw [Xi, e2]
    simp only at e1 ⊢
    rw [e1]
    simp only [nb, Z2r]
    rfl
   ·rfl
   ·show renV [([0], f), ([c + 2], p ++ [n])] _ = _
    have q1 : eqb [c + 2] [0] = false := rfl
    simp only [renV, lookN, q1, Zi]
   ·simp only [renBs, Xe]
   ·simp only [renBs, Xe]
 ·exact Z1n [f] [rgB F] H n p false j (by simp only [getAll, hf])
end Go.Proofs.Ytgnpnfkncbnjnaa
namespace Go.Proofs.Ytgnpnfkncbnjnaa
attribute [local go_sem_proc] Int.reduceEq Int.reduceNeg Nat.reduceEqDiff Nat.reduceLT Nat.reduceAdd Nat.reduceSub Nat.reduceMul Int.reduceLE Int.reduceLT Int.reduceToNat Nat.reduceLeDiff
attribute [local go_sem] Int.toNat_natCast Bool.not_true Bool.not_false
open Go Go.Am
attribute [local congr] Ze Zb Zc
theorem Zgs {v : Vac} (h : checkE v = 0) : ∀ x ∈ v.vessels, bandsE 0 0 x.bands = 0 := by
 obtain ⟨h1, h2⟩ := Zb9 h
 intro x hx
 have h3 := Yt h1 x hx
 unfold vesE at h3
 split at h3
 ·split at h3
  ·split at h3
   ·split at h3
    ·exact absurd h3 (by decide)
    ·exact h3
   ·rename_i h4; exact absurd h3 h4
  ·rename_i h4; exact absurd h3 h4
 ·exact absurd h3 (by decide)
theorem Z8u (b : Nm) (n : Nat) : (mutV b n).shut = rowX (.lst []) b n := by cases n <;> rfl
structure RAt (H : Heap) (f b r : Nm) (v : Vac) (g : Gs) (s : Bk) : Prop where
 v : hget H [0] = some (vacC v)
 c : hget H [1] = some (.cells [mutV f g.free.length, mutV b g.bound.length, mutV r g.room.length, .int .i64 g.most, .bool g.flashed] true 0)
 k : hget H [2] = some (.cells [.int .i64 s.ticks, .int .i64 s.heat, .lst (s.shut.map iV), .bool s.flash] true 0)
 z : hget H [3] = some (.cells [.nils, .nils, .nils, .int .i64 0, .bool false] true 0)
 g : GasAt H f b r g
theorem Za1 {H : Heap} {b1 b2 b3 : Nm} {g : Gs} (h : GasAt H b1 b2 b3 g) : Go.Am.frozen H (gasM b1 b2 b3 g) = some (gsV g) := by
 unfold Go.Am.frozen
 rw [show freezeG (freezeD H 6) H (gasM b1 b2 b3 g) = some (gsV g) from Zo7 h]
 have h5 : (gsV g).flat = true := by simp only [gsV, AV.flat, flats, Z86]
 simp only [h5]
theorem RAt.put {H : Heap} {f b r : Nm} {v : Vac} {g g' : Gs} {s : Bk} (h : RAt H f b r v g s) (ha : Apart3 f b r) (h1 : g.free ≠ []) (h2 : g.bound ≠ []) (l1 : g'.free.length = g.free.length) (l2 : g'.bound.length = g.bound.length) (l3 : g'.room.length = g.room.length) (e1 : g'.most = g.most) (e2 : g'.flashed = g.flashed) (n0 : ∀ i, i < 4 -> f ≠ [i] /\ b ≠ [i] /\ r ≠ [i]) : RAt (gasPut f b r g' H) f b r v g' s := by
 have q : ∀ i, i < 4 -> hget (gasPut f b r g' H) [i] = hget H [i] := fun i hi => Zey (n0 i hi).1 (n0 i hi).2.1 (fun _ => (n0 i hi).2.2)
 exact ⟨(q 0 (by omega)).trans h.v, by rw [l1, l2, l3, e1, e2]; exact (q 1 (by omega)).trans h.c, (q 2 (by omega)).trans h.k, (q 3 (by omega)).trans h.z, Zex h.g ha h1 h2 l3⟩
theorem Z31 (v : Vac) (g : Gs) (s : Bk) (K : Nat) (st : St) (hva : Valid v) (hbe : ∀ x ∈ v.vessels, bandsE 0 0 x.bands = 0) (hf : Fits v g) (hK : 300 < K) (hsh : s.shut.length < K) (hsh2 : s.shut.length <= 9223372036854775807) :
  acall cfg (K + 8) 130 [vacV v, gsV g, bkV s] st = .ret (gsV (tickT v g s), st) := by
 refine Yh Zjf Zje (by first | rfl | simp -implicitDefEqProofs only [redoH, redo1, go_sem]) (by first | rfl | simp -implicitDefEqProofs only [go_sem]) (by first | rfl | simp -implicitDefEqProofs only [go_sem]) ?_
 refine Z6 rfl fun T hT' hA => ?_
 have a0 := hA 0 _ rfl
 have a1 := hA 1 _ rfl
 have a2 := hA 2 _ rfl
 have hT : T.length = 74 := hT'
 clear hA hT'
 obtain ⟨hn1, hn2⟩ := hf.ne hva
 have l1 : g.free.length <= 1000000 := by have := hf.f; have := hva.n8; omega
 have l2 : g.bound.length <= 1000000 := by have := hf.b; have := hva.n8; omega
 have l3 : g.room.length <= 1000000 := by have := hf.r; have := hva.g8; omega
 have c1 := fun H n p jr j => Z7e g.free hn1 l1 (K + 6) H n p jr j
 have c2 := fun H n p jr j => Z7e g.bound hn2 l2 (K + 6) H n p jr j
 simp only [rgB] at c1 c2
 simp -implicitDefEqProofs only [go_sem, a0, a1, a2]
 simp only [Z1]
 refine Tr.Does.mono (Q := fun x => ∃ (T' : List AV) (H' : Heap), x = (T', (⟨H', 5, [], false, []⟩ : St)) /\ T'.length = 74 /\ nth T' 3 = some (.ptr [0] 0) /\ nth T' 4 = some (.ptr [1] 0) /\ nth T' 5 = some (.ptr [2] 0) /\ nth T' 6 = some (.ptr [3] 0) /\ RAt H' [4, 2, 0] [4, 5, 0] [4, 8, 0] v g s) ?_ ?_
 ·rcases (show g.room = [] \/ g.room ≠ [] from by cases g.room with | nil => exact .inl rfl | cons a l => exact .inr (by simp)) with hr | hr
  ·have c3 := fun s => Zlg (K + 2) s
   rw [hr]
   simp only [List.map_nil]
   try simp only [Z1]
   refine Z7 [[], [0], [1, 0], [], [3], [4, 3, 2, 1, 0], [], [6], [7, 6, 5, 4, 3, 2, 1, 0], [2, 1, 0, 4, 3, 7, 6], [9, 8, 5, 2, 1, 0, 4, 3, 7, 6], [10, 9, 8, 5, 2, 1, 0, 4, 3, 7, 6], [11, 10, 9, 8, 5, 2, 1, 0, 4, 3, 7, 6], [12, 11, 10, 9, 8, 5, 2, 1, 0, 4, 3, 7, 6], [13, 12, 11, 10, 9, 8, 5, 2, 1, 0, 4, 3, 7, 6]] [[], [], [], [], [], [], [], [], [], [], [[1]], [], [[1]], [], [[1]]] (by kernel_rfl) rfl rfl ?_
   simp -implicitDefEqProofs only [go_sem, Z0, lkn, Za, lk31, Option.getD_some, Option.getD_none, hT, c1, c2, c3, Z8]
   refine ⟨_, _, rfl, by simp -implicitDefEqProofs only [go_sem, hT], by simp -implicitDefEqProofs only [go_sem, hT], by simp -implicitDefEqProofs only [go_sem, hT], by simp -implicitDefEqProofs only [go_sem, hT], by simp -implicitDefEqProofs only [go_sem, hT], ⟨rfl, ?_, rfl, rfl, ⟨fun _ => rfl, fun _ => rfl, fun e => ?_⟩⟩⟩
   ·rw [Yz (List.length_pos_iff.2 hn1), Yz (List.length_pos_iff.2 hn2), hr]; rfl
   ·exact absurd hr e
  ·have c3 := fun H n p jr j => Z7e g.room hr l3 (K + 6) H n p jr j
   simp only [rgB] at c3
   try simp only [Z1]
   refine Z7 [[], [0], [1, 0], [], [3], [4, 3, 2, 1, 0], [], [6], [7, 6, 5, 4, 3, 2, 1, 0], [2, 1, 0, 4, 3, 7, 6], [9, 8, 5, 2, 1, 0, 4, 3, 7, 6], [10, 9, 8, 5, 2, 1, 0, 4, 3, 7, 6], [11, 10, 9, 8, 5, 2, 1, 0, 4, 3, 7, 6], [12, 11, 10, 9, 8, 5, 2, 1, 0, 4, 3, 7, 6], [13, 12, 11, 10, 9, 8, 5, 2, 1, 0, 4, 3, 7, 6]] [[], [], [], [], [], [], [], [], [], [], [[1]], [], [[1]], [], [[1]]] (by kernel_rfl) rfl rfl ?_
   simp -implicitDefEqProofs only [go_sem, Z0, lkn, Za, lk31, Option.getD_some, Option.getD_none, hT, c1, c2, c3, Z8]
   refine ⟨_, _, rfl, by simp -implicitDefEqProofs only [go_sem, hT], by simp -implicitDefEqProofs only [go_sem, hT], by simp -implicitDefEqProofs only [go_sem, hT], by simp -implicitDefEqProofs only [go_sem, hT], by simp -implicitDefEqProofs only [go_sem, hT], ⟨rfl, ?_, rfl, rfl, ⟨fun _ => rfl, fun _ => rfl, fun e => ?_⟩⟩⟩
   ·rw [Yz (List.length_pos_iff.2 hn1), Yz (List.length_pos_iff.2 hn2), Yz (List.length_pos_iff.2 hr)]; rfl
   ·rfl
 clear a0 a1 a2 hT T c1 c2
 rintro _ ⟨T, H0, rfl, hT, a3, a4, a5, a6, hR⟩
 obtain ⟨ld, hld⟩ : ∃ q, q = leakF g.most v.leaks := ⟨_, rfl⟩
 simp only [Zfv, Zfu, Z9q, Zrj]
 simp only [Z1]
 refine Tr.Does.mono (Q := fun x => ∃ (T' : List AV) (H' : Heap), x = ((AExit.normal, T'), (⟨H', 5, [], false, []⟩ : St)) /\ T'.length = 74 /\ nth T' 3 = some (.ptr [0] 0) /\ nth T' 4 = some (.ptr [1] 0) /\ nth T' 5 = some (.ptr [2] 0) /\ nth T' 6 = some (.ptr [3] 0) /\ RAt H' [4, 2, 0] [4, 5, 0] [4, 8, 0] v ⟨g.free, g.bound, g.room, g.most, g.flashed || s.flash⟩ s) ?_ ?_
 ·have b1 := hR.c
  have b2 := hR.k
  have e1 : ∀ Z, hget (hset H0 [1] Z) [1] = some Z := fun Z => hss b1
  cases hfl : g.flashed with
  | true =>
   rw [hfl] at b1
   simp -implicitDefEqProofs only [go_sem, a4, hT, b1]
   exact ⟨_, _, rfl, by simp -implicitDefEqProofs only [go_sem, hT], by simp -implicitDefEqProofs only [go_sem, a3], by simp -implicitDefEqProofs only [go_sem, a4], by simp -implicitDefEqProofs only [go_sem, a5], by simp -implicitDefEqProofs only [go_sem, a6], ⟨(hs11 (by decide)).trans hR.v, hss b1, (hs11 (by decide)).trans hR.k, (hs11 (by decide)).trans hR.z, ⟨fun e => hs13.trans (hR.g.f e), fun e => hs13.trans (hR.g.b e), fun e => hs13.trans (hR.g.r e)⟩⟩⟩
  | false =>
   rw [hfl] at b1
   simp -implicitDefEqProofs only [go_sem, a4, a5, hT, b1, b2]
   exact ⟨_, _, rfl, by simp -implicitDefEqProofs only [go_sem, hT], by simp -implicitDefEqProofs only [go_sem, a3], by simp -implicitDefEqProofs only [go_sem, a4], by simp -implicitDefEqProofs only [go_sem, a5], by simp -implicitDefEqProofs only [go_sem, a6], ⟨(hs11 (by decide)).trans hR.v, hss b1, (hs11 (by decide)).trans hR.k, (hs11 (by decide)).trans hR.z, ⟨fun e => hs13.trans (hR.g.f e), fun e => hs13.trans (hR.g.b e), fun e => hs13.trans (hR.g.r e)⟩⟩⟩
 clear a3 a4 a5 a6 hT T hR H0
 rintro _ ⟨T, H0, rfl, hT, a3, a4, a5, a6, hR⟩
 generalize hfl : (g.flashed || s.flash) = fl at *
 simp -implicitDefEqProofs only [go_sem]
 simp only [Z1]
 refine Tr.Does.mono (Q := fun x => ∃ (T' : List AV) (m : Nat) (H' : Heap), x = ((AExit.exit 0, T'), (⟨H', m + 5, [], false, []⟩ : St)) /\ T'.length = 74 /\ nth T' 3 = some (.ptr [0] 0) /\ nth T' 4 = some (.ptr [1] 0) /\ nth T' 5 = some (.ptr [2] 0) /\ nth T' 6 = some (.ptr [3] 0) /\ RAt H' [4, 2, 0] [4, 5, 0] [4, 8, 0] v ⟨g.free, g.bound, g.room, leakF g.most v.leaks, fl⟩ s) ?_ ?_
 ·refine Zf (fun k T s' => T.length = 74 /\ nth T 3 = some (.ptr [0] 0) /\ nth T 4 = some (.ptr [1] 0) /\ nth T 5 = some (.ptr [2] 0) /\ nth T 6 = some (.ptr [3] 0) /\ ∃ (i m : Nat) (H : Heap) (q : Int), nth T 7 = some (.int .i64 i) /\ i <= v.leaks.length /\ k = v.leaks.length - i /\ s' = ⟨H, m + 5, [], false, []⟩ /\ RAt H [4, 2, 0] [4, 5, 0] [4, 8, 0] v ⟨g.free, g.bound, g.room, q, fl⟩ s /\ leakF g.most v.leaks = leakF q (v.leaks.drop i)) (k := v.leaks.length) (by have := hva.l8; omega) ?_ ?_
  ·exact ⟨by simp -implicitDefEqProofs only [go_sem, hT], by simp -implicitDefEqProofs only [go_sem, a3], by simp -implicitDefEqProofs only [go_sem, a4], by simp -implicitDefEqProofs only [go_sem, a5], by simp -implicitDefEqProofs only [go_sem, a6], 0, 0, _, g.most, by simp -implicitDefEqProofs only [go_sem, hT] <;> rfl, by omega, rfl, rfl, hR, rfl⟩
  clear a3 a4 a5 a6 hT T hR H0
  rintro k T s' ⟨hT, a3, a4, a5, a6, i, m, H0, q, a7, hi, rfl, rfl, hR, he⟩
  have b0 := hR.v
  have b1 := hR.c
  unfold vacC at b0
  simp -implicitDefEqProofs only [go_sem, a3, a7, hT, b0]
  by_cases hil : (i : Int) < (v.leaks.length : Int)
  ·have hi' : i < v.leaks.length := by omega
   have e1 := Z9 (f := inlV) (l := v.leaks) (i := i) (z := 3) hi' rfl
   have hkk : v.leaks.length - (i + 1) < v.leaks.length - i := by omega
   rw [List.drop_eq_getElem_cons hi'] at he
   generalize v.leaks[i] = x at *
   simp only [leakF] at he
   have hw1 : wrapF .i64 ((i : Int) + 1) = ((i + 1 : Nat) : Int) := Z5 (by have := hva.l8; omega) (by have := hva.l8; omega)
   simp only [inlV] at e1
   simp -implicitDefEqProofs only [go_sem, hil]
   try simp only [Z1]
   refine Z7 [[], [0], [], [2], [], [3, 2, 4], [5, 3, 2, 4], [6, 5, 3, 2, 4], [7, 6, 5, 3, 2, 4], [1, 0, 8, 7, 6, 5, 3, 2, 4], [9, 1, 0, 8, 7, 6, 5, 3, 2, 4], [10, 9, 1, 0, 8, 7, 6, 5, 3, 2, 4], [11, 10, 9, 1, 0, 8, 7, 6, 5, 3, 2, 4]] [[], [], [], [], [], [], [], [], [], [], [], [], [[1]]] (by kernel_rfl) rfl rfl ?_
   simp -implicitDefEqProofs only [go_sem, Option.getD_some, a3, a4, a5, a6, a7, hT, b0, b1, e1, Z3d, hw1, Z8]
   refine ⟨v.leaks.length - (i + 1), hkk, trivial, trivial, trivial, trivial, trivial, i + 1, m + 1, _, min2 68719476736 (wrapF .i64 (q + x.gas.hi)), rfl, hi', rfl, rfl, ⟨?_, ?_, ?_, ?_, ⟨fun e => ?_, fun e => ?_, fun e => ?_⟩⟩, he⟩
   all_goals clear hw1
   ·simp (disch := omega) only [Z0, lkn, lk11, Option.getD_none]; exact hR.v
   ·simp (disch := omega) only [Z0, Za, Option.getD_some, b1]
   ·simp (disch := omega) only [Z0, lkn, lk11, Option.getD_none, hR.k]
   ·simp (disch := omega) only [Z0, lkn, lk11, Option.getD_none, hR.z]
   ·simp (disch := omega) only [Z0, lkn, lk13, Option.getD_none]; exact hR.g.f e
   ·simp (disch := omega) only [Z0, lkn, lk13, Option.getD_none]; exact hR.g.b e
   ·simp (disch := omega) only [Z0, lkn, lk13, Option.getD_none]; exact hR.g.r e
  ·have hie : i = v.leaks.length := by omega
   subst hie
   rw [List.drop_length] at he
   simp only [leakF] at he
   simp -implicitDefEqProofs only [go_sem, hil]
   rw [he]
   exact ⟨_, m, H0, rfl, by simp -implicitDefEqProofs only [go_sem, hT], by simp -implicitDefEqProofs only [go_sem, a3], by simp -implicitDefEqProofs only [go_sem, a4], by simp -implicitDefEqProofs only [go_sem, a5], by simp -implicitDefEqProofs only [go_sem, a6], hR⟩
 clear a3 a4 a5 a6 hT T hR H0
 rintro _ ⟨T, m, H0, rfl, hT, a3, a4, a5, a6, hR⟩
 have hb : (⟨g.free, g.bound, g.room, leakF g.most v.leaks, fl⟩ : Gs) = beginT v g s := by rw [<- hfl]; rfl
 rw [hb] at hR
 have f1 := Z30 hf s
 obtain ⟨p1, p2⟩ := f1.ne hva
 have hcr := fun n => Z7f (K := K + 5) (s := s) (n := n) (p := []) (j := []) hR.g ⟨by decide, by decide, by decide⟩ p1 f1.f f1.b (by have := hva.n8; omega) (by have := hva.n8; omega) hva.bd hbe
 have f2 := Z7c f1 s
 have hR2 := hR.put (g' := relT v (beginT v g s) s) ⟨by decide, by decide, by decide⟩ p1 p2 (f2.f.trans f1.f.symm) (f2.b.trans f1.b.symm) rfl rfl rfl (fun i hi => ⟨n31, n31, n31⟩)
 generalize gasPut [4, 2, 0] [4, 5, 0] [4, 8, 0] (relT v (beginT v g s) s) H0 = H1 at *
 have b0 := hR.v
 have b1 := hR.c
 have b2 := hR.k
 unfold vacC at b0
 simp only [vacV, gasX] at hcr
 obtain ⟨p3, p4⟩ := f2.ne hva
 have hfw := fun n => Zch (K := K + 4) (v := v) (shut := s.shut) (n := n) (p := []) (j := []) (hR2.g.f p3) p3 f2.f (by have := hva.n8; omega) (by have := hva.n8; omega) (hva.lens _ (by omega)) (by omega) hsh2 hva.pip hva.inl
 have f3 := Z4z f2 s
 have c1 := hR2.c
 have c0 := hR2.v
 have c2 := hR2.k
 unfold vacC at c0
 rw [Yz (List.length_pos_iff.2 p3)] at c1
 simp only [vacV, St.new, St.name, St.note, List.nil_append] at hfw
 have k1 : ∀ q X, hget (([q + 5], X) :: H1) [1] = hget H1 [1] := fun q X => hc11 (by omega)
 have e1 : ∀ Z, hget (hset H1 [1] Z) [1] = some Z := fun Z => hss c1
 simp -implicitDefEqProofs only [go_sem, a3, a4, a5, hT, b0, b1, b2, hcr, Z8u, c0, c1, c2, hfw, k1, e1]
 have hR3 : RAt (([m + 5], rgB (leakR (flowG v s.shut (relT v (beginT v g s) s).free) v.leaks)) :: hset H1 [1] (.cells [.slice [m + 5] 0 (relT v (beginT v g s) s).free.length (relT v (beginT v g s) s).free.length false, mutV [4, 5, 0] (relT v (beginT v g s) s).bound.length, mutV [4, 8, 0] (relT v (beginT v g s) s).room.length, .int .i64 (relT v (beginT v g s) s).most, .bool (relT v (beginT v g s) s).flashed] true 0)) [m + 5] [4, 5, 0] [4, 8, 0] v (flowT v (relT v (beginT v g s) s) s) s := by
  refine ⟨(hc11 (by omega)).trans ((hs11 (by decide)).trans hR2.v), (hc11 (by omega)).trans ((e1 _).trans ?_), (hc11 (by omega)).trans ((hs11 (by decide)).trans hR2.k), (hc11 (by omega)).trans ((hs11 (by decide)).trans hR2.z), ⟨fun _ => Z3 .., fun e => hc13.trans (hs13.trans (hR2.g.b e)), fun e => hc13.trans (hs13.trans (hR2.g.r e))⟩⟩
  rw [show (flowT v (relT v (beginT v g s) s) s).free.length = (relT v (beginT v g s) s).free.length from f3.f.trans f2.f.symm, Yz (List.length_pos_iff.2 p3)]
  rfl
 have hfl3 : (relT v (beginT v g s) s).flashed = (flowT v (relT v (beginT v g s) s) s).flashed := rfl
 rw [hfl3] at hR3 ⊢
 generalize hT3 : setNth _ _ _ = T3
 have b3 : nth T3 3 = some (.ptr [0] 0) := by rw [<- hT3]; simp -implicitDefEqProofs only [go_sem, a3]
 have b4 : nth T3 4 = some (.ptr [1] 0) := by rw [<- hT3]; simp -implicitDefEqProofs only [go_sem, a4]
 have b5 : nth T3 5 = some (.ptr [2] 0) := by rw [<- hT3]; simp -implicitDefEqProofs only [go_sem, a5]
 have b6 : nth T3 6 = some (.ptr [3] 0) := by rw [<- hT3]; simp -implicitDefEqProofs only [go_sem, a6]
 have hT' : T3.length = 74 := by rw [<- hT3]; simp -implicitDefEqProofs only [go_sem, hT]
 clear hT3
 generalize (([m + 5], rgB _) :: hset H1 [1] _) = HH at *
 clear a3 a4 a5 a6 hT T b0 b1 b2 c0 c1 c2 hcr hfw k1 e1 hR hR2 hfl3 p1 p2 p3 p4 f1 f2 H0 H1 hb
 have htk : tickT v g s = cutT v (getT v (flowT v (relT v (beginT v g s) s) s) s) s := rfl
 rw [htk]
 generalize flowT v (relT v (beginT v g s) s) s = g3 at *
 obtain ⟨p3, p4⟩ := f3.ne hva
 have f4 := Z7d f3 s
 simp only [Z1]
 refine Tr.Does.mono (Q := fun x => ∃ (T' : List AV) (H' : Heap), x = ((AExit.normal, T'), (⟨H', m + 6, [], false, []⟩ : St)) /\ T'.length = 74 /\ nth T' 4 = some (.ptr [1] 0) /\ nth T' 6 = some (.ptr [3] 0) /\ RAt H' [m + 5] [4, 5, 0] [4, 8, 0] v (getT v g3 s) s) ?_ ?_
 ·have c0 := hR3.v
  have c1 := hR3.c
  unfold vacC at c0
  cases hfl2 : g3.flashed with
  | true =>
   have hgt : getT v g3 s = getG v g3 := by unfold getT; rw [if_pos hfl2]; rfl
   rw [hgt] at f4 ⊢
   have hcg := fun n => Zez (K := K + 5) (v := v) (g := g3) (n := n) (p := []) (j := []) hR3.g ⟨n13, n13, by decide⟩ p3 p4 f3.f f3.r (by have := hva.g8; omega) (by have := hva.g8; omega) hva.gtr
   have hR4 := hR3.put (g' := getG v g3) ⟨n13, n13, by decide⟩ p3 p4 (f4.f.trans f3.f.symm) (f4.b.trans f3.b.symm) (f4.r.trans f3.r.symm) rfl rfl (fun i hi => ⟨n11 (by omega), n31, n31⟩)
   generalize gasPut [m + 5] [4, 5, 0] [4, 8, 0] (getG v g3) HH = H4 at *
   simp only [vacV, gasX] at hcg
   simp -implicitDefEqProofs only [go_sem, b3, b4, hT', c0, c1, hcg, Z8u]
   exact ⟨_, _, rfl, by simp -implicitDefEqProofs only [go_sem, hT'], by simp -implicitDefEqProofs only [go_sem, b4], by simp -implicitDefEqProofs only [go_sem, b6], hR4⟩
  | false =>
   have hgt : getT v g3 s = g3 := by unfold getT; rw [if_neg (by rw [hfl2]; decide)]
   rw [hgt]
   simp -implicitDefEqProofs only [go_sem]
   exact ⟨_, _, rfl, hT', b4, b6, hR3⟩
 clear b3 b4 b5 b6 hT' T3 hR3 HH
 generalize getT v g3 s = g4 at *
 obtain ⟨p5, p6⟩ := f4.ne hva
 rintro _ ⟨T, H0, rfl, hT, a4, a6, hR⟩
 have c1 := hR.c
 rw [Yz (List.length_pos_iff.2 p5), Yz (List.length_pos_iff.2 p6)] at c1
 have hc1 := fun n => Z8s g4.free g4.most [m + 5] (K + 6) H0 n [] [] (hR.g.f p5) (by have := f4.f; have := hva.n8; omega) (by have := f4.f; have := hva.n8; omega)
 have hc2 := fun X n => Z8s g4.bound g4.most [4, 5, 0] (K + 6) (hset H0 [m + 5] X) n [] [] (hs13.trans (hR.g.b p6)) (by have := f4.b; have := hva.n8; omega) (by have := f4.b; have := hva.n8; omega)
 have k1 : ∀ X, hget (hset H0 [m + 5] X) [1] = hget H0 [1] := fun X => hs11 (by omega)
 have k2 : ∀ X Y, hget (hset (hset H0 [m + 5] X) [4, 5, 0] Y) [1] = hget H0 [1] := fun X Y => hs31.trans (hs11 (by omega))
 have k3 : ∀ X Y, hget (hset (hset H0 [m + 5] X) [4, 5, 0] Y) [3] = hget H0 [3] := fun X Y => hs31.trans (hs11 (by omega))
 have z3 := hR.z
 have e3 : ∀ X Y Z, hget (hset (hset (hset H0 [m + 5] X) [4, 5, 0] Y) [3] Z) [3] = some Z := fun X Y Z => hss ((k3 X Y).trans z3)
 have hG : ∀ Z, GasAt (hset (hset (hset H0 [m + 5] (rgB (g4.free.map (cutR g4.most)))) [4, 5, 0] (rgB (g4.bound.map (cutR g4.most)))) [3] Z) [m + 5] [4, 5, 0] [4, 8, 0] (cutT v g4 s) := fun Z =>
  ⟨fun _ => (hs11 (by omega)).trans (hs31.trans (hss (hR.g.f p5))), fun _ => hs13.trans (hss (hs13.trans (hR.g.b p6))), fun e => hs13.trans ((Z2 _ _ (by decide)).trans (hs13.trans (hR.g.r e)))⟩
 have hfz := fun Z => Za1 (hG Z)
 simp only [gasM, cutT, List.length_map, gsV] at hfz
 rw [Yz (List.length_pos_iff.2 p5), Yz (List.length_pos_iff.2 p6)] at hfz
 simp -implicitDefEqProofs only [go_sem, a4, a6, hT, c1, hc1, hc2, k1, k2, k3, z3, e3, Try.results130]
 exact hfz _
end Go.Proofs.Ytgnpnfkncbnjnaa
namespace Go.Proofs.Ytgnpnfkncbnjnaa
open Go Go.Am
attribute [local congr] Ze Zb Zc
theorem Za2 (H : Heap) (g : Gs) (e : Int) : Go.Am.frozen H (.tuple [gsV g, .int .i64 e]) = some (gasP (g, e)) := by
 unfold Go.Am.frozen
 rw [show freezeG (freezeD H 6) H (.tuple [gsV g, .int .i64 e]) = some (gasP (g, e)) from rfl]
 have h5 : (gasP (g, e)).flat = true := Zeu _
 simp only [h5]
end Go.Proofs.Ytgnpnfkncbnjnaa
namespace Go.Proofs.Ytgnpnfkncbnjnaa
attribute [local go_sem_proc] Int.reduceEq Int.reduceNeg Nat.reduceEqDiff Nat.reduceLT Nat.reduceAdd Nat.reduceSub Nat.reduceMul Int.reduceLE Int.reduceLT Int.reduceToNat Nat.reduceLeDiff
attribute [local go_sem] Int.toNat_natCast Bool.not_true Bool.not_false
open Go Go.Am
attribute [local congr] Ze Zb Zc
structure StgG (k : Int) (q : Nat) (s : Bk) : Prop where
 t : 0 <= s.ticks /\ s.ticks <= k
 h : 0 <= s.heat /\ s.heat < 900
 n : s.shut.length <= q
 o : s.shut.Pairwise (· < ·)
 s : ∀ x ∈ s.shut, 0 <= x /\ x < q
def Asc (n : Int) (l : List Int) : Prop := (∀ x ∈ l, 0 <= x /\ x < n) /\ l.Pairwise (· < ·)
theorem Zgt {n n' : Int} {l : List Int} (h : Asc n l) (hn : n <= n') : Asc n' l := ⟨fun x hx => by have := h.1 x hx; omega, h.2⟩
theorem Zgu {n n' : Int} {l : List Int} (h : Asc n l) (h0 : 0 <= n) (hn : n < n') : Asc n' (l ++ [n]) := by
 refine ⟨fun x hx => ?_, List.pairwise_append.2 ⟨h.2, List.pairwise_singleton .., fun a ha b hb => ?_⟩⟩
 ·rcases List.mem_append.1 hx with hx | hx
  ·have := h.1 x hx; omega
  ·rw [List.mem_singleton] at hx; omega
 ·rw [List.mem_singleton] at hb; have := h.1 a ha; omega
theorem bs22 (f : FuncId) (a : Int) (s : St) : buildSliceA (cfg.at f) true 22 1 [(0, .int .i64 a)] s = .ret (.lst [.int .i64 a], s) := by
 simp -implicitDefEqProofs only [go_sem, Go.Am.buildSliceA]
theorem Z8v (v : Vac) (hp : v.pipes.length <= 1000000) (k : Int) (hk : 0 <= k /\ k <= 1000000) (w : Int) (u : Nat) (K : Nat) (hK : v.pipes.length + 20 < K) :
  ∃ s w', StgG k v.pipes.length s /\ ∀ (b : Nm) (st : St), hget st.H b = some (.cells [.int .u64 w] true u) -> acall cfg (K + 10) 24 [.ptr b 0, vacV v, .int .i64 k] st = .ret (bkV s, st.put b (.cells [.int .u64 w'] true u)) := by
 have key : ∃ s w', StgG k v.pipes.length s /\ (bodyA (cfg.at 24) (acall cfg (K + 9)) (around cfg (K + 9)) (K + 9 + 1) Try.f24 [.ptr [0] 0, vacV v, .int .i64 k] ⟨[([0], .cells [.int .u64 w] true u)], 1, [], false, []⟩).Does fun x => x.1.shut = bkV s /\ hget x.2.H [0] = some (.cells [.int .u64 w'] true u) := by
  suffices h : (bodyA (cfg.at 24) (acall cfg (K + 9)) (around cfg (K + 9)) (K + 9 + 1) Try.f24 [.ptr [0] 0, vacV v, .int .i64 k] ⟨[([0], .cells [.int .u64 w] true u)], 1, [], false, []⟩).Does fun x => ∃ s w', StgG k v.pipes.length s /\ x.1.shut = bkV s /\ hget x.2.H [0] = some (.cells [.int .u64 w'] true u) by
   obtain ⟨x, e, s, w', h1, h2, h3⟩ := h
   exact ⟨s, w', h1, x, e, h2, h3⟩
  refine Z6 rfl fun T hT' hA => ?_
  have a0 := hA 0 _ rfl
  have a1 := hA 1 _ rfl
  have a2 := hA 2 _ rfl
  have hT : T.length = 34 := hT'
  clear hA hT'
  have hk1 : wrapF .i64 (k + 1) = k + 1 := Z5 (by omega) (by omega)
  have ut1 := fun H m jr j hd => Z0b (H := H) (m := m) (u := u) (p := []) (jr := jr) (j := j) (k + 1) (K + 7) hd (by omega)
  have ut2 := fun H m jr j hd => Z0b (H := H) (m := m) (u := u) (p := []) (jr := jr) (j := j) 900 (K + 7) hd (by decide)
  have ot := fun H m jr j hd => Zlb (H := H) (m := m) (u := u) (p := []) (jr := jr) (j := j) 4 (K + 6) hd (by decide)
  have d0 : isD u [([0], .cells [.int .u64 w] true u)] := ⟨w, rfl⟩
  simp -implicitDefEqProofs (maxDischargeDepth := 9) only [go_sem, Zep, Z76, Jb, Z2b, a0, a1, a2, hT, hk1, ut1, ut2, ot, d0]
  have r1 := Zz w (k + 1) (by omega)
  have r2 := Zz (nextW w) 900 (by decide)
  generalize uptoN w (k + 1) = tk at *
  generalize uptoN (nextW w) 900 = ht at *
  generalize oneB (nextW (nextW w)) 4 = fl at *
  generalize nextW (nextW (nextW w)) = w1 at *
  clear ut1 ut2 ot d0 hk1
  simp only [Z1]
  refine Zf (fun l T s' => T.length = 34 /\ nth T 0 = some (.ptr [0] 0) /\ nth T 4 = some (.ptr [1] 0) /\ nth T 6 = some (.ptr [2] 0) /\ nth T 7 = some (.ptr [3] 0) /\ ∃ (i m c : Nat) (H : Heap) (row : List Int), nth T 8 = some (.int .i64 i) /\ i <= v.pipes.length /\ l = v.pipes.length - i /\ s' = ⟨H, m + 4, [], false, []⟩ /\ isD u H /\ hget H [1] = some (vacC v) /\ hget H [2] = some (.cells [.int .i64 0, .int .i64 0, .nils, .bool false] true 0) /\ hget H [3] = some (.cells [.int .i64 tk, .int .i64 ht, ownV [c + 4] (row.map iV), .bool fl] true 0) /\ (row.map iV ≠ [] -> c < m /\ hget H [c + 4] = some (.tok row.length 1)) /\ row.length <= i /\ Asc i row) (k := v.pipes.length) (by omega) ?_ ?_
  ·exact ⟨by simp -implicitDefEqProofs only [go_sem, hT], by simp -implicitDefEqProofs only [go_sem, a0], by simp -implicitDefEqProofs only [go_sem, hT], by simp -implicitDefEqProofs only [go_sem, hT], by simp -implicitDefEqProofs only [go_sem, hT], 0, 0, 0, _, [], by simp -implicitDefEqProofs only [go_sem, hT] <;> rfl, by omega, rfl, rfl, ⟨_, rfl⟩, rfl, rfl, rfl, fun e => absurd rfl e, Nat.le_refl _, (fun x hx => nomatch hx), List.Pairwise.nil⟩
  clear a0 a1 a2 hT T
  rintro l T s' ⟨hT, a0, a4, a6, a7, i, m, c, H, row, a8, hi, rfl, rfl, hd, g1, g2, g3, gt, hrl, hrx⟩
  unfold vacC at g1
  simp -implicitDefEqProofs only [go_sem, a4, a8, hT, g1]
  by_cases hil : (i : Int) < (v.pipes.length : Int)
  ·have hi' : i < v.pipes.length := by omega
   have hkk : v.pipes.length - (i + 1) < v.pipes.length - i := by omega
   have ot := Zlb (H := H) (m := m + 4) (u := u) (p := []) (jr := false) (j := []) 4 (K + 6) hd (by decide)
   generalize oneB (dW H) 4 = ob at *
   generalize nextW (dW H) = w2 at *
   have hd2 : isD u (hset H [0] (.cells [.int .u64 w2] true u)) := Yy hd
   have q1 : hget (hset H [0] (.cells [.int .u64 w2] true u)) [1] = hget H [1] := hs11 (by decide)
   have q2 : hget (hset H [0] (.cells [.int .u64 w2] true u)) [2] = hget H [2] := hs11 (by decide)
   have q3 : hget (hset H [0] (.cells [.int .u64 w2] true u)) [3] = hget H [3] := hs11 (by decide)
   have qt : ∀ c, hget (hset H [0] (.cells [.int .u64 w2] true u)) [c + 4] = hget H [c + 4] := fun c => hs11 (by omega)
   rw [g1] at q1
   rw [g2] at q2
   rw [g3] at q3
   have qt' : row.map iV ≠ [] -> c < m /\ hget (hset H [0] (.cells [.int .u64 w2] true u)) [c + 4] = some (.tok row.length 1) := fun e => ⟨(gt e).1, (qt c).trans (gt e).2⟩
   generalize hset H [0] (.cells [.int .u64 w2] true u) = H1 at *
   clear hd g1 g2 g3 gt qt
   have hroom : (row.length + 1) * 8 <= 140737488355328 := by omega
   have hrl2 : row.length <= i + 1 := by omega
   have hw1 : wrapF .i64 ((i : Int) + 1) = ((i + 1 : Nat) : Int) := Z5 (by omega) (by omega)
   have bs := fun a s => bs22 24 a s
   cases ob with
   | false =>
    simp -implicitDefEqProofs only [go_sem, a0, a4, a6, a7, a8, hT, hil, ot, hw1]
    exact ⟨v.pipes.length - (i + 1), hkk, trivial, trivial, trivial, trivial, trivial, i + 1, m, c, H1, row, rfl, hi', rfl, rfl, hd2, q1, q2, q3, qt', hrl2, Zgt hrx (by clear hw1; omega)⟩
   | true =>
    have hap := Yl (C := cfg.at 24) (sT := 22) (b := [c + 4]) (l := row.map iV) (x := iV i) (H := H1) (n := m + 4) (p := []) (jr := false) (j := []) (z := 1) Zo3 Zmi rfl rfl rfl rfl rfl rfl (by rw [List.length_map]; exact hroom) (fun hx => by rw [List.length_map]; exact (qt' hx).2)
    have hown : ∀ b, ownV b (row.map iV ++ [iV i]) = .own b (row.map iV ++ [iV i]) := fun b => by cases row.map iV <;> rfl
    have hrm : (row ++ [(i : Int)]).map iV = row.map iV ++ [iV i] := by simp
    simp only [List.nil_append, List.length_map] at hap
    rw [hown] at hap
    have x3 : hget (dropTok (row.map iV) [c + 4] H1) [3] = hget H1 [3] := Y3 _ _ (n11 (by clear hw1; omega))
    have x0 : hget (dropTok (row.map iV) [c + 4] H1) [0] = hget H1 [0] := Y3 _ _ (n11 (by clear hw1; omega))
    have x1 : hget (dropTok (row.map iV) [c + 4] H1) [1] = hget H1 [1] := Y3 _ _ (n11 (by clear hw1; omega))
    have x2 : hget (dropTok (row.map iV) [c + 4] H1) [2] = hget H1 [2] := Y3 _ _ (n11 (by clear hw1; omega))
    generalize dropTok (row.map iV) [c + 4] H1 = H2 at *
    rw [q3] at x3
    have k3 : ∀ q X, hget (([q + 4], X) :: H2) [3] = hget H2 [3] := fun q X => hc11 (by clear hw1; omega)
    simp only [iV] at hap
    simp -implicitDefEqProofs only [go_sem, a0, a4, a6, a7, a8, hT, hil, ot, bs, q3, hap, x3, k3, hw1]
    refine ⟨v.pipes.length - (i + 1), hkk, trivial, trivial, trivial, trivial, trivial, i + 1, m + 1, m, _, row ++ [(i : Int)], rfl, hi', rfl, rfl, ?_, ?_, ?_, ?_, fun _ => ⟨by omega, ?_⟩, ?_, ?_⟩
    all_goals clear hw1
    ·obtain ⟨w9, hw9⟩ := hd2
     exact ⟨w9, (hc11 (by omega)).trans ((hs11 (by decide)).trans (x0.trans hw9))⟩
    ·exact (hc11 (by omega)).trans ((hs11 (by decide)).trans (x1.trans q1))
    ·exact (hc11 (by omega)).trans ((hs11 (by decide)).trans (x2.trans q2))
    ·rw [hrm, hown]; exact (hc11 (by omega)).trans (hss x3)
    ·rw [List.length_append]; exact Z3 ..
    ·simp; omega
    ·exact Zgu hrx (by omega) (by omega)
  ·have e2 : ∀ Z, hget (hset H [2] Z) [2] = some Z := fun Z => hss g2
   have e0 : ∀ Z, hget (hset H [2] Z) [0] = hget H [0] := fun Z => hs11 (by decide)
   have hsh : ∀ b, (ownV b (row.map iV)).shut = .lst (row.map iV) := fun b => Xp b _
   simp -implicitDefEqProofs only [go_sem, a6, a7, hT, hil, g3, g2, e2, e0, hsh, Try.results24]
   exact ⟨⟨tk, ht, row, fl⟩, dW H, ⟨⟨r1.1, by show tk <= k; omega⟩, r2, by show row.length <= _; omega, hrx.2, fun x hx => by have := hrx.1 x hx; omega⟩, rfl, Z07 hd⟩
 obtain ⟨s, w', hg, hd⟩ := key
 refine ⟨s, w', hg, fun b st hb => ?_⟩
 exact Z67 (v := bkV s) Zmt Zms hb rfl (by simp only [vacV, renV, renVs, Xs, Xt, Xu, Xv, Xw]) rfl rfl rfl rfl (by rfl) (by simp only [bkV, renV, renVs, fl_i]) hd
end Go.Proofs.Ytgnpnfkncbnjnaa
namespace Go.Proofs.Ytgnpnfkncbnjnaa
open Go Go.Am
theorem Yj {r : Rg} {m : Int} : spansE r m = 0 ↔ RgG m r := by
 unfold spansE
 constructor
 ·intro h
  split at h
  ·exact absurd h (by decide)
  ·split at h
   ·exact absurd h (by decide)
   ·split at h
    ·exact absurd h (by decide)
    ·exact ⟨by omega, by omega, by omega⟩
 ·rintro ⟨h1, h2, h3⟩
  rw [if_neg (by omega), if_neg (by omega), if_neg (by omega)]
theorem Yg {n lo hi : Int} : fromB n lo hi = true ↔ lo <= n /\ n <= hi := by unfold fromB; rw [decide_eq_true_iff]
theorem Yq {α : Type} {f : α -> Int} : ∀ {l : List α}, firstE f l = 0 ↔ ∀ a ∈ l, f a = 0
 | [] => ⟨(fun _ _ h => nomatch h), fun _ => rfl⟩
 | a :: r => by
  unfold firstE
  by_cases h : f a = 0
  ·rw [if_pos h, Yq]; simp [h]
  ·rw [if_neg h]; simp [h]
theorem Z6c {n a most : Int} {r : Rg} : atE n a r most = 0 ↔ (0 <= a /\ a < n) /\ RgG most r := by
 unfold atE
 by_cases h : fromB a 0 (n - 1) = true
 ·rw [if_pos h, Yj]
  rw [Yg] at h
  constructor
  ·intro g; exact ⟨by omega, g⟩
  ·exact And.right
 ·rw [if_neg h]
  rw [Yg] at h
  constructor
  ·intro g; exact absurd g (by decide)
  ·rintro ⟨g, _⟩; exact absurd (show 0 <= a /\ a <= n - 1 by omega) h
structure PipB (n : Int) (p : Pip) : Prop where
 a : 0 <= p.a /\ p.a < n
 b : 0 <= p.b /\ p.b < n
 ab : p.a ≠ p.b
 out : RgG 1000000 p.out
 back : RgG 1000000 p.back
theorem Zf0 {n : Int} {p : Pip} : pipE n p = 0 ↔ PipB n p := by
 unfold pipE
 by_cases h : fromB p.a 0 (n - 1) = true /\ fromB p.b 0 (n - 1) = true
 ·rw [if_pos h]
  rw [Yg, Yg] at h
  by_cases e : p.a = p.b
  ·rw [if_pos e]
   constructor
   ·intro g; exact absurd g (by decide)
   ·intro g; exact absurd e g.ab
  ·rw [if_neg e]
   by_cases g : spansE p.out 1000000 = 0
   ·rw [if_pos g, Yj]
    exact ⟨fun k => ⟨by omega, by omega, e, Yj.1 g, k⟩, fun k => k.back⟩
   ·rw [if_neg g]
    exact ⟨fun k => absurd k g, fun k => absurd (Yj.2 k.out) g⟩
 ·rw [if_neg h]
  constructor
  ·intro g; exact absurd g (by decide)
  ·intro g; exact absurd ⟨Yg.2 (by have := g.a; omega), Yg.2 (by have := g.b; omega)⟩ h
def BandsB : Bool -> Int -> List Rel -> Prop
 | _, _, [] => True
 | first, last, b :: r => (0 <= b.frm /\ b.frm <= 2000) /\ (first = false -> last < b.frm) /\ RgG 1000000 b.rate /\ BandsB false b.frm r
theorem Z8w : ∀ {l : List Rel} {i : Nat} {last : Int}, bandsE i last l = 0 ↔ BandsB (decide (i = 0)) last l
 | [], _, _ => ⟨fun _ => trivial, fun _ => rfl⟩
 | b :: r, i, last => by
  unfold bandsE BandsB
  by_cases h : fromB b.frm 0 2000 = true
  ·rw [if_pos h]
   rw [Yg] at h
   by_cases e : 0 < i /\ b.frm <= last
   ·rw [if_pos e]
    constructor
    ·intro g; exact absurd g (by decide)
    ·rintro ⟨_, g, _⟩
     have := g (by simp; omega)
     omega
   ·rw [if_neg e]
    by_cases g : spansE b.rate 1000000 = 0
    ·rw [if_pos g, Z8w]
     rw [show decide (i + 1 = 0) = false by simp]
     constructor
     ·intro k; exact ⟨h, fun q => by simp at q; omega, Yj.1 g, k⟩
     ·rintro ⟨_, _, _, k⟩; exact k
    ·rw [if_neg g]
     constructor
     ·intro k; exact absurd k g
     ·rintro ⟨_, _, k, _⟩; exact absurd (Yj.2 k) g
  ·rw [if_neg h]
   constructor
   ·intro g; exact absurd g (by decide)
   ·rintro ⟨k, _⟩; exact absurd (Yg.2 k) h
structure VesB (x : Ves) : Prop where
 vol : 1 <= x.vol /\ x.vol <= 1000000
 free : RgG 1000000000 x.free
 bound : RgG 1000000000 x.bound
 len : x.bands.length <= 8
 bands : BandsB true 0 x.bands
theorem Zf1 {x : Ves} : vesE x = 0 ↔ VesB x := by
 unfold vesE
 by_cases h : fromB x.vol 1 1000000 = true
 ·rw [if_pos h]
  rw [Yg] at h
  by_cases h1 : spansE x.free 1000000000 = 0
  ·rw [if_pos h1]
   by_cases h2 : spansE x.bound 1000000000 = 0
   ·rw [if_pos h2]
    by_cases h3 : 8 < x.bands.length
    ·rw [if_pos h3]
     constructor
     ·intro g; exact absurd g (by decide)
     ·intro g; have := g.len; omega
    ·rw [if_neg h3, Z8w]
     exact ⟨fun g => ⟨h, Yj.1 h1, Yj.1 h2, by omega, g⟩, fun g => g.bands⟩
   ·rw [if_neg h2]
    exact ⟨fun g => absurd g h2, fun g => absurd (Yj.2 g.bound) h2⟩
  ·rw [if_neg h1]
   exact ⟨fun g => absurd g h1, fun g => absurd (Yj.2 g.free) h1⟩
 ·rw [if_neg h]
  constructor
  ·intro g; exact absurd g (by decide)
  ·intro g; exact absurd (Yg.2 g.vol) h
def sumI {α : Type} (f : α -> Int) : List α -> Int
 | [] => 0
 | a :: r => f a + sumI f r
theorem Zp {α : Type} (f : α -> Int) (a : α) (r : List α) : sumI f (a :: r) = f a + sumI f r := rfl
theorem Z3r {α : Type} (f : α -> Int) : sumI f [] = 0 := rfl
theorem X2 {α : Type} {f : α -> Int} : ∀ {l : List α}, (∀ a ∈ l, 0 <= f a) -> 0 <= sumI f l
 | [], _ => Int.le_refl _
 | a :: r, h => by have := X2 (l := r) fun b hb => h b (List.mem_cons_of_mem _ hb); have := h a List.mem_cons_self; simp only [Zp]; omega
theorem Z53 {α : Type} {f g : α -> Int} : ∀ {l : List α}, (∀ a ∈ l, f a <= g a) -> sumI f l <= sumI g l
 | [], _ => Int.le_refl _
 | a :: r, h => by have := Z53 (l := r) fun b hb => h b (List.mem_cons_of_mem _ hb); have := h a List.mem_cons_self; simp only [Zp]; omega
theorem Z2f {α : Type} {f : α -> Int} {q : Int} : ∀ {l : List α}, (∀ a ∈ l, f a <= q) -> sumI f l <= q * l.length
 | [], _ => by simp [sumI]
 | a :: r, h => by
  have h1 := Z2f (l := r) fun b hb => h b (List.mem_cons_of_mem _ hb)
  have h2 := h a List.mem_cons_self
  rw [Zp, List.length_cons, Int.natCast_add, Int.mul_add]; simp only [Int.natCast_one, Int.mul_one]; omega
def openP (shut : List Int) : Nat -> List Pip -> List Pip
 | _, [] => []
 | k, p :: r => if (k : Int) ∈ shut then openP shut (k + 1) r else p :: openP shut (k + 1) r
theorem Z0r {shut : List Int} : ∀ {k : Nat} {l : List Pip} {p : Pip}, p ∈ openP shut k l -> p ∈ l
 | k, [], p, h => h
 | k, q :: r, p, h => by
  unfold openP at h
  split at h
  ·exact List.mem_cons_of_mem _ (Z0r h)
  ·rcases List.mem_cons.1 h with rfl | h
   ·exact List.mem_cons_self
   ·exact List.mem_cons_of_mem _ (Z0r h)
theorem Z54 {shut : List Int} : ∀ (k : Nat) (l : List Pip), (openP shut k l).length <= l.length
 | k, [] => Nat.le_refl _
 | k, q :: r => by
  unfold openP
  have := Z54 (shut := shut) (k + 1) r
  split
  ·rw [List.length_cons]; omega
  ·rw [List.length_cons, List.length_cons]; omega
theorem Z55 : ∀ (k : Nat) (l : List Pip), openP [] k l = l
 | k, [] => rfl
 | k, q :: r => by unfold openP; rw [if_neg (by simp), Z55]
theorem Z8x {shut : List Int} {f : Pip -> Int} : ∀ {k : Nat} {l : List Pip}, (∀ p ∈ l, 0 <= f p) -> sumI f (openP shut k l) <= sumI f l
 | k, [], _ => Int.le_refl _
 | k, q :: r, h => by
  have h1 := Z8x (shut := shut) (k := k + 1) (l := r) fun b hb => h b (List.mem_cons_of_mem _ hb)
  have h2 := h q List.mem_cons_self
  unfold openP
  split
  ·simp only [Zp]; omega
  ·simp only [Zp]; omega
def pLo (x : Int) (p : Pip) : Int := (if p.a = x then p.out.lo else 0) + (if p.b = x then p.back.lo else 0)
def pHi (x : Int) (p : Pip) : Int := (if p.a = x then p.out.hi else 0) + (if p.b = x then p.back.hi else 0)
def mLo (x : Int) (p : Pmp) : Int := if p.at' = x then p.part.lo else 0
def mHi (x : Int) (p : Pmp) : Int := if p.at' = x then p.part.hi else 0
theorem pb {n : Int} {p : Pip} (h : PipB n p) (x : Int) : 0 <= pLo x p /\ pLo x p <= pHi x p /\ pHi x p <= 2000000 := by
 have := h.out; have := h.back
 obtain ⟨a1, a2, a3⟩ := h.out
 obtain ⟨b1, b2, b3⟩ := h.back
 unfold pLo pHi
 split <;> split <;> omega
theorem mb {p : Pmp} (h : RgG 1000000 p.part) (x : Int) : 0 <= mLo x p /\ mLo x p <= mHi x p /\ mHi x p <= 1000000 := by
 obtain ⟨a1, a2, a3⟩ := h
 unfold mLo mHi
 split <;> omega
theorem Jf {a b : Rg} (h1 : 0 <= a.lo) (h2 : 0 <= a.hi) (h3 : 0 <= b.lo) (h4 : 0 <= b.hi) (h5 : a.lo + b.lo <= 9223372036854775807) (h6 : a.hi + b.hi <= 9223372036854775807) : plusR a b = ⟨a.lo + b.lo, a.hi + b.hi⟩ := by
 unfold plusR
 rw [Z5 (by omega) h5, Z5 (by omega) h6]
theorem Z32 {n x : Int} {shut : List Int} : ∀ {l : List Pip} {k : Nat} {acc : Rg}, (∀ p ∈ l, PipB n p) -> 0 <= acc.lo -> acc.lo <= acc.hi -> acc.hi + 2000000 * l.length <= 1000000000000 -> outP x shut k acc l = ⟨acc.lo + sumI (pLo x) (openP shut k l), acc.hi + sumI (pHi x) (openP shut k l)⟩
 | [], k, acc, _, _, _, _ => by simp [outP, openP, sumI]
 | p :: r, k, acc, h, h1, h2, h3 => by
  have hr : ∀ q ∈ r, PipB n q := fun q hq => h q (List.mem_cons_of_mem _ hq)
  have hp := h p List.mem_cons_self
  obtain ⟨a1, a2, a3⟩ := hp.out
  obtain ⟨b1, b2, b3⟩ := hp.back
  rw [List.length_cons, Int.natCast_add] at h3
  simp only [Int.natCast_one] at h3
  unfold outP openP
  by_cases c : (k : Int) ∈ shut
  ·rw [if_pos c, if_pos c]
   exact Z32 hr h1 h2 (by omega)
  ·rw [if_neg c, if_neg c]
   have e1 : plusR acc p.out = ⟨acc.lo + p.out.lo, acc.hi + p.out.hi⟩ := Jf h1 (by omega) a1 (by omega) (by omega) (by omega)
   by_cases c1 : p.a = x
   ·by_cases c2 : p.b = x
    ·rw [if_pos c2, if_pos c1, e1]
     rw [Jf (by show 0 <= acc.lo + p.out.lo; omega) (by show 0 <= acc.hi + p.out.hi; omega) b1 (by omega) (by show acc.lo + p.out.lo + _ <= _; omega) (by show acc.hi + p.out.hi + _ <= _; omega)]
     rw [Z32 hr (by show 0 <= acc.lo + p.out.lo + p.back.lo; omega) (by show acc.lo + p.out.lo + p.back.lo <= acc.hi + p.out.hi + p.back.hi; omega) (by show acc.hi + p.out.hi + p.back.hi + _ <= _; omega)]
     simp only [Zp, pLo, pHi]
     rw [if_pos c1, if_pos c2, if_pos c1, if_pos c2]
     congr 1 <;> (try simp only) <;> omega
    ·rw [if_neg c2, if_pos c1, e1]
     rw [Z32 hr (by show 0 <= acc.lo + p.out.lo; omega) (by show acc.lo + p.out.lo <= acc.hi + p.out.hi; omega) (by show acc.hi + p.out.hi + _ <= _; omega)]
     simp only [Zp, pLo, pHi]
     rw [if_pos c1, if_neg c2, if_pos c1, if_neg c2]
     congr 1 <;> (try simp only) <;> omega
   ·by_cases c2 : p.b = x
    ·rw [if_pos c2, if_neg c1]
     rw [Jf h1 (by omega) b1 (by omega) (by omega) (by omega)]
     rw [Z32 hr (by show 0 <= acc.lo + p.back.lo; omega) (by show acc.lo + p.back.lo <= acc.hi + p.back.hi; omega) (by show acc.hi + p.back.hi + _ <= _; omega)]
     simp only [Zp, pLo, pHi]
     rw [if_neg c1, if_pos c2, if_neg c1, if_pos c2]
     congr 1 <;> (try simp only) <;> omega
    ·rw [if_neg c2, if_neg c1]
     rw [Z32 hr h1 h2 (by omega)]
     simp only [Zp, pLo, pHi]
     rw [if_neg c1, if_neg c2, if_neg c1, if_neg c2]
     congr 1 <;> (try simp only) <;> omega
theorem Za3 {x : Int} : ∀ {l : List Pmp} {acc : Rg}, (∀ p ∈ l, RgG 1000000 p.part) -> 0 <= acc.lo -> acc.lo <= acc.hi -> acc.hi + 1000000 * l.length <= 1000000000000 -> outM x acc l = ⟨acc.lo + sumI (mLo x) l, acc.hi + sumI (mHi x) l⟩
 | [], acc, _, _, _, _ => by simp [outM, sumI]
 | p :: r, acc, h, h1, h2, h3 => by
  have hr : ∀ q ∈ r, RgG 1000000 q.part := fun q hq => h q (List.mem_cons_of_mem _ hq)
  obtain ⟨a1, a2, a3⟩ := h p List.mem_cons_self
  rw [List.length_cons, Int.natCast_add] at h3
  simp only [Int.natCast_one] at h3
  unfold outM
  by_cases c1 : p.at' = x
  ·rw [if_pos c1, Jf h1 (by omega) a1 (by omega) (by omega) (by omega)]
   rw [Za3 hr (by show 0 <= acc.lo + p.part.lo; omega) (by show acc.lo + p.part.lo <= acc.hi + p.part.hi; omega) (by show acc.hi + p.part.hi + _ <= _; omega)]
   simp only [Zp, mLo, mHi]
   rw [if_pos c1, if_pos c1]
   congr 1 <;> (try simp only) <;> omega
  ·rw [if_neg c1]
   rw [Za3 hr h1 h2 (by omega)]
   simp only [Zp, mLo, mHi]
   rw [if_neg c1, if_neg c1]
   congr 1 <;> (try simp only) <;> omega
def outLo (v : Vac) (x : Int) (ps : List Pip) : Int := sumI (pLo x) ps + sumI (mLo x) v.pumps
def outHi (v : Vac) (x : Int) (ps : List Pip) : Int := sumI (pHi x) ps + sumI (mHi x) v.pumps
structure VB (v : Vac) : Prop where
 n1 : 1 <= v.vessels.length
 n8 : v.vessels.length <= 8
 p16 : v.pipes.length <= 16
 m8 : v.pumps.length <= 8
 l8 : v.leaks.length <= 8
 g8 : v.getters.length <= 8
 ves : ∀ x ∈ v.vessels, VesB x
 pip : ∀ p ∈ v.pipes, PipB v.vessels.length p
 pmp : ∀ q ∈ v.pumps, (0 <= q.at' /\ q.at' < v.vessels.length) /\ RgG 1000000 q.part
 inl : ∀ q ∈ v.leaks, (0 <= q.at' /\ q.at' < v.vessels.length) /\ RgG 100000 q.gas
 gtr : ∀ q ∈ v.getters, ((0 <= q.at' /\ q.at' < v.vessels.length) /\ RgG 1000000 q.part) /\ RgG 1000000000 q.room
 out : ∀ i : Nat, i < v.vessels.length -> outHi v i v.pipes <= 1000000
theorem Zf2 {v : Vac} {n x : Int} {shut : List Int} (h1 : ∀ p ∈ v.pipes, PipB n p) (h2 : ∀ q ∈ v.pumps, RgG 1000000 q.part) (h3 : v.pipes.length <= 16) (h4 : v.pumps.length <= 8) : outR v x shut = ⟨outLo v x (openP shut 0 v.pipes), outHi v x (openP shut 0 v.pipes)⟩ := by
 unfold outR
 have hm : ∀ p ∈ openP shut 0 v.pipes, PipB n p := fun p hp => h1 p (Z0r hp)
 have b1 : 0 <= sumI (pLo x) (openP shut 0 v.pipes) := X2 fun p hp => (pb (hm p hp) x).1
 have b2 : sumI (pLo x) (openP shut 0 v.pipes) <= sumI (pHi x) (openP shut 0 v.pipes) := Z53 fun p hp => (pb (hm p hp) x).2.1
 have b3 : sumI (pHi x) (openP shut 0 v.pipes) <= 2000000 * (openP shut 0 v.pipes).length := Z2f fun p hp => (pb (hm p hp) x).2.2
 have b4 := Z54 (shut := shut) 0 v.pipes
 rw [Z32 h1 (Int.le_refl _) (Int.le_refl _) (by show 0 + _ <= _; omega)]
 rw [Za3 h2 (by show 0 <= 0 + _; omega) (by show 0 + _ <= 0 + _; omega) (by show 0 + _ + _ <= _; omega)]
 unfold outLo outHi
 congr 1 <;> (try simp only) <;> omega
theorem VB.outR_eq {v : Vac} (h : VB v) (x : Int) (shut : List Int) : outR v x shut = ⟨outLo v x (openP shut 0 v.pipes), outHi v x (openP shut 0 v.pipes)⟩ :=
 Zf2 h.pip (fun q hq => (h.pmp q hq).2) h.p16 h.m8
theorem Z33 {v : Vac} : ∀ {k i : Nat}, outB v i k = false ↔ ∀ j : Nat, i <= j -> j < i + k -> (outR v j []).hi <= 1000000
 | 0, i => ⟨fun _ j h1 h2 => absurd h2 (by omega), fun _ => rfl⟩
 | k + 1, i => by
  unfold outB
  rw [Bool.or_eq_false_iff, Z33]
  constructor
  ·rintro ⟨h1, h2⟩ j h3 h4
   rw [decide_eq_false_iff_not] at h1
   by_cases e : j = i
   ·subst e; omega
   ·exact h2 j (by omega) (by omega)
  ·intro h
   exact ⟨by rw [decide_eq_false_iff_not]; have := h i (Nat.le_refl _) (by omega); omega, fun j h1 h2 => h j (by omega) (by omega)⟩
theorem Z2g {v : Vac} : checkE v = 0 ↔ VB v := by
 constructor
 ·intro h
  obtain ⟨h1, h2, h3, h4, h5, h6⟩ := Zb6 h
  unfold checkE at h
  rw [if_neg (by omega)] at h
  split at h
  ·exact absurd h (by decide)
  ·split at h
   ·rename_i g1
    split at h
    ·rename_i g2
     unfold partsE at g2
     split at g2
     ·rename_i p1
      split at g2
      ·rename_i p2
       split at g2
       ·rename_i p3
        have q1 := fun p hp => Zf0.1 (Yq.1 p1 p hp)
        have q2 := fun p hp => Z6c.1 (Yq.1 p2 p hp)
        have q3 := fun p hp => Z6c.1 (Yq.1 p3 p hp)
        have q4 : ∀ p ∈ v.getters, ((0 <= p.at' /\ p.at' < v.vessels.length) /\ RgG 1000000 p.part) /\ RgG 1000000000 p.room := fun p hp => by
         have := Yq.1 g2 p hp
         unfold getE at this
         split at this
         ·rename_i k1; exact ⟨Z6c.1 k1, Yj.1 this⟩
         ·rename_i k1; exact absurd this k1
        refine ⟨h1, h2, h3, h4, h5, h6, fun x hx => Zf1.1 (Yq.1 g1 x hx), q1, q2, q3, q4, fun i hi => ?_⟩
        split at h
        ·exact absurd h (by decide)
        ·rename_i k1
         have k2 := Z33.1 (Bool.not_eq_true _ ▸ k1) i (Nat.zero_le _) (by omega)
         rw [Zf2 q1 (fun q hq => (q2 q hq).2) h3 h4, Z55] at k2
         exact k2
       ·rename_i p3; exact absurd g2 p3
      ·rename_i p2; exact absurd g2 p2
     ·rename_i p1; exact absurd g2 p1
    ·rename_i g2; exact absurd h g2
   ·rename_i g1; exact absurd h g1
 ·intro h
  have h0 := h.n1; have h1 := h.n8; have h2 := h.p16; have h3 := h.m8; have h4 := h.l8; have h5 := h.g8
  unfold checkE
  rw [if_neg (by omega), if_neg (by unfold overB; simp only [Bool.or_eq_true, decide_eq_true_eq]; omega), if_pos (Yq.2 fun x hx => Zf1.2 (h.ves x hx))]
  have hp : partsE v = 0 := by
   unfold partsE
   rw [if_pos (Yq.2 fun p hp => Zf0.2 (h.pip p hp)), if_pos (Yq.2 fun p hp => Z6c.2 (h.pmp p hp)), if_pos (Yq.2 fun p hp => Z6c.2 (h.inl p hp))]
   refine Yq.2 fun p hp => ?_
   unfold getE
   rw [if_pos (Z6c.2 (h.gtr p hp).1)]
   exact Yj.2 (h.gtr p hp).2
  rw [if_pos hp, if_neg]
  rw [Bool.not_eq_true]
  refine Z33.2 fun j _ hj => ?_
  rw [h.outR_eq, Z55]
  exact h.out j (by omega)
end Go.Proofs.Ytgnpnfkncbnjnaa
namespace Go.Proofs.Ytgnpnfkncbnjnaa
open Go Go.Am
def dn (n q : Int) : Int := n * q / 1000000
def ups (n q : Int) : Int := (n * q + 999999) / 1000000
theorem Z8y {n q N : Int} (h0 : 0 <= n) (h1 : n <= N) (q0 : 0 <= q) (q1 : q <= 1000000) : 0 <= n * q /\ n * q <= N * 1000000 :=
 ⟨Int.mul_nonneg h0 q0, Int.mul_le_mul h1 q1 q0 (by omega)⟩
theorem Z6d {n q : Int} (h0 : 0 <= n) (q0 : 0 <= q) (q1 : q <= 1000000) : 0 <= n * q /\ n * q <= n * 1000000 := Z8y h0 (Int.le_refl _) q0 q1
theorem Zci {n q : Int} (h0 : 0 <= n) (q0 : 0 <= q) (q1 : q <= 1000000) : 0 <= dn n q /\ dn n q <= n := by
 have := Z6d h0 q0 q1
 unfold dn
 omega
theorem Z8z {n q : Int} (h0 : 0 <= n) (q0 : 0 <= q) (q1 : q <= 1000000) : 0 <= ups n q /\ ups n q <= n := by
 have := Z6d h0 q0 q1
 unfold ups
 omega
theorem Zbe {n n' q q' : Int} (h0 : 0 <= n) (h1 : n <= n') (q0 : 0 <= q) (q1 : q <= q') : dn n q <= ups n' q' := by
 have : n * q <= n' * q' := Int.mul_le_mul h1 q1 q0 (by omega)
 unfold dn ups
 omega
theorem Z3s {n q : Int} (h0 : 0 <= n) (h1 : n <= 5000000000000) (q0 : 0 <= q) (q1 : q <= 1000000) : downN n q = dn n q := by
 have hb := Z8y h0 h1 q0 q1
 have hd := Zci h0 q0 q1
 unfold downN
 rw [Z5 (x := n * q) (by omega) (by omega), Int.tdiv_eq_ediv_of_nonneg hb.1]
 unfold dn at *
 exact Z5 (by omega) (by omega)
theorem Zbf {n q : Int} (h0 : 0 <= n) (h1 : n <= 5000000000000) (q0 : 0 <= q) (q1 : q <= 1000000) : upN n q = ups n q := by
 have hb := Z8y h0 h1 q0 q1
 have hd := Z8z h0 q0 q1
 unfold upN
 rw [Z5 (x := n * q) (by omega) (by omega), Z5 (x := n * q + 1000000) (by omega) (by omega), Z5 (x := n * q + 1000000 - 1) (by omega) (by omega)]
 rw [show n * q + 1000000 - 1 = n * q + 999999 by omega, Int.tdiv_eq_ediv_of_nonneg (by omega)]
 unfold ups at *
 exact Z5 (by omega) (by omega)
def Row (m : Int) (F : List Rg) : Prop := ∀ r ∈ F, RgG m r
theorem Row.at {m : Int} {F : List Rg} (h : Row m F) (hm : 0 <= m) (a : Int) : RgG m (atR F a) := by
 unfold atR
 cases e : F[a.toNat]? with
 | none => exact Zgn m hm
 | some r => exact h r (List.mem_of_getElem? e)
theorem RgG.mono {m m' : Int} {r : Rg} (h : RgG m r) (hm : m <= m') : RgG m' r := ⟨h.lo, h.le, Int.le_trans h.hi hm⟩
theorem Zf3 {h : Int} : ∀ {l : List Rel} {q : Rg} {f : Bool} {last : Int}, RgG 1000000 q -> BandsB f last l -> RgG 1000000 (rateP h q l)
 | [], q, _, _, hq, _ => hq
 | b :: r, q, f, last, hq, ⟨_, _, h3, h4⟩ => by
  unfold rateP
  split
  ·exact hq
  ·exact Zf3 h3 h4
theorem Zgv {h : Int} {x : Ves} {f b : Rg} (hx : VesB x) (hf : RgG 68719476736 f) (hb : RgG 68719476736 b) : relFr h x f b = ⟨f.lo + dn b.lo (rateP h ⟨0, 0⟩ x.bands).lo, f.hi + ups b.hi (rateP h ⟨0, 0⟩ x.bands).hi⟩ /\ RgG 137438953472 (relFr h x f b) := by
 obtain ⟨q1, q2, q3⟩ := Zf3 (h := h) (Zgn 1000000 (by decide)) hx.bands
 unfold relFr
 generalize rateP h ⟨0, 0⟩ x.bands = q at *
 obtain ⟨f1, f2, f3⟩ := hf
 obtain ⟨b1, b2, b3⟩ := hb
 have d1 := Zci b1 q1 (by omega)
 have d2 := Z8z (n := b.hi) (q := q.hi) (by omega) (by omega) q3
 have d3 := Zbe b1 b2 q1 q2
 rw [Z3s b1 (by omega) q1 (by omega), Zbf (by omega) (by omega) (by omega) q3]
 rw [Jf f1 (by omega) d1.1 d2.1 (by show f.lo + dn _ _ <= _; omega) (by show f.hi + ups _ _ <= _; omega)]
 exact ⟨rfl, by show 0 <= f.lo + dn _ _; omega, by show f.lo + dn _ _ <= f.hi + ups _ _; omega, by show f.hi + ups _ _ <= _; omega⟩
theorem Zgw {h : Int} {x : Ves} {b : Rg} (hx : VesB x) (hb : RgG 68719476736 b) : relBo h x b = ⟨dn b.lo (1000000 - (rateP h ⟨0, 0⟩ x.bands).hi), ups b.hi (1000000 - (rateP h ⟨0, 0⟩ x.bands).lo)⟩ /\ RgG 68719476736 (relBo h x b) /\ (relBo h x b).lo <= b.lo /\ (relBo h x b).hi <= b.hi := by
 obtain ⟨q1, q2, q3⟩ := Zf3 (h := h) (Zgn 1000000 (by decide)) hx.bands
 unfold relBo
 generalize rateP h ⟨0, 0⟩ x.bands = q at *
 obtain ⟨b1, b2, b3⟩ := hb
 rw [Z5 (x := 1000000 - q.hi) (by omega) (by omega), Z5 (x := 1000000 - q.lo) (by omega) (by omega)]
 have d1 := Zci (n := b.lo) (q := 1000000 - q.hi) b1 (by omega) (by omega)
 have d2 := Z8z (n := b.hi) (q := 1000000 - q.lo) (by omega) (by omega) (by omega)
 have d3 := Zbe (n := b.lo) (n' := b.hi) (q := 1000000 - q.hi) (q' := 1000000 - q.lo) b1 b2 (by omega) (by omega)
 rw [Z3s b1 (by omega) (by omega) (by omega), Zbf (by omega) (by omega) (by omega) (by omega)]
 exact ⟨rfl, ⟨d1.1, d3, by show ups _ _ <= _; omega⟩, d1.2, d2.2⟩
theorem Zbg : ∀ {l : List Inl} {m : Int}, (∀ q ∈ l, RgG 100000 q.gas) -> 0 <= m -> m <= 68719476736 -> m <= leakF m l /\ leakF m l <= 68719476736
 | [], m, _, _, h => ⟨Int.le_refl _, h⟩
 | q :: r, m, hg, h0, h1 => by
  obtain ⟨g1, g2, g3⟩ := hg q List.mem_cons_self
  unfold leakF
  rw [Z5 (x := m + q.gas.hi) (by omega) (by omega)]
  have hm : m <= min2 68719476736 (m + q.gas.hi) /\ min2 68719476736 (m + q.gas.hi) <= 68719476736 := by unfold min2; split <;> omega
  have := Zbg (l := r) (m := min2 68719476736 (m + q.gas.hi)) (fun q hq => hg q (List.mem_cons_of_mem _ hq)) (by omega) hm.2
  omega
def fLo (F : List Rg) (x : Int) (p : Pip) : Int := (if x = p.b then (atR F p.a).lo * p.out.lo else 0) + (if x = p.a then (atR F p.b).lo * p.back.lo else 0)
def fHi (F : List Rg) (x : Int) (p : Pip) : Int := (if x = p.b then (atR F p.a).hi * p.out.hi else 0) + (if x = p.a then (atR F p.b).hi * p.back.hi else 0)
theorem Z56 {f r : Rg} (hf : RgG 137438953472 f) (hr : RgG 1000000 r) : mulR f r = ⟨f.lo * r.lo, f.hi * r.hi⟩ /\ RgG 137438953472000000 (mulR f r) := by
 obtain ⟨f1, f2, f3⟩ := hf
 obtain ⟨r1, r2, r3⟩ := hr
 have b1 := Z8y f1 (show f.lo <= 137438953472 by omega) r1 (by omega)
 have b2 := Z8y (show 0 <= f.hi by omega) f3 (show 0 <= r.hi by omega) r3
 have b3 : f.lo * r.lo <= f.hi * r.hi := Int.mul_le_mul f2 r2 r1 (by omega)
 unfold mulR
 rw [Z5 (x := f.lo * r.lo) (by omega) (by omega), Z5 (x := f.hi * r.hi) (by omega) (by omega)]
 exact ⟨rfl, b1.1, b3, b2.2⟩
theorem fb {n : Int} {F : List Rg} {p : Pip} (hF : Row 137438953472 F) (hp : PipB n p) (x : Int) : 0 <= fLo F x p /\ fLo F x p <= fHi F x p /\ fHi F x p <= 137438953472000000 := by
 obtain ⟨e1, a1, a2, a3⟩ := Z56 (hF.at (by decide) p.a) hp.out
 obtain ⟨e2, b1, b2, b3⟩ := Z56 (hF.at (by decide) p.b) hp.back
 rw [e1] at a1 a2 a3
 rw [e2] at b1 b2 b3
 simp only at a1 a2 a3 b1 b2 b3
 have := hp.ab
 unfold fLo fHi
 split
 ·rw [if_neg (by omega), if_neg (by omega)]; omega
 ·split <;> omega
theorem Z2h {n x : Int} {F : List Rg} {shut : List Int} (hF : Row 137438953472 F) : ∀ {l : List Pip} {k : Nat} {acc : Rg}, (∀ p ∈ l, PipB n p) -> 0 <= acc.lo -> acc.lo <= acc.hi -> acc.hi + 137438953472000000 * l.length <= 9223372036854775807 -> flowS F shut x k acc l = ⟨acc.lo + sumI (fLo F x) (openP shut k l), acc.hi + sumI (fHi F x) (openP shut k l)⟩
 | [], k, acc, _, _, _, _ => by simp [flowS, openP, sumI]
 | p :: r, k, acc, h, h1, h2, h3 => by
  have hr : ∀ q ∈ r, PipB n q := fun q hq => h q (List.mem_cons_of_mem _ hq)
  have hp := h p List.mem_cons_self
  obtain ⟨e1, a1, a2, a3⟩ := Z56 (hF.at (by decide) p.a) hp.out
  obtain ⟨e2, b1, b2, b3⟩ := Z56 (hF.at (by decide) p.b) hp.back
  rw [e1] at a1 a2 a3
  rw [e2] at b1 b2 b3
  simp only at a1 a2 a3 b1 b2 b3
  have hab := hp.ab
  rw [List.length_cons, Int.natCast_add] at h3
  simp only [Int.natCast_one] at h3
  unfold flowS openP
  by_cases c : (k : Int) ∈ shut
  ·rw [if_pos c, if_pos c]
   exact Z2h hF hr h1 h2 (by omega)
  ·rw [if_neg c, if_neg c, e1, e2]
   by_cases c1 : x = p.a
   ·have c2 : ¬ x = p.b := by omega
    rw [if_pos c1, if_neg c2]
    rw [Jf h1 (by omega) b1 (by show 0 <= (atR F p.b).hi * _; omega) (by show acc.lo + (atR F p.b).lo * _ <= _; omega) (by show acc.hi + (atR F p.b).hi * _ <= _; omega)]
    rw [Z2h hF hr (by show 0 <= acc.lo + (atR F p.b).lo * _; omega) (by show acc.lo + (atR F p.b).lo * _ <= acc.hi + (atR F p.b).hi * _; omega) (by show acc.hi + (atR F p.b).hi * _ + _ <= _; omega)]
    simp only [Zp, fLo, fHi]
    rw [if_neg c2, if_pos c1, if_neg c2, if_pos c1]
    congr 1 <;> (try simp only) <;> omega
   ·rw [if_neg c1]
    by_cases c2 : x = p.b
    ·rw [if_pos c2]
     rw [Jf h1 (by omega) a1 (by show 0 <= (atR F p.a).hi * _; omega) (by show acc.lo + (atR F p.a).lo * _ <= _; omega) (by show acc.hi + (atR F p.a).hi * _ <= _; omega)]
     rw [Z2h hF hr (by show 0 <= acc.lo + (atR F p.a).lo * _; omega) (by show acc.lo + (atR F p.a).lo * _ <= acc.hi + (atR F p.a).hi * _; omega) (by show acc.hi + (atR F p.a).hi * _ + _ <= _; omega)]
     simp only [Zp, fLo, fHi]
     rw [if_pos c2, if_neg c1, if_pos c2, if_neg c1]
     congr 1 <;> (try simp only) <;> omega
    ·rw [if_neg c2]
     rw [Z2h hF hr h1 h2 (by omega)]
     simp only [Zp, fLo, fHi]
     rw [if_neg c2, if_neg c1, if_neg c2, if_neg c1]
     congr 1 <;> (try simp only) <;> omega
def floLo (v : Vac) (ps : List Pip) (F : List Rg) (x : Int) : Int := (atR F x).lo * (1000000 - outHi v x ps) + sumI (fLo F x) ps
def floHi (v : Vac) (ps : List Pip) (F : List Rg) (x : Int) : Int := (atR F x).hi * (1000000 - outLo v x ps) + sumI (fHi F x) ps
theorem VB.outs {v : Vac} (h : VB v) (shut : List Int) {i : Nat} (hi : i < v.vessels.length) : 0 <= outLo v i (openP shut 0 v.pipes) /\ outLo v i (openP shut 0 v.pipes) <= outHi v i (openP shut 0 v.pipes) /\ outHi v i (openP shut 0 v.pipes) <= 1000000 := by
 have hm : ∀ p ∈ openP shut 0 v.pipes, PipB v.vessels.length p := fun p hp => h.pip p (Z0r hp)
 have b1 : 0 <= sumI (pLo i) (openP shut 0 v.pipes) := X2 fun p hp => (pb (hm p hp) i).1
 have b2 : sumI (pLo i) (openP shut 0 v.pipes) <= sumI (pHi i) (openP shut 0 v.pipes) := Z53 fun p hp => (pb (hm p hp) i).2.1
 have b3 : sumI (pHi i) (openP shut 0 v.pipes) <= sumI (pHi i) v.pipes := Z8x fun p hp => by have := pb (h.pip p hp) i; omega
 have c1 : 0 <= sumI (mLo i) v.pumps := X2 fun p hp => (mb (h.pmp p hp).2 i).1
 have c2 : sumI (mLo i) v.pumps <= sumI (mHi i) v.pumps := Z53 fun p hp => (mb (h.pmp p hp).2 i).2.1
 have := h.out i hi
 unfold outLo outHi at *
 omega
theorem Zlh {v : Vac} (h : VB v) {F : List Rg} (hF : Row 137438953472 F) (hl : F.length = v.vessels.length) (shut : List Int) {i : Nat} (hi : i < F.length) :
  (flowG v shut F)[i]? = some ⟨floLo v (openP shut 0 v.pipes) F i / 1000000, (floHi v (openP shut 0 v.pipes) F i + 999999) / 1000000⟩ /\ 0 <= floLo v (openP shut 0 v.pipes) F i /\ floLo v (openP shut 0 v.pipes) F i <= floHi v (openP shut 0 v.pipes) F i /\ floHi v (openP shut 0 v.pipes) F i <= 4600000000000000000 := by
 obtain ⟨o1, o2, o3⟩ := h.outs shut (show i < v.vessels.length by omega)
 have hm : ∀ p ∈ openP shut 0 v.pipes, PipB v.vessels.length p := fun p hp => h.pip p (Z0r hp)
 have b1 : 0 <= sumI (fLo F i) (openP shut 0 v.pipes) := X2 fun p hp => (fb hF (hm p hp) i).1
 have b2 : sumI (fLo F i) (openP shut 0 v.pipes) <= sumI (fHi F i) (openP shut 0 v.pipes) := Z53 fun p hp => (fb hF (hm p hp) i).2.1
 have b3 : sumI (fHi F i) (openP shut 0 v.pipes) <= 137438953472000000 * (openP shut 0 v.pipes).length := Z2f fun p hp => (fb hF (hm p hp) i).2.2
 have b4 := Z54 (shut := shut) 0 v.pipes
 have b5 := h.p16
 have hg : (flowG v shut F)[i]? = some (quoR (flowS F shut i 0 (begR v shut F i) v.pipes)) := by
  unfold flowG
  rw [List.getElem?_map, List.getElem?_range hi]; rfl
 rw [hg]
 have hb : begR v shut F i = ⟨(atR F i).lo * (1000000 - outHi v i (openP shut 0 v.pipes)), (atR F i).hi * (1000000 - outLo v i (openP shut 0 v.pipes))⟩ /\ RgG 137438953472000000 (begR v shut F i) := by
  unfold begR
  rw [h.outR_eq]
  simp only
  rw [Z5 (x := 1000000 - outHi v i (openP shut 0 v.pipes)) (by omega) (by omega), Z5 (x := 1000000 - outLo v i (openP shut 0 v.pipes)) (by omega) (by omega)]
  exact Z56 (hF.at (by decide) i) ⟨by show 0 <= 1000000 - _; omega, by show 1000000 - _ <= 1000000 - _; omega, by show 1000000 - _ <= _; omega⟩
 obtain ⟨e1, c1, c2, c3⟩ := hb
 rw [Z2h hF h.pip c1 c2 (by omega), e1]
 rw [e1] at c1 c2 c3
 simp only at c1 c2 c3
 unfold floLo floHi
 simp only
 generalize (atR F i).lo * (1000000 - outHi v i (openP shut 0 v.pipes)) = A at *
 generalize (atR F i).hi * (1000000 - outLo v i (openP shut 0 v.pipes)) = B at *
 generalize sumI (fLo F i) (openP shut 0 v.pipes) = C at *
 generalize sumI (fHi F i) (openP shut 0 v.pipes) = D at *
 refine ⟨?_, by omega, by omega, by omega⟩
 unfold quoR
 simp only
 rw [Z5 (x := B + D + 1000000) (by omega) (by omega), Z5 (x := B + D + 1000000 - 1) (by omega) (by omega), show B + D + 1000000 - 1 = B + D + 999999 by omega, Int.tdiv_eq_ediv_of_nonneg (by omega), Int.tdiv_eq_ediv_of_nonneg (by omega)]
 rw [Z5 (x := (A + C) / 1000000) (by omega) (by omega), Z5 (x := (B + D + 999999) / 1000000) (by omega) (by omega)]
theorem Zgx {v : Vac} (h : VB v) {F : List Rg} (hF : Row 137438953472 F) (hl : F.length = v.vessels.length) (shut : List Int) : Row 4600000000000 (flowG v shut F) := by
 intro r hr
 obtain ⟨i, hi, e⟩ := List.mem_iff_getElem.1 hr
 rw [Xc] at hi
 obtain ⟨e1, c1, c2, c3⟩ := Zlh h hF hl shut hi
 rw [List.getElem?_eq_getElem (by rw [Xc]; exact hi), e] at e1
 injection e1 with e1
 subst e1
 refine ⟨?_, ?_, ?_⟩ <;> simp only <;> omega
theorem Z90 {n : Nat} : ∀ {l : List Inl} {R : List Rg} {m : Int}, (∀ q ∈ l, (0 <= q.at' /\ q.at' < n) /\ RgG 100000 q.gas) -> 0 <= m -> m + 100000 * l.length <= 5000000000000 -> Row m R -> Row (m + 100000 * l.length) (leakR R l)
 | [], R, m, _, _, _, h => fun r hr => (h r hr).mono (by simp)
 | q :: l, R, m, hq, hm, hb, h => by
  have h1 := (hq q List.mem_cons_self).2
  have h2 := h.at hm q.at'
  unfold leakR
  rw [List.length_cons, Int.natCast_add] at hb ⊢
  simp only [Int.natCast_one] at hb ⊢
  obtain ⟨a1, a2, a3⟩ := h1
  obtain ⟨b1, b2, b3⟩ := h2
  have e := Jf (a := atR R q.at') (b := q.gas) b1 (by omega) a1 (by omega) (by omega) (by omega)
  refine fun r hr => (Z90 (l := l) (m := m + 100000) (fun p hp => hq p (List.mem_cons_of_mem _ hp)) (by omega) (by omega) ?_ r hr).mono (by omega)
  intro r hr
  rcases List.mem_or_eq_of_mem_set hr with hr | rfl
  ·exact (h r hr).mono (by omega)
  ·rw [e]; exact ⟨by show 0 <= (atR R q.at').lo + _; omega, by show (atR R q.at').lo + _ <= (atR R q.at').hi + _; omega, by show (atR R q.at').hi + _ <= _; omega⟩
theorem Zgy {t : Gtr} {f r : Rg} (ht : RgG 1000000 t.part) (hf : RgG 5000000000000 f) (hr : RgG 68719476736 r) : getFr t f r = ⟨f.lo - min2 (ups f.lo t.part.hi) r.hi, f.hi - min2 (dn f.hi t.part.lo) r.lo⟩ /\ RgG 5000000000000 (getFr t f r) := by
 obtain ⟨t1, t2, t3⟩ := ht
 obtain ⟨f1, f2, f3⟩ := hf
 obtain ⟨r1, r2, r3⟩ := hr
 have u1 := Z8z (n := f.lo) (q := t.part.hi) f1 (by omega) t3
 have d1 := Zci (n := f.hi) (q := t.part.lo) (by omega) t1 (by omega)
 have d2 := Zci (n := f.lo) (q := t.part.lo) (by omega) t1 (by omega)
 have d3 : dn f.lo t.part.lo <= ups f.lo t.part.hi := Zbe f1 (Int.le_refl _) t1 t2
 have d4 : f.lo - dn f.lo t.part.lo <= f.hi - dn f.hi t.part.lo := by
  have hm : (f.hi - f.lo) * t.part.lo <= (f.hi - f.lo) * 1000000 := Int.mul_le_mul_of_nonneg_left (by omega) (by omega)
  rw [Int.sub_mul, Int.sub_mul] at hm
  unfold dn
  omega
 unfold getFr
 rw [Zbf f1 (by omega) (by omega) t3, Z3s (by omega) f3 t1 (by omega)]
 have m1 : 0 <= min2 (ups f.lo t.part.hi) r.hi /\ min2 (ups f.lo t.part.hi) r.hi <= ups f.lo t.part.hi := by unfold min2; split <;> omega
 have m2 : 0 <= min2 (dn f.hi t.part.lo) r.lo /\ min2 (dn f.hi t.part.lo) r.lo <= dn f.hi t.part.lo := by unfold min2; split <;> omega
 rw [Z5 (x := f.lo - _) (by omega) (by omega), Z5 (x := f.hi - _) (by omega) (by omega)]
 refine ⟨rfl, by show 0 <= f.lo - _; omega, ?_, by show f.hi - _ <= _; omega⟩
 show f.lo - min2 _ _ <= f.hi - min2 _ _
 unfold min2
 split <;> split <;> omega
theorem Zgz {t : Gtr} {f r : Rg} (ht : RgG 1000000 t.part) (hf : RgG 5000000000000 f) (hr : RgG 68719476736 r) : getRo t f r = ⟨max2 0 (r.lo - ups f.hi t.part.hi), max2 0 (r.hi - dn f.lo t.part.lo)⟩ /\ RgG 68719476736 (getRo t f r) /\ (getRo t f r).lo <= r.lo /\ (getRo t f r).hi <= r.hi := by
 obtain ⟨t1, t2, t3⟩ := ht
 obtain ⟨f1, f2, f3⟩ := hf
 obtain ⟨r1, r2, r3⟩ := hr
 have u1 := Z8z (n := f.hi) (q := t.part.hi) (by omega) (by omega) t3
 have d2 := Zci (n := f.lo) (q := t.part.lo) (by omega) t1 (by omega)
 have d3 : dn f.lo t.part.lo <= ups f.hi t.part.hi := Zbe f1 f2 t1 t2
 unfold getRo
 rw [Zbf (by omega) f3 (by omega) t3, Z3s f1 (by omega) t1 (by omega)]
 rw [Z5 (x := r.lo - _) (by omega) (by omega), Z5 (x := r.hi - _) (by omega) (by omega)]
 refine ⟨rfl, ⟨?_, ?_, ?_⟩, ?_, ?_⟩ <;> simp only <;> unfold max2 <;> (repeat' split) <;> omega
theorem Zbh : ∀ {l : List Gtr} {k : Nat} {F R : List Rg}, (∀ t ∈ l, RgG 1000000 t.part) -> Row 5000000000000 F -> Row 68719476736 R -> Row 5000000000000 (getF l k F R).1 /\ Row 68719476736 (getF l k F R).2 /\ ∀ i, (atR (getF l k F R).2 i).lo <= (atR R i).lo /\ (atR (getF l k F R).2 i).hi <= (atR R i).hi
 | [], k, F, R, _, h1, h2 => ⟨h1, h2, fun i => ⟨Int.le_refl _, Int.le_refl _⟩⟩
 | t :: ts, k, F, R, ht, h1, h2 => by
  have e1 := (Zgy (ht t List.mem_cons_self) (h1.at (by decide) t.at') (h2.at (by decide) (k : Int))).2
  have e2 := (Zgz (ht t List.mem_cons_self) (h1.at (by decide) t.at') (h2.at (by decide) (k : Int))).2
  unfold getF
  rw [show F[t.at'.toNat]?.getD ⟨0, 0⟩ = atR F t.at' from rfl, show R[k]?.getD ⟨0, 0⟩ = atR R (k : Int) from rfl]
  have r1 : Row 5000000000000 (F.set t.at'.toNat (getFr t (atR F t.at') (atR R (k : Int)))) := fun r hr => by
   rcases List.mem_or_eq_of_mem_set hr with hr | rfl
   ·exact h1 r hr
   ·exact e1
  have r2 : Row 68719476736 (R.set k (getRo t (atR F t.at') (atR R (k : Int)))) := fun r hr => by
   rcases List.mem_or_eq_of_mem_set hr with hr | rfl
   ·exact h2 r hr
   ·exact e2.1
  have h3 := Zbh (l := ts) (k := k + 1) (fun t ht' => ht t (List.mem_cons_of_mem _ ht')) r1 r2
  refine ⟨h3.1, h3.2.1, fun i => ?_⟩
  have h4 := h3.2.2 i
  have h5 : (atR (R.set k (getRo t (atR F t.at') (atR R (k : Int)))) i).lo <= (atR R i).lo /\ (atR (R.set k (getRo t (atR F t.at') (atR R (k : Int)))) i).hi <= (atR R i).hi := by
   by_cases e : i.toNat = k
   ·have q : atR R (k : Int) = atR R i := by unfold atR; rw [Int.toNat_natCast, e]
    by_cases hk : k < R.length
    ·have : atR (R.set k (getRo t (atR F t.at') (atR R (k : Int)))) i = getRo t (atR F t.at') (atR R (k : Int)) := by
      show (R.set k _)[i.toNat]?.getD _ = _
      rw [e, List.getElem?_set_self hk]; rfl
     rw [this, <- q]
     exact e2.2
    ·rw [List.set_eq_of_length_le (by omega)]
     exact ⟨Int.le_refl _, Int.le_refl _⟩
   ·have : atR (R.set k (getRo t (atR F t.at') (atR R (k : Int)))) i = atR R i := by
     unfold atR
     rw [List.getElem?_set_ne (fun q => e q.symm)]
    rw [this]
    exact ⟨Int.le_refl _, Int.le_refl _⟩
  omega
theorem Zbi {q m : Int} (hq : 0 <= q) {F : List Rg} (h : Row m F) : Row (min2 m q) (F.map (cutR q)) := by
 intro r hr
 obtain ⟨f, hf, rfl⟩ := List.mem_map.1 hr
 obtain ⟨a1, a2, a3⟩ := h f hf
 refine ⟨?_, ?_, ?_⟩ <;> simp only [cutR] <;> unfold min2 <;> (repeat' split) <;> omega
structure GB (v : Vac) (g : Gs) : Prop where
 fits : Fits v g
 f : Row 68719476736 g.free
 b : Row 68719476736 g.bound
 r : Row 68719476736 g.room
 m : 0 <= g.most /\ g.most <= 68719476736
theorem Zh0 {v : Vac} (hv : VB v) {h : Int} {F B : List Rg} (h1 : Row 68719476736 F) (h2 : Row 68719476736 B) : Row 137438953472 (relF h v.vessels F B) /\ Row 68719476736 (relB h v.vessels B) := by
 constructor
 ·intro r hr
  obtain ⟨t, ht, rfl⟩ := List.mem_map.1 hr
  obtain ⟨x, y⟩ := t
  have a := List.of_mem_zip ht
  have b := List.of_mem_zip (show (y.1, y.2) ∈ _ from a.2)
  exact (Zgv (hv.ves _ a.1) (h1 _ b.1) (h2 _ b.2)).2
 ·intro r hr
  obtain ⟨t, ht, rfl⟩ := List.mem_map.1 hr
  obtain ⟨x, y⟩ := t
  have a := List.of_mem_zip ht
  exact (Zgw (hv.ves _ a.1) (h2 _ a.2)).2.1
theorem Zh1 {v : Vac} (hv : VB v) {F : List Rg} (hF : Row 137438953472 F) (hl : F.length = v.vessels.length) (shut : List Int) : Row 5000000000000 (leakR (flowG v shut F) v.leaks) := by
 have h8 := hv.l8
 have := Z90 (n := v.vessels.length) (l := v.leaks) (m := 4600000000000) hv.inl (by decide) (by omega) (Zgx hv hF hl shut)
 exact fun r hr => (this r hr).mono (by omega)
structure Steps (v : Vac) (g : Gs) (s : Bk) : Prop where
 m1 : g.most <= (beginT v g s).most /\ (beginT v g s).most <= 68719476736
 f2 : Row 137438953472 (relT v (beginT v g s) s).free
 b2 : Row 68719476736 (relT v (beginT v g s) s).bound
 f3 : Row 5000000000000 (flowT v (relT v (beginT v g s) s) s).free
 f4 : Row 5000000000000 (getT v (flowT v (relT v (beginT v g s) s) s) s).free
 r4 : Row 68719476736 (getT v (flowT v (relT v (beginT v g s) s) s) s).room
 r4l : ∀ i, (atR (getT v (flowT v (relT v (beginT v g s) s) s) s).room i).lo <= (atR g.room i).lo /\ (atR (getT v (flowT v (relT v (beginT v g s) s) s) s).room i).hi <= (atR g.room i).hi
theorem Zh2 {v : Vac} {g : Gs} (hv : VB v) (h : GB v g) (s : Bk) : Steps v g s := by
 have m1 := Zbg (l := v.leaks) (m := g.most) (fun q hq => (hv.inl q hq).2) h.m.1 h.m.2
 have r2 := Zh0 (h := s.heat) hv h.f h.b
 have f3 := Zh1 hv r2.1 (Z3p h.fits.f h.fits.b) s.shut
 have h4 : Row 5000000000000 (getT v (flowT v (relT v (beginT v g s) s) s) s).free /\ Row 68719476736 (getT v (flowT v (relT v (beginT v g s) s) s) s).room /\ ∀ i, (atR (getT v (flowT v (relT v (beginT v g s) s) s) s).room i).lo <= (atR g.room i).lo /\ (atR (getT v (flowT v (relT v (beginT v g s) s) s) s).room i).hi <= (atR g.room i).hi := by
  unfold getT
  split
  ·exact Zbh (fun t ht => (hv.gtr t ht).1.2) f3 h.r
  ·exact ⟨f3, h.r, fun i => ⟨Int.le_refl _, Int.le_refl _⟩⟩
 exact ⟨m1, r2.1, r2.2, f3, h4.1, h4.2.1, h4.2.2⟩
theorem Z91 (v : Vac) (g : Gs) (s : Bk) : (getT v g s).most = g.most /\ (getT v g s).bound = g.bound /\ (getT v g s).flashed = g.flashed := by unfold getT; split <;> exact ⟨rfl, rfl, rfl⟩
theorem Zf4 (v : Vac) (g : Gs) (s : Bk) : (tickT v g s).most = leakF g.most v.leaks := (Z91 v (flowT v (relT v (beginT v g s) s) s) s).1
theorem Zli {v : Vac} {g : Gs} (hv : VB v) (h : GB v g) (s : Bk) : GB v (tickT v g s) /\ Row (tickT v g s).most (tickT v g s).free := by
 have st := Zh2 hv h s
 have hm := Zf4 v g s
 have h1 := st.m1
 have h0 := h.m.1
 have e1 : (getT v (flowT v (relT v (beginT v g s) s) s) s).most = leakF g.most v.leaks := hm
 have hmm : g.most <= leakF g.most v.leaks /\ leakF g.most v.leaks <= 68719476736 := h1
 have f5 : Row (min2 5000000000000 (leakF g.most v.leaks)) (tickT v g s).free := by
  have := Zbi (q := leakF g.most v.leaks) (by omega) st.f4
  rw [<- e1] at this ⊢
  exact this
 have b5 : Row (min2 68719476736 (leakF g.most v.leaks)) (tickT v g s).bound := by
  have hb : Row 68719476736 (getT v (flowT v (relT v (beginT v g s) s) s) s).bound := by rw [(Z91 _ _ _).2.1]; exact st.b2
  have := Zbi (q := leakF g.most v.leaks) (by omega) hb
  rw [<- e1] at this ⊢
  exact this
 have k1 : min2 5000000000000 (leakF g.most v.leaks) = leakF g.most v.leaks := by unfold min2; rw [if_pos (by omega)]
 have k2 : min2 68719476736 (leakF g.most v.leaks) <= 68719476736 := by unfold min2; split <;> omega
 rw [k1] at f5
 refine ⟨⟨Jt h.fits s, fun r hr => (f5 r hr).mono hmm.2, fun r hr => (b5 r hr).mono k2, st.r4, by rw [hm]; omega⟩, by rw [hm]; exact f5⟩
end Go.Proofs.Ytgnpnfkncbnjnaa
namespace Go.Proofs.Ytgnpnfkncbnjnaa
attribute [local go_sem_proc] Int.reduceEq Int.reduceNeg Nat.reduceEqDiff Nat.reduceLT Nat.reduceAdd Nat.reduceSub Nat.reduceMul Int.reduceLE Int.reduceLT Int.reduceToNat Nat.reduceLeDiff
attribute [local go_sem] Int.toNat_natCast Bool.not_true Bool.not_false
open Go Go.Am
attribute [local congr] Ze Zb Zc
def runG (v : Vac) (l : List Bk) : Gs := (flatT l).foldl (tickT v) (beginG v)
def runE (v : Vac) (l : List Bk) : Gs × Int := if runsE v l = 0 then (runG v l, 0) else (zeroG, runsE v l)
theorem Z92 (v : Vac) : ∀ (l : List Bk) (g : Gs), runT (fun (_ : Bool) _ => some true) v true g l = .inl (true, l.foldl (tickT v) g)
 | [], g => rfl
 | s :: r, g => by
  show runT (fun (_ : Bool) _ => some true) v true (tickT v g s) r = _
  rw [Z92 v r]; rfl
theorem Z93 (v : Vac) (c : Bool) (l : List Bk) : allT (fun (_ : Bool) _ => some true) v c l = .inl (true, runG v l) := by
 show runT (fun (_ : Bool) _ => some true) v true (beginG v) (flatT l) = _
 rw [Z92]; rfl
theorem Zlj {H : Heap} {d : Nat} {b : Nm} (l : List Rg) (hb : l ≠ [] -> hget H b = some (rgB l)) : freezeG (freezeD H (d + 1)) H (rowX .nils b l.length) = some (.lst (l.map rgV)) := by
 cases l with
 | nil => rfl
 | cons a r => exact Z2t (g := rgC) (z := 2) Z1p (by decide) (f := rgV) (fun _ => rfl) (row := freezeD H (d + 1)) (H := H) (a :: r) (Zel _) (hb (by simp)) (a :: r).length false
theorem Za4 {H : Heap} {f b r : Nm} {g : Gs} {e : Int} (h1 : hget H f = some (rgB g.free)) (h2 : hget H b = some (rgB g.bound)) (h3 : g.room ≠ [] -> hget H r = some (rgB g.room)) : Go.Am.frozen H (.tuple [.agg [.slice f 0 g.free.length g.free.length false, .slice b 0 g.bound.length g.bound.length false, rowX .nils r g.room.length, .int .i64 g.most, .bool g.flashed], .int .i64 e]) = some (gasP (g, e)) := by
 have h4 : freezeG (freezeD H 6) H (.tuple [.agg [.slice f 0 g.free.length g.free.length false, .slice b 0 g.bound.length g.bound.length false, rowX .nils r g.room.length, .int .i64 g.most, .bool g.flashed], .int .i64 e]) = some (.tuple [gsV g, .int .i64 e]) := by
  show (match freezeGs (freezeD H 6) H [.agg [.slice f 0 g.free.length g.free.length false, .slice b 0 g.bound.length g.bound.length false, rowX .nils r g.room.length, .int .i64 g.most, .bool g.flashed], .int .i64 e] with | some l => some (AV.tuple l) | none => none) = _
  have h5 : freezeG (freezeD H 6) H (.agg [.slice f 0 g.free.length g.free.length false, .slice b 0 g.bound.length g.bound.length false, rowX .nils r g.room.length, .int .i64 g.most, .bool g.flashed]) = some (gsV g) := by
   show (match freezeGs (freezeD H 6) H [.slice f 0 g.free.length g.free.length false, .slice b 0 g.bound.length g.bound.length false, rowX .nils r g.room.length, .int .i64 g.most, .bool g.flashed] with | some l => some (AV.agg l) | none => none) = _
   simp only [freezeGs, Zbb g.free h1, Zbb g.bound h2, Zlj g.room h3]
   rfl
  simp only [freezeGs, h5]
  rfl
 unfold Go.Am.frozen
 rw [h4]
 have h5 : (AV.tuple [gsV g, .int .i64 e]).flat = true := by simp only [gsV, AV.flat, flats, Z86]
 simp only [h5]
 rfl
theorem Za5 (v : Vac) (l : List Bk) (K : Nat) (H : Heap) (n : Nat) : acall cfg (K + 1) 99 [vacV v, .lst (l.map bkV)] ⟨H, n, [], false, []⟩ = .ret (.func 152 [.ptr [n] 0, .ptr [n + 1] 0], ⟨([n + 1], .cells [.lst (l.map bkV)] true 0) :: ([n], vacC v) :: H, n + 2, [], false, []⟩) := by
 suffices h : (acall cfg (K + 1) 99 [vacV v, .lst (l.map bkV)] ⟨H, n, [], false, []⟩).Does fun x => x = (.func 152 [.ptr [n] 0, .ptr [n + 1] 0], ⟨([n + 1], .cells [.lst (l.map bkV)] true 0) :: ([n], vacC v) :: H, n + 2, [], false, []⟩) by
  obtain ⟨a, e, rfl⟩ := h; exact e
 rw [Z6z Zo1 Zo0]
 refine Z6 rfl fun T hT' hA => ?_
 have a0 := hA 0 _ rfl
 have a1 := hA 1 _ rfl
 have hT : T.length = 6 := hT'
 clear hA hT'
 unfold vacV at a0
 unfold vacC
 simp -implicitDefEqProofs only [go_sem, a0, a1, hT, Try.results99]
theorem Zh3 (v : Vac) (l : List Bk) (K : Nat) (s : St) (hK : 3000 < K) (hv : v.Lens K) (hl : BkL K l) : acall cfg (K + 14) 37 [vacV v, .lst (l.map bkV)] s = .ret (gasP (runE v l), s) := by
 refine Yh Zmx Zmw (by first | rfl | simp -implicitDefEqProofs only [redoH, redo1, go_sem]) (by first | rfl | simp -implicitDefEqProofs only [go_sem]) (by first | rfl | simp -implicitDefEqProofs only [go_sem]) ?_
 refine Z6 rfl fun T hT' hA => ?_
 have a0 := hA 0 _ rfl
 have a1 := hA 1 _ rfl
 have hT : T.length = 25 := hT'
 clear hA hT'
 have hr := fun s => Z52 v l (K + 1) s (by omega) (hv.more 1) ⟨hl.1, fun x hx => by have := hl.2 x hx; omega⟩
 simp only [vacV] at hr
 unfold runE
 by_cases c0 : runsE v l = 0
 ·rw [if_pos c0]
  obtain ⟨hz, hl20, hrs⟩ := Jx c0
  have hva := Z16 hz
  have hst : ∀ s ∈ l, 0 <= s.ticks /\ s.ticks <= 2000 /\ s.shut.length <= 40 := fun s hs => Jw hva (J3 hrs s hs)
  have h99 := fun H n => Za5 v l (K + 12) H n
  simp only [vacV] at h99
  simp -implicitDefEqProofs only [go_sem, a0, a1, hT, hr, c0, h99]
  simp only [Z1]
  refine Z1q (nxt := fun (_ : Bool) _ => some true) (fun L c H => hget H [0] = some (vacC v) /\ hget H [1] = some (.cells [.nils, .nils, .nils, .int .i64 0, .bool false] true 0) /\ hget H [2] = some (.cells [if c = true then .ptr [6, 4, 0] 0 else .nilp] true 0) /\ hget H [3] = some (vacC v) /\ hget H [4] = some (.cells [.lst (l.map bkV)] true 0) /\ hget H [5] = some L) (fun _ _ _ => False) false (by simp -implicitDefEqProofs only [go_sem, hT] <;> rfl) hva (by omega) hst hl20
   (P := fun T => T.length = 25 /\ nth T 7 = some (.ptr [2] 0) /\ nth T 4 = some (.ptr [1] 0)) (by exact ⟨by simp -implicitDefEqProofs only [go_sem, hT], by simp -implicitDefEqProofs only [go_sem, hT], by simp -implicitDefEqProofs only [go_sem, hT]⟩) ?_
  clear a0 a1 hT T hr h99
  rintro T ⟨hT, a7, a4⟩ L hL
  refine ⟨⟨?_, ?_, ?_, ?_⟩, ?_, ?_, ?_, ?_⟩
  ·intro c g H n hn hI hs hf
   left
   obtain ⟨i0, i1, i2, i3, i4, i5⟩ := hI
   subst hL
   suffices hd : (around cfg (K + 11 + 1) [5] [.ptr [6, 4, 0] 0] ⟨H, n, [], false, []⟩).Does fun x => ∃ H', x = (.bool true, (⟨H', n, [], false, []⟩ : St)) /\ (∀ q : Nm, q ≠ [2] -> q ≠ [5] -> hget H' q = hget H q) /\ hget H' [2] = some (.cells [.ptr [6, 4, 0] 0] true 0) /\ hget H' [5] = hget H [5] by
    obtain ⟨x, e, H', rfl, k1, k2, k3⟩ := hd
    exact ⟨true, H', n, rfl, e, Nat.le_refl _, ⟨(k1 _ (by decide) (by decide)).trans i0, (k1 _ (by decide) (by decide)).trans i1, k2, (k1 _ (by decide) (by decide)).trans i3, (k1 _ (by decide) (by decide)).trans i4, k3.trans i5⟩, fun q h1 h2 => k1 _ (n11 (by omega)) (n11 (by omega)),
     ⟨(k1 _ n31 n31).trans hs.x, (k1 _ n31 n31).trans hs.f, (k1 _ n31 n31).trans hs.b, fun e => (k1 _ n31 n31).trans (hs.r e)⟩⟩
   refine Jv i5 rfl ?_
   simp -implicitDefEqProofs only [go_sem, a7, hT]
   refine ⟨trivial, _, _, _, _, _, i5, ?_⟩
   have k2 : ∀ Y, hget (hset H [5] Y) [2] = hget H [2] := fun Y => hs11 (by decide)
   have k5 : ∀ X Y, hget (hset (hset H [5] Y) [2] X) [5] = some Y := fun X Y => (hs11 (by decide)).trans (hss i5)
   simp -implicitDefEqProofs only [go_sem, i2, k2]
   refine ⟨_, _, _, _, _, _, k5 _ _, ?_⟩
   simp -implicitDefEqProofs only [go_sem, jumpOf]
   refine ⟨_, rfl, fun q h1 h2 => ?_, ?_, ?_⟩
   ·rw [Z2 _ _ (Ne.symm h2), Z2 _ _ (Ne.symm h1), Z2 _ _ (Ne.symm h2)]
   ·rw [Z2 _ _ (by decide)]
    exact hss ((k2 _).trans i2)
   ·rw [hss (k5 _ _), i5]
  ·rintro c H H' ⟨i0, i1, i2, i3, i4, i5⟩ hk
   exact ⟨(hk 0 (by omega)).trans i0, (hk 1 (by omega)).trans i1, (hk 2 (by omega)).trans i2, (hk 3 (by omega)).trans i3, (hk 4 (by omega)).trans i4, (hk 5 (by omega)).trans i5⟩
  ·exact fun c H h => h.2.2.2.1
  ·exact fun c H h => h.2.2.2.2.1
  ·exact ⟨rfl, rfl, rfl, rfl, rfl, rfl⟩
  ·exact fun c H h => h.2.2.2.2.2
  ·intro c g H n hall hI hs hn
   rw [Z93] at hall
   injection hall with hall
   obtain ⟨rfl, rfl⟩ := Prod.mk.inj hall
   obtain ⟨i0, i1, i2, i3, i4, i5⟩ := hI
   have hs : SysAt .nils H [6, 4, 0] [6, 2, 0] [6, 2, 1] [6, 2, 2] v (runG v l) := hs
   have i2 : hget H [2] = some (.cells [.ptr [6, 4, 0] 0] true 0) := i2
   have k2 : ∀ Y, hget (hset H [5] Y) [2] = hget H [2] := fun Y => hs11 (by decide)
   have k1 : ∀ Y, hget (hset H [5] Y) [1] = hget H [1] := fun Y => hs11 (by decide)
   have k6 : ∀ Y, hget (hset H [5] Y) [6, 4, 0] = hget H [6, 4, 0] := fun Y => hs13
   have k3 : ∀ X Y, hget (hset (hset H [5] Y) [1] X) [1] = some X := fun X Y => hss ((k1 Y).trans i1)
   have g4 := hs.x
   unfold sysB at g4
   simp -implicitDefEqProofs only [go_sem, a7, a4, hT, i1, i2, k1, k2, k3, k6, g4, Try.results37]
   exact Za4 (hs13.trans (hs13.trans hs.f)) (hs13.trans (hs13.trans hs.b)) (fun e => hs13.trans (hs13.trans (hs.r e)))
  ·intro c g H n hall
   rw [Z93] at hall
   cases hall
 ·rw [if_neg c0]
  simp -implicitDefEqProofs only [go_sem, a0, a1, hT, hr, c0, Try.results37]
  exact Z50 _ _
end Go.Proofs.Ytgnpnfkncbnjnaa
namespace Go.Proofs.Ytgnpnfkncbnjnaa
attribute [local go_sem_proc] Int.reduceEq Int.reduceNeg Nat.reduceEqDiff Nat.reduceLT Nat.reduceAdd Nat.reduceSub Nat.reduceMul Int.reduceLE Int.reduceLT Int.reduceToNat Nat.reduceLeDiff
attribute [local go_sem] Int.toNat_natCast Bool.not_true Bool.not_false
open Go Go.Am
attribute [local congr] Ze Zb Zc
def gasY (f b r : Nm) (g : Gs) : AV := .agg [.slice f 0 g.free.length g.free.length false, .slice b 0 g.bound.length g.bound.length false, rowX (.lst []) r g.room.length, .int .i64 g.most, .bool g.flashed]
def bsOf (f b r : Nm) (g : Gs) : List Nm := match g.room with | [] => [f, b] | _ :: _ => [f, b, r]
def xsOf (g : Gs) : List Blk := match g.room with | [] => [rgB g.free, rgB g.bound] | _ :: _ => [rgB g.free, rgB g.bound, rgB g.room]
theorem Z6e (v : Vac) (g : Gs) (x : Nat) (K : Nat) (H0 : Heap) (k : Nat) (R : AV) (hk : 1 <= k) (h1 : x < v.vessels.length) (h2 : x < g.free.length) (hvol : 1 <= v.vessels[x].vol) (hf : hget H0 [0] = some (rgB g.free)) (hR : R.sc = true) (hR' : R.cells = [R]) (hRo : R.okc = true) :
  (bodyA (cfg.at 131) (acall cfg K) (around cfg K) (K + 1) Try.f131 [vacV v, .agg [.slice [0] 0 g.free.length g.free.length false, .slice [1] 0 g.bound.length g.bound.length false, R, .int .i64 g.most, .bool g.flashed], .int .i64 x] ⟨H0, k, [], false, []⟩).Does fun y => y.1 = rgV (pressR g.free[x] v.vessels[x].vol) /\ ∀ q, q < k -> hget y.2.H [q] = hget H0 [q] := by
 refine Z6 rfl fun T hT' hA => ?_
 have a0 := hA 0 _ rfl
 have a1 := hA 1 _ rfl
 have a2 := hA 2 _ rfl
 have hT : T.length = 34 := hT'
 clear hA hT'
 have e1 := Z9 (f := vesV) (l := v.vessels) (i := x) (z := 6) h1 rfl
 have f0 := Ye g.free h2
 have f1 := Yf g.free h2
 have hin : inR (x : Int) g.free.length = some x := X6 h2
 unfold rgB at hf
 generalize v.vessels[x] = y at *
 generalize g.free[x] = f at *
 generalize g.free.flatMap rgC = cs at *
 have hn0 : ¬ y.vol = 0 := by omega
 simp only [vesV] at e1
 unfold vacV at a0
 have p1 : ∀ X Y Z, hget (([k + 2], X) :: ([k + 1], Y) :: ([k], Z) :: H0) [k + 1] = some Y := fun X Y Z => by rw [hc11 (by omega)]; exact Z3 ..
 have p0 : ∀ X Y Z, hget (([k + 2], X) :: ([k + 1], Y) :: ([k], Z) :: H0) [k] = some Z := fun X Y Z => by rw [hc11 (by omega), hc11 (by omega)]; exact Z3 ..
 have p2 : ∀ X Y Z, hget (([k + 2], X) :: ([k + 1], Y) :: ([k], Z) :: H0) [k + 2] = some X := fun X Y Z => Z3 ..
 have pf : ∀ X Y Z, hget (([k + 2], X) :: ([k + 1], Y) :: ([k], Z) :: H0) [0] = hget H0 [0] := fun X Y Z => by rw [hc11 (by omega), hc11 (by omega), hc11 (by omega)]
 have u1 : (k + 1 + 1 = k) = False := eq_false (by omega)
 have u2 : (k + 1 = k) = False := eq_false (by omega)
 have u3 : (k + 1 + 1 = k + 1) = False := eq_false (by omega)
 have ip : isPre [k + 4, 14] [k + 2] = false := Go.Am.Y5 _ _ (by omega)
 simp -implicitDefEqProofs only [go_sem, a0, a1]
 try simp only [Z1]
 refine Z7 [[], [0], [], [1, 0, 2], [3, 1, 0, 2], [], [5], [], [6, 5, 7], [8, 6, 5, 7], [9, 8, 6, 5, 7], [], [4, 3, 1, 0, 2, 11], [10, 9, 8, 6, 5, 7, 12, 4, 3, 1, 0, 2, 11]] [[], [], [], [], [], [], [], [], [], [], [], [], [[k + 3, 11, 0]], []] (by kernel_rfl) rfl rfl ?_
 simp -implicitDefEqProofs only [go_sem, Z0, Za, Option.getD_some, a2, hT, e1, f0, f1, hin, hf, p0, p1, pf, u1, u2, Z8]
 try simp only [Z1]
 refine Z7 [[], [0], [1, 0], [], [2, 1, 0, 3], [], [5], [6, 5], [], [7, 6, 5, 8], [9, 7, 6, 5, 8], [], [10, 9, 7, 6, 5, 8, 11], [4, 2, 1, 0, 3, 12, 10, 9, 7, 6, 5, 8, 11], [13, 4, 2, 1, 0, 3, 12, 10, 9, 7, 6, 5, 8, 11]] [[], [], [], [], [], [], [], [], [], [], [], [], [], [], [[k + 2]]] (by kernel_rfl) rfl rfl ?_
 simp -implicitDefEqProofs only [go_sem, Z0, lkn, Za, lk31, Option.getD_some, Option.getD_none, hT, hn0, p2, ip, Z8, Try.results131]
 refine ⟨rfl, fun q hq => ?_⟩
 rw [if_neg (by omega), if_neg (by omega), if_neg (by omega), lk11 (by omega), lkn]; rfl
theorem Z3e {v : Vac} {g : Gs} {f b r : Nm} {x K : Nat} {H : Heap} {n : Nat} {p : Nm} {jr : Bool} {j : Delta} (h1 : x < v.vessels.length) (h2 : x < g.free.length) (hvol : 1 <= v.vessels[x].vol) (hf : hget H f = some (rgB g.free)) (hb : hget H b = some (rgB g.bound)) (hr : g.room ≠ [] -> hget H r = some (rgB g.room))
  (fb : f ≠ b) (fr : f ≠ r) (br : b ≠ r) :
  acall cfg (K + 1) 131 [vacV v, gasY f b r g, .int .i64 x] ⟨H, n, p, jr, j⟩ = .ret (rgV (pressR g.free[x] v.vessels[x].vol), ⟨H, n, p, jr, backJ jr (bsOf f b r g) (xsOf g) j⟩) := by
 have efb := Zg fb
 have efr := Zg fr
 have ebr := Zg br
 have ebf := Zg (Ne.symm fb)
 have erf := Zg (Ne.symm fr)
 have erb := Zg (Ne.symm br)
 have nb : ∀ op L r, namesB op (rgB L) r = r := fun op L r => (Yi L).nm op r
 have cells1 : ∀ L, ∃ cs, rgB L = .cells cs true 2 := fun L => ⟨_, rfl⟩
 unfold bsOf xsOf gasY
 cases hg : g.room with
 | nil =>
  simp only [List.length_nil]
  have hbd := Z6e v g x K [([0], rgB g.free), ([1], rgB g.bound)] 2 (.lst []) (by decide) h1 h2 hvol rfl rfl rfl rfl
  refine Yx (bs := [f, b]) (xs := [rgB g.free, rgB g.bound]) (xs' := [rgB g.free, rgB g.bound]) (args' := [vacV v, .agg [.slice [0] 0 g.free.length g.free.length false, .slice [1] 0 g.bound.length g.bound.length false, .lst [], .int .i64 g.most, .bool g.flashed], .int .i64 x]) Ze3 Ze2 ?_ ?_ ?_ rfl ?_ ?_ ?_ (fun _ => rfl) ?_ ?_ rfl ?_ ?_
  ·show lendM (199 + 1) [f, b] [] [] _ = _
   rw [Y6 199 rfl hf, nb]
   show lendM (198 + 1) [b] [f] [_] _ = _
   rw [Y6 198 (by simp only [memNm, ebf]) hb, nb]
   exact Zn 197 _ _ _
  ·simp only [getAll, hf, hb]
  ·simp only [nodupN, memNm, efb]
  ·show renVs [(f, [0]), (b, [1])] _ = _
   simp only [vacV, rowX, renVs, renV, lookN, Zi, ebf, Xs, Xt, Xu, Xv, Xw, flats]
  ·show renBs [(f, [0]), (b, [1])] _ = _
   simp only [renBs, Xe]
  ·show namesB true (rgB g.free) (namesB true (rgB g.bound) []) = namesB true (rgB g.free) (namesB true (rgB g.bound) [])
   rfl
  ·show ∀ c ∈ namesB true (rgB g.free) (namesB true (rgB g.bound) []), _
   rw [nb, nb]; intro c hc; cases hc
  ·show (namesB true (rgB g.free) (namesB true (rgB g.bound) [])).length < _
   rw [nb, nb]; decide
  ·show renBs [([0], f), ([1], b)] _ = _
   simp only [renBs, Xe]
  ·refine Tr.Does.mono hbd ?_
   rintro y ⟨e1, e2⟩
   refine ⟨e1, ?_⟩
   show getAll y.2.H [[0], [1]] = _
   have q0 : hget y.2.H [0] = some (rgB g.free) := (e2 0 (by decide)).trans rfl
   have q1 : hget y.2.H [1] = some (rgB g.bound) := (e2 1 (by decide)).trans rfl
   simp only [getAll, q0, q1]
 | cons a l =>
  have hr' := hr (by rw [hg]; simp)
  rw [hg] at hr'
  simp only [List.length_cons]
  have hbd := Z6e v g x K [([0], rgB g.free), ([1], rgB g.bound), ([2], rgB (a :: l))] 3 (.slice [2] 0 (l.length + 1) (l.length + 1) false) (by decide) h1 h2 hvol rfl rfl rfl rfl
  refine Yx (bs := [f, b, r]) (xs := [rgB g.free, rgB g.bound, rgB (a :: l)]) (xs' := [rgB g.free, rgB g.bound, rgB (a :: l)]) (args' := [vacV v, .agg [.slice [0] 0 g.free.length g.free.length false, .slice [1] 0 g.bound.length g.bound.length false, .slice [2] 0 (l.length + 1) (l.length + 1) false, .int .i64 g.most, .bool g.flashed], .int .i64 x]) Ze3 Ze2 ?_ ?_ ?_ rfl ?_ ?_ ?_ (fun _ => rfl) ?_ ?_ rfl ?_ ?_
  ·show lendM (199 + 1) [f, b, r] [] [] _ = _
   rw [Y6 199 rfl hf, nb]
   show lendM (198 + 1) [b, r] [f] [_] _ = _
   rw [Y6 198 (by simp only [memNm, ebf]) hb, nb]
   show lendM (197 + 1) [r] [f, b] [_, _] _ = _
   rw [Y6 197 (by simp only [memNm, erf, erb]) hr', nb]
   exact Zn 196 _ _ _
  ·simp only [getAll, hf, hb, hr']
  ·simp only [nodupN, memNm, efb, efr, ebr]
  ·show renVs [(f, [0]), (b, [1]), (r, [2])] _ = _
   simp only [vacV, rowX, renVs, renV, lookN, Zi, ebf, erf, erb, Xs, Xt, Xu, Xv, Xw]
  ·show renBs [(f, [0]), (b, [1]), (r, [2])] _ = _
   simp only [renBs, Xe]
  ·rfl
  ·show ∀ c ∈ namesB true (rgB g.free) (namesB true (rgB g.bound) (namesB true (rgB (a :: l)) [])), _
   rw [nb, nb, nb]; intro c hc; cases hc
  ·show (namesB true (rgB g.free) (namesB true (rgB g.bound) (namesB true (rgB (a :: l)) []))).length < _
   rw [nb, nb, nb]; decide
  ·show renBs [([0], f), ([1], b), ([2], r)] _ = _
   simp only [renBs, Xe]
  ·refine Tr.Does.mono hbd ?_
   rintro y ⟨e1, e2⟩
   refine ⟨e1, ?_⟩
   show getAll y.2.H [[0], [1], [2]] = _
   have q0 : hget y.2.H [0] = some (rgB g.free) := (e2 0 (by decide)).trans rfl
   have q1 : hget y.2.H [1] = some (rgB g.bound) := (e2 1 (by decide)).trans rfl
   have q2 : hget y.2.H [2] = some (rgB (a :: l)) := (e2 2 (by decide)).trans rfl
   simp only [getAll, q0, q1, q2]
end Go.Proofs.Ytgnpnfkncbnjnaa
namespace Go.Proofs.Ytgnpnfkncbnjnaa
attribute [local go_sem_proc] Int.reduceEq Int.reduceNeg Nat.reduceEqDiff Nat.reduceLT Nat.reduceAdd Nat.reduceSub Nat.reduceMul Int.reduceLE Int.reduceLT Int.reduceToNat Nat.reduceLeDiff
attribute [local go_sem] Int.toNat_natCast Bool.not_true Bool.not_false
open Go Go.Am
attribute [local congr] Ze Zb Zc
def volN (v : Vac) (x : Nat) : Int := (v.vessels[x]?.map Ves.vol).getD 1
def prN (v : Vac) (x : Nat) (g : Gs) : Int := (pressR (atR g.free x) (volN v x)).hi
def peakN (v : Vac) (x : Nat) (c : Int) (g : Gs) : Option Int := some (max2 c (prN v x g))
def outT {σ : Type} : (σ × Gs) ⊕ (σ × Gs) -> σ
 | .inl p => p.1
 | .inr p => p.1
def peakV (v : Vac) (x : Nat) (l : List Bk) : Int := outT (allT (peakN v x) v 0 l)
def peakE (v : Vac) (l : List Bk) (x : Int) : Int × Int := if runsE v l = 0 then if fromB x 0 (v.vessels.length - 1) = true then (peakV v x.toNat l, 0) else (0, 7) else (0, runsE v l)
theorem Zbj {v : Vac} {x : Nat} : ∀ (l : List Bk) (c : Int) (g : Gs), ∃ c' g', runT (peakN v x) v c g l = .inl (c', g')
 | [], c, g => ⟨c, g, rfl⟩
 | s :: r, c, g => Zbj r _ _
theorem Zbk {v : Vac} {x : Nat} {g : Gs} (h1 : x < v.vessels.length) (h2 : x < g.free.length) : prN v x g = (pressR g.free[x] v.vessels[x].vol).hi := by
 unfold prN volN
 rw [Z08 _ h2, List.getElem?_eq_getElem h1]
 rfl
theorem Zbl {v : Vac} (h : checkE v = 0) {x : Nat} (hx : x < v.vessels.length) : 1 <= v.vessels[x].vol /\ v.vessels[x].vol <= 1000000 := ((Z2g.1 h).ves _ (List.getElem_mem hx)).vol
theorem hcur : cfg.cur = some [] := rfl
theorem Zf5 (v : Vac) (l : List Bk) (x : Int) (K : Nat) (s : St) (hK : 3000 < K) (hv : v.Lens K) (hl : BkL K l) : acall cfg (K + 14) 65 [vacV v, .lst (l.map bkV), .int .i64 x] s = .ret (sealV (peakE v l x), s) := by
 refine Yh Znf Zne (by first | rfl | simp -implicitDefEqProofs only [redoH, redo1, go_sem]) (by first | rfl | simp -implicitDefEqProofs only [go_sem]) (by first | rfl | simp -implicitDefEqProofs only [redoH, redo1, go_sem]) ?_
 refine Z6 rfl fun T hT' hA => ?_
 have a0 := hA 0 _ rfl
 have a1 := hA 1 _ rfl
 have a2 := hA 2 _ rfl
 have hT : T.length = 39 := hT'
 clear hA hT'
 have hr := fun s => Z52 v l (K + 1) s (by omega) (hv.more 1) ⟨hl.1, fun x hx => by have := hl.2 x hx; omega⟩
 have hfc := fun s => J8 x 0 (v.vessels.length - 1) (K + 12) s
 have hw1 : wrapF .i64 ((v.vessels.length : Int) - 1) = (v.vessels.length : Int) - 1 := Z5 (by omega) (by have := hv.ves.2; omega)
 simp only [vacV] at hr
 unfold peakE sealV
 by_cases c0 : runsE v l = 0
 ·rw [if_pos c0]
  obtain ⟨hz, hl20, hrs⟩ := Jx c0
  have hva := Z16 hz
  have hst : ∀ s ∈ l, 0 <= s.ticks /\ s.ticks <= 2000 /\ s.shut.length <= 40 := fun s hs => Jw hva (J3 hrs s hs)
  by_cases c1 : fromB x 0 (v.vessels.length - 1) = true
  ·rw [if_pos c1]
   have hx := Yg.1 c1
   obtain ⟨y, rfl⟩ : ∃ y : Nat, x = y := ⟨x.toNat, by omega⟩
   have hyl : y < v.vessels.length := by omega
   have hvo := Zbl hz hyl
   have h99 := fun H n => Za5 v l (K + 12) H n
   simp only [vacV] at h99
   simp -implicitDefEqProofs only [go_sem, a0, a1, a2, hT, hr, c0, hw1, hfc, c1, h99]
   simp only [Z1]
   refine Z1q (nxt := peakN v y) (fun L c H => hget H [0] = some (vacC v) /\ hget H [1] = some (.cells [.int .i64 y] true 0) /\ hget H [2] = some (.cells [.int .i64 c] true 0) /\ hget H [3] = some (vacC v) /\ hget H [4] = some (.cells [.lst (l.map bkV)] true 0) /\ hget H [5] = some L) (fun _ _ _ => False) 0 (by simp -implicitDefEqProofs only [go_sem, hT] <;> rfl) hva (by omega) hst hl20
    (P := fun T => T.length = 39 /\ nth T 3 = some (.ptr [0] 0) /\ nth T 5 = some (.ptr [1] 0) /\ nth T 9 = some (.ptr [2] 0)) (by exact ⟨by simp -implicitDefEqProofs only [go_sem, hT], by simp -implicitDefEqProofs only [go_sem, hT], by simp -implicitDefEqProofs only [go_sem, hT], by simp -implicitDefEqProofs only [go_sem, hT]⟩) ?_
   clear a0 a1 a2 hT T hr h99 hfc
   rintro T ⟨hT, a3, a5, a9⟩ L hL
   refine ⟨⟨?_, ?_, ?_, ?_⟩, ?_, ?_, ?_, ?_⟩
   ·intro c g H n hn hI hs hf
    left
    obtain ⟨i0, i1, i2, i3, i4, i5⟩ := hI
    subst hL
    have hs' : SysAt .nils H [6, 4, 0] [6, 2, 0] [6, 2, 1] [6, 2, 2] v g := hs
    suffices hd : (around cfg (K + 11 + 1) [5] [.ptr [6, 4, 0] 0] ⟨H, n, [], false, []⟩).Does fun x => ∃ H', x = (.bool true, (⟨H', n + 1, [], false, []⟩ : St)) /\ (∀ q : Nm, q ≠ [2] -> q ≠ [5] -> hget H' q = hget H q) /\ hget H' [2] = some (.cells [.int .i64 (max2 c (prN v y g))] true 0) /\ hget H' [5] = hget H [5] by
     obtain ⟨x, e, H', rfl, k1, k2, k3⟩ := hd
     exact ⟨_, H', n + 1, rfl, e, Nat.le_succ _, ⟨(k1 _ (by decide) (by decide)).trans i0, (k1 _ (by decide) (by decide)).trans i1, k2, (k1 _ (by decide) (by decide)).trans i3, (k1 _ (by decide) (by decide)).trans i4, k3.trans i5⟩, fun q h1 h2 => k1 _ (n11 (by omega)) (n11 (by omega)),
      ⟨(k1 _ n31 n31).trans hs.x, (k1 _ n31 n31).trans hs.f, (k1 _ n31 n31).trans hs.b, fun e => (k1 _ n31 n31).trans (hs.r e)⟩⟩
    refine Jv i5 rfl ?_
    simp -implicitDefEqProofs only [go_sem, hT]
    refine ⟨trivial, _, _, _, _, _, i5, ?_⟩
    have hyf : y < g.free.length := by rw [hf.f]; exact hyl
    have hpr := fun H n p jr j hf hb hr => Z3e (v := v) (g := g) (f := [6, 2, 0]) (b := [6, 2, 1]) (r := [6, 2, 2]) (x := y) (K := K + 10) (H := H) (n := n) (p := p) (jr := jr) (j := j) hyl hyf hvo.1 hf hb hr (by decide) (by decide) (by decide)
    rw [Zbk hyl hyf]
    generalize pressR g.free[y] v.vessels[y].vol = P at *
    have g3 := hs'.x
    unfold sysB at g3
    unfold gasY bsOf xsOf at hpr
    have i0' := i0
    unfold vacC at i0
    have q2 : ∀ Y, hget (hset H [5] Y) [2] = hget H [2] := fun Y => hs11 (by decide)
    have q0 : ∀ Y, hget (hset H [5] Y) [0] = hget H [0] := fun Y => hs11 (by decide)
    have q1 : ∀ Y, hget (hset H [5] Y) [1] = hget H [1] := fun Y => hs11 (by decide)
    have q6 : ∀ Y, hget (hset H [5] Y) [6, 4, 0] = hget H [6, 4, 0] := fun Y => hs13
    have qf : ∀ Y, hget (hset H [5] Y) [6, 2, 0] = some (rgB g.free) := fun Y => hs13.trans hs'.f
    have qb : ∀ Y, hget (hset H [5] Y) [6, 2, 1] = some (rgB g.bound) := fun Y => hs13.trans hs'.b
    have qr : ∀ Y, g.room ≠ [] -> hget (hset H [5] Y) [6, 2, 2] = some (rgB g.room) := fun Y e => hs13.trans (hs'.r e)
    simp only [vacV] at hpr
    have ip0 : isPre [n, 7] [6, 2, 0] = false := Go.Am.Y5 _ _ (by omega)
    have ip1 : isPre [n, 7] [6, 2, 1] = false := Go.Am.Y5 _ _ (by omega)
    have ip2 : isPre [n, 7] [6, 2, 2] = false := Go.Am.Y5 _ _ (by omega)
    have ip3 : isPre [n, 10] [2] = false := Go.Am.Y5 _ _ (by omega)
    cases hg : g.room with
    | nil =>
     rw [hg] at hpr g3
     simp only [List.length_nil, rowX, backJ, ne_eq, not_true_eq_false, false_implies, forall_const] at hpr g3
     have kd : ∀ Y, hget (hdel (hdel (hset H [5] Y) [6, 2, 1]) [6, 2, 0]) [2] = hget H [2] := fun Y => by simp (disch := omega) only [hs11, hd31]
     simp -implicitDefEqProofs only [go_sem]
     try simp only [Z1]
     refine Z7 [[], [], [], [2], [3, 2], [4, 3, 2], [], [1, 5, 4, 3, 2, 6], [7, 1, 5, 4, 3, 2, 6], [0, 8, 7, 1, 5, 4, 3, 2, 6], [9, 0, 8, 7, 1, 5, 4, 3, 2, 6]] [[], [], [], [], [], [], [], [[6, 2, 1], [6, 2, 0]], [], [], [[2]]] (by kernel_rfl) rfl rfl ?_
     simp -implicitDefEqProofs only [go_sem, Z0, lkn, lk11, lk31, Option.getD_some, Option.getD_none, AV.shut, shuts, a3, a5, a9, hT, hcur, i0, i1, i2, q0, q1, q2, q6, qf, qb, kd, ip0, ip1, ip3, g3, hpr, Z8n, Z8]
     refine ⟨_, _, _, _, _, _, hss i5, ?_⟩
     simp -implicitDefEqProofs only [go_sem, jumpOf]
     refine ⟨_, rfl, fun q h1 h2 => ?_, ?_, ?_⟩
     ·rw [Z2 _ _ (Ne.symm h2), Z0, Z0c (Ne.symm h1)]
      by_cases e1 : q = [6, 2, 1]
      ·subst e1; rw [Za, Option.getD_some, hs'.b]
      rw [Z0c (Ne.symm e1)]
      by_cases e0 : q = [6, 2, 0]
      ·subst e0; rw [Za, Option.getD_some, hs'.f]
      rw [Z0c (Ne.symm e0), lkn, Option.getD_none]
      exact Z2 _ _ (Ne.symm h2)
     ·rw [Z2 _ _ (by decide), Z0, Za]; rfl
     ·rw [i5]; refine hss (Y := ?_) ?_
      rotate_left
      ·rw [Z0]; simp (disch := omega) only [lkn, lk11, lk31, Option.getD_none]; exact hss i5
    | cons a l' =>
     have qr' : ∀ Y, hget (hset H [5] Y) [6, 2, 2] = some (rgB (a :: l')) := fun Y => by rw [qr Y (by rw [hg]; simp), hg]
     rw [hg] at hpr g3
     simp only [List.length_cons, rowX, backJ, ne_eq, reduceCtorEq, not_false_eq_true, forall_const] at hpr g3
     have kd : ∀ Y, hget (hdel (hdel (hdel (hset H [5] Y) [6, 2, 2]) [6, 2, 1]) [6, 2, 0]) [2] = hget H [2] := fun Y => by simp (disch := omega) only [hs11, hd31]
     simp -implicitDefEqProofs only [go_sem]
     try simp only [Z1]
     refine Z7 [[], [], [], [2], [3, 2], [4, 3, 2], [], [1, 5, 4, 3, 2, 6], [7, 1, 5, 4, 3, 2, 6], [0, 8, 7, 1, 5, 4, 3, 2, 6], [9, 0, 8, 7, 1, 5, 4, 3, 2, 6]] [[], [], [], [], [], [], [], [[6, 2, 2], [6, 2, 1], [6, 2, 0]], [], [], [[2]]] (by kernel_rfl) rfl rfl ?_
     simp -implicitDefEqProofs only [go_sem, Z0, lkn, lk11, lk31, Option.getD_some, Option.getD_none, AV.shut, shuts, a3, a5, a9, hT, hcur, i0, i1, i2, q0, q1, q2, q6, qf, qb, qr', kd, ip0, ip1, ip2, ip3, g3, hpr, Z8n, Z8]
     refine ⟨_, _, _, _, _, _, hss i5, ?_⟩
     simp -implicitDefEqProofs only [go_sem, jumpOf]
     refine ⟨_, rfl, fun q h1 h2 => ?_, ?_, ?_⟩
     ·rw [Z2 _ _ (Ne.symm h2), Z0, Z0c (Ne.symm h1)]
      by_cases e2 : q = [6, 2, 2]
      ·subst e2; rw [Za, Option.getD_some, hs'.r (by rw [hg]; simp), hg]
      rw [Z0c (Ne.symm e2)]
      by_cases e1 : q = [6, 2, 1]
      ·subst e1; rw [Za, Option.getD_some, hs'.b]
      rw [Z0c (Ne.symm e1)]
      by_cases e0 : q = [6, 2, 0]
      ·subst e0; rw [Za, Option.getD_some, hs'.f]
      rw [Z0c (Ne.symm e0), lkn, Option.getD_none]
      exact Z2 _ _ (Ne.symm h2)
     ·rw [Z2 _ _ (by decide), Z0, Za]; rfl
     ·rw [i5]; refine hss (Y := ?_) ?_
      rotate_left
      ·rw [Z0]; simp (disch := omega) only [lkn, lk11, lk31, Option.getD_none]; exact hss i5
   ·rintro c H H' ⟨i0, i1, i2, i3, i4, i5⟩ hk
    exact ⟨(hk 0 (by omega)).trans i0, (hk 1 (by omega)).trans i1, (hk 2 (by omega)).trans i2, (hk 3 (by omega)).trans i3, (hk 4 (by omega)).trans i4, (hk 5 (by omega)).trans i5⟩
   ·exact fun c H h => h.2.2.2.1
   ·exact fun c H h => h.2.2.2.2.1
   ·exact ⟨rfl, rfl, rfl, rfl, rfl, rfl⟩
   ·exact fun c H h => h.2.2.2.2.2
   ·intro c g H n hall hI hs hn
    obtain ⟨i0, i1, i2, i3, i4, i5⟩ := hI
    have hc : peakV v y l = c := by unfold peakV; rw [hall]; rfl
    have k2 : ∀ Y, hget (hset H [5] Y) [2] = hget H [2] := fun Y => hs11 (by decide)
    simp -implicitDefEqProofs only [go_sem, a9, hT, i2, k2, Try.results65, hc]
    rfl
   ·intro c g H n hall
    obtain ⟨c', g', e⟩ := Zbj (v := v) (x := y) (flatT l) (max2 0 (prN v y (beginG v))) (beginG v)
    rw [show allT (peakN v y) v 0 l = runT (peakN v y) v (max2 0 (prN v y (beginG v))) (beginG v) (flatT l) from rfl, e] at hall
    cases hall
  ·rw [if_neg c1]
   simp -implicitDefEqProofs only [go_sem, a0, a1, a2, hT, hr, c0, hw1, hfc, c1, Try.results65]
   rfl
 ·rw [if_neg c0]
  simp -implicitDefEqProofs only [go_sem, a0, a1, a2, hT, hr, c0, Try.results65]
  rfl
end Go.Proofs.Ytgnpnfkncbnjnaa
namespace Go.Proofs.Ytgnpnfkncbnjnaa
attribute [local go_sem_proc] Int.reduceEq Int.reduceNeg Nat.reduceEqDiff Nat.reduceLT Nat.reduceAdd Nat.reduceSub Nat.reduceMul Int.reduceLE Int.reduceLT Int.reduceToNat Nat.reduceLeDiff
attribute [local go_sem] Int.toNat_natCast Bool.not_true Bool.not_false
open Go Go.Am
attribute [local congr] Ze Zb Zc
def holdN (v : Vac) (x : Nat) (limit : Int) (c : Int) (g : Gs) : Option Int := if 0 <= c /\ prN v x g <= limit then none else some (wrapF .i64 (c + 1))
def ticksW : Int -> List Bk -> Int
 | q, [] => q
 | q, s :: r => ticksW (wrapF .i64 (q + s.ticks)) r
def holdV (v : Vac) (x : Nat) (limit : Int) (l : List Bk) : Int × Int := match allT (holdN v x limit) v (wrapF .i64 (0 - ticksW 0 l.dropLast)) l with
 | .inl _ => (0, 15)
 | .inr (c, _) => (c, 0)
def holdE (v : Vac) (l : List Bk) (x limit : Int) : Int × Int := if runsE v l = 0 then if fromB x 0 (v.vessels.length - 1) = true then if limit < 0 then (0, 2) else if l = [] then (0, 6) else holdV v x.toNat limit l else (0, 7) else (0, runsE v l)
theorem Zf6 (f : FuncId) (l : List Bk) (q : Nat) (h : q <= l.length) (s : St) : sliceOp (cfg.at f) 73 (.lst (l.map bkV)) none (some (.int .i64 (q : Int))) none s = .ret (.lst ((l.take q).map bkV), s) := by
 have hd : (cfg.at f).desc 73 = some (.slice 42) := by show cfg.desc 73 = _; unfold Cfg.desc; rw [Zml]; rfl
 have ht : (cfg.at f).ty.get 42 = some ty42 := Zhf
 unfold sliceOp
 rw [hd]; simp only
 rw [ht]
 unfold cutA
 have hz : okZ ty42.size (l.map bkV) = true := Xh (f := bkV) (fun _ => rfl) l
 have hb : bounds2 (l.map bkV).length (l.map bkV).length none (some (.int .i64 (q : Int))) = some (0, q) := by
  have h2 : inB (q : Int) (l.map bkV).length = some q := by
   unfold inB
   rw [show decide ((0 : Int) <= (q : Int)) = true by simp, show decide ((q : Int) <= ((l.map bkV).length : Int)) = true by simp; omega]; simp
  unfold bounds2
  rw [show boundA (l.map bkV).length (l.map bkV).length (some (.int .i64 (q : Int))) = some q from h2]; rfl
 simp only [hz, hb, List.drop_zero, <- List.map_take, Yc]
theorem Zf7 (v : Vac) (l : List Bk) (x limit : Int) (K : Nat) (s : St) (hK : 3000 < K) (hv : v.Lens K) (hl : BkL K l) : acall cfg (K + 14) 67 [vacV v, .lst (l.map bkV), .int .i64 x, .int .i64 limit] s = .ret (sealV (holdE v l x limit), s) := by
 refine Yh Znj Zni (by first | rfl | simp -implicitDefEqProofs only [redoH, redo1, go_sem]) (by first | rfl | simp -implicitDefEqProofs only [go_sem]) (by first | rfl | simp -implicitDefEqProofs only [redoH, redo1, go_sem]) ?_
 refine Z6 rfl fun T hT' hA => ?_
 have a0 := hA 0 _ rfl
 have a1 := hA 1 _ rfl
 have a2 := hA 2 _ rfl
 have a3 := hA 3 _ rfl
 have hT : T.length = 75 := hT'
 clear hA hT'
 have hr := fun s => Z52 v l (K + 1) s (by omega) (hv.more 1) ⟨hl.1, fun x hx => by have := hl.2 x hx; omega⟩
 have hfc := fun s => J8 x 0 (v.vessels.length - 1) (K + 12) s
 have hw1 : wrapF .i64 ((v.vessels.length : Int) - 1) = (v.vessels.length : Int) - 1 := Z5 (by omega) (by have := hv.ves.2; omega)
 simp only [vacV] at hr
 unfold holdE sealV
 by_cases c0 : runsE v l = 0
 ·rw [if_pos c0]
  obtain ⟨hz, hl20, hrs⟩ := Jx c0
  have hva := Z16 hz
  have hst : ∀ s ∈ l, 0 <= s.ticks /\ s.ticks <= 2000 /\ s.shut.length <= 40 := fun s hs => Jw hva (J3 hrs s hs)
  by_cases c1 : fromB x 0 (v.vessels.length - 1) = true
  ·rw [if_pos c1]
   have hx := Yg.1 c1
   by_cases c2 : limit < 0
   ·rw [if_pos c2]
    simp -implicitDefEqProofs only [go_sem, a0, a1, a2, a3, hT, hr, c0, hw1, hfc, c1, c2, Try.results67]
    rfl
   ·rw [if_neg c2]
    by_cases c3 : l = []
    ·rw [if_pos c3]
     have hq0 : ((l.length : Int) = 0) = True := eq_true (by rw [c3]; rfl)
     clear c3
     simp -implicitDefEqProofs only [go_sem, a0, a1, a2, a3, hT, hr, c0, hw1, hfc, c1, c2, hq0, Try.results67]
     rfl
    ·rw [if_neg c3]
     obtain ⟨y, rfl⟩ : ∃ y : Nat, x = y := ⟨x.toNat, by omega⟩
     have hyl : y < v.vessels.length := by omega
     have hvo := Zbl hz hyl
     have hlen : 1 <= l.length := by rcases l with _ | ⟨a, r⟩; exact absurd rfl c3; simp
     have hw2 : wrapF .i64 ((l.length : Int) - 1) = ((l.length - 1 : Nat) : Int) := by rw [Z5 (by omega) (by omega)]; omega
     have hq0 : ((l.length : Int) = 0) = False := eq_false (by omega)
     have hsl := fun s => Zf6 67 l (l.length - 1) (by omega) s
     simp -implicitDefEqProofs only [go_sem, a0, a1, a2, a3, hT, hr, c0, hw1, hfc, c1, c2, hq0, hw2, hsl]
     rw [show l.take (l.length - 1) = l.dropLast from (List.dropLast_eq_take ..).symm]
     have hdl : l.dropLast.length = l.length - 1 := List.length_dropLast ..
     have hds : ∀ s ∈ l.dropLast, 0 <= s.ticks /\ s.ticks <= 2000 := fun s hs => by have := hst s (List.dropLast_subset _ hs); omega
     simp only [Z1]
     refine Tr.Does.mono (Q := fun z => ∃ (T' : List AV) (n' : Nat) (H' : Heap), z = ((AExit.exit 1, T'), (⟨H', n' + 5, [], false, []⟩ : St)) /\ T'.length = 75 /\ nth T' 1 = some (.lst (l.map bkV)) /\ nth T' 4 = some (.ptr [0] 0) /\ nth T' 6 = some (.ptr [1] 0) /\ nth T' 7 = some (.ptr [2] 0) /\ nth T' 8 = some (.ptr [3] 0) /\ nth T' 9 = some (.ptr [4] 0) /\ nth T' 11 = some (.int .i64 (ticksW 0 l.dropLast)) /\ hget H' [0] = some (vacC v) /\ hget H' [1] = some (.cells [.int .i64 y] true 0) /\ hget H' [2] = some (.cells [.int .i64 limit] true 0) /\ hget H' [3] = some (.cells [.int .i64 0] true 0) /\ hget H' [4] = some (.cells [.int .i64 0] true 0)) ?_ ?_
     ·generalize l.dropLast = D at *
      refine Zf (fun k T s' => T.length = 75 /\ nth T 1 = some (.lst (l.map bkV)) /\ nth T 4 = some (.ptr [0] 0) /\ nth T 6 = some (.ptr [1] 0) /\ nth T 7 = some (.ptr [2] 0) /\ nth T 8 = some (.ptr [3] 0) /\ nth T 9 = some (.ptr [4] 0) /\ nth T 41 = some (.lst (D.map bkV)) /\ nth T 42 = some (.int .i64 D.length) /\ ∃ (i n' : Nat) (H' : Heap) (q : Int), nth T 43 = some (.int .i64 i) /\ nth T 11 = some (.int .i64 q) /\ i <= D.length /\ k = D.length - i /\ s' = ⟨H', n' + 5, [], false, []⟩ /\ hget H' [0] = some (vacC v) /\ hget H' [1] = some (.cells [.int .i64 y] true 0) /\ hget H' [2] = some (.cells [.int .i64 limit] true 0) /\ hget H' [3] = some (.cells [.int .i64 0] true 0) /\ hget H' [4] = some (.cells [.int .i64 0] true 0) /\ ticksW 0 D = ticksW q (D.drop i)) (k := D.length) (by omega) ?_ ?_
      ·exact ⟨by simp -implicitDefEqProofs only [go_sem, hT], by simp -implicitDefEqProofs only [go_sem, a1], by simp -implicitDefEqProofs only [go_sem, hT], by simp -implicitDefEqProofs only [go_sem, hT], by simp -implicitDefEqProofs only [go_sem, hT], by simp -implicitDefEqProofs only [go_sem, hT], by simp -implicitDefEqProofs only [go_sem, hT], by simp -implicitDefEqProofs only [go_sem, hT], by simp -implicitDefEqProofs only [go_sem, hT], 0, 0, _, 0, by simp -implicitDefEqProofs only [go_sem, hT] <;> rfl, by simp -implicitDefEqProofs only [go_sem, hT], by omega, rfl, rfl, rfl, rfl, rfl, rfl, rfl, rfl⟩
      clear a0 a1 a2 a3 hT T hr hfc hsl
      rintro k T s' ⟨hT, a1, a4, a6, a7, a8, a9, a41, a42, i, n', H, q, a43, a11, hi, rfl, rfl, g0, g1, g2, g3, g4, he⟩
      simp -implicitDefEqProofs only [go_sem, a42, a43, hT]
      by_cases hil : (i : Int) < (D.length : Int)
      ·have hi' : i < D.length := by omega
       have e1 := Z9 (f := bkV) (l := D) (i := i) (z := 4) hi' rfl
       have hkk : D.length - (i + 1) < D.length - i := by omega
       rw [List.drop_eq_getElem_cons hi'] at he
       generalize D[i] = z at *
       simp only [ticksW] at he
       simp only [bkV] at e1
       have hw3 : wrapF .i64 ((i : Int) + 1) = ((i + 1 : Nat) : Int) := Z5 (by omega) (by omega)
       have k1 : ∀ X, hget (([n' + 5], X) :: H) [n' + 5] = some X := fun X => Z3 ..
       have kk : ∀ m X, m < 5 -> hget (([n' + 5], X) :: H) [m] = hget H [m] := fun m X h => hc11 (by omega)
       simp -implicitDefEqProofs only [go_sem, a1, a4, a6, a7, a8, a9, a11, a41, a42, a43, hT, hil, e1, k1, hw3]
       exact ⟨D.length - (i + 1), hkk, trivial, trivial, trivial, trivial, trivial, trivial, trivial, trivial, trivial, i + 1, n' + 1, _, _, rfl, rfl, hi', rfl, rfl, (kk 0 _ (by decide)).trans g0, (kk 1 _ (by decide)).trans g1, (kk 2 _ (by decide)).trans g2, (kk 3 _ (by decide)).trans g3, (kk 4 _ (by decide)).trans g4, he⟩
      ·have hie : i = D.length := by omega
       subst hie
       rw [List.drop_length] at he
       simp only [ticksW] at he
       simp -implicitDefEqProofs only [go_sem, hil]
       exact ⟨_, n', H, rfl, by simp -implicitDefEqProofs only [go_sem, hT], by simp -implicitDefEqProofs only [go_sem, a1], by simp -implicitDefEqProofs only [go_sem, a4], by simp -implicitDefEqProofs only [go_sem, a6], by simp -implicitDefEqProofs only [go_sem, a7], by simp -implicitDefEqProofs only [go_sem, a8], by simp -implicitDefEqProofs only [go_sem, a9], by simp -implicitDefEqProofs only [go_sem, a11, he], g0, g1, g2, g3, g4⟩
     clear a0 a1 a2 a3 hT T hr hfc hsl
     rintro _ ⟨T, n', H, rfl, hT, a1, a4, a6, a7, a8, a9, a11, g0, g1, g2, g3, g4⟩
     have h99 := fun H n => Za5 v l (K + 12) H n
     simp only [vacV] at h99
     obtain ⟨q0, hq0'⟩ : ∃ q0, q0 = wrapF .i64 (0 - ticksW 0 l.dropLast) := ⟨_, rfl⟩
     rw [show holdV v y limit l = (match allT (holdN v y limit) v q0 l with | .inl _ => (0, 15) | .inr (c, _) => (c, 0)) from by rw [hq0']; rfl]
     unfold vacC at g0
     have g0' := g0
     have f0 : ∀ X, hget (([n' + 5], X) :: H) [0] = hget H [0] := fun X => hc11 (by omega)
     simp -implicitDefEqProofs only [go_sem, a1, a4, a11, hT, f0, g0, <- hq0', h99]
     simp only [Z1]
     refine Z1q (nxt := holdN v y limit) (fun L c H => hget H [0] = some (vacC v) /\ hget H [1] = some (.cells [.int .i64 y] true 0) /\ hget H [2] = some (.cells [.int .i64 limit] true 0) /\ (hget H [3] = some (.cells [.int .i64 0] true 0) /\ hget H [4] = some (.cells [.int .i64 0] true 0)) /\ hget H [n' + 5] = some (.cells [.int .i64 c] true 0) /\ hget H [n' + 6] = some (vacC v) /\ hget H [n' + 7] = some (.cells [.lst (l.map bkV)] true 0) /\ hget H [n' + 8] = some L) (fun c g H => hget H [3] = some (.cells [.int .i64 c] true 0) /\ hget H [4] = some (.cells [.int .i64 0] true 0) /\ ∃ T' ps' a' b', hget H [n' + 8] = some (.loop T' ps' a' b' .done (some .ret))) q0 (by simp -implicitDefEqProofs only [go_sem, hT] <;> rfl) hva (by omega) hst hl20
      (P := fun T => T.length = 75 /\ nth T 4 = some (.ptr [0] 0) /\ nth T 6 = some (.ptr [1] 0) /\ nth T 7 = some (.ptr [2] 0) /\ nth T 8 = some (.ptr [3] 0) /\ nth T 9 = some (.ptr [4] 0) /\ nth T 14 = some (.ptr [n' + 5] 0)) (by exact ⟨by simp -implicitDefEqProofs only [go_sem, hT], by simp -implicitDefEqProofs only [go_sem, a4], by simp -implicitDefEqProofs only [go_sem, a6], by simp -implicitDefEqProofs only [go_sem, a7], by simp -implicitDefEqProofs only [go_sem, a8], by simp -implicitDefEqProofs only [go_sem, a9], by simp -implicitDefEqProofs only [go_sem, hT]⟩) ?_
     clear a1 a4 a6 a7 a8 a9 a11 hT T h99 hq0' f0
     rintro T ⟨hT, a4, a6, a7, a8, a9, a14⟩ L hL
     refine ⟨⟨?_, ?_, ?_, ?_⟩, ?_, ?_, ?_, ?_⟩
     ·intro c g H n hn hI hs hf
      obtain ⟨i0, i1, i2, ⟨i3, i4⟩, i5, i6, i7, i8⟩ := hI
      subst hL
      have hs' : SysAt .nils H [n' + 9, 4, 0] [n' + 9, 2, 0] [n' + 9, 2, 1] [n' + 9, 2, 2] v g := hs
      have hyf : y < g.free.length := by rw [hf.f]; exact hyl
      have hpr := fun H n p jr j hf hb hr => Z3e (v := v) (g := g) (f := [n' + 9, 2, 0]) (b := [n' + 9, 2, 1]) (r := [n' + 9, 2, 2]) (x := y) (K := K + 10) (H := H) (n := n) (p := p) (jr := jr) (j := j) hyl hyf hvo.1 hf hb hr (n33c (by decide)) (n33c (by decide)) (n33c (by decide))
      unfold holdN
      rw [Zbk hyl hyf]
      generalize pressR g.free[y] v.vessels[y].vol = P at *
      have g3 := hs'.x
      unfold sysB at g3
      unfold gasY bsOf xsOf at hpr
      have i0' := i0
      unfold vacC at i0
      have q0 : ∀ Y, hget (hset H [n' + 8] Y) [0] = hget H [0] := fun Y => hs11 (by omega)
      have q1 : ∀ Y, hget (hset H [n' + 8] Y) [1] = hget H [1] := fun Y => hs11 (by omega)
      have q2 : ∀ Y, hget (hset H [n' + 8] Y) [2] = hget H [2] := fun Y => hs11 (by omega)
      have q3 : ∀ Y, hget (hset H [n' + 8] Y) [3] = hget H [3] := fun Y => hs11 (by omega)
      have q4 : ∀ Y, hget (hset H [n' + 8] Y) [4] = hget H [4] := fun Y => hs11 (by omega)
      have q5 : ∀ Y, hget (hset H [n' + 8] Y) [n' + 5] = hget H [n' + 5] := fun Y => hs11 (by omega)
      have q6 : ∀ Y, hget (hset H [n' + 8] Y) [n' + 9, 4, 0] = hget H [n' + 9, 4, 0] := fun Y => hs13
      have qf : ∀ Y, hget (hset H [n' + 8] Y) [n' + 9, 2, 0] = some (rgB g.free) := fun Y => hs13.trans hs'.f
      have qb : ∀ Y, hget (hset H [n' + 8] Y) [n' + 9, 2, 1] = some (rgB g.bound) := fun Y => hs13.trans hs'.b
      have qr : ∀ Y, g.room ≠ [] -> hget (hset H [n' + 8] Y) [n' + 9, 2, 2] = some (rgB g.room) := fun Y e => hs13.trans (hs'.r e)
      have ip0 : isPre [n, 9] [n' + 9, 2, 0] = false := Go.Am.Y5 _ _ (by omega)
      have ip1 : isPre [n, 9] [n' + 9, 2, 1] = false := Go.Am.Y5 _ _ (by omega)
      have ip2 : isPre [n, 9] [n' + 9, 2, 2] = false := Go.Am.Y5 _ _ (by omega)
      simp only [vacV] at hpr
      by_cases hcc : 0 <= c
      ·by_cases hpl : P.hi <= limit
       ·have hcond : 0 <= c /\ P.hi <= limit := ⟨hcc, hpl⟩
        suffices hd : (around cfg (K + 11 + 1) [n' + 8] [.ptr [n' + 9, 4, 0] 0] ⟨H, n, [], false, []⟩).Does fun x => ∃ H', x = (.bool false, (⟨H', n + 1, [], false, []⟩ : St)) /\ hget H' [3] = some (.cells [.int .i64 c] true 0) /\ hget H' [4] = some (.cells [.int .i64 0] true 0) /\ ∃ T' ps' a' b', hget H' [n' + 8] = some (.loop T' ps' a' b' .done (some .ret)) by
         obtain ⟨x, e, H', rfl, k1, k2, k3⟩ := hd
         right
         exact ⟨H', n + 1, by rw [if_pos hcond], e, Nat.le_succ _, k1, k2, k3⟩
        refine Jv i8 rfl ?_
        simp -implicitDefEqProofs only [go_sem, hT]
        refine ⟨trivial, _, _, _, _, _, i8, ?_⟩
        cases hg : g.room with
        | nil =>
         rw [hg] at hpr g3
         simp only [List.length_nil, rowX, backJ, ne_eq, not_true_eq_false, false_implies, forall_const] at hpr g3
         have kd : ∀ Y, hget (hdel (hdel (hset H [n' + 8] Y) [n' + 9, 2, 1]) [n' + 9, 2, 0]) [2] = hget H [2] := fun Y => by simp (disch := omega) only [hs11, hd31]
         have kr : ∀ Y k, k ≠ n' + 8 -> hget (redoH (hset H [n' + 8] Y) [([n' + 9, 2, 1], some (rgB g.bound)), ([n' + 9, 2, 0], some (rgB g.free))]) [k] = hget H [k] := fun Y k hk => by rw [Z0]; simp (disch := omega) only [hs11, lkn, lk31, Option.getD_none]
         have k5 : ∀ Y, hget (redoH (hset H [n' + 8] Y) [([n' + 9, 2, 1], some (rgB g.bound)), ([n' + 9, 2, 0], some (rgB g.free))]) [n' + 5] = hget H [n' + 5] := fun Y => kr Y _ (by omega)
         have k3 : ∀ Y, hget (redoH (hset H [n' + 8] Y) [([n' + 9, 2, 1], some (rgB g.bound)), ([n' + 9, 2, 0], some (rgB g.free))]) [3] = hget H [3] := fun Y => kr Y _ (by omega)
         have k4 : ∀ X Y, hget (hset (redoH (hset H [n' + 8] Y) [([n' + 9, 2, 1], some (rgB g.bound)), ([n' + 9, 2, 0], some (rgB g.free))]) [3] X) [4] = hget H [4] := fun X Y => (hs11 (by decide)).trans (kr Y _ (by omega))
         have k8 : ∀ Y, hget (redoH (hset H [n' + 8] Y) [([n' + 9, 2, 1], some (rgB g.bound)), ([n' + 9, 2, 0], some (rgB g.free))]) [n' + 8] = some Y := fun Y => by rw [Z0]; simp (disch := omega) only [lkn, lk31, Option.getD_none]; exact hss i8
         simp -implicitDefEqProofs only [go_sem]
         try simp only [Z1]
         refine Z7 [[], [0], [1, 0], [2, 1, 0], [2, 1, 0], [4, 2, 1, 0], [5, 4, 2, 1, 0], [6, 5, 4, 2, 1, 0], [2, 1, 0], [3, 7, 6, 5, 4, 8, 2, 1, 0], [9, 3, 7, 6, 5, 4, 8, 2, 1, 0], [2, 1, 0], [10, 9, 3, 7, 6, 5, 4, 8, 11, 2, 1, 0], [12, 10, 9, 3, 7, 6, 5, 4, 8, 11, 2, 1, 0]] [[], [], [], [], [], [], [], [], [], [[n' + 9, 2, 1], [n' + 9, 2, 0]], [], [], [], []] (by kernel_rfl) rfl rfl ?_
         simp -implicitDefEqProofs only [go_sem, hcur, AV.shut, shuts, a4, a6, a7, a14, hT, i0, i1, i2, i5, q0, q1, q2, q5, q6, qf, qb, kd, ip0, ip1, g3, hpr, hcc, hpl, Z8]
         simp -implicitDefEqProofs only [go_sem, a8, a9, hT, i3, i4, i5, k3, k4, k5]
         refine ⟨_, _, _, _, _, _, (hs11 (by omega)).trans ((hs11 (by omega)).trans (k8 _)), ?_⟩
         simp -implicitDefEqProofs only [go_sem, jumpOf]
         refine ⟨_, rfl, ?_, ?_, _, _, _, _, hss ((hs11 (by omega)).trans ((hs11 (by omega)).trans (k8 _)))⟩
         ·rw [Z2 _ _ (n11 (by omega)), Z2 _ _ (n11 (by decide))]; exact hss ((k3 _).trans i3)
         ·rw [Z2 _ _ (n11 (by omega))]; exact hss ((k4 _ _).trans i4)
        | cons a l' =>
         have qr' : ∀ Y, hget (hset H [n' + 8] Y) [n' + 9, 2, 2] = some (rgB (a :: l')) := fun Y => by rw [qr Y (by rw [hg]; simp), hg]
         rw [hg] at hpr g3
         simp only [List.length_cons, rowX, backJ, ne_eq, reduceCtorEq, not_false_eq_true, forall_const] at hpr g3
         have kd : ∀ Y, hget (hdel (hdel (hdel (hset H [n' + 8] Y) [n' + 9, 2, 2]) [n' + 9, 2, 1]) [n' + 9, 2, 0]) [2] = hget H [2] := fun Y => by simp (disch := omega) only [hs11, hd31]
         have kr : ∀ Y k, k ≠ n' + 8 -> hget (redoH (hset H [n' + 8] Y) [([n' + 9, 2, 2], some (rgB (a :: l'))), ([n' + 9, 2, 1], some (rgB g.bound)), ([n' + 9, 2, 0], some (rgB g.free))]) [k] = hget H [k] := fun Y k hk => by rw [Z0]; simp (disch := omega) only [hs11, lkn, lk31, Option.getD_none]
         have k5 : ∀ Y, hget (redoH (hset H [n' + 8] Y) [([n' + 9, 2, 2], some (rgB (a :: l'))), ([n' + 9, 2, 1], some (rgB g.bound)), ([n' + 9, 2, 0], some (rgB g.free))]) [n' + 5] = hget H [n' + 5] := fun Y => kr Y _ (by omega)
         have k3 : ∀ Y, hget (redoH (hset H [n' + 8] Y) [([n' + 9, 2, 2], some (rgB (a :: l'))), ([n' + 9, 2, 1], some (rgB g.bound)), ([n' + 9, 2, 0], some (rgB g.free))]) [3] = hget H [3] := fun Y => kr Y _ (by omega)
         have k4 : ∀ X Y, hget (hset (redoH (hset H [n' + 8] Y) [([n' + 9, 2, 2], some (rgB (a :: l'))), ([n' + 9, 2, 1], some (rgB g.bound)), ([n' + 9, 2, 0], some (rgB g.free))]) [3] X) [4] = hget H [4] := fun X Y => (hs11 (by decide)).trans (kr Y _ (by omega))
         have k8 : ∀ Y, hget (redoH (hset H [n' + 8] Y) [([n' + 9, 2, 2], some (rgB (a :: l'))), ([n' + 9, 2, 1], some (rgB g.bound)), ([n' + 9, 2, 0], some (rgB g.free))]) [n' + 8] = some Y := fun Y => by rw [Z0]; simp (disch := omega) only [lkn, lk31, Option.getD_none]; exact hss i8
         simp -implicitDefEqProofs only [go_sem]
         try simp only [Z1]
         refine Z7 [[], [0], [1, 0], [2, 1, 0], [2, 1, 0], [4, 2, 1, 0], [5, 4, 2, 1, 0], [6, 5, 4, 2, 1, 0], [2, 1, 0], [3, 7, 6, 5, 4, 8, 2, 1, 0], [9, 3, 7, 6, 5, 4, 8, 2, 1, 0], [2, 1, 0], [10, 9, 3, 7, 6, 5, 4, 8, 11, 2, 1, 0], [12, 10, 9, 3, 7, 6, 5, 4, 8, 11, 2, 1, 0]] [[], [], [], [], [], [], [], [], [], [[n' + 9, 2, 2], [n' + 9, 2, 1], [n' + 9, 2, 0]], [], [], [], []] (by kernel_rfl) rfl rfl ?_
         simp -implicitDefEqProofs only [go_sem, hcur, AV.shut, shuts, a4, a6, a7, a14, hT, i0, i1, i2, i5, q0, q1, q2, q5, q6, qf, qb, qr', kd, ip0, ip1, ip2, g3, hpr, hcc, hpl, Z8]
         simp -implicitDefEqProofs only [go_sem, a8, a9, hT, i3, i4, i5, k3, k4, k5]
         refine ⟨_, _, _, _, _, _, (hs11 (by omega)).trans ((hs11 (by omega)).trans (k8 _)), ?_⟩
         simp -implicitDefEqProofs only [go_sem, jumpOf]
         refine ⟨_, rfl, ?_, ?_, _, _, _, _, hss ((hs11 (by omega)).trans ((hs11 (by omega)).trans (k8 _)))⟩
         ·rw [Z2 _ _ (n11 (by omega)), Z2 _ _ (n11 (by decide))]; exact hss ((k3 _).trans i3)
         ·rw [Z2 _ _ (n11 (by omega))]; exact hss ((k4 _ _).trans i4)
       ·have hcond : ¬ (0 <= c /\ P.hi <= limit) := fun h => hpl h.2
        suffices hd : (around cfg (K + 11 + 1) [n' + 8] [.ptr [n' + 9, 4, 0] 0] ⟨H, n, [], false, []⟩).Does fun x => ∃ H', x = (.bool true, (⟨H', n + 1, [], false, []⟩ : St)) /\ (∀ q : Nm, q ≠ [n' + 5] -> q ≠ [n' + 8] -> hget H' q = hget H q) /\ hget H' [n' + 5] = some (.cells [.int .i64 (wrapF .i64 (c + 1))] true 0) /\ hget H' [n' + 8] = hget H [n' + 8] by
         obtain ⟨x, e, H', rfl, k1, k2, k3⟩ := hd
         left
         exact ⟨_, H', n + 1, by rw [if_neg hcond], e, Nat.le_succ _, ⟨(k1 _ (n11 (by omega)) (n11 (by omega))).trans i0', (k1 _ (n11 (by omega)) (n11 (by omega))).trans i1, (k1 _ (n11 (by omega)) (n11 (by omega))).trans i2, ⟨(k1 _ (n11 (by omega)) (n11 (by omega))).trans i3, (k1 _ (n11 (by omega)) (n11 (by omega))).trans i4⟩, k2, (k1 _ (n11 (by omega)) (n11 (by omega))).trans i6, (k1 _ (n11 (by omega)) (n11 (by omega))).trans i7, k3.trans i8⟩,
          fun q h1 h2 => k1 _ (n11 (by omega)) (n11 (by omega)), ⟨(k1 _ n31 n31).trans hs.x, (k1 _ n31 n31).trans hs.f, (k1 _ n31 n31).trans hs.b, fun e => (k1 _ n31 n31).trans (hs.r e)⟩⟩
        refine Jv i8 rfl ?_
        simp -implicitDefEqProofs only [go_sem, hT]
        refine ⟨trivial, _, _, _, _, _, i8, ?_⟩
        cases hg : g.room with
        | nil =>
         rw [hg] at hpr g3
         simp only [List.length_nil, rowX, backJ, ne_eq, not_true_eq_false, false_implies, forall_const] at hpr g3
         have kd : ∀ Y, hget (hdel (hdel (hset H [n' + 8] Y) [n' + 9, 2, 1]) [n' + 9, 2, 0]) [2] = hget H [2] := fun Y => by simp (disch := omega) only [hs11, hd31]
         have kr : ∀ Y k, k ≠ n' + 8 -> hget (redoH (hset H [n' + 8] Y) [([n' + 9, 2, 1], some (rgB g.bound)), ([n' + 9, 2, 0], some (rgB g.free))]) [k] = hget H [k] := fun Y k hk => by rw [Z0]; simp (disch := omega) only [hs11, lkn, lk31, Option.getD_none]
         have k5 : ∀ Y, hget (redoH (hset H [n' + 8] Y) [([n' + 9, 2, 1], some (rgB g.bound)), ([n' + 9, 2, 0], some (rgB g.free))]) [n' + 5] = hget H [n' + 5] := fun Y => kr Y _ (by omega)
         have k3 : ∀ Y, hget (redoH (hset H [n' + 8] Y) [([n' + 9, 2, 1], some (rgB g.bound)), ([n' + 9, 2, 0], some (rgB g.free))]) [3] = hget H [3] := fun Y => kr Y _ (by omega)
         have k4 : ∀ X Y, hget (hset (redoH (hset H [n' + 8] Y) [([n' + 9, 2, 1], some (rgB g.bound)), ([n' + 9, 2, 0], some (rgB g.free))]) [3] X) [4] = hget H [4] := fun X Y => (hs11 (by decide)).trans (kr Y _ (by omega))
         have k8 : ∀ Y, hget (redoH (hset H [n' + 8] Y) [([n' + 9, 2, 1], some (rgB g.bound)), ([n' + 9, 2, 0], some (rgB g.free))]) [n' + 8] = some Y := fun Y => by rw [Z0]; simp (disch := omega) only [lkn, lk31, Option.getD_none]; exact hss i8
         simp -implicitDefEqProofs only [go_sem]
         try simp only [Z1]
         refine Z7 [[], [0], [1, 0], [2, 1, 0], [2, 1, 0], [4, 2, 1, 0], [5, 4, 2, 1, 0], [6, 5, 4, 2, 1, 0], [2, 1, 0], [3, 7, 6, 5, 4, 8, 2, 1, 0], [9, 3, 7, 6, 5, 4, 8, 2, 1, 0], [2, 1, 0], [10, 9, 3, 7, 6, 5, 4, 8, 11, 2, 1, 0], [12, 10, 9, 3, 7, 6, 5, 4, 8, 11, 2, 1, 0]] [[], [], [], [], [], [], [], [], [], [[n' + 9, 2, 1], [n' + 9, 2, 0]], [], [], [], []] (by kernel_rfl) rfl rfl ?_
         simp -implicitDefEqProofs only [go_sem, hcur, AV.shut, shuts, a4, a6, a7, a14, hT, i0, i1, i2, i5, q0, q1, q2, q5, q6, qf, qb, kd, ip0, ip1, g3, hpr, hcc, hpl, Z8]
         simp -implicitDefEqProofs only [go_sem, a14, hT, i5, k5]
         refine ⟨_, _, _, _, _, _, (hs11 (by omega)).trans (k8 _), ?_⟩
         simp -implicitDefEqProofs only [go_sem, jumpOf]
         refine ⟨_, rfl, fun q h1 h2 => ?_, ?_, ?_⟩
         ·rw [Z2 _ _ (Ne.symm h2), Z2 _ _ (Ne.symm h1), Z0]
          by_cases e1 : q = [n' + 9, 2, 1]
          ·subst e1; rw [Za, Option.getD_some, hs'.b]
          rw [Z0c (Ne.symm e1)]
          by_cases e0 : q = [n' + 9, 2, 0]
          ·subst e0; rw [Za, Option.getD_some, hs'.f]
          rw [Z0c (Ne.symm e0), lkn, Option.getD_none]
          exact Z2 _ _ (Ne.symm h2)
         ·rw [Z2 _ _ (n11 (by omega))]; exact hss ((k5 _).trans i5)
         ·rw [i8]; exact hss ((hs11 (by omega)).trans (k8 _))
        | cons a l' =>
         have qr' : ∀ Y, hget (hset H [n' + 8] Y) [n' + 9, 2, 2] = some (rgB (a :: l')) := fun Y => by rw [qr Y (by rw [hg]; simp), hg]
         rw [hg] at hpr g3
         simp only [List.length_cons, rowX, backJ, ne_eq, reduceCtorEq, not_false_eq_true, forall_const] at hpr g3
         have kd : ∀ Y, hget (hdel (hdel (hdel (hset H [n' + 8] Y) [n' + 9, 2, 2]) [n' + 9, 2, 1]) [n' + 9, 2, 0]) [2] = hget H [2] := fun Y => by simp (disch := omega) only [hs11, hd31]
         have kr : ∀ Y k, k ≠ n' + 8 -> hget (redoH (hset H [n' + 8] Y) [([n' + 9, 2, 2], some (rgB (a :: l'))), ([n' + 9, 2, 1], some (rgB g.bound)), ([n' + 9, 2, 0], some (rgB g.free))]) [k] = hget H [k] := fun Y k hk => by rw [Z0]; simp (disch := omega) only [hs11, lkn, lk31, Option.getD_none]
         have k5 : ∀ Y, hget (redoH (hset H [n' + 8] Y) [([n' + 9, 2, 2], some (rgB (a :: l'))), ([n' + 9, 2, 1], some (rgB g.bound)), ([n' + 9, 2, 0], some (rgB g.free))]) [n' + 5] = hget H [n' + 5] := fun Y => kr Y _ (by omega)
         have k3 : ∀ Y, hget (redoH (hset H [n' + 8] Y) [([n' + 9, 2, 2], some (rgB (a :: l'))), ([n' + 9, 2, 1], some (rgB g.bound)), ([n' + 9, 2, 0], some (rgB g.free))]) [3] = hget H [3] := fun Y => kr Y _ (by omega)
         have k4 : ∀ X Y, hget (hset (redoH (hset H [n' + 8] Y) [([n' + 9, 2, 2], some (rgB (a :: l'))), ([n' + 9, 2, 1], some (rgB g.bound)), ([n' + 9, 2, 0], some (rgB g.free))]) [3] X) [4] = hget H [4] := fun X Y => (hs11 (by decide)).trans (kr Y _ (by omega))
         have k8 : ∀ Y, hget (redoH (hset H [n' + 8] Y) [([n' + 9, 2, 2], some (rgB (a :: l'))), ([n' + 9, 2, 1], some (rgB g.bound)), ([n' + 9, 2, 0], some (rgB g.free))]) [n' + 8] = some Y := fun Y => by rw [Z0]; simp (disch := omega) only [lkn, lk31, Option.getD_none]; exact hss i8
         simp -implicitDefEqProofs only [go_sem]
         try simp only [Z1]
         refine Z7 [[], [0], [1, 0], [2, 1, 0], [2, 1, 0], [4, 2, 1, 0], [5, 4, 2, 1, 0], [6, 5, 4, 2, 1, 0], [2, 1, 0], [3, 7, 6, 5, 4, 8, 2, 1, 0], [9, 3, 7, 6, 5, 4, 8, 2, 1, 0], [2, 1, 0], [10, 9, 3, 7, 6, 5, 4, 8, 11, 2, 1, 0], [12, 10, 9, 3, 7, 6, 5, 4, 8, 11, 2, 1, 0]] [[], [], [], [], [], [], [], [], [], [[n' + 9, 2, 2], [n' + 9, 2, 1], [n' + 9, 2, 0]], [], [], [], []] (by kernel_rfl) rfl rfl ?_
         simp -implicitDefEqProofs only [go_sem, hcur, AV.shut, shuts, a4, a6, a7, a14, hT, i0, i1, i2, i5, q0, q1, q2, q5, q6, qf, qb, qr', kd, ip0, ip1, ip2, g3, hpr, hcc, hpl, Z8]
         simp -implicitDefEqProofs only [go_sem, a14, hT, i5, k5]
         refine ⟨_, _, _, _, _, _, (hs11 (by omega)).trans (k8 _), ?_⟩
         simp -implicitDefEqProofs only [go_sem, jumpOf]
         refine ⟨_, rfl, fun q h1 h2 => ?_, ?_, ?_⟩
         ·rw [Z2 _ _ (Ne.symm h2), Z2 _ _ (Ne.symm h1), Z0]
          by_cases e2 : q = [n' + 9, 2, 2]
          ·subst e2; rw [Za, Option.getD_some, hs'.r (by rw [hg]; simp), hg]
          rw [Z0c (Ne.symm e2)]
          by_cases e1 : q = [n' + 9, 2, 1]
          ·subst e1; rw [Za, Option.getD_some, hs'.b]
          rw [Z0c (Ne.symm e1)]
          by_cases e0 : q = [n' + 9, 2, 0]
          ·subst e0; rw [Za, Option.getD_some, hs'.f]
          rw [Z0c (Ne.symm e0), lkn, Option.getD_none]
          exact Z2 _ _ (Ne.symm h2)
         ·rw [Z2 _ _ (n11 (by omega))]; exact hss ((k5 _).trans i5)
         ·rw [i8]; exact hss ((hs11 (by omega)).trans (k8 _))
      ·have hcond : ¬ (0 <= c /\ P.hi <= limit) := fun h => hcc h.1
       suffices hd : (around cfg (K + 11 + 1) [n' + 8] [.ptr [n' + 9, 4, 0] 0] ⟨H, n, [], false, []⟩).Does fun x => ∃ H', x = (.bool true, (⟨H', n + 1, [], false, []⟩ : St)) /\ (∀ q : Nm, q ≠ [n' + 5] -> q ≠ [n' + 8] -> hget H' q = hget H q) /\ hget H' [n' + 5] = some (.cells [.int .i64 (wrapF .i64 (c + 1))] true 0) /\ hget H' [n' + 8] = hget H [n' + 8] by
        obtain ⟨x, e, H', rfl, k1, k2, k3⟩ := hd
        left
        exact ⟨_, H', n + 1, by rw [if_neg hcond], e, Nat.le_succ _, ⟨(k1 _ (n11 (by omega)) (n11 (by omega))).trans i0', (k1 _ (n11 (by omega)) (n11 (by omega))).trans i1, (k1 _ (n11 (by omega)) (n11 (by omega))).trans i2, ⟨(k1 _ (n11 (by omega)) (n11 (by omega))).trans i3, (k1 _ (n11 (by omega)) (n11 (by omega))).trans i4⟩, k2, (k1 _ (n11 (by omega)) (n11 (by omega))).trans i6, (k1 _ (n11 (by omega)) (n11 (by omega))).trans i7, k3.trans i8⟩,
         fun q h1 h2 => k1 _ (n11 (by omega)) (n11 (by omega)), ⟨(k1 _ n31 n31).trans hs.x, (k1 _ n31 n31).trans hs.f, (k1 _ n31 n31).trans hs.b, fun e => (k1 _ n31 n31).trans (hs.r e)⟩⟩
       refine Jv i8 rfl ?_
       simp -implicitDefEqProofs only [go_sem, hT]
       refine ⟨trivial, _, _, _, _, _, i8, ?_⟩
       have kL : ∀ X Y, hget (hset (redoH (hset H [n' + 8] Y) []) [n' + 5] X) [n' + 8] = some Y := fun X Y => (hs11 (by omega)).trans (by rw [Z0, lkn, Option.getD_none]; exact hss i8)
       have k5 : ∀ Y, hget (redoH (hset H [n' + 8] Y) []) [n' + 5] = hget H [n' + 5] := fun Y => by rw [Z0, lkn, Option.getD_none]; exact q5 Y
       simp -implicitDefEqProofs only [go_sem]
       try simp only [Z1]
       refine Z7 [[], [0], [1, 0], [2, 1, 0], [2, 1, 0], [4, 2, 1, 0], [5, 4, 2, 1, 0], [6, 5, 4, 2, 1, 0], [2, 1, 0], [3, 7, 6, 5, 4, 8, 2, 1, 0], [9, 3, 7, 6, 5, 4, 8, 2, 1, 0], [2, 1, 0], [10, 9, 3, 7, 6, 5, 4, 8, 11, 2, 1, 0], [12, 10, 9, 3, 7, 6, 5, 4, 8, 11, 2, 1, 0]] [[], [], [], [], [], [], [], [], [], [], [], [], [], []] (by kernel_rfl) rfl rfl ?_
       simp -implicitDefEqProofs only [go_sem, a14, hT, i5, q5, hcc, Z8]
       simp -implicitDefEqProofs only [go_sem, a14, hT, i5, k5]
       refine ⟨_, _, _, _, _, _, kL _ _, ?_⟩
       simp -implicitDefEqProofs only [go_sem, jumpOf]
       refine ⟨_, rfl, fun q h1 h2 => ?_, ?_, ?_⟩
       ·rw [Z2 _ _ (Ne.symm h2), Z2 _ _ (Ne.symm h1), Z0, lkn, Option.getD_none, Z2 _ _ (Ne.symm h2)]
       ·rw [Z2 _ _ (n11 (by omega))]; exact hss ((k5 _).trans i5)
       ·rw [i8]; exact hss (kL _ _)
     ·rintro c H H' ⟨i0, i1, i2, ⟨i3, i4⟩, i5, i6, i7, i8⟩ hk
      exact ⟨(hk 0 (by omega)).trans i0, (hk 1 (by omega)).trans i1, (hk 2 (by omega)).trans i2, ⟨(hk 3 (by omega)).trans i3, (hk 4 (by omega)).trans i4⟩, (hk _ (by omega)).trans i5, (hk _ (by omega)).trans i6, (hk _ (by omega)).trans i7, (hk _ (by omega)).trans i8⟩
     ·exact fun c H h => h.2.2.2.2.2.1
     ·exact fun c H h => h.2.2.2.2.2.2.1
     ·refine ⟨?_, ?_, ?_, ⟨?_, ?_⟩, ?_, ?_, ?_, Z3 ..⟩
      ·simp (disch := omega) only [hc11]; exact g0'
      ·simp (disch := omega) only [hc11]; exact g1
      ·simp (disch := omega) only [hc11]; exact g2
      ·simp (disch := omega) only [hc11]; exact g3
      ·simp (disch := omega) only [hc11]; exact g4
      ·simp (disch := omega) only [Z3, hc11]
      ·simp (disch := omega) only [Z3, hc11]
      ·simp (disch := omega) only [Z3, hc11]
     ·exact fun c H h => h.2.2.2.2.2.2.2
     ·intro c g H n hall hI hs hn
      obtain ⟨i0, i1, i2, ⟨i3, i4⟩, i5, i6, i7, i8⟩ := hI
      have k3 : ∀ Y, hget (hset H [n' + 8] Y) [3] = hget H [3] := fun Y => hs11 (by omega)
      have k4 : ∀ X Y, hget (hset (hset H [n' + 8] Y) [3] X) [4] = hget H [4] := fun X Y => (hs11 (by decide)).trans (hs11 (by omega))
      have k5 : ∀ X Y Z, hget (hset (hset (hset H [n' + 8] Y) [3] X) [4] Z) [3] = some X := fun X Y Z => (hs11 (by decide)).trans (hss ((hs11 (by omega)).trans i3))
      have k6 : ∀ X Y Z, hget (hset (hset (hset H [n' + 8] Y) [3] X) [4] Z) [4] = some Z := fun X Y Z => hss ((hs11 (by decide)).trans ((hs11 (by omega)).trans i4))
      rw [hall]
      simp -implicitDefEqProofs only [go_sem, a8, a9, i3, i4, k3, k4, k5, k6, Try.results67]
      rfl
     ·intro c g H n hall hS hn
      obtain ⟨s3, s4, T', ps', a', b', s8⟩ := hS
      have k3 : ∀ Y, hget (hset H [n' + 8] Y) [3] = hget H [3] := fun Y => hs11 (by omega)
      have k4 : ∀ Y, hget (hset H [n' + 8] Y) [4] = hget H [4] := fun Y => hs11 (by omega)
      rw [hall]
      refine ⟨T', ps', a', b', .done, some .ret, .ret, s8, by decide, rfl, ?_⟩
      simp -implicitDefEqProofs only [go_sem, a8, a9, s3, s4, k3, k4, Try.results67]
      rfl
  ·rw [if_neg c1]
   simp -implicitDefEqProofs only [go_sem, a0, a1, a2, a3, hT, hr, c0, hw1, hfc, c1, Try.results67]
   rfl
 ·rw [if_neg c0]
  simp -implicitDefEqProofs only [go_sem, a0, a1, a2, a3, hT, hr, c0, Try.results67]
  rfl
end Go.Proofs.Ytgnpnfkncbnjnaa
namespace Go.Proofs.Ytgnpnfkncbnjnaa
attribute [local go_sem_proc] Int.reduceEq Int.reduceNeg Nat.reduceEqDiff Nat.reduceLT Nat.reduceAdd Nat.reduceSub Nat.reduceMul Int.reduceLE Int.reduceLT Int.reduceToNat Nat.reduceLeDiff
attribute [local go_sem] Int.toNat_natCast Bool.not_true Bool.not_false
open Go Go.Am
attribute [local congr] Ze Zb Zc
attribute [local go_sem] Go.Am.frozen Go.Am.freezeG Go.Am.freezeGs
theorem Z09 (v : Vac) (l : List Bk) (K : Nat) (s : St) (hK : 100 < K) (hv : v.Lens K) (hl : BkL K l) : acall cfg (K + 12) 129 [vacV v, .lst (l.map bkV)] s = .ret (.int .i64 (runsE v l), s) := by
 refine Yh Zjd Zjc (by first | rfl | simp -implicitDefEqProofs only [redoH, redo1, go_sem]) (by first | rfl | simp -implicitDefEqProofs only [go_sem]) (by first | rfl | simp -implicitDefEqProofs only [redoH, redo1, go_sem]) ?_
 refine Z6 rfl fun T hT' hA => ?_
 have a0 := hA 0 _ rfl
 have a1 := hA 1 _ rfl
 have hT : T.length = 41 := hT'
 clear hA hT'
 have hc := fun s => Z4r v (K + 7) s (by omega) (hv.more 7)
 simp only [vacV] at hc
 unfold runsE
 by_cases c0 : checkE v = 0
 ·rw [if_pos c0]
  have hlq : ((20 : Int) < (l.length : Int)) = (20 < l.length) := by rw [eq_iff_iff]; omega
  by_cases c1 : 20 < l.length
  ·rw [if_pos c1]
   simp -implicitDefEqProofs only [go_sem, a0, a1, hT, hc, c0, hlq, c1, Try.results129]
  ·rw [if_neg c1]
   simp -implicitDefEqProofs only [go_sem, a0, a1, hT, hc, c0, hlq, c1]
   simp only [Z1]
   refine Zf (fun k T s' => T.length = 41 /\ nth T 2 = some (.ptr [0] 0) /\ nth T 1 = some (.lst (l.map bkV)) /\ ∃ (i m : Nat) (q : Int) (H : Heap), nth T 7 = some (.int .i64 i) /\ nth T 6 = some (.int .i64 q) /\ i <= l.length /\ k = l.length - i /\ s' = ⟨H, m + 1, [], false, []⟩ /\ hget H [0] = some (vacC v) /\ runsS v 0 l = runsS v q (l.drop i)) (k := l.length) (by omega) ?_ ?_
   ·exact ⟨by simp -implicitDefEqProofs only [go_sem, hT], by simp -implicitDefEqProofs only [go_sem, hT], by simp -implicitDefEqProofs only [go_sem, a1], 0, 0, 0, _, by simp -implicitDefEqProofs only [go_sem, hT] <;> rfl, by simp -implicitDefEqProofs only [go_sem, hT], by omega, rfl, rfl, rfl, rfl⟩
   clear a0 a1 hT T
   rintro k T s' ⟨hT, a2, a1, i, m, q, H, a7, a6, hi, rfl, rfl, g0, he⟩
   simp -implicitDefEqProofs only [go_sem, a1, a7, hT]
   by_cases hil : (i : Int) < (l.length : Int)
   ·have hi' : i < l.length := by omega
    have e1 := Z9 (f := bkV) (l := l) (i := i) (z := 4) hi' rfl
    have hkk : l.length - (i + 1) < l.length - i := by omega
    have hx := hl.2 _ (List.getElem_mem hi')
    rw [List.drop_eq_getElem_cons hi'] at he
    generalize l[i] = x at *
    simp only [runsS] at he
    have hst := fun s => Z4p v x (K + 9) s (by omega) hx.2 hv.pip.2
    have hw1 : wrapF .i64 ((i : Int) + 1) = ((i + 1 : Nat) : Int) := Z5 (by omega) (by omega)
    have g0' := g0
    unfold vacC at g0
    simp only [bkV, vacV] at e1 hst
    have kr : ∀ k, hget (redoH H []) k = hget H k := fun k => rfl
    by_cases c2 : stageE v x = 0
    ·rw [if_pos c2] at he
     simp -implicitDefEqProofs only [go_sem, hil]
     try simp only [Z1]
     refine Z7 [[], [], [], [1, 2], [3, 1, 2], [0, 4, 3, 1, 2], [5, 0, 4, 3, 1, 2]] [[], [], [], [], [], [], []] (by kernel_rfl) rfl rfl ?_
     simp -implicitDefEqProofs only [go_sem, Option.getD_some, a1, a2, a6, a7, hT, e1, g0, hst, c2, hw1, Z8]
     exact ⟨l.length - (i + 1), hkk, trivial, trivial, trivial, i + 1, m + 1, _, _, rfl, rfl, hi', rfl, rfl, g0', he⟩
    ·rw [if_neg c2] at he
     simp -implicitDefEqProofs only [go_sem, hil]
     try simp only [Z1]
     refine Z7 [[], [], [], [1, 2], [3, 1, 2], [0, 4, 3, 1, 2], [5, 0, 4, 3, 1, 2]] [[], [], [], [], [], [], []] (by kernel_rfl) rfl rfl ?_
     simp -implicitDefEqProofs only [go_sem, Option.getD_some, a1, a2, a7, hT, e1, g0, hst, c2, Z8, Try.results129]
     rw [he]
   ·have hie : i = l.length := by omega
    subst hie
    rw [List.drop_length] at he
    simp only [runsS] at he
    rw [he]
    by_cases c2 : 2000 < q
    ·simp -implicitDefEqProofs only [go_sem, a6, hT, hil, c2, Try.results129, if_true]
    ·simp -implicitDefEqProofs only [go_sem, a6, hT, hil, c2, Try.results129, if_false]
 ·rw [if_neg c0]
  simp -implicitDefEqProofs only [go_sem, a0, hT, hc, c0, Try.results129]
end Go.Proofs.Ytgnpnfkncbnjnaa
namespace Go.Proofs.Ytgnpnfkncbnjnaa
attribute [local go_sem_proc] Int.reduceEq Int.reduceNeg Nat.reduceEqDiff Nat.reduceLT Nat.reduceAdd Nat.reduceSub Nat.reduceMul Int.reduceLE Int.reduceLT Int.reduceToNat Nat.reduceLeDiff
attribute [local go_sem] Int.toNat_natCast Bool.not_true Bool.not_false
open Go Go.Am
attribute [local congr] Ze Zb Zc
def gasQ' (g : Gs) : Blk := .cells [.lst (g.free.map rgV), .lst (g.bound.map rgV), .lst (g.room.map rgV), .int .i64 g.most, .bool g.flashed] true 0
theorem Zf8 {v : Vac} (h : checkE v = 0) : ∀ x ∈ v.vessels, bandsE 0 0 x.bands = 0 := Zgs h
theorem Z1r (v : Vac) : Fits v (beginG v) := ⟨by simp [beginG], by simp [beginG], by simp [beginG]⟩
theorem Z94 (v : Vac) (l : List Bk) (K : Nat) (s : St) (hK : 3000 < K) (hv : v.Lens K) (hl : BkL K l) : acall cfg (K + 14) 64 [vacV v, .lst (l.map bkV)] s = .ret (gasP (runE v l), s) := by
 refine Yh Znd Znc (by first | rfl | simp -implicitDefEqProofs only [redoH, redo1, go_sem]) (by first | rfl | simp -implicitDefEqProofs only [go_sem]) (by first | rfl | simp -implicitDefEqProofs only [go_sem]) ?_
 refine Z6 rfl fun T hT' hA => ?_
 have a0 := hA 0 _ rfl
 have a1 := hA 1 _ rfl
 have hT : T.length = 46 := hT'
 clear hA hT'
 have hr := fun s => Z09 v l (K + 1) s (by omega) (hv.more 1) ⟨hl.1, fun x hx => by have := hl.2 x hx; omega⟩
 have hbg := fun s => Z4v v (K + 7) s (by omega) (hv.more 7)
 simp only [vacV] at hr hbg
 unfold runE
 by_cases c0 : runsE v l = 0
 ·rw [if_pos c0]
  obtain ⟨hz, hl20, hrs⟩ := Jx c0
  have hva := Z16 hz
  have hst : ∀ s ∈ l, 0 <= s.ticks /\ s.ticks <= 2000 /\ s.shut.length <= 40 := fun s hs => Jw hva (J3 hrs s hs)
  unfold gasE at hbg
  simp only [hz, if_true, gsV] at hbg
  simp -implicitDefEqProofs only [go_sem, a0, a1, hT, hr, c0, hbg]
  simp only [Z1]
  refine Tr.Does.mono (Q := fun z => ∃ (T' : List AV) (n' : Nat) (H' : Heap), z = ((AExit.exit 0, T'), (⟨H', n' + 3, [], false, []⟩ : St)) /\ T'.length = 46 /\ nth T' 4 = some (.ptr [1] 0) /\ nth T' 7 = some (.ptr [2] 0) /\ hget H' [1] = some (.cells [.nils, .nils, .nils, .int .i64 0, .bool false] true 0) /\ hget H' [2] = some (gasQ' (runG v l))) ?_ ?_
  ·refine Zf (fun k T s' => T.length = 46 /\ nth T 1 = some (.lst (l.map bkV)) /\ nth T 2 = some (.ptr [0] 0) /\ nth T 4 = some (.ptr [1] 0) /\ nth T 7 = some (.ptr [2] 0) /\ ∃ (i n' : Nat) (H' : Heap) (g : Gs), nth T 9 = some (.int .i64 i) /\ i <= l.length /\ k = l.length - i /\ s' = ⟨H', n' + 3, [], false, []⟩ /\ hget H' [0] = some (vacC v) /\ hget H' [1] = some (.cells [.nils, .nils, .nils, .int .i64 0, .bool false] true 0) /\ hget H' [2] = some (gasQ' g) /\ Fits v g /\ runG v l = (flatT (l.drop i)).foldl (tickT v) g) (k := l.length) (by omega) ?_ ?_
   ·exact ⟨by simp -implicitDefEqProofs only [go_sem, hT], by simp -implicitDefEqProofs only [go_sem, a1], by simp -implicitDefEqProofs only [go_sem, hT], by simp -implicitDefEqProofs only [go_sem, hT], by simp -implicitDefEqProofs only [go_sem, hT], 0, 0, _, beginG v, by simp -implicitDefEqProofs only [go_sem, hT] <;> rfl, by omega, rfl, rfl, rfl, rfl, rfl, Z1r v, rfl⟩
   clear a0 a1 hT T hr hbg
   rintro k T s' ⟨hT, a1, a2, a4, a7, i, n', H, g, a9, hi, rfl, rfl, g0, g1, g2, hfit, hR⟩
   simp -implicitDefEqProofs only [go_sem, a1, a9, hT]
   by_cases hil : (i : Int) < (l.length : Int)
   ·have hi' : i < l.length := by omega
    have e1 := Z9 (f := bkV) (l := l) (i := i) (z := 4) hi' rfl
    have hkk : l.length - (i + 1) < l.length - i := by omega
    have hsx := hst _ (List.getElem_mem hi')
    rw [List.drop_eq_getElem_cons hi'] at hR
    generalize l[i] = x at *
    rw [Ju] at hR
    obtain ⟨q, hq⟩ : ∃ q : Nat, x.ticks = q := ⟨x.ticks.toNat, by omega⟩
    rw [hq, Int.toNat_natCast] at hR
    simp only [bkV] at e1
    rw [hq] at e1
    have hw1 : wrapF .i64 ((i : Int) + 1) = ((i + 1 : Nat) : Int) := Z5 (by omega) (by omega)
    simp -implicitDefEqProofs only [go_sem, hil]
    simp only [Z1]
    refine Tr.Does.mono (Q := fun z => ∃ (T' : List AV) (n' : Nat) (H' : Heap) (g : Gs), z = ((AExit.exit 2, T'), (⟨H', n' + 3, [], false, []⟩ : St)) /\ T'.length = 46 /\ nth T' 1 = some (.lst (l.map bkV)) /\ nth T' 2 = some (.ptr [0] 0) /\ nth T' 4 = some (.ptr [1] 0) /\ nth T' 7 = some (.ptr [2] 0) /\ nth T' 9 = some (.int .i64 i) /\ hget H' [0] = some (vacC v) /\ hget H' [1] = some (.cells [.nils, .nils, .nils, .int .i64 0, .bool false] true 0) /\ hget H' [2] = some (gasQ' g) /\ Fits v g /\ runG v l = (flatT (l.drop (i + 1))).foldl (tickT v) g) ?_ ?_
    ·refine Zf (fun k T s' => T.length = 46 /\ nth T 1 = some (.lst (l.map bkV)) /\ nth T 2 = some (.ptr [0] 0) /\ nth T 4 = some (.ptr [1] 0) /\ nth T 7 = some (.ptr [2] 0) /\ nth T 9 = some (.int .i64 i) /\ ∃ (u n' : Nat) (H' : Heap) (g : Gs), nth T 10 = some (.int .i64 u) /\ u <= q /\ k = q - u /\ s' = ⟨H', n' + 3, [], false, []⟩ /\ hget H' [0] = some (vacC v) /\ hget H' [1] = some (.cells [.nils, .nils, .nils, .int .i64 0, .bool false] true 0) /\ hget H' [2] = some (gasQ' g) /\ Fits v g /\ runG v l = (List.replicate (q - u) x ++ flatT (l.drop (i + 1))).foldl (tickT v) g) (k := q) (by omega) ?_ ?_
     ·exact ⟨by simp -implicitDefEqProofs only [go_sem, hT], by simp -implicitDefEqProofs only [go_sem, a1], by simp -implicitDefEqProofs only [go_sem, a2], by simp -implicitDefEqProofs only [go_sem, a4], by simp -implicitDefEqProofs only [go_sem, a7], by simp -implicitDefEqProofs only [go_sem, a9], 0, n', _, g, by simp -implicitDefEqProofs only [go_sem, hT] <;> rfl, by omega, rfl, rfl, g0, g1, g2, hfit, hR⟩
     clear a1 a2 a4 a7 a9 hT T g0 g1 g2 hfit hR H g n'
     rintro k T s' ⟨hT, a1, a2, a4, a7, a9, u, n', H, g, a10, hu, rfl, rfl, g0, g1, g2, hfit, hR⟩
     have g0' := g0
     have g2' := g2
     unfold vacC at g0
     unfold gasQ' at g2
     by_cases huq : (u : Int) < (q : Int)
     ·have htc := fun s => Z31 v g x (K + 5) s hva (Zf8 hz) hfit (by omega) (by omega) (by omega)
      have hfit2 := Jt hfit x
      have hrep : q - u = (q - (u + 1)) + 1 := by omega
      rw [hrep, List.replicate_succ, List.cons_append, List.foldl_cons] at hR
      generalize tickT v g x = G at *
      have hw2 : wrapF .i64 ((u : Int) + 1) = ((u + 1 : Nat) : Int) := Z5 (by omega) (by omega)
      have hk3 : q - (u + 1) < q - u := by clear hw2; omega
      have hu3 : u + 1 <= q := by clear hw2; omega
      simp only [vacV, gsV, bkV, hq] at htc
      have ip : isPre [n' + 3, 7] [2] = false := Go.Am.Y5 _ _ (by clear hw2; omega)
      simp -implicitDefEqProofs only [go_sem, a1, a9, a10, hT, e1, huq]
      try simp only [Z1]
      refine Z7 [[], [], [], [], [2, 3], [4, 2, 3], [0, 1, 5, 4, 2, 3], [6, 0, 1, 5, 4, 2, 3]] [[], [], [], [], [], [], [], [[2]]] (by kernel_rfl) rfl rfl ?_
      simp -implicitDefEqProofs only [go_sem, Option.getD_some, a1, a2, a4, a7, a9, a10, hT, e1, g0, g2, htc, ip, hw2, Z8]
      exact ⟨q - (u + 1), hk3, trivial, trivial, trivial, trivial, trivial, trivial, u + 1, n' + 1, _, G, rfl, hu3, rfl, rfl, by simp (disch := omega) only [Z0, lkn, lk11, Option.getD_none]; exact g0', by simp (disch := omega) only [Z0, lkn, lk11, Option.getD_none]; exact g1, by rw [Z0, Za]; rfl, hfit2, hR⟩
     ·have hue : u = q := by omega
      subst hue
      rw [Nat.sub_self] at hR
      simp -implicitDefEqProofs only [go_sem, a1, a9, a10, hT, e1, huq]
      exact ⟨_, n', H, g, rfl, by simp -implicitDefEqProofs only [go_sem, hT], by simp -implicitDefEqProofs only [go_sem, a1], by simp -implicitDefEqProofs only [go_sem, a2], by simp -implicitDefEqProofs only [go_sem, a4], by simp -implicitDefEqProofs only [go_sem, a7], by simp -implicitDefEqProofs only [go_sem, a9], g0', g1, g2', hfit, hR⟩
    clear a1 a2 a4 a7 a9 hT T g0 g1 g2 hfit hR H g n'
    rintro _ ⟨T, n', H, g, rfl, hT, a1, a2, a4, a7, a9, g0, g1, g2, hfit, hR⟩
    simp -implicitDefEqProofs only [go_sem, a1, a2, a4, a7, a9, hT, hw1]
    exact ⟨l.length - (i + 1), hkk, trivial, trivial, trivial, trivial, trivial, i + 1, n', H, g, rfl, hi', rfl, rfl, g0, g1, g2, hfit, hR⟩
   ·have hie : i = l.length := by omega
    subst hie
    rw [List.drop_length] at hR
    have hR : runG v l = g := hR
    simp -implicitDefEqProofs only [go_sem, hil]
    exact ⟨_, n', H, rfl, by simp -implicitDefEqProofs only [go_sem, hT], by simp -implicitDefEqProofs only [go_sem, a4], by simp -implicitDefEqProofs only [go_sem, a7], g1, by rw [hR]; exact g2⟩
  clear a0 a1 hT T hr hbg
  rintro _ ⟨T, n', H, rfl, hT, a4, a7, g1, g2⟩
  unfold gasQ' at g2
  have k1 : ∀ Y, hget (hset H [1] Y) [1] = some Y := fun Y => hss g1
  simp -implicitDefEqProofs only [go_sem, a4, a7, hT, g1, g2, k1, Try.results64]
  exact Za2 _ _ _
 ·rw [if_neg c0]
  simp -implicitDefEqProofs only [go_sem, a0, a1, hT, hr, c0, Try.results64]
  exact Z50 _ _
end Go.Proofs.Ytgnpnfkncbnjnaa
namespace Go.Proofs.Ytgnpnfkncbnjnaa
open Go Go.Am
theorem X3 {v : Vac} {s : Bk} (h : stageE v s = 0) : 0 <= s.ticks /\ s.ticks <= 2000 := by
 unfold stageE at h
 split at h
 ·rename_i h1; exact Yg.1 h1.1
 ·exact absurd h (by decide)
theorem Zh4 {v : Vac} {l : List Bk} (h : ∀ s ∈ l, stageE v s = 0) : 0 <= sumI Bk.ticks l /\ sumI Bk.ticks l <= 2000 * l.length :=
 ⟨X2 fun s hs => (X3 (h s hs)).1, Z2f fun s hs => (X3 (h s hs)).2⟩
theorem Z57 {v : Vac} : ∀ {l : List Bk} {q : Int}, 0 <= q -> q + 2000 * l.length <= 1000000 -> (runsS v q l = 0 ↔ (∀ s ∈ l, stageE v s = 0) /\ q + sumI Bk.ticks l <= 2000)
 | [], q, _, _ => by
  unfold runsS
  rw [Z3r]
  by_cases h : 2000 < q
  ·rw [if_pos h]; constructor
   ·intro g; exact absurd g (by decide)
   ·rintro ⟨_, g⟩; omega
  ·rw [if_neg h]; exact ⟨fun _ => ⟨fun s hs => (nomatch hs), by omega⟩, fun _ => rfl⟩
 | a :: r, q, h0, h1 => by
  unfold runsS
  rw [List.length_cons, Int.natCast_add] at h1
  simp only [Int.natCast_one] at h1
  by_cases h : stageE v a = 0
  ·have ht := X3 h
   rw [if_pos h, Z5 (by omega) (by omega), Z57 (by omega) (by omega), Zp]
   constructor
   ·rintro ⟨g1, g2⟩
    refine ⟨fun s hs => ?_, by omega⟩
    rcases List.mem_cons.1 hs with rfl | hs
    ·exact h
    ·exact g1 s hs
   ·rintro ⟨g1, g2⟩
    exact ⟨fun s hs => g1 s (List.mem_cons_of_mem _ hs), by omega⟩
  ·rw [if_neg h]
   constructor
   ·intro g; exact absurd g h
   ·rintro ⟨g, _⟩; exact absurd (g a List.mem_cons_self) h
theorem Z3t {v : Vac} {l : List Bk} : runsE v l = 0 ↔ checkE v = 0 /\ l.length <= 20 /\ (∀ s ∈ l, stageE v s = 0) /\ sumI Bk.ticks l <= 2000 := by
 constructor
 ·intro h
  obtain ⟨h1, h2, h3⟩ := Jx h
  obtain ⟨h4, h5⟩ := (Z57 (by decide) (by omega)).1 h3
  exact ⟨h1, h2, h4, by omega⟩
 ·rintro ⟨h1, h2, h3, h4⟩
  unfold runsE
  rw [if_pos h1, if_neg (by omega)]
  exact (Z57 (by decide) (by omega)).2 ⟨h3, by omega⟩
theorem Zbm {f : Bk -> Int} : ∀ {l : List Bk} (k : Nat), (∀ s ∈ l, 0 <= f s) -> sumI f (l.take k) <= sumI f l
 | [], k, _ => by simp [sumI]
 | a :: r, 0, h => by
  rw [List.take_zero, Z3r]
  exact X2 h
 | a :: r, k + 1, h => by
  rw [List.take_succ_cons, Zp, Zp]
  have := Zbm (l := r) k fun s hs => h s (List.mem_cons_of_mem _ hs)
  omega
theorem Zf9 {v : Vac} {l : List Bk} (k : Nat) (h : runsE v l = 0) : runsE v (l.take k) = 0 := by
 obtain ⟨h1, h2, h3, h4⟩ := Z3t.1 h
 refine Z3t.2 ⟨h1, by rw [List.length_take]; omega, fun s hs => h3 s (List.mem_of_mem_take hs), ?_⟩
 have := Zbm (f := Bk.ticks) (l := l) k fun s hs => (X3 (h3 s hs)).1
 omega
theorem Z95 {v : Vac} : ∀ {l : List Bk} {q : Int}, (∀ s ∈ l, stageE v s = 0) -> 0 <= q -> q + 2000 * l.length <= 1000000 -> ticksW q l = q + sumI Bk.ticks l
 | [], q, _, _, _ => by unfold ticksW; rw [Z3r]; omega
 | a :: r, q, h, h0, h1 => by
  have ht := X3 (h a List.mem_cons_self)
  rw [List.length_cons, Int.natCast_add] at h1
  simp only [Int.natCast_one] at h1
  unfold ticksW
  rw [Z5 (by omega) (by omega), Z95 (fun s hs => h s (List.mem_cons_of_mem _ hs)) (by omega) (by omega), Zp]
  omega
theorem Z58 {v : Vac} : ∀ {l : List Bk}, (∀ s ∈ l, stageE v s = 0) -> ((flatT l).length : Int) = sumI Bk.ticks l
 | [], _ => rfl
 | a :: r, h => by
  have ht := X3 (h a List.mem_cons_self)
  rw [Ju, List.length_append, List.length_replicate, Zp, Int.natCast_add, Z58 fun s hs => h s (List.mem_cons_of_mem _ hs)]
  omega
theorem Z96 (l r : List Bk) : flatT (l ++ r) = flatT l ++ flatT r := by unfold flatT; rw [List.flatMap_append]
def chk {σ : Type} (nxt : σ -> Gs -> Option σ) (v : Vac) (c : σ) (g : Gs) (l : List Bk) : (σ × Gs) ⊕ (σ × Gs) := match nxt c g with
 | some c' => runT nxt v c' g l
 | none => .inr (c, g)
theorem Zbn {σ : Type} {nxt : σ -> Gs -> Option σ} {v : Vac} {c : σ} {g : Gs} {s : Bk} {r : List Bk} : chk nxt v c g (s :: r) = match nxt c g with
  | some c' => chk nxt v c' (tickT v g s) r
  | none => .inr (c, g) := by
 unfold chk
 cases nxt c g with
 | none => rfl
 | some c' =>
  simp only
  show (match nxt c' (tickT v g s) with | some c'' => runT nxt v c'' (tickT v g s) r | none => .inr (c', tickT v g s)) = _
  rfl
theorem Zh5 {σ : Type} {nxt : σ -> Gs -> Option σ} {v : Vac} {c : σ} {l : List Bk} : allT nxt v c l = chk nxt v c (beginG v) (flatT l) := rfl
theorem Z6f {v : Vac} {x : Nat} {limit : Int} (M : List Bk) : ∀ (L : List Bk) (g : Gs) (c : Int), c = -(L.length : Int) -> L.length <= 1000000 -> chk (holdN v x limit) v c g (L ++ M) = chk (holdN v x limit) v 0 (L.foldl (tickT v) g) M
 | [], g, c, hc, _ => by
  have : c = 0 := by simpa using hc
  subst this; rfl
 | s :: r, g, c, hc, hl => by
  rw [List.length_cons] at hc hl
  rw [List.cons_append, Zbn]
  have hn : holdN v x limit c g = some (c + 1) := by
   unfold holdN
   rw [if_neg (by omega), Z5 (by omega) (by omega)]
  rw [hn]
  simp only
  rw [Z6f M r (tickT v g s) (c + 1) (by omega) (by omega), List.foldl_cons]
theorem Zfa {f : Rg} {vol : Int} (hf : RgG 68719476736 f) (h1 : 1 <= vol) (h2 : vol <= 1000000) : pressR f vol = ⟨1000 * f.lo / vol, (1000 * f.hi + vol - 1) / vol⟩ /\ 0 <= 1000 * f.lo / vol /\ 1000 * f.lo / vol <= (1000 * f.hi + vol - 1) / vol /\ (1000 * f.hi + vol - 1) / vol <= 68719477736000 := by
 obtain ⟨f1, f2, f3⟩ := hf
 have b1 : 0 <= 1000 * f.lo / vol := Int.ediv_nonneg (by omega) (by omega)
 have b2 : 1000 * f.lo / vol <= (1000 * f.hi + vol - 1) / vol := Int.ediv_le_ediv (by omega) (by omega)
 have b3 : (1000 * f.hi + vol - 1) / vol <= 1000 * f.hi + vol - 1 := Int.ediv_le_self _ (by omega)
 unfold pressR
 rw [Z5 (x := 1000 * f.lo) (by omega) (by omega), Z5 (x := 1000 * f.hi) (by omega) (by omega), Z5 (x := 1000 * f.hi + vol) (by omega) (by omega), Z5 (x := 1000 * f.hi + vol - 1) (by omega) (by omega)]
 rw [Int.tdiv_eq_ediv_of_nonneg (by omega), Int.tdiv_eq_ediv_of_nonneg (by omega)]
 rw [Z5 (x := 1000 * f.lo / vol) (by omega) (by omega), Z5 (x := (1000 * f.hi + vol - 1) / vol) (by omega) (by omega)]
 exact ⟨rfl, b1, b2, by omega⟩
theorem Zbo : ∀ {l : List Ves} {m : Int}, (∀ x ∈ l, VesB x) -> 0 <= m -> m + 2000000000 * l.length <= 68719476736 -> m <= mostF m l /\ mostF m l <= m + 2000000000 * l.length /\ mostF m l = m + sumI (fun x => x.free.hi + x.bound.hi) l
 | [], m, _, _, _ => ⟨Int.le_refl _, by simp [mostF], by rw [Z3r]; show m = m + 0; omega⟩
 | x :: r, m, h, h0, h1 => by
  have hx := h x List.mem_cons_self
  obtain ⟨a1, a2, a3⟩ := hx.free
  obtain ⟨b1, b2, b3⟩ := hx.bound
  rw [List.length_cons, Int.natCast_add] at h1 ⊢
  simp only [Int.natCast_one] at h1 ⊢
  unfold mostF
  rw [Z5 (x := m + (x.free.hi + x.bound.hi)) (by omega) (by omega)]
  obtain ⟨g1, g2, g3⟩ := Zbo (l := r) (m := m + (x.free.hi + x.bound.hi)) (fun y hy => h y (List.mem_cons_of_mem _ hy)) (by omega) (by omega)
  rw [Zp]
  omega
theorem Z7g {v : Vac} (h : VB v) : GB v (beginG v) := by
 have h8 := h.n8
 obtain ⟨m1, m2, _⟩ := Zbo (l := v.vessels) (m := 0) h.ves (by decide) (by omega)
 refine ⟨⟨by simp [beginG], by simp [beginG], by simp [beginG]⟩, fun r hr => ?_, fun r hr => ?_, fun r hr => ?_, m1, by show mostF 0 v.vessels <= _; omega⟩
 ·obtain ⟨x, hx, rfl⟩ := List.mem_map.1 hr
  exact (h.ves x hx).free.mono (by decide)
 ·obtain ⟨x, hx, rfl⟩ := List.mem_map.1 hr
  exact (h.ves x hx).bound.mono (by decide)
 ·obtain ⟨x, hx, rfl⟩ := List.mem_map.1 hr
  exact (h.gtr x hx).2.mono (by decide)
theorem Z7h {v : Vac} (h : VB v) : ∀ {l : List Bk} {g : Gs}, GB v g -> GB v (l.foldl (tickT v) g)
 | [], g, hg => hg
 | s :: r, g, hg => Z7h (l := r) (g := tickT v g s) h (Zli h hg s).1
theorem Zog {v : Vac} (h : VB v) {g : Gs} (hg : GB v g) {x : Nat} (hx : x < v.vessels.length) : 0 <= prN v x g := by
 have hx2 : x < g.free.length := by rw [hg.fits.f]; exact hx
 rw [Zbk hx hx2]
 have hv := (h.ves _ (List.getElem_mem hx)).vol
 obtain ⟨e, b1, b2, b3⟩ := Zfa (hg.f _ (List.getElem_mem hx2)) hv.1 hv.2
 rw [e]; show 0 <= (1000 * g.free[x].hi + _ - 1) / _; omega
theorem Zcj {v : Vac} (h : VB v) {x : Nat} (hx : x < v.vessels.length) (l : List Bk) : peakV v x l = outT (runT (peakN v x) v (prN v x (beginG v)) (beginG v) (flatT l)) := by
 have := Zog h (Z7g h) hx
 have e : peakN v x 0 (beginG v) = some (prN v x (beginG v)) := by
  unfold peakN max2
  split
  ·rfl
  ·congr 1; omega
 unfold peakV allT
 rw [e]
theorem Zfb {v : Vac} {x : Nat} {limit : Int} {l D : List Bk} {z : Bk} (hl : l = D ++ [z]) (h : ∀ s ∈ l, stageE v s = 0) (hn : l.length <= 20) : holdV v x limit l = match chk (holdN v x limit) v 0 (runG v D) (List.replicate z.ticks.toNat z) with
  | .inl _ => (0, 15)
  | .inr (c, _) => (c, 0) := by
 have hD : ∀ s ∈ D, stageE v s = 0 := fun s hs => h s (by rw [hl]; exact List.mem_append_left _ hs)
 have hDl : D.length <= 20 := by rw [hl] at hn; simp at hn; omega
 have hd : l.dropLast = D := by rw [hl]; simp
 have ht := Zh4 hD
 unfold holdV
 rw [hd, Z95 hD (by decide) (by omega), Z5 (by omega) (by omega), Zh5]
 have hf : flatT l = flatT D ++ List.replicate z.ticks.toNat z := by
  rw [hl, Z96]; congr 1; rw [Ju]; simp [flatT]
 rw [hf, Z6f _ (flatT D) (beginG v) _ (by rw [Z58 hD]; omega) (by have := Z58 hD; omega)]
 rfl
end Go.Proofs.Ytgnpnfkncbnjnaa
namespace Go.Proofs.Ytgnpnfkncbnjnaa
attribute [local go_sem_proc] Int.reduceEq Int.reduceNeg Nat.reduceEqDiff Nat.reduceLT Nat.reduceAdd Nat.reduceSub Nat.reduceMul Int.reduceLE Int.reduceLT Int.reduceToNat Nat.reduceLeDiff
attribute [local go_sem] Int.toNat_natCast Bool.not_true Bool.not_false
open Go Go.Am
attribute [local congr] Ze Zb Zc
attribute [local go_sem] Go.Am.frozen Go.Am.freezeG Go.Am.freezeGs
theorem Z59 {v : Vac} {y : Nat} (hz : checkE v = 0) (hyl : y < v.vessels.length) {g : Gs} (hf : Fits v g) (K : Nat) : ∃ P : Rg, P.hi = prN v y g /\ ∀ s, acall cfg (K + 1) 132 [vacV v, gsV g, .int .i64 y] s = .ret (rgV P, s) := by
 have h2 : y < g.free.length := by rw [hf.f]; exact hyl
 have hv := Zbl hz hyl
 exact ⟨_, (Zbk hyl h2).symm, fun s => Z5e v g y K s hyl h2 hv.1 hv.2⟩
theorem Zck (v : Vac) (l : List Bk) (x : Int) (K : Nat) (s : St) (hK : 3000 < K) (hv : v.Lens K) (hl : BkL K l) : acall cfg (K + 14) 66 [vacV v, .lst (l.map bkV), .int .i64 x] s = .ret (sealV (peakE v l x), s) := by
 refine Yh Znh Zng (by first | rfl | simp -implicitDefEqProofs only [redoH, redo1, go_sem]) (by first | rfl | simp -implicitDefEqProofs only [go_sem]) (by first | rfl | simp -implicitDefEqProofs only [redoH, redo1, go_sem]) ?_
 refine Z6 rfl fun T hT' hA => ?_
 have a0 := hA 0 _ rfl
 have a1 := hA 1 _ rfl
 have a2 := hA 2 _ rfl
 have hT : T.length = 67 := hT'
 clear hA hT'
 have hr := fun s => Z09 v l (K + 1) s (by omega) (hv.more 1) ⟨hl.1, fun x hx => by have := hl.2 x hx; omega⟩
 have hbg := fun s => Z4v v (K + 7) s (by omega) (hv.more 7)
 have hfc := fun s => X1 x 0 (v.vessels.length - 1) (K + 12) s
 have hw0 : wrapF .i64 ((v.vessels.length : Int) - 1) = (v.vessels.length : Int) - 1 := Z5 (by omega) (by have := hv.ves.2; omega)
 simp only [vacV] at hr hbg
 unfold peakE sealV
 by_cases c0 : runsE v l = 0
 ·rw [if_pos c0]
  obtain ⟨hz, hl20, hrs⟩ := Jx c0
  have hva := Z16 hz
  have hvb := Z2g.1 hz
  have hst : ∀ s ∈ l, 0 <= s.ticks /\ s.ticks <= 2000 /\ s.shut.length <= 40 := fun s hs => Jw hva (J3 hrs s hs)
  by_cases c1 : fromB x 0 (v.vessels.length - 1) = true
  ·rw [if_pos c1]
   have hx := Yg.1 c1
   obtain ⟨y, rfl⟩ : ∃ y : Nat, x = y := ⟨x.toNat, by omega⟩
   have hyl : y < v.vessels.length := by omega
   have hvo := Zbl hz hyl
   unfold gasE at hbg
   simp only [hz, if_true, gsV] at hbg
   obtain ⟨P0, hP0, hp0⟩ := Z59 hz hyl (Z1r v) (K + 12)
   simp only [vacV, gsV, rgV] at hp0
   simp -implicitDefEqProofs only [go_sem, a0, a1, a2, hT, hr, c0, hw0, hfc, c1, hbg, hp0]
   rw [hP0]
   have hpk := Zcj hvb hyl l
   obtain ⟨R, hRd⟩ : ∃ R, R = runT (peakN v y) v (prN v y (beginG v)) (beginG v) (flatT l) := ⟨_, rfl⟩
   rw [<- hRd] at hpk
   rw [hpk]
   simp only [Z1]
   refine Tr.Does.mono (Q := fun z => ∃ (T' : List AV) (n' : Nat) (H' : Heap) (c : Int) (g : Gs), z = ((AExit.exit 0, T'), (⟨H', n' + 2, [], false, []⟩ : St)) /\ T'.length = 67 /\ nth T' 11 = some (.int .i64 c) /\ R = .inl (c, g)) ?_ ?_
   ·refine Zf (fun k T s' => T.length = 67 /\ nth T 1 = some (.lst (l.map bkV)) /\ nth T 2 = some (.int .i64 y) /\ nth T 3 = some (.ptr [0] 0) /\ nth T 9 = some (.ptr [1] 0) /\ ∃ (i n' : Nat) (H' : Heap) (g : Gs) (c : Int), nth T 12 = some (.int .i64 i) /\ nth T 11 = some (.int .i64 c) /\ i <= l.length /\ k = l.length - i /\ s' = ⟨H', n' + 2, [], false, []⟩ /\ hget H' [0] = some (vacC v) /\ hget H' [1] = some (gasQ' g) /\ Fits v g /\ R = runT (peakN v y) v c g (flatT (l.drop i))) (k := l.length) (by omega) ?_ ?_
    ·exact ⟨by simp -implicitDefEqProofs only [go_sem, hT], by simp -implicitDefEqProofs only [go_sem, a1], by simp -implicitDefEqProofs only [go_sem, a2], by simp -implicitDefEqProofs only [go_sem, hT], by simp -implicitDefEqProofs only [go_sem, hT], 0, 0, _, beginG v, _, by simp -implicitDefEqProofs only [go_sem, hT] <;> rfl, by simp -implicitDefEqProofs only [go_sem, hT], by omega, rfl, rfl, rfl, rfl, Z1r v, hRd⟩
    clear a0 a1 a2 hT T hr hbg hfc hp0 hP0 P0 hpk hRd
    rintro k T s' ⟨hT, a1, a2, a3, a9, i, n', H, g, c, a12, a11, hi, rfl, rfl, g0, g1, hfit, hR⟩
    simp -implicitDefEqProofs only [go_sem, a1, a12, hT]
    by_cases hil : (i : Int) < (l.length : Int)
    ·have hi' : i < l.length := by omega
     have e1 := Z9 (f := bkV) (l := l) (i := i) (z := 4) hi' rfl
     have hkk : l.length - (i + 1) < l.length - i := by omega
     have hsx := hst _ (List.getElem_mem hi')
     rw [List.drop_eq_getElem_cons hi'] at hR
     generalize l[i] = x at *
     rw [Ju] at hR
     obtain ⟨q, hq⟩ : ∃ q : Nat, x.ticks = q := ⟨x.ticks.toNat, by omega⟩
     rw [hq, Int.toNat_natCast] at hR
     simp only [bkV] at e1
     rw [hq] at e1
     have hw1 : wrapF .i64 ((i : Int) + 1) = ((i + 1 : Nat) : Int) := Z5 (by omega) (by omega)
     simp -implicitDefEqProofs only [go_sem, hil]
     simp only [Z1]
     refine Tr.Does.mono (Q := fun z => ∃ (T' : List AV) (n' : Nat) (H' : Heap) (g : Gs) (c : Int), z = ((AExit.exit 2, T'), (⟨H', n' + 2, [], false, []⟩ : St)) /\ T'.length = 67 /\ nth T' 1 = some (.lst (l.map bkV)) /\ nth T' 2 = some (.int .i64 y) /\ nth T' 3 = some (.ptr [0] 0) /\ nth T' 9 = some (.ptr [1] 0) /\ nth T' 12 = some (.int .i64 i) /\ nth T' 11 = some (.int .i64 c) /\ hget H' [0] = some (vacC v) /\ hget H' [1] = some (gasQ' g) /\ Fits v g /\ R = runT (peakN v y) v c g (flatT (l.drop (i + 1)))) ?_ ?_
     ·refine Zf (fun k T s' => T.length = 67 /\ nth T 1 = some (.lst (l.map bkV)) /\ nth T 2 = some (.int .i64 y) /\ nth T 3 = some (.ptr [0] 0) /\ nth T 9 = some (.ptr [1] 0) /\ nth T 12 = some (.int .i64 i) /\ ∃ (u n' : Nat) (H' : Heap) (g : Gs) (c : Int), nth T 13 = some (.int .i64 u) /\ nth T 11 = some (.int .i64 c) /\ u <= q /\ k = q - u /\ s' = ⟨H', n' + 2, [], false, []⟩ /\ hget H' [0] = some (vacC v) /\ hget H' [1] = some (gasQ' g) /\ Fits v g /\ R = runT (peakN v y) v c g (List.replicate (q - u) x ++ flatT (l.drop (i + 1)))) (k := q) (by omega) ?_ ?_
      ·exact ⟨by simp -implicitDefEqProofs only [go_sem, hT], by simp -implicitDefEqProofs only [go_sem, a1], by simp -implicitDefEqProofs only [go_sem, a2], by simp -implicitDefEqProofs only [go_sem, a3], by simp -implicitDefEqProofs only [go_sem, a9], by simp -implicitDefEqProofs only [go_sem, a12], 0, n', _, g, c, by simp -implicitDefEqProofs only [go_sem, hT] <;> rfl, by simp -implicitDefEqProofs only [go_sem, a11], by omega, rfl, rfl, g0, g1, hfit, hR⟩
      clear a1 a2 a3 a9 a11 a12 hT T g0 g1 hfit hR H g c n'
      rintro k T s' ⟨hT, a1, a2, a3, a9, a12, u, n', H, g, c, a13, a11, hu, rfl, rfl, g0, g1, hfit, hR⟩
      have g0' := g0
      have g1' := g1
      unfold vacC at g0
      unfold gasQ' at g1
      by_cases huq : (u : Int) < (q : Int)
      ·have htc := fun s => Z31 v g x (K + 5) s hva (Zf8 hz) hfit (by omega) (by omega) (by omega)
       have hfit2 := Jt hfit x
       obtain ⟨P, hP, hp⟩ := Z59 hz hyl hfit2 (K + 12)
       have hrep : q - u = (q - (u + 1)) + 1 := by omega
       rw [hrep, List.replicate_succ, List.cons_append] at hR
       have hR : R = runT (peakN v y) v (max2 c (prN v y (tickT v g x))) (tickT v g x) (List.replicate (q - (u + 1)) x ++ flatT (l.drop (i + 1))) := hR
       rw [<- hP] at hR
       generalize tickT v g x = G at *
       have hw2 : wrapF .i64 ((u : Int) + 1) = ((u + 1 : Nat) : Int) := Z5 (by omega) (by omega)
       have hk3 : q - (u + 1) < q - u := by clear hw2; omega
       have hu3 : u + 1 <= q := by clear hw2; omega
       simp only [vacV, gsV, bkV, rgV, hq] at htc hp
       have ip : isPre [n' + 2, 7] [1] = false := Go.Am.Y5 _ _ (by clear hw2; omega)
       simp -implicitDefEqProofs only [go_sem, a1, a12, a13, hT, e1, huq]
       try simp only [Z1]
       refine Z7 [[], [], [], [], [2, 3], [4, 2, 3], [0, 1, 5, 4, 2, 3], [6, 0, 1, 5, 4, 2, 3]] [[], [], [], [], [], [], [], [[1]]] (by kernel_rfl) rfl rfl ?_
       simp -implicitDefEqProofs only [go_sem, Z0, lkn, Za, lk11, Option.getD_some, Option.getD_none, a1, a2, a3, a9, a11, a12, a13, hT, e1, g0, g1, htc, hp, Z8n, ip, hw2, Z8]
       exact ⟨q - (u + 1), hk3, trivial, trivial, trivial, trivial, trivial, trivial, u + 1, n' + 1, _, G, _, rfl, rfl, hu3, rfl, rfl, by simp (disch := omega) only [Z0, lkn, lk11, Option.getD_none]; exact g0', by rw [Z0, Za]; rfl, hfit2, hR⟩
      ·have hue : u = q := by omega
       subst hue
       rw [Nat.sub_self] at hR
       simp -implicitDefEqProofs only [go_sem, a1, a12, a13, hT, e1, huq]
       exact ⟨_, n', H, g, c, rfl, by simp -implicitDefEqProofs only [go_sem, hT], by simp -implicitDefEqProofs only [go_sem, a1], by simp -implicitDefEqProofs only [go_sem, a2], by simp -implicitDefEqProofs only [go_sem, a3], by simp -implicitDefEqProofs only [go_sem, a9], by simp -implicitDefEqProofs only [go_sem, a12], by simp -implicitDefEqProofs only [go_sem, a11], g0', g1', hfit, hR⟩
     clear a1 a2 a3 a9 a11 a12 hT T g0 g1 hfit hR H g c n'
     rintro _ ⟨T, n', H, g, c, rfl, hT, a1, a2, a3, a9, a12, a11, g0, g1, hfit, hR⟩
     simp -implicitDefEqProofs only [go_sem, a1, a2, a3, a9, a11, a12, hT, hw1]
     exact ⟨l.length - (i + 1), hkk, trivial, trivial, trivial, trivial, trivial, i + 1, n', H, g, c, rfl, rfl, hi', rfl, rfl, g0, g1, hfit, hR⟩
    ·have hie : i = l.length := by omega
     subst hie
     rw [List.drop_length] at hR
     have hR : R = .inl (c, g) := hR
     simp -implicitDefEqProofs only [go_sem, hil]
     exact ⟨_, n', H, c, g, rfl, by simp -implicitDefEqProofs only [go_sem, hT], by simp -implicitDefEqProofs only [go_sem, a11], hR⟩
   clear a0 a1 a2 hT T hr hbg
   rintro _ ⟨T, n', H, c, g, rfl, hT, a11, hR⟩
   rw [hR]
   simp -implicitDefEqProofs only [go_sem, a11, hT, Try.results66]
   rfl
  ·rw [if_neg c1]
   simp -implicitDefEqProofs only [go_sem, a0, a1, a2, hT, hr, c0, hw0, hfc, c1, Try.results66]
 ·rw [if_neg c0]
  simp -implicitDefEqProofs only [go_sem, a0, a1, hT, hr, c0, Try.results66]
end Go.Proofs.Ytgnpnfkncbnjnaa
namespace Go.Proofs.Ytgnpnfkncbnjnaa
attribute [local go_sem_proc] Int.reduceEq Int.reduceNeg Nat.reduceEqDiff Nat.reduceLT Nat.reduceAdd Nat.reduceSub Nat.reduceMul Int.reduceLE Int.reduceLT Int.reduceToNat Nat.reduceLeDiff
attribute [local go_sem] Int.toNat_natCast Bool.not_true Bool.not_false
open Go Go.Am
attribute [local congr] Ze Zb Zc
attribute [local go_sem] Go.Am.frozen Go.Am.freezeG Go.Am.freezeGs
theorem Zlk {v : Vac} {y : Nat} {limit c : Int} {g : Gs} : chk (holdN v y limit) v c g [] = if 0 <= c /\ prN v y g <= limit then .inr (c, g) else .inl (wrapF .i64 (c + 1), g) := by
 unfold chk holdN
 by_cases h : 0 <= c /\ prN v y g <= limit
 ·rw [if_pos h, if_pos h]
 ·rw [if_neg h, if_neg h]; rfl
theorem Zh6 {v : Vac} {y : Nat} {limit c : Int} {g : Gs} {l : List Bk} (h0 : 0 <= c) (h : prN v y g <= limit) : chk (holdN v y limit) v c g l = .inr (c, g) := by
 unfold chk holdN
 rw [if_pos ⟨h0, h⟩]
theorem Zoh {v : Vac} {y : Nat} {limit c : Int} {g : Gs} {s : Bk} {l : List Bk} (h : ¬ prN v y g <= limit) : chk (holdN v y limit) v c g (s :: l) = chk (holdN v y limit) v (wrapF .i64 (c + 1)) (tickT v g s) l := by
 rw [Zbn]
 unfold holdN
 rw [if_neg fun e => h e.2]
theorem Zcl (v : Vac) (l : List Bk) (x limit : Int) (K : Nat) (s : St) (hK : 3000 < K) (hv : v.Lens K) (hl : BkL K l) : acall cfg (K + 15) 68 [vacV v, .lst (l.map bkV), .int .i64 x, .int .i64 limit] s = .ret (sealV (holdE v l x limit), s) := by
 refine Yh Znl Znk (by first | rfl | simp -implicitDefEqProofs only [redoH, redo1, go_sem]) (by first | rfl | simp -implicitDefEqProofs only [go_sem]) (by first | rfl | simp -implicitDefEqProofs only [redoH, redo1, go_sem]) ?_
 refine Z6 rfl fun T hT' hA => ?_
 have a0 := hA 0 _ rfl
 have a1 := hA 1 _ rfl
 have a2 := hA 2 _ rfl
 have a3 := hA 3 _ rfl
 have hT : T.length = 67 := hT'
 clear hA hT'
 have hr := fun s => Z09 v l (K + 2) s (by omega) (hv.more 2) ⟨hl.1, fun x hx => by have := hl.2 x hx; omega⟩
 have hfc := fun s => X1 x 0 (v.vessels.length - 1) (K + 13) s
 have hw0 : wrapF .i64 ((v.vessels.length : Int) - 1) = (v.vessels.length : Int) - 1 := Z5 (by omega) (by have := hv.ves.2; omega)
 simp only [vacV] at hr
 unfold holdE sealV
 by_cases c0 : runsE v l = 0
 ·rw [if_pos c0]
  obtain ⟨hz, hl20, hs0, hsum⟩ := Z3t.1 c0
  have hva := Z16 hz
  have hvb := Z2g.1 hz
  by_cases c1 : fromB x 0 (v.vessels.length - 1) = true
  ·rw [if_pos c1]
   have hx := Yg.1 c1
   by_cases c2 : limit < 0
   ·rw [if_pos c2]
    simp -implicitDefEqProofs only [go_sem, a0, a1, a2, a3, hT, hr, c0, hw0, hfc, c1, c2, Try.results68]
   ·rw [if_neg c2]
    by_cases c3 : l = []
    ·rw [if_pos c3]
     have hq0 : ((l.length : Int) = 0) = True := eq_true (by rw [c3]; rfl)
     clear c3
     simp -implicitDefEqProofs only [go_sem, a0, a1, a2, a3, hT, hr, c0, hw0, hfc, c1, c2, hq0, Try.results68]
    ·rw [if_neg c3]
     obtain ⟨y, rfl⟩ : ∃ y : Nat, x = y := ⟨x.toNat, by omega⟩
     have hyl : y < v.vessels.length := by omega
     have hlen : 1 <= l.length := by rcases l with _ | ⟨a, r⟩; exact absurd rfl c3; simp
     have hw2 : wrapF .i64 ((l.length : Int) - 1) = ((l.length - 1 : Nat) : Int) := by rw [Z5 (by omega) (by omega)]; omega
     have hq0 : ((l.length : Int) = 0) = False := eq_false (by omega)
     have hlt : l.length - 1 < l.length := by omega
     have e1 := Z9 (f := bkV) (l := l) (i := l.length - 1) (z := 4) hlt rfl
     have hsl := fun s => Zf6 68 l (l.length - 1) (by omega) s
     have hlD : l = l.take (l.length - 1) ++ [l[l.length - 1]] := by
      conv => lhs; rw [<- List.take_append_drop (l.length - 1) l]
      rw [List.drop_eq_getElem_cons hlt, show l.length - 1 + 1 = l.length by omega, List.drop_length]
     have hho := Zfb (x := y) (limit := limit) hlD hs0 hl20
     have hrD := Zf9 (l.length - 1) c0
     have hrc := fun s => Z94 v (l.take (l.length - 1)) K s hK hv ⟨by rw [List.length_take]; omega, fun x hx => hl.2 x (List.mem_of_mem_take hx)⟩
     have hzs := hs0 _ (List.getElem_mem hlt)
     have hzl := (Jw hva hzs).2.2
     have hzt := X3 hzs
     have hgD : GB v (runG v (l.take (l.length - 1))) := Z7h hvb (Z7g hvb)
     unfold runE at hrc
     rw [if_pos hrD] at hrc
     rw [Int.toNat_natCast, hho]
     clear hho hlD
     generalize runG v (l.take (l.length - 1)) = gD at *
     generalize l.take (l.length - 1) = D at *
     generalize l[l.length - 1] = z at *
     obtain ⟨q, hq⟩ : ∃ q : Nat, z.ticks = q := ⟨z.ticks.toNat, by omega⟩
     rw [hq, Int.toNat_natCast]
     simp only [vacV, gasP, gsV] at hrc
     simp only [bkV, hq] at e1
     obtain ⟨R, hR⟩ : ∃ R, R = chk (holdN v y limit) v 0 gD (List.replicate q z) := ⟨_, rfl⟩
     rw [<- hR]
     simp -implicitDefEqProofs only [go_sem, a0, a1, a2, a3, hT, hr, c0, hw0, hfc, c1, c2, hq0, hw2, e1]
     try simp only [Z1]
     refine Z7 [[], [], [], [2], [3, 2], [1, 4, 3, 2], [0, 5, 1, 4, 3, 2], [6, 0, 5, 1, 4, 3, 2], [7, 6, 0, 5, 1, 4, 3, 2], [7, 6, 0, 5, 1, 4, 3, 2], [], [8, 7, 6, 0, 5, 1, 4, 3, 2, 10], [9, 11, 8, 7, 6, 0, 5, 1, 4, 3, 2, 10]] [[], [], [], [], [], [], [], [], [], [], [], [[2, 10, 0]], []] (by kernel_rfl) rfl rfl ?_
     simp -implicitDefEqProofs only [go_sem, Z0, Za, Option.getD_some, a1, hT, hw2, hsl, hrc, Z8]
     simp only [Z1]
     refine Zf (fun k T s' => T.length = 67 /\ nth T 2 = some (.int .i64 y) /\ nth T 3 = some (.int .i64 limit) /\ nth T 4 = some (.ptr [0] 0) /\ nth T 11 = some (.ptr [1] 0) /\ nth T 12 = some (.ptr [2, 10, 0] 0) /\ ∃ (u n' : Nat) (H' : Heap) (g : Gs), nth T 14 = some (.int .i64 u) /\ u <= q + 1 /\ k = q + 1 - u /\ s' = ⟨H', n' + 3, [], false, []⟩ /\ hget H' [0] = some (vacC v) /\ hget H' [1] = some (.cells [.int .i64 q, .int .i64 z.heat, .lst (z.shut.map iV), .bool z.flash] true 0) /\ hget H' [2, 10, 0] = some (gasQ' g) /\ Fits v g /\ if u = q + 1 then ∃ p, R = .inl p else R = chk (holdN v y limit) v u g (List.replicate (q - u) z)) (k := q + 1) (by omega) ?_ ?_
     ·exact ⟨by simp -implicitDefEqProofs only [go_sem, hT], by simp -implicitDefEqProofs only [go_sem, a2], by simp -implicitDefEqProofs only [go_sem, a3], by simp -implicitDefEqProofs only [go_sem, hT], by simp -implicitDefEqProofs only [go_sem, hT], by simp -implicitDefEqProofs only [go_sem, hT], 0, 0, _, gD, by simp -implicitDefEqProofs only [go_sem, hT] <;> rfl, by omega, rfl, rfl, by simp (disch := omega) only [Z3, hc11, Z0, lkn, lk31, Option.getD_none]; rfl, by simp (disch := omega) only [Z3, Z0, lkn, lk31, Option.getD_none], by rw [Z0, Za]; rfl, hgD.fits, by rw [if_neg (by omega)]; exact hR⟩
     clear a0 a1 a2 a3 hT T hr hfc hsl hrc hR hgD e1
     rintro k T s' ⟨hT, a2, a3, a4, a11, a12, u, n', H, g, a14, hu, rfl, rfl, g0, g1, g2, hfit, hR⟩
     have g0' := g0
     have g2' := g2
     unfold vacC at g0
     unfold gasQ' at g2
     by_cases huq : (u : Int) <= (q : Int)
     ·rw [if_neg (by omega)] at hR
      obtain ⟨P, hP, hp⟩ := Z59 hz hyl hfit (K + 13)
      simp only [vacV, gsV, rgV] at hp
      by_cases hpl : P.hi <= limit
      ·rw [Zh6 (by omega) (by rw [<- hP]; exact hpl)] at hR
       rw [hR]
       simp -implicitDefEqProofs only [go_sem, a2, a3, a4, a11, a12, a14, hT, g0, g1, g2, huq, hp, hpl, Try.results68]
      ·have htc := fun s => Z31 v g z (K + 6) s hva (Zf8 hz) hfit (by omega) (by omega) (by omega)
       have hfit2 := Jt hfit z
       have hR2 : if u + 1 = q + 1 then ∃ p, R = .inl p else R = chk (holdN v y limit) v ((u + 1 : Nat) : Int) (tickT v g z) (List.replicate (q - (u + 1)) z) := by
        by_cases e : u = q
        ·subst e
         rw [if_pos rfl]
         rw [Nat.sub_self, List.replicate_zero, Zlk, if_neg fun e => hpl (by rw [hP]; exact e.2)] at hR
         exact ⟨_, hR⟩
        ·rw [if_neg (by omega)]
         rw [show q - u = (q - (u + 1)) + 1 by omega, List.replicate_succ, Zoh (by rw [<- hP]; exact hpl), Z5 (by omega) (by omega)] at hR
         exact hR
       generalize tickT v g z = G at *
       simp only [vacV, gsV, bkV, hq] at htc
       have hw3 : wrapF .i64 ((u : Int) + 1) = ((u + 1 : Nat) : Int) := Z5 (by omega) (by omega)
       have hkk : q + 1 - (u + 1) < q + 1 - u := by clear hw3; omega
       have hu2 : u + 1 <= q + 1 := by clear hw3; omega
       simp -implicitDefEqProofs only [go_sem, a2, a3, a4, a11, a12, a14, hT, g0, g1, g2, huq, hp, hpl, htc, hw3]
       exact ⟨q + 1 - (u + 1), hkk, trivial, trivial, trivial, trivial, trivial, trivial, u + 1, n', _, G, rfl, hu2, rfl, rfl, hs31.trans g0', hs31.trans g1, hss g2', hfit2, hR2⟩
     ·rw [if_pos (by omega)] at hR
      obtain ⟨p, hR⟩ := hR
      rw [hR]
      simp -implicitDefEqProofs only [go_sem, a11, a14, hT, g1, huq, Try.results68]
  ·rw [if_neg c1]
   simp -implicitDefEqProofs only [go_sem, a0, a1, a2, hT, hr, c0, hw0, hfc, c1, Try.results68]
 ·rw [if_neg c0]
  simp -implicitDefEqProofs only [go_sem, a0, a1, hT, hr, c0, Try.results68]
end Go.Proofs.Ytgnpnfkncbnjnaa
namespace Go.Proofs.Ytgnpnfkncbnjnaa
attribute [local go_sem_proc] Int.reduceEq Int.reduceNeg Nat.reduceEqDiff Nat.reduceLT Nat.reduceAdd Nat.reduceSub Nat.reduceMul Int.reduceLE Int.reduceLT Int.reduceToNat Nat.reduceLeDiff
attribute [local go_sem] Int.toNat_natCast Bool.not_true Bool.not_false
open Go Go.Am
attribute [local congr] Ze Zb Zc
theorem Zoi : cfg.desc 73 = some (.slice 42) := by kernel_rfl
theorem bs73 (f : FuncId) (z : Bk) (s : St) : buildSliceA (cfg.at f) true 73 1 [(0, bkV z)] s = .ret (.lst [bkV z], s) := by
 simp -implicitDefEqProofs only [go_sem, Go.Am.buildSliceA]
theorem Z7i (v : Vac) (hp : v.pipes.length <= 1000000) (w : Int) (u : Nat) (K : Nat) (hK : v.pipes.length + 60 < K) :
  ∃ (l : List Bk) (w' : Int), (∀ s ∈ l, StgG 15 v.pipes.length s) /\ l.length <= 4 /\ ∀ (b : Nm) (H : Heap) (n : Nat) (p : Nm) (jr : Bool) (j : Delta), hget H b = some (.cells [.int .u64 w] true u) -> acall cfg (K + 12) 45 [.ptr b 0, vacV v] ⟨H, n, p, jr, j⟩ = .ret (ownV (p ++ [n]) (l.map bkV), match l with | [] => St.put ⟨H, n, p, jr, j⟩ b (.cells [.int .u64 w'] true u) | _ :: _ => (St.put ⟨H, n, p, jr, j⟩ b (.cells [.int .u64 w'] true u)).new (.tok l.length 4)) := by
 have key : ∃ (l : List Bk) (w' : Int), (∀ s ∈ l, StgG 15 v.pipes.length s) /\ l.length <= 4 /\ (bodyA (cfg.at 45) (acall cfg (K + 11)) (around cfg (K + 11)) (K + 11 + 1) Try.f45 [.ptr [0] 0, vacV v] ⟨[([0], .cells [.int .u64 w] true u)], 1, [], false, []⟩).Does fun x => ∃ c, x.1 = ownV [c + 1] (l.map bkV) /\ hget x.2.H [0] = some (.cells [.int .u64 w'] true u) /\ (l.map bkV ≠ [] -> hget x.2.H [c + 1] = some (.tok l.length 4)) := by
  suffices h : (bodyA (cfg.at 45) (acall cfg (K + 11)) (around cfg (K + 11)) (K + 11 + 1) Try.f45 [.ptr [0] 0, vacV v] ⟨[([0], .cells [.int .u64 w] true u)], 1, [], false, []⟩).Does fun x => ∃ (l : List Bk) (w' : Int), (∀ s ∈ l, StgG 15 v.pipes.length s) /\ l.length <= 4 /\ ∃ c, x.1 = ownV [c + 1] (l.map bkV) /\ hget x.2.H [0] = some (.cells [.int .u64 w'] true u) /\ (l.map bkV ≠ [] -> hget x.2.H [c + 1] = some (.tok l.length 4)) by
   obtain ⟨x, e, l, w', h1, h2, h3⟩ := h
   exact ⟨l, w', h1, h2, x, e, h3⟩
  refine Z6 rfl fun T hT' hA => ?_
  have a0 := hA 0 _ rfl
  have a1 := hA 1 _ rfl
  have hT : T.length = 20 := hT'
  clear hA hT'
  have ut1 := fun H m jr j hd => Z0b (H := H) (m := m) (u := u) (p := []) (jr := jr) (j := j) 5 (K + 9) hd (by decide)
  have d0 : isD u [([1], vacC v), ([0], .cells [.int .u64 w] true u)] := ⟨w, rfl⟩
  unfold vacV at a1
  unfold vacC at d0
  simp -implicitDefEqProofs (maxDischargeDepth := 9) only [go_sem, Z76, Z2b, a0, a1, hT, ut1, d0]
  have r1 := Zz w 5 (by decide)
  generalize uptoN w 5 = tk at *
  obtain ⟨q, rfl⟩ : ∃ q : Nat, tk = q := ⟨tk.toNat, by omega⟩
  generalize nextW w = w1 at *
  clear ut1 d0
  simp only [Z1]
  refine Zf (fun k T s' => T.length = 20 /\ nth T 0 = some (.ptr [0] 0) /\ nth T 3 = some (.ptr [1] 0) /\ ∃ (i m c : Nat) (H : Heap) (row : List Bk) (w : Int), nth T 6 = some (.int .i64 i) /\ nth T 5 = some (ownV [c + 1] (row.map bkV)) /\ i + row.length <= 4 /\ k = i /\ s' = ⟨H, m + 2, [], false, []⟩ /\ hget H [0] = some (.cells [.int .u64 w] true u) /\ hget H [1] = some (vacC v) /\ (row.map bkV ≠ [] -> 1 <= c /\ c < m + 1 /\ hget H [c + 1] = some (.tok row.length 4)) /\ ∀ s ∈ row, StgG 15 v.pipes.length s) (k := q) (by omega) ?_ ?_
  ·exact ⟨by simp -implicitDefEqProofs only [go_sem, hT], by simp -implicitDefEqProofs only [go_sem, a0], by simp -implicitDefEqProofs only [go_sem, hT], q, 0, 0, _, [], w1, by simp -implicitDefEqProofs only [go_sem, hT], by simp -implicitDefEqProofs only [go_sem, hT] <;> rfl, by show q + 0 <= 4; omega, rfl, rfl, rfl, rfl, fun e => absurd rfl e, fun s hs => nomatch hs⟩
  clear a0 a1 hT T
  rintro k T s' ⟨hT, a0, a3, i, m, c, H, row, w, a6, a5, hi, rfl, rfl, g0, g1, gt, hrow⟩
  by_cases hil : (0 : Int) < (k : Int)
  ·obtain ⟨z, w2, hz, hso⟩ := Z8v v hp 15 (by decide) w u (K + 1) (by omega)
   have hs0 := fun H n p jr j h => hso [0] ⟨H, n, p, jr, j⟩ h
   have q1 : ∀ Y, hget (hset H [0] Y) [1] = hget H [1] := fun Y => hs11 (by decide)
   have q0 : ∀ Y, hget (hset H [0] Y) [0] = some Y := fun Y => hss g0
   have qc : ∀ Y, hget (hset H [0] Y) [c + 1] = hget H [c + 1] := fun Y => hs11 (by omega)
   have g1' := g1
   unfold vacC at g1
   have bs := fun s => bs73 45 z s
   have hroom : (row.length + 1) * ty42.bytes <= 140737488355328 := by show (row.length + 1) * 48 <= _; omega
   have hap := Yl (C := cfg.at 45) (sT := 73) (b := [c + 1]) (l := row.map bkV) (x := bkV z) (H := hset H [0] (.cells [.int .u64 w2] true u)) (n := m + 2) (p := []) (jr := false) (j := []) (z := 4) Zoi Zhf rfl rfl rfl rfl rfl rfl (by rw [List.length_map]; exact hroom) (fun hx => by rw [List.length_map, qc]; exact (gt hx).2.2)
   have hown : ∀ b, ownV b (row.map bkV ++ [bkV z]) = .own b (row.map bkV ++ [bkV z]) := fun b => by cases row.map bkV <;> rfl
   simp only [List.nil_append, List.length_map] at hap
   rw [hown] at hap
   have hw1 : wrapF .i64 ((k : Int) - 1) = ((k - 1 : Nat) : Int) := by rw [Z5 (by omega) (by omega)]; omega
   have x0 : hget (dropTok (row.map bkV) [c + 1] (hset H [0] (.cells [.int .u64 w2] true u))) [0] = some (.cells [.int .u64 w2] true u) := by rw [Y3 _ _ (n11 (by omega))]; exact q0 _
   have x1 : hget (dropTok (row.map bkV) [c + 1] (hset H [0] (.cells [.int .u64 w2] true u))) [1] = some (vacC v) := by
    by_cases e : row.map bkV = []
    ·rw [e]; exact (q1 _).trans g1'
    ·rw [Y3 _ _ (n11 (by have := (gt e).1; omega))]; exact (q1 _).trans g1'
   generalize dropTok (row.map bkV) [c + 1] (hset H [0] (.cells [.int .u64 w2] true u)) = H2 at *
   have hrm : (row ++ [z]).map bkV = row.map bkV ++ [bkV z] := by simp
   have hk1 : k - 1 < k := by omega
   have hl1 : k - 1 + (row ++ [z]).length <= 4 := by rw [List.length_append]; show k - 1 + (row.length + 1) <= 4; omega
   simp only [bkV, vacV] at hs0 bs hap
   simp -implicitDefEqProofs only [go_sem, a0, a3, a5, a6, hT, hil, g1, g0, hs0, bs, hap, hw1]
   refine ⟨k - 1, hk1, trivial, trivial, trivial, k - 1, m + 1, m + 1, _, row ++ [z], w2, rfl, ?_, hl1, rfl, rfl, (hc11 (by omega)).trans x0, (hc11 (by omega)).trans x1, fun _ => ⟨by omega, by omega, ?_⟩, fun s hs => ?_⟩
   ·rw [hrm, hown]; rfl
   ·rw [List.length_append]; exact Z3 ..
   ·rcases List.mem_append.1 hs with hs | hs
    ·exact hrow s hs
    ·rw [List.mem_singleton] at hs; rw [hs]; exact hz
  ·simp -implicitDefEqProofs only [go_sem, a5, a6, hT, hil, Try.results45]
   exact ⟨row, w, hrow, by omega, c, rfl, g0, fun e => (gt e).2.2⟩
 obtain ⟨l, w', hl, hn, hd⟩ := key
 refine ⟨l, w', hl, hn, fun b H n p jr j hb => ?_⟩
 obtain ⟨⟨v1, s1⟩, e, c, hx1, hx2, hx3⟩ := hd
 simp only at hx1 hx2 hx3
 subst hx1
 have hlend : lendM 200 (namesVs false [.ptr b 0, vacV v] []) [] [] ⟨H, n, p, jr, j⟩ = .ret (([b], [.cells [.int .u64 w] true u]), ⟨H, n, p, jr, j⟩) := by
  show lendM (199 + 1) [b] [] [] _ = _
  rw [Y6 199 rfl hb]
  exact Zn 198 _ _ _
 have hra : renVs (zipN [b] (namesFrom [] 0 [b].length)) [.ptr b 0, vacV v] = some [.ptr [0] 0, vacV v] := by
  show renVs [(b, [0])] _ = _
  simp only [vacV, renVs, renV, lookN, Zi, Xs, Xt, Xu, Xv, Xw]
 have hput : putAll [b] [.cells [.int .u64 w'] true u] ⟨H, n, p, jr, j⟩ = .ret ((), St.put ⟨H, n, p, jr, j⟩ b (.cells [.int .u64 w'] true u)) := by
  show ((putM b _).bind fun _ => putAll [] []) _ = _
  rw [Zd, Ya, hb]; rfl
 have hga : getAll s1.H [[0]] = some [.cells [.int .u64 w'] true u] := by simp only [getAll, hx2]
 have hbl : [b].length = 1 := rfl
 cases l with
 | nil =>
  refine Ja (bs := [b]) (xs := [.cells [.int .u64 w] true u]) (xs0 := [.cells [.int .u64 w] true u]) (args' := [.ptr [0] 0, vacV v]) (ys' := [.cells [.int .u64 w'] true u]) (zs' := []) (s2 := St.put ⟨H, n, p, jr, j⟩ b (.cells [.int .u64 w'] true u)) Zhh Zhg hlend rfl rfl hra rfl ⟨_, e, [.cells [.int .u64 w'] true u], [[0]], [], hga, rfl, rfl, rfl, rfl, rfl⟩ hput rfl
 | cons a r =>
  have h3 := hx3 (by simp)
  refine Ja (bs := [b]) (xs := [.cells [.int .u64 w] true u]) (xs0 := [.cells [.int .u64 w] true u]) (args' := [.ptr [0] 0, vacV v]) (ys' := [.cells [.int .u64 w'] true u]) (zs' := [.tok (a :: r).length 4]) (s2 := St.put ⟨H, n, p, jr, j⟩ b (.cells [.int .u64 w'] true u)) Zhh Zhg hlend rfl rfl hra rfl ⟨_, e, [.cells [.int .u64 w'] true u], [[0], [c + 1]], [.tok (a :: r).length 4], hga, ?_, ?_, ?_, rfl, rfl⟩ hput rfl
  ·show reachL s1.H (199 + 1) [[c + 1]] [[0]] [] = _
   have hm : memNm [c + 1] [[0]] = false := rfl
   rw [Xi, hm]
   simp only [h3]
   rfl
  ·rfl
  ·show renV [([0], b), ([c + 1], p ++ [n])] (.own [c + 1] (List.map bkV (a :: r))) = _
   have q1 : eqb [c + 1] [0] = false := rfl
   have q2 : flats (List.map bkV (a :: r)) = true := Y4 (f := bkV) (fun z => by simp only [bkV, AV.flat, flats, fl_i]) _
   simp only [renV, q2, lookN, q1, Zi]
   rfl
end Go.Proofs.Ytgnpnfkncbnjnaa
namespace Go.Proofs.Ytgnpnfkncbnjnaa
open Go Go.Am
theorem Zfc (k : Nat) (s : St) : acall cfg (k + 300) 39 [] s = .ret (.bool true, s) := by kernel_rfl
end Go.Proofs.Ytgnpnfkncbnjnaa
namespace Go.Proofs.Ytgnpnfkncbnjnaa
open Go Go.Am
def I64 (n : Int) : Prop := -9223372036854775808 <= n /\ n <= 9223372036854775807
def Arg {α : Type} (t : TypeId) (d : Nat) (cells : α -> List AV) (ok : α -> Prop) : Prop := ∀ cs, Content Try.prog d t cs -> ∃ a, cs = cells a /\ ok a
theorem Xd (d : Nat) : Arg 3 (d + 1) (fun n => [iV n]) I64 := by
 intro cs h
 unfold Content at h
 rw [show Try.prog.underlying 3 = some (.int .i64) by kernel_rfl] at h
 obtain ⟨n, rfl, hn⟩ := h
 refine ⟨n, rfl, ?_⟩
 simp only [Lit.wf, Bool.and_eq_true, decide_eq_true_eq] at hn
 exact hn
theorem Zh7 (d : Nat) : Arg 4 (d + 1) (fun b => [.bool b]) (fun _ => True) := by
 intro cs h
 unfold Content at h
 rw [show Try.prog.underlying 4 = some .bool by kernel_rfl] at h
 obtain ⟨b, rfl⟩ := h
 exact ⟨b, rfl, trivial⟩
theorem Zfd {α : Type} {e z : Nat} {d : Nat} {cells : α -> List AV} {ok : α -> Prop} {f : α -> AV} (he : Arg e d cells ok) (hf : ∀ a, rowA z (cells a) = f a) : ∀ rows : List (List AV), (∀ r ∈ rows, r.length = z /\ Content Try.prog d e r) ->
  ∃ l : List α, rows.map (rowA z) = l.map f /\ l.length = rows.length /\ ∀ a ∈ l, ok a
 | [], _ => ⟨[], rfl, rfl, fun a h => by cases h⟩
 | r :: rows, h => by
  obtain ⟨a, rfl, ha⟩ := he r (h r List.mem_cons_self).2
  obtain ⟨l, h1, h2, h3⟩ := Zfd he hf rows fun r hr => h r (List.mem_cons_of_mem _ hr)
  refine ⟨a :: l, by simp [h1, hf], by simp [h2], fun b hb => ?_⟩
  rcases List.mem_cons.1 hb with rfl | hb
  ·exact ha
  ·exact h3 b hb
theorem Xq {α : Type} {t e z : Nat} {d : Nat} {cells : α -> List AV} {ok : α -> Prop} {f : α -> AV} (hu : Try.prog.underlying t = some (.slice e)) (hz : Try.prog.cellsOf e = z) (he : Arg e d cells ok) (hf : ∀ a, rowA z (cells a) = f a) :
  Arg t (d + 1) (fun l : List α => [.lst (l.map f)]) (fun l => l.length <= 9223372036854775807 /\ ∀ a ∈ l, ok a) := by
 intro cs h
 unfold Content at h
 rw [hu] at h
 obtain ⟨rows, rfl, hl, hr⟩ := h
 rw [hz] at hr ⊢
 obtain ⟨l, h1, h2, h3⟩ := Zfd he hf rows hr
 refine ⟨l, by rw [h1], ?_, h3⟩
 rw [h2]; exact hl
theorem Z0a {α0 α1 : Type} {t : Nat} {t0 : Nat} {t1 : Nat} {d : Nat} {fs : Array Field} {c0 : α0 -> List AV} {c1 : α1 -> List AV} {k0 : α0 -> Prop} {k1 : α1 -> Prop} (hu : Try.prog.underlying t = some (.struct fs)) (ht : fs.toList.map (·.type) = [t0, t1]) (h0 : Arg t0 d c0 k0) (h1 : Arg t1 d c1 k1) :
  Arg t (d + 1) (fun x : α0 × α1 => c0 x.1 ++ c1 x.2) (fun x => k0 x.1 /\ k1 x.2) := by
 intro cs h
 unfold Content at h
 rw [hu] at h
 simp only at h
 obtain ⟨pcs, rfl, hl, hp⟩ := h
 have hn : fs.toList.length = 2 := by have := congrArg List.length ht; simpa using this
 have key : ∀ (i t' : Nat), ([t0, t1] : List Nat)[i]? = some t' -> ∃ pc, pcs[i]? = some pc /\ Content Try.prog d t' pc := by
  intro i t' hi
  rw [<- ht, List.getElem?_map] at hi
  cases hf : fs.toList[i]? with
  | none => rw [hf] at hi; cases hi
  | some f =>
   rw [hf] at hi
   have hlt := (List.getElem?_eq_some_iff.1 hf).1
   have hlt2 : i < pcs.length := by omega
   obtain rfl : f.type = t' := by simpa using hi
   exact ⟨_, List.getElem?_eq_getElem hlt2, (hp i f _ hf (List.getElem?_eq_getElem hlt2)).2⟩
 obtain ⟨p0, q0, g0⟩ := key 0 _ rfl
 obtain ⟨x0, rfl, o0⟩ := h0 p0 g0
 obtain ⟨p1, q1, g1⟩ := key 1 _ rfl
 obtain ⟨x1, rfl, o1⟩ := h1 p1 g1
 have e : pcs = [c0 x0, c1 x1] := by
  have hl2 : pcs.length = 2 := by omega
  match pcs, hl2 with
  | [y0, y1], _ =>
   simp at q0 q1
   subst q0 q1; rfl
 subst e
 exact ⟨(x0, x1), by simp, ⟨o0, o1⟩⟩
theorem Za6 {α0 α1 α2 : Type} {t : Nat} {t0 : Nat} {t1 : Nat} {t2 : Nat} {d : Nat} {fs : Array Field} {c0 : α0 -> List AV} {c1 : α1 -> List AV} {c2 : α2 -> List AV} {k0 : α0 -> Prop} {k1 : α1 -> Prop} {k2 : α2 -> Prop} (hu : Try.prog.underlying t = some (.struct fs)) (ht : fs.toList.map (·.type) = [t0, t1, t2]) (h0 : Arg t0 d c0 k0) (h1 : Arg t1 d c1 k1) (h2 : Arg t2 d c2 k2) :
  Arg t (d + 1) (fun x : α0 × α1 × α2 => c0 x.1 ++ c1 x.2.1 ++ c2 x.2.2) (fun x => k0 x.1 /\ k1 x.2.1 /\ k2 x.2.2) := by
 intro cs h
 unfold Content at h
 rw [hu] at h
 simp only at h
 obtain ⟨pcs, rfl, hl, hp⟩ := h
 have hn : fs.toList.length = 3 := by have := congrArg List.length ht; simpa using this
 have key : ∀ (i t' : Nat), ([t0, t1, t2] : List Nat)[i]? = some t' -> ∃ pc, pcs[i]? = some pc /\ Content Try.prog d t' pc := by
  intro i t' hi
  rw [<- ht, List.getElem?_map] at hi
  cases hf : fs.toList[i]? with
  | none => rw [hf] at hi; cases hi
  | some f =>
   rw [hf] at hi
   have hlt := (List.getElem?_eq_some_iff.1 hf).1
   have hlt2 : i < pcs.length := by omega
   obtain rfl : f.type = t' := by simpa using hi
   exact ⟨_, List.getElem?_eq_getElem hlt2, (hp i f _ hf (List.getElem?_eq_getElem hlt2)).2⟩
 obtain ⟨p0, q0, g0⟩ := key 0 _ rfl
 obtain ⟨x0, rfl, o0⟩ := h0 p0 g0
 obtain ⟨p1, q1, g1⟩ := key 1 _ rfl
 obtain ⟨x1, rfl, o1⟩ := h1 p1 g1
 obtain ⟨p2, q2, g2⟩ := key 2 _ rfl
 obtain ⟨x2, rfl, o2⟩ := h2 p2 g2
 have e : pcs = [c0 x0, c1 x1, c2 x2] := by
  have hl2 : pcs.length = 3 := by omega
  match pcs, hl2 with
  | [y0, y1, y2], _ =>
   simp at q0 q1 q2
   subst q0 q1 q2; rfl
 subst e
 exact ⟨(x0, x1, x2), by simp, ⟨o0, o1, o2⟩⟩
theorem Z1s {α0 α1 α2 α3 : Type} {t : Nat} {t0 : Nat} {t1 : Nat} {t2 : Nat} {t3 : Nat} {d : Nat} {fs : Array Field} {c0 : α0 -> List AV} {c1 : α1 -> List AV} {c2 : α2 -> List AV} {c3 : α3 -> List AV} {k0 : α0 -> Prop} {k1 : α1 -> Prop} {k2 : α2 -> Prop} {k3 : α3 -> Prop} (hu : Try.prog.underlying t = some (.struct fs)) (ht : fs.toList.map (·.type) = [t0, t1, t2, t3]) (h0 : Arg t0 d c0 k0) (h1 : Arg t1 d c1 k1) (h2 : Arg t2 d c2 k2) (h3 : Arg t3 d c3 k3) :
  Arg t (d + 1) (fun x : α0 × α1 × α2 × α3 => c0 x.1 ++ c1 x.2.1 ++ c2 x.2.2.1 ++ c3 x.2.2.2) (fun x => k0 x.1 /\ k1 x.2.1 /\ k2 x.2.2.1 /\ k3 x.2.2.2) := by
 intro cs h
 unfold Content at h
 rw [hu] at h
 simp only at h
 obtain ⟨pcs, rfl, hl, hp⟩ := h
 have hn : fs.toList.length = 4 := by have := congrArg List.length ht; simpa using this
 have key : ∀ (i t' : Nat), ([t0, t1, t2, t3] : List Nat)[i]? = some t' -> ∃ pc, pcs[i]? = some pc /\ Content Try.prog d t' pc := by
  intro i t' hi
  rw [<- ht, List.getElem?_map] at hi
  cases hf : fs.toList[i]? with
  | none => rw [hf] at hi; cases hi
  | some f =>
   rw [hf] at hi
   have hlt := (List.getElem?_eq_some_iff.1 hf).1
   have hlt2 : i < pcs.length := by omega
   obtain rfl : f.type = t' := by simpa using hi
   exact ⟨_, List.getElem?_eq_getElem hlt2, (hp i f _ hf (List.getElem?_eq_getElem hlt2)).2⟩
 obtain ⟨p0, q0, g0⟩ := key 0 _ rfl
 obtain ⟨x0, rfl, o0⟩ := h0 p0 g0
 obtain ⟨p1, q1, g1⟩ := key 1 _ rfl
 obtain ⟨x1, rfl, o1⟩ := h1 p1 g1
 obtain ⟨p2, q2, g2⟩ := key 2 _ rfl
 obtain ⟨x2, rfl, o2⟩ := h2 p2 g2
 obtain ⟨p3, q3, g3⟩ := key 3 _ rfl
 obtain ⟨x3, rfl, o3⟩ := h3 p3 g3
 have e : pcs = [c0 x0, c1 x1, c2 x2, c3 x3] := by
  have hl2 : pcs.length = 4 := by omega
  match pcs, hl2 with
  | [y0, y1, y2, y3], _ =>
   simp at q0 q1 q2 q3
   subst q0 q1 q2 q3; rfl
 subst e
 exact ⟨(x0, x1, x2, x3), by simp, ⟨o0, o1, o2, o3⟩⟩
theorem Za7 {α0 α1 α2 α3 α4 : Type} {t : Nat} {t0 : Nat} {t1 : Nat} {t2 : Nat} {t3 : Nat} {t4 : Nat} {d : Nat} {fs : Array Field} {c0 : α0 -> List AV} {c1 : α1 -> List AV} {c2 : α2 -> List AV} {c3 : α3 -> List AV} {c4 : α4 -> List AV} {k0 : α0 -> Prop} {k1 : α1 -> Prop} {k2 : α2 -> Prop} {k3 : α3 -> Prop} {k4 : α4 -> Prop} (hu : Try.prog.underlying t = some (.struct fs)) (ht : fs.toList.map (·.type) = [t0, t1, t2, t3, t4]) (h0 : Arg t0 d c0 k0) (h1 : Arg t1 d c1 k1) (h2 : Arg t2 d c2 k2) (h3 : Arg t3 d c3 k3) (h4 : Arg t4 d c4 k4) :
  Arg t (d + 1) (fun x : α0 × α1 × α2 × α3 × α4 => c0 x.1 ++ c1 x.2.1 ++ c2 x.2.2.1 ++ c3 x.2.2.2.1 ++ c4 x.2.2.2.2) (fun x => k0 x.1 /\ k1 x.2.1 /\ k2 x.2.2.1 /\ k3 x.2.2.2.1 /\ k4 x.2.2.2.2) := by
 intro cs h
 unfold Content at h
 rw [hu] at h
 simp only at h
 obtain ⟨pcs, rfl, hl, hp⟩ := h
 have hn : fs.toList.length = 5 := by have := congrArg List.length ht; simpa using this
 have key : ∀ (i t' : Nat), ([t0, t1, t2, t3, t4] : List Nat)[i]? = some t' -> ∃ pc, pcs[i]? = some pc /\ Content Try.prog d t' pc := by
  intro i t' hi
  rw [<- ht, List.getElem?_map] at hi
  cases hf : fs.toList[i]? with
  | none => rw [hf] at hi; cases hi
  | some f =>
   rw [hf] at hi
   have hlt := (List.getElem?_eq_some_iff.1 hf).1
   have hlt2 : i < pcs.length := by omega
   obtain rfl : f.type = t' := by simpa using hi
   exact ⟨_, List.getElem?_eq_getElem hlt2, (hp i f _ hf (List.getElem?_eq_getElem hlt2)).2⟩
 obtain ⟨p0, q0, g0⟩ := key 0 _ rfl
 obtain ⟨x0, rfl, o0⟩ := h0 p0 g0
 obtain ⟨p1, q1, g1⟩ := key 1 _ rfl
 obtain ⟨x1, rfl, o1⟩ := h1 p1 g1
 obtain ⟨p2, q2, g2⟩ := key 2 _ rfl
 obtain ⟨x2, rfl, o2⟩ := h2 p2 g2
 obtain ⟨p3, q3, g3⟩ := key 3 _ rfl
 obtain ⟨x3, rfl, o3⟩ := h3 p3 g3
 obtain ⟨p4, q4, g4⟩ := key 4 _ rfl
 obtain ⟨x4, rfl, o4⟩ := h4 p4 g4
 have e : pcs = [c0 x0, c1 x1, c2 x2, c3 x3, c4 x4] := by
  have hl2 : pcs.length = 5 := by omega
  match pcs, hl2 with
  | [y0, y1, y2, y3, y4], _ =>
   simp at q0 q1 q2 q3 q4
   subst q0 q1 q2 q3 q4; rfl
 subst e
 exact ⟨(x0, x1, x2, x3, x4), by simp, ⟨o0, o1, o2, o3, o4⟩⟩
theorem Arg.to {α β : Type} {t d : Nat} {c : α -> List AV} {k : α -> Prop} (h : Arg t d c k) (g : α -> β) {c' : β -> List AV} {k' : β -> Prop} (hc : ∀ a, c a = c' (g a)) (hk : ∀ a, k a -> k' (g a)) : Arg t d c' k' := fun cs hx => by
 obtain ⟨a, rfl, ha⟩ := h cs hx
 exact ⟨g a, hc a, hk a ha⟩
def Len {α : Type} (l : List α) : Prop := l.length <= 9223372036854775807
theorem Zbp (d : Nat) : Arg 22 (d + 2) (fun l : List Int => [.lst (l.map iV)]) (fun l => Len l /\ ∀ a ∈ l, I64 a) := Xq (z := 1) (by kernel_rfl) (by kernel_rfl) (Xd d) fun _ => rfl
def Tri.I (t : Tri) : Prop := (Len t.of /\ ∀ a ∈ t.of, I64 a) /\ I64 t.cost
def Hnt.I (h : Hnt) : Prop := I64 h.suspects /\ Len h.trials /\ ∀ t ∈ h.trials, t.I
def Rg.I (r : Rg) : Prop := I64 r.lo /\ I64 r.hi
def Rel.I (x : Rel) : Prop := I64 x.frm /\ x.rate.I
def Ves.I (x : Ves) : Prop := I64 x.vol /\ x.free.I /\ x.bound.I /\ Len x.bands /\ ∀ a ∈ x.bands, a.I
def Pip.I (x : Pip) : Prop := I64 x.a /\ I64 x.b /\ x.out.I /\ x.back.I
def Pmp.I (x : Pmp) : Prop := I64 x.at' /\ x.part.I
def Inl.I (x : Inl) : Prop := I64 x.at' /\ x.gas.I
def Gtr.I (x : Gtr) : Prop := I64 x.at' /\ x.part.I /\ x.room.I
def Vac.I (v : Vac) : Prop := (Len v.vessels /\ ∀ a ∈ v.vessels, a.I) /\ (Len v.pipes /\ ∀ a ∈ v.pipes, a.I) /\ (Len v.pumps /\ ∀ a ∈ v.pumps, a.I) /\ (Len v.leaks /\ ∀ a ∈ v.leaks, a.I) /\ (Len v.getters /\ ∀ a ∈ v.getters, a.I)
def Bk.I (s : Bk) : Prop := I64 s.ticks /\ I64 s.heat /\ (Len s.shut /\ ∀ a ∈ s.shut, I64 a)
def Gs.I (g : Gs) : Prop := (Len g.free /\ ∀ a ∈ g.free, a.I) /\ (Len g.bound /\ ∀ a ∈ g.bound, a.I) /\ (Len g.room /\ ∀ a ∈ g.room, a.I) /\ I64 g.most
theorem Z2i (d : Nat) : Arg 26 (d + 2) (fun r : Rg => [.int .i64 r.lo, .int .i64 r.hi]) Rg.I :=
 (Z0a (t := 26) (t0 := 3) (t1 := 3) Try.underlying26 (by kernel_rfl) (Xd d) (Xd d)).to (fun x => (⟨x.1, x.2⟩ : Rg)) (fun _ => rfl) fun _ h => h
theorem Zll (d : Nat) : Arg 138 (d + 3) (fun x : Rel => [.int .i64 x.frm, .int .i64 x.rate.lo, .int .i64 x.rate.hi]) Rel.I :=
 (Z0a (t := 138) (t0 := 3) (t1 := 26) Try.underlying138 (by kernel_rfl) (Xd (d + 1)) (Z2i d)).to (fun x => (⟨x.1, x.2⟩ : Rel)) (fun _ => rfl) fun _ h => h
theorem Zlm (d : Nat) : Arg 71 (d + 5) (fun x : Ves => [.int .i64 x.vol, .int .i64 x.free.lo, .int .i64 x.free.hi, .int .i64 x.bound.lo, .int .i64 x.bound.hi, .lst (x.bands.map relV)]) Ves.I :=
 (Z1s (t := 71) (t0 := 3) (t1 := 26) (t2 := 26) (t3 := 69) Try.underlying71 (by kernel_rfl) (Xd (d + 3)) (Z2i (d + 2)) (Z2i (d + 2)) (Xq (t := 69) (e := 138) (f := relV) (z := 3) (by kernel_rfl) (by kernel_rfl) (Zll d) fun _ => rfl)).to (fun x => (⟨x.1, x.2.1, x.2.2.1, x.2.2.2⟩ : Ves)) (fun _ => rfl) fun _ h => h
theorem Zln (d : Nat) : Arg 140 (d + 3) (fun x : Pip => [.int .i64 x.a, .int .i64 x.b, .int .i64 x.out.lo, .int .i64 x.out.hi, .int .i64 x.back.lo, .int .i64 x.back.hi]) Pip.I :=
 (Z1s (t := 140) (t0 := 3) (t1 := 3) (t2 := 26) (t3 := 26) Try.underlying140 (by kernel_rfl) (Xd (d + 1)) (Xd (d + 1)) (Z2i d) (Z2i d)).to (fun x => (⟨x.1, x.2.1, x.2.2.1, x.2.2.2⟩ : Pip)) (fun _ => rfl) fun _ h => h
theorem Zlo (d : Nat) : Arg 128 (d + 3) (fun x : Pmp => [.int .i64 x.at', .int .i64 x.part.lo, .int .i64 x.part.hi]) Pmp.I :=
 (Z0a (t := 128) (t0 := 3) (t1 := 26) Try.underlying128 (by kernel_rfl) (Xd (d + 1)) (Z2i d)).to (fun x => (⟨x.1, x.2⟩ : Pmp)) (fun _ => rfl) fun _ h => h
theorem Zlp (d : Nat) : Arg 61 (d + 3) (fun x : Inl => [.int .i64 x.at', .int .i64 x.gas.lo, .int .i64 x.gas.hi]) Inl.I :=
 (Z0a (t := 61) (t0 := 3) (t1 := 26) Try.underlying61 (by kernel_rfl) (Xd (d + 1)) (Z2i d)).to (fun x => (⟨x.1, x.2⟩ : Inl)) (fun _ => rfl) fun _ h => h
theorem Zlq (d : Nat) : Arg 142 (d + 3) (fun x : Gtr => [.int .i64 x.at', .int .i64 x.part.lo, .int .i64 x.part.hi, .int .i64 x.room.lo, .int .i64 x.room.hi]) Gtr.I :=
 (Za6 (t := 142) (t0 := 3) (t1 := 26) (t2 := 26) Try.underlying142 (by kernel_rfl) (Xd (d + 1)) (Z2i d) (Z2i d)).to (fun x => (⟨x.1, x.2.1, x.2.2⟩ : Gtr)) (fun _ => rfl) fun _ h => h
theorem Zlr (d : Nat) : Arg 39 (d + 7) (fun v : Vac => [.lst (v.vessels.map vesV), .lst (v.pipes.map pipV), .lst (v.pumps.map pmpV), .lst (v.leaks.map inlV), .lst (v.getters.map gtrV)]) Vac.I :=
 (Za7 (t := 39) (t0 := 33) (t1 := 34) (t2 := 35) (t3 := 36) (t4 := 37) Try.underlying39 (by kernel_rfl) (Xq (t := 33) (e := 71) (f := vesV) (z := 6) (by kernel_rfl) (by kernel_rfl) (Zlm d) fun x => by simp only [rowA, shuts, AV.shut, vesV]) (Xq (t := 34) (e := 140) (f := pipV) (z := 6) (by kernel_rfl) (by kernel_rfl) (Zln (d + 2)) fun _ => rfl)
  (Xq (t := 35) (e := 128) (f := pmpV) (z := 3) (by kernel_rfl) (by kernel_rfl) (Zlo (d + 2)) fun _ => rfl) (Xq (t := 36) (e := 61) (f := inlV) (z := 3) (by kernel_rfl) (by kernel_rfl) (Zlp (d + 2)) fun _ => rfl) (Xq (t := 37) (e := 142) (f := gtrV) (z := 5) (by kernel_rfl) (by kernel_rfl) (Zlq (d + 2)) fun _ => rfl)).to (fun x => (⟨x.1, x.2.1, x.2.2.1, x.2.2.2.1, x.2.2.2.2⟩ : Vac)) (fun _ => rfl) fun _ h => h
theorem Zoj (d : Nat) : Arg 42 (d + 3) (fun s : Bk => [.int .i64 s.ticks, .int .i64 s.heat, .lst (s.shut.map iV), .bool s.flash]) Bk.I :=
 (Z1s (t := 42) (t0 := 3) (t1 := 3) (t2 := 22) (t3 := 4) Try.underlying42 (by kernel_rfl) (Xd (d + 1)) (Xd (d + 1)) (Zbp d) (Zh7 (d + 1))).to (fun x => (⟨x.1, x.2.1, x.2.2.1, x.2.2.2⟩ : Bk)) (fun _ => rfl) fun _ h => ⟨h.1, h.2.1, h.2.2.1⟩
theorem Zls (d : Nat) : Arg 73 (d + 4) (fun l : List Bk => [.lst (l.map bkV)]) (fun l => Len l /\ ∀ a ∈ l, a.I) := Xq (t := 73) (e := 42) (f := bkV) (z := 4) (by kernel_rfl) (by kernel_rfl) (Zoj d) fun _ => rfl
end Go.Proofs.Ytgnpnfkncbnjnaa
namespace Go.Proofs.Ytgnpnfkncbnjnaa
open Go Go.Am
attribute [local congr] Ze Zb Zc
attribute [local go_sem] Go.Am.frozen Go.Am.freezeG Go.Am.freezeGs Go.Am.minmax
theorem VacG.lens {v : Vac} (h : VacG v) (K : Nat) (hK : 10 < K) : v.Lens K :=
 ⟨⟨by have := h.n4; omega, by have := h.n4; omega⟩, ⟨by have := h.np; omega, by have := h.np; omega⟩, ⟨by have := h.nm; omega, by have := h.nm; omega⟩, ⟨by have := h.nl; omega, by have := h.nl; omega⟩, ⟨by have := h.ng; omega, by have := h.ng; omega⟩, fun x hx => by have := (h.ves x hx).len; omega⟩
theorem Vac.I.lens {v : Vac} (h : v.I) (K : Nat) (h1 : v.vessels.length < K) (h2 : v.pipes.length < K) (h3 : v.pumps.length < K) (h4 : v.leaks.length < K) (h5 : v.getters.length < K) : v.Lens K :=
 ⟨⟨h1, h.1.1⟩, ⟨h2, h.2.1.1⟩, ⟨h3, h.2.2.1.1⟩, ⟨h4, h.2.2.2.1.1⟩, ⟨h5, h.2.2.2.2.1⟩, fun x hx => (h.1.2 x hx).2.2.2.1⟩
end Go.Proofs.Ytgnpnfkncbnjnaa
