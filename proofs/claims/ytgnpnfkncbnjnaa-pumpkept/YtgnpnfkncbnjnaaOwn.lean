/- The statement PumpKept holds for every input, without further conditions. -/
import Derived.Test.YtgnpnfkncbnjnaaP3
import Derived.Test.YtgnpnfkncbnjnaaChecked
import Derived.Test.YtgnpnfkncbnjnaaRows
import Derived.ProofKit
import Derived.KernelRfl
set_option linter.unusedSimpArgs false
set_option linter.unusedVariables false
set_option maxHeartbeats 4000000
set_option maxRecDepth 100000
namespace Go.Proofs.Ytgnpnfkncbnjnaa
attribute [local go_sem_proc] Int.reduceEq Int.reduceNeg Nat.reduceEqDiff Nat.reduceLT Nat.reduceAdd Nat.reduceSub Nat.reduceMul Int.reduceLE Int.reduceLT Int.reduceToNat Nat.reduceLeDiff
attribute [local go_sem] Int.toNat_natCast Bool.not_true Bool.not_false
open Go Go.Am
attribute [local congr] Z8 Z5 Z7
attribute [local go_sem] Go.Am.frozen Go.Am.freezeG Go.Am.freezeGs
variable {E : AV}
def getFr (t : Gtr) (f r : Rg) : Rg := ⟨wrapF .i64 (f.lo - min2 (upN f.lo t.part.hi) r.hi), wrapF .i64 (f.hi - min2 (downN f.hi t.part.lo) r.lo)⟩
def getRo (t : Gtr) (f r : Rg) : Rg := ⟨max2 0 (wrapF .i64 (r.lo - upN f.hi t.part.hi)), max2 0 (wrapF .i64 (r.hi - downN f.lo t.part.lo))⟩
def getF : List Gtr -> Nat -> List Rg -> List Rg -> List Rg × List Rg
 | [], _, F, R => (F, R)
 | t :: ts, i, F, R => getF ts (i + 1) (F.set t.at'.toNat (getFr t (F[t.at'.toNat]?.getD ⟨0, 0⟩) (R[i]?.getD ⟨0, 0⟩))) (R.set i (getRo t (F[t.at'.toNat]?.getD ⟨0, 0⟩) (R[i]?.getD ⟨0, 0⟩)))
theorem Z69 : ∀ (l : List Gtr) (i : Nat) (F R : List Rg), (getF l i F R).1.length = F.length /\ (getF l i F R).2.length = R.length
 | [], _, _, _ => ⟨rfl, rfl⟩
 | t :: ts, i, F, R => by
  unfold getF
  have := Z69 ts (i + 1) (F.set t.at'.toNat (getFr t (F[t.at'.toNat]?.getD ⟨0, 0⟩) (R[i]?.getD ⟨0, 0⟩))) (R.set i (getRo t (F[t.at'.toNat]?.getD ⟨0, 0⟩) (R[i]?.getD ⟨0, 0⟩)))
  simpa using this
def getT (v : Vac) (g : Gs) (s : Bk) : Gs := if g.flashed = true then ⟨(getF v.getters 0 g.free g.room).1, g.bound, (getF v.getters 0 g.free g.room).2, g.most, g.flashed⟩ else g
theorem Zf6 {b : Nm} {n : Nat} (h : 0 < n) : rowX E b n = .slice b 0 n n false := by cases n with | zero => omega | succ n => rfl
theorem Zf7 [hE : Emp E] {K : Nat} {X f b r : Nm} {v : Vac} {g : Gs} {s : Bk} {H : Heap} {n : Nat} {p : Nm} {j : Delta} (h : SysAt E H X f b r v g) (ha : Apart X f b r) (h1 : g.free ≠ []) (h2 : g.bound ≠ []) (hl1 : g.free.length = v.vessels.length) (hl3 : g.room.length = v.getters.length) (hK : v.getters.length + 20 < K) (hl : v.getters.length <= 1000000) (hat : ∀ t ∈ v.getters, 0 <= t.at' /\ t.at' < v.vessels.length) :
  acall cfg (K + 2) 150 [.ptr X 0, bkV s] ⟨H, n, p, false, j⟩ = .ret (.tuple [], ⟨sysPut E X f b r v (getT v g s) H, n, p, false, j⟩) := by
 have hgl := Z69 v.getters 0 g.free g.room
 refine Z0p Zhl Zhk h ha h1 h2 (by unfold getT; split <;> simp [hgl]) (by unfold getT; split <;> rfl) (by unfold getT; split <;> simp [hgl]) fun H0 m hs hm => ?_
 refine Za rfl fun T hT' hA => ?_
 have a0 := hA 0 _ rfl
 have a1 := hA 1 _ rfl
 have hT : T.length = 104 := hT'
 clear hA hT'
 have g0 := hs.x
 unfold sysB at g0
 have k0 : ∀ X, hget (([m + 3], X) :: H0) [0] = hget H0 [0] := fun X => hc11 (by omega)
 have hs' : ∀ X, SysAt E (([m + 3], X) :: H0) [0] [1] [2] [3] v g := fun X => ⟨(k0 _).trans hs.x, (hc11 (by omega)).trans hs.f, (hc11 (by omega)).trans hs.b, fun e => (hc11 (by have := hm e; omega)).trans (hs.r e)⟩
 unfold getT
 cases hfl : g.flashed with
 | false =>
  simp -implicitDefEqProofs only [go_sem, a0, a1, hT, g0, k0, hfl, Try.results150]
  exact ⟨trivial, hs' _⟩
 | true =>
  rw [if_pos rfl]
  simp -implicitDefEqProofs only [go_sem, a0, a1, hT, g0, k0, hfl]
  simp only [Z2]
  refine Zm (fun k T s' => T.length = 104 /\ nth T 0 = some (.ptr [0] 0) /\ nth T 18 = some (.lst (v.getters.map gtrV)) /\ nth T 19 = some (.int .i64 v.getters.length) /\ ∃ (i m' : Nat) (H' : Heap) (F R : List Rg), nth T 20 = some (.int .i64 i) /\ i <= v.getters.length /\ k = v.getters.length - i /\ s' = ⟨H', m' + 3, [], false, []⟩ /\ 1 <= m' /\ SysAt E H' [0] [1] [2] [3] v ⟨F, g.bound, R, g.most, true⟩ /\ F.length = g.free.length /\ R.length = g.room.length /\ getF v.getters 0 g.free g.room = getF (v.getters.drop i) i F R) (k := v.getters.length) (by omega) ?_ ?_
  ·exact ⟨by simp -implicitDefEqProofs only [go_sem, hT], by simp -implicitDefEqProofs only [go_sem, a0], by simp -implicitDefEqProofs only [go_sem, hT], by simp -implicitDefEqProofs only [go_sem, hT], 0, m + 1, _, g.free, g.room, by simp -implicitDefEqProofs only [go_sem, hT] <;> rfl, by omega, rfl, rfl, by omega, by have e := hs' (.cells [.int .i64 s.ticks, .int .i64 s.heat, .lst (s.shut.map iV), .bool s.flash] true 0); rw [show g = ⟨g.free, g.bound, g.room, g.most, true⟩ from by rw [<- hfl]] at e; exact e, rfl, rfl, rfl⟩
  clear a0 a1 hT T g0 k0 hs hs' H0
  rintro k T s' ⟨hT, a0, a18, a19, i, m', H0, F, R, a20, hi, rfl, rfl, hmm, hs, lF, lR, he⟩
  simp -implicitDefEqProofs only [go_sem, a19, a20, hT]
  by_cases hil : (i : Int) < (v.getters.length : Int)
  ·have hi' : i < v.getters.length := by omega
   have e1 := Zj (f := gtrV) (l := v.getters) (i := i) (z := 5) hi' rfl
   have hkk : v.getters.length - (i + 1) < v.getters.length - i := by omega
   have hax := hat _ (List.getElem_mem hi')
   rw [List.drop_eq_getElem_cons hi'] at he
   generalize v.getters[i] = x at *
   obtain ⟨a, hxa⟩ : ∃ a : Nat, x.at' = a := ⟨x.at'.toNat, by omega⟩
   have haF : a < F.length := by omega
   have hiR : i < R.length := by omega
   simp only [getF] at he
   rw [hxa, Int.toNat_natCast, List.getElem?_eq_getElem haF, List.getElem?_eq_getElem hiR, Option.getD_some, Option.getD_some] at he
   have f0 := Xg F haF
   have f1 := Xh F haF
   have fw := Z29 F haF (getFr x F[a] R[i])
   have r0 := Xg R hiR
   have r1 := Xh R hiR
   have rw' := Z29 R hiR (getRo x F[a] R[i])
   generalize F[a] = fi at *
   generalize R[i] = ri at *
   generalize hF' : F.set a (getFr x fi ri) = F' at *
   generalize hR' : R.set i (getRo x fi ri) = R' at *
   have lF' : F'.length = F.length := by rw [<- hF']; simp
   have lR' : R'.length = R.length := by rw [<- hR']; simp
   simp only [getFr, getRo] at fw rw'
   have hinF : inR (a : Int) F.length = some a := Z04 haF
   have hinR : inR (i : Int) R.length = some i := Z04 hiR
   have hrow : rowX E [3] R.length = .slice [3] 0 R.length R.length false := Zf6 (by omega)
   have hrne : R ≠ [] := fun e => by rw [e] at hiR; simp at hiR
   have x0 := hs.x
   have x1 := hs.f
   have x2 := hs.b
   have x3 := hs.r hrne
   have y0 : hget H0 [0] = some (sysB E v [1] [2] [3] ⟨F', g.bound, R', g.most, true⟩) := x0.trans (congrArg some (Z2a lF'.symm rfl lR'.symm rfl rfl))
   unfold sysB at x0
   unfold rgB at x1 x3
   simp only at x0 x1 x2 x3
   rw [hrow] at x0
   simp only [gtrV] at e1
   rw [hxa] at e1
   have c1 := fun a b s => Z73 a b K s
   have c2 := fun a b s => Zcq a b K s
   have k0 : ∀ X, hget (([m' + 3], X) :: H0) [0] = hget H0 [0] := fun X => hc11 (by omega)
   have k1 : ∀ X, hget (([m' + 3], X) :: H0) [1] = hget H0 [1] := fun X => hc11 (by omega)
   have k3 : ∀ X, hget (([m' + 3], X) :: H0) [3] = hget H0 [3] := fun X => hc11 (by omega)
   have k5 : ∀ X, hget (([m' + 3], X) :: H0) [m' + 3] = some X := fun X => Z1 ..
   have hw1 : wrapF .i64 ((i : Int) + 1) = ((i + 1 : Nat) : Int) := Z6 (by omega) (by omega)
   have hm0 : (m' = 0) = False := eq_false (by omega)
   have nm1 : ∀ x r, lkD (([1], x) :: r) [m' + 3] = lkD r [m' + 3] := fun x r => lk11 (by omega)
   simp -implicitDefEqProofs only [go_sem, a18, a20, hT, hil, e1]
   try simp only [Z2]
   refine Zf [[], [0], [1, 0], [2, 1, 0], [3, 2, 1, 0], [], [5], [4, 3, 2, 1, 0, 6, 5], [7, 4, 3, 2, 1, 0, 6, 5], [], [9], [10, 9], [11, 10, 9], [12, 11, 10, 9], [], [13, 12, 11, 10, 9, 14], [15, 13, 12, 11, 10, 9, 14], [], [], [8, 7, 4, 3, 2, 1, 0, 6, 5, 17, 18], [16, 15, 13, 12, 11, 10, 9, 14, 19, 8, 7, 4, 3, 2, 1, 0, 6, 5, 17, 18]] [[], [], [], [], [], [], [], [], [], [], [], [], [], [], [], [], [], [], [], [[m' + 4, 17, 0]], [[m' + 4, 18, 0]]] (by kernel_rfl) rfl rfl ?_
   simp -implicitDefEqProofs only [go_sem, Z0, lkn, Zd, Z2m, Option.getD_some, Option.getD_none, a0, hT, x0, x1, x3, k0, k1, k3, k5, hinF, hinR, f0, f1, r0, r1, hd31, hm0, Ze]
   try simp only [Z2]
   refine Zf [[], [0], [1, 0], [2, 1, 0], [3, 2, 1, 0], [], [5], [], [7], [], [9], [], [11], [12, 11], [10, 9, 13, 12, 11], [], [15], [14, 10, 9, 13, 12, 11, 16, 15], [8, 7, 17, 14, 10, 9, 13, 12, 11, 16, 15], [], [19], [], [21], [], [23], [24, 23], [22, 21, 25, 24, 23, 14, 10, 9, 13, 12, 11], [], [27], [26, 22, 21, 25, 24, 23, 14, 10, 9, 13, 12, 11, 28, 27], [20, 19, 29, 26, 22, 21, 25, 24, 23, 14, 10, 9, 13, 12, 11, 28, 27], [18, 8, 7, 17, 16, 15, 30, 20, 19, 29, 26, 22, 21, 25, 24, 23, 14, 10, 9, 13, 12, 11, 28, 27], [4, 3, 2, 1, 0, 6, 5, 31, 18, 8, 7, 17, 16, 15, 30, 20, 19, 29, 26, 22, 21, 25, 24, 23, 14, 10, 9, 13, 12, 11, 28, 27], [32, 4, 3, 2, 1, 0, 6, 5, 31, 18, 8, 7, 17, 16, 15, 30, 20, 19, 29, 26, 22, 21, 25, 24, 23, 14, 10, 9, 13, 12, 11, 28, 27]] [[], [], [], [], [], [], [], [], [], [], [], [], [], [], [], [], [], [], [], [], [], [], [], [], [], [], [], [], [], [], [], [], [], [[1]]] (by kernel_rfl) rfl rfl ?_
   simp -implicitDefEqProofs only [go_sem, Z0, lkn, Zd, lk31, Z2m, Option.getD_some, Option.getD_none, a0, hT, x0, x1, k0, k1, k5, hinF, f0, f1, c1, c2, Z7f, Jk, fw, Ze]
   try simp only [Z2]
   refine Zf [[], [0], [1, 0], [2, 1, 0], [3, 2, 1, 0], [], [], [6], [], [8], [], [10], [11, 10], [9, 8, 12, 11, 10], [7, 6, 13, 9, 8, 12, 11, 10], [14, 7, 6, 13, 9, 8, 12, 11, 10], [], [16], [], [18], [], [20], [21, 20], [19, 18, 22, 21, 20, 13, 9, 8, 12, 11, 10], [17, 16, 23, 19, 18, 22, 21, 20, 13, 9, 8, 12, 11, 10], [24, 17, 16, 23, 19, 18, 22, 21, 20, 13, 9, 8, 12, 11, 10], [15, 14, 7, 6, 25, 24, 17, 16, 23, 19, 18, 22, 21, 20, 13, 9, 8, 12, 11, 10], [4, 3, 2, 1, 0, 5, 26, 15, 14, 7, 6, 25, 24, 17, 16, 23, 19, 18, 22, 21, 20, 13, 9, 8, 12, 11, 10], [27, 4, 3, 2, 1, 0, 5, 26, 15, 14, 7, 6, 25, 24, 17, 16, 23, 19, 18, 22, 21, 20, 13, 9, 8, 12, 11, 10]] [[], [], [], [], [], [], [], [], [], [], [], [], [], [], [], [], [], [], [], [], [], [], [], [], [], [], [], [], [[3]]] (by kernel_rfl) rfl rfl ?_
   simp -implicitDefEqProofs only [go_sem, Z0, lkn, Zd, lk11, lk13, lk31, Z2m, Option.getD_some, Option.getD_none, a0, a18, a19, a20, hT, x0, x3, k0, k3, k5, nm1, hinR, r0, r1, c1, c2, Zkw, Jk, rw', hw1, Ze]
   refine ⟨v.getters.length - (i + 1), hkk, trivial, trivial, trivial, trivial, i + 1, m' + 4, _, F', R', rfl, hi', rfl, rfl, by omega, ?_, by rw [lF']; exact lF, by rw [lR']; exact lR, he⟩
   all_goals clear hw1
   refine ⟨?_, ?_, ?_, fun e => ?_⟩
   ·simp (disch := omega) only [hc11, Z0, lkn, lk11, lk31, Option.getD_none]; exact y0
   ·simp (disch := omega) only [hc11, Z0, lkn, Zd, lk11, lk31, Option.getD_some, Option.getD_none]; rfl
   ·simp (disch := omega) only [hc11, Z0, lkn, lk11, lk31, Option.getD_none]; exact x2
   ·simp (disch := omega) only [hc11, Z0, lkn, Zd, lk11, lk31, Option.getD_some, Option.getD_none]; rfl
  ·have hie : i = v.getters.length := by omega
   subst hie
   rw [List.drop_length] at he
   simp only [getF] at he
   rw [he]
   simp -implicitDefEqProofs only [go_sem, hil, Try.results150]
   exact ⟨trivial, hs⟩
end Go.Proofs.Ytgnpnfkncbnjnaa
namespace Go.Proofs.Ytgnpnfkncbnjnaa
attribute [local go_sem_proc] Int.reduceEq Int.reduceNeg Nat.reduceEqDiff Nat.reduceLT Nat.reduceAdd Nat.reduceSub Nat.reduceMul Int.reduceLE Int.reduceLT Int.reduceToNat Nat.reduceLeDiff
attribute [local go_sem] Int.toNat_natCast Bool.not_true Bool.not_false
open Go Go.Am
attribute [local congr] Z8 Z5 Z7
attribute [local go_sem] Go.Am.frozen Go.Am.freezeG Go.Am.freezeGs
variable {E : AV}
def mulR (f r : Rg) : Rg := ⟨wrapF .i64 (f.lo * r.lo), wrapF .i64 (f.hi * r.hi)⟩
theorem Z7h (x y : Int) (a : Nat) (r : Rg) (c2 c5 M : Nat) (es : List (Int × Rg)) (cs : List AV) (F : List Rg) (K : Nat) (H : Heap) (n : Nat) (hy : y = a) (ha : a < F.length) (h2 : hget H [c2] = some (.cells [.ptr [0] 0] true 0)) (h5 : hget H [c5] = some (.cells [.map [M]] true 0)) (hM : hget H [M] = some (.map (encE es) false)) (h0 : hget H [0] = some (.cells cs true 0)) (hcs : nth cs 5 = some (.slice [1] 0 F.length F.length false)) (h1 : hget H [1] = some (rgB F)) (l2 : c2 < n) (l5 : c5 < n) (lM : M < n) (l1 : 1 < n) (nM0 : M ≠ 0) (nM1 : M ≠ 1) (nM2 : M ≠ c2) (nM5 : M ≠ c5) :
  ∃ H' n', acall cfg (K + 2) 180 [.int .i64 x, .int .i64 y, rgV r, .ptr [c2] 0, .ptr [c5] 0] ⟨H, n, [], false, []⟩ = .ret (.tuple [], ⟨H', n', [], false, []⟩) /\ n <= n' /\ hget H' [M] = some (.map (encE (setS es x (plusR (getS es x) (mulR F[a] r)))) false) /\ (∀ k, k < n -> k ≠ M -> hget H' [k] = hget H [k]) /\ ∀ k a b, hget H' [k, a, b] = hget H [k, a, b] := by
 suffices h : (acall cfg (K + 2) 180 [.int .i64 x, .int .i64 y, rgV r, .ptr [c2] 0, .ptr [c5] 0] ⟨H, n, [], false, []⟩).Does fun q => ∃ H' n', q = (.tuple [], ⟨H', n', [], false, []⟩) /\ n <= n' /\ hget H' [M] = some (.map (encE (setS es x (plusR (getS es x) (mulR F[a] r)))) false) /\ (∀ k, k < n -> k ≠ M -> hget H' [k] = hget H [k]) /\ ∀ k a b, hget H' [k, a, b] = hget H [k, a, b] by
  obtain ⟨q, e, H', n', rfl, h⟩ := h
  exact ⟨H', n', e, h⟩
 subst hy
 rw [Z5x Zi9 Zi8]
 refine Za rfl fun T hT' hA => ?_
 have a0 := hA 0 _ rfl
 have a1 := hA 1 _ rfl
 have a2 := hA 2 _ rfl
 have a3 := hA 3 _ rfl
 have a4 := hA 4 _ rfl
 have hT : T.length = 34 := hT'
 clear hA hT'
 have f0 := Xg F ha
 have f1 := Xh F ha
 have hin : inR (a : Int) F.length = some a := Z04 ha
 generalize F[a] = f at *
 unfold rgB at h1
 have k2 : ∀ X, hget (([n], X) :: H) [c2] = hget H [c2] := fun X => hc11 (by omega)
 have k0 : ∀ X, hget (([n], X) :: H) [0] = hget H [0] := fun X => hc11 (by omega)
 have k1 : ∀ X, hget (([n], X) :: H) [1] = hget H [1] := fun X => hc11 (by omega)
 have e2 : ∀ X Y, hget (([n + 1], Y) :: ([n], X) :: H) [c5] = hget H [c5] := fun X Y => (hc11 (by omega)).trans (hc11 (by omega))
 have e3 : ∀ X Y, hget (([n + 1], Y) :: ([n], X) :: H) [M] = hget H [M] := fun X Y => (hc11 (by omega)).trans (hc11 (by omega))
 have e4 : ∀ X Y, hget (([n + 1], Y) :: ([n], X) :: H) [n] = some X := fun X Y => (hc11 (by omega)).trans (Z1 ..)
 have e5 : ∀ X Y, hget (([n + 1], Y) :: ([n], X) :: H) [n + 1] = some Y := fun X Y => Z1 ..
 have hlk := fun (s : St) (hg : hget s.H [M] = some (.map (encE es) false)) => Z9l (C := cfg.at 180) rfl (k := x) hg
 have hup := fun (s : St) (hg : hget s.H [M] = some (.map (encE es) false)) => Zid (C := cfg.at 180) rfl (k := x) (x := plusR (getS es x) (mulR f r)) hg
 have hpl := fun s => Z1k (getS es x) (mulR f r) K s
 generalize hE : setS es x (plusR (getS es x) (mulR f r)) = es2 at *
 generalize plusR (getS es x) (mulR f r) = pp at *
 simp only [rgV, mulR] at hlk hup hpl
 simp -implicitDefEqProofs only [go_sem, a1, a2, a3, hT, k2, h2, k0, h0, hcs, hin, k1, h1, f0, f1]
 have ip : isPre [n + 1 + 1, 17] [M] = false := Go.Am.Xw _ _ (by omega)
 try simp only [Z2]
 refine Zf [[], [], [], [], [2, 3], [], [5], [], [7], [6, 5, 8, 7], [], [10], [], [12], [11, 10, 13, 12], [9, 6, 5, 8, 7, 14, 11, 10, 13, 12], [4, 2, 3, 15, 9, 6, 5, 8, 7, 14, 11, 10, 13, 12], [0, 1, 16, 4, 2, 3, 15, 9, 6, 5, 8, 7, 14, 11, 10, 13, 12]] [[], [], [], [], [], [], [], [], [], [], [], [], [], [], [], [], [], [[M]]] (by kernel_rfl) rfl rfl ?_
 simp -implicitDefEqProofs only [go_sem, Option.getD_some, a0, a4, hT, e2, e3, e4, e5, h5, hM, hlk, hup, hpl, ip, Ze, Try.results180]
 refine ⟨_, _, rfl, by omega, ?_, fun k hk hne => ?_, fun k a b => ?_⟩
 ·simp (disch := omega) only [hc11, Z0, Zd, Option.getD_some]
 ·simp (disch := omega) only [hc11, Z0, lkn, lk11, Option.getD_none]
 ·simp (disch := omega) only [hc13, Z0, lkn, lk13, Option.getD_none]
end Go.Proofs.Ytgnpnfkncbnjnaa
namespace Go.Proofs.Ytgnpnfkncbnjnaa
attribute [local go_sem_proc] Int.reduceEq Int.reduceNeg Nat.reduceEqDiff Nat.reduceLT Nat.reduceAdd Nat.reduceSub Nat.reduceMul Int.reduceLE Int.reduceLT Int.reduceToNat Nat.reduceLeDiff
attribute [local go_sem] Int.toNat_natCast Bool.not_true Bool.not_false
open Go Go.Am
attribute [local congr] Z8 Z5 Z7
attribute [local go_sem] Go.Am.frozen Go.Am.freezeG Go.Am.freezeGs
variable {E : AV}
def atR (F : List Rg) (a : Int) : Rg := F[a.toNat]?.getD ⟨0, 0⟩
theorem Z3z (F : List Rg) {a : Nat} (h : a < F.length) : atR F a = F[a] := by
 unfold atR; rw [Int.toNat_natCast, List.getElem?_eq_getElem h]; rfl
def begR (v : Vac) (shut : List Int) (F : List Rg) (i : Int) : Rg := mulR (atR F i) ⟨wrapF .i64 (1000000 - (outR v i shut).hi), wrapF .i64 (1000000 - (outR v i shut).lo)⟩
def flowS (F : List Rg) (shut : List Int) (x : Int) : Nat -> Rg -> List Pip -> Rg
 | _, acc, [] => acc
 | k, acc, p :: r => if (k : Int) ∈ shut then flowS F shut x (k + 1) acc r else
  flowS F shut x (k + 1) (if x = p.a then plusR (if x = p.b then plusR acc (mulR (atR F p.a) p.out) else acc) (mulR (atR F p.b) p.back) else (if x = p.b then plusR acc (mulR (atR F p.a) p.out) else acc)) r
def quoR (r : Rg) : Rg := ⟨wrapF .i64 (r.lo.tdiv 1000000), wrapF .i64 ((wrapF .i64 (wrapF .i64 (r.hi + 1000000) - 1)).tdiv 1000000)⟩
def flowG (v : Vac) (shut : List Int) (F : List Rg) : List Rg := (List.range F.length).map fun (i : Nat) => quoR (flowS F shut i 0 (begR v shut F i) v.pipes)
def leakR : List Rg -> List Inl -> List Rg
 | R, [] => R
 | R, l :: r => leakR (R.set l.at'.toNat (plusR (atR R l.at') l.gas)) r
theorem Z40 : ∀ (l : List Inl) (R : List Rg), (leakR R l).length = R.length
 | [], _ => rfl
 | x :: l, R => by unfold leakR; rw [Z40 l]; simp
theorem X9 (v : Vac) (shut : List Int) (F : List Rg) : (flowG v shut F).length = F.length := by simp [flowG]
def flowT (v : Vac) (g : Gs) (s : Bk) : Gs := ⟨leakR (flowG v s.shut g.free) v.leaks, g.bound, g.room, g.most, g.flashed⟩
structure Fl (E : AV) (m : Nat) (v : Vac) (g : Gs) (s : Bk) (H : Heap) : Prop where
 p : hget H [m + 3] = some (.cells [.ptr [0] 0] true 0)
 k : hget H [m + 4] = some (.cells [.int .i64 s.ticks, .int .i64 s.heat, .lst (s.shut.map iV), .bool s.flash] true 0)
 c : hget H [m + 7] = some (.cells [.map [m + 6]] true 0)
 l : hget H [m + 5, 6, 0] = some (.map (encE (leaveL v s.shut)) false)
 s : SysAt E H [0] [1] [2] [3] v g
theorem Fl.of {m : Nat} {v : Vac} {g : Gs} {s : Bk} {H H' : Heap} (h : Fl E m v g s H) (e : ∀ k, k < m + 8 -> k ≠ m + 6 -> hget H' [k] = hget H [k]) (e2 : hget H' [m + 5, 6, 0] = hget H [m + 5, 6, 0]) (hm : g.room ≠ [] -> 1 <= m) (h3 : 3 <= m + 3) : Fl E m v g s H' :=
 ⟨(e _ (by omega) (by omega)).trans h.p, (e _ (by omega) (by omega)).trans h.k, (e _ (by omega) (by omega)).trans h.c, e2.trans h.l,
  ⟨(e 0 (by omega) (by omega)).trans h.s.x, (e 1 (by omega) (by omega)).trans h.s.f, (e 2 (by omega) (by omega)).trans h.s.b, fun q => (e 3 (by omega) (by omega)).trans (h.s.r q)⟩⟩
theorem Zde [hE : Emp E] {K : Nat} {X f b r : Nm} {v : Vac} {g : Gs} {s : Bk} {H : Heap} {n : Nat} {p : Nm} {j : Delta} (h : SysAt E H X f b r v g) (ha : Apart X f b r) (h1 : g.free ≠ []) (h2 : g.bound ≠ []) (hl1 : g.free.length = v.vessels.length) (hK : v.vessels.length + 100 < K) (hl : v.vessels.length <= 1000000) (hv : v.Lens K) (hsh : s.shut.length < K) (hsh2 : s.shut.length <= 9223372036854775807)
  (hpp : ∀ q ∈ v.pipes, (0 <= q.a /\ q.a < v.vessels.length) /\ 0 <= q.b /\ q.b < v.vessels.length) (hll : ∀ q ∈ v.leaks, 0 <= q.at' /\ q.at' < v.vessels.length) :
  acall cfg (K + 4) 149 [.ptr X 0, bkV s] ⟨H, n, p, false, j⟩ = .ret (.tuple [], ⟨sysPut E X f b r v (flowT v g s) H, n, p, false, j⟩) := by
 refine Z0p Zhj Zhi h ha h1 h2 (by show (leakR _ _).length = _; rw [Z40, X9]) rfl rfl fun H0 m hs hm => ?_
 refine Za rfl fun T hT' hA => ?_
 have a0 := hA 0 _ rfl
 have a1 := hA 1 _ rfl
 have hT : T.length = 148 := hT'
 clear hA hT'
 have g0 := hs.x
 unfold sysB at g0
 have q0 : ∀ X Y, hget (([m + 4], X) :: ([m + 3], Y) :: H0) [0] = hget H0 [0] := fun X Y => (hc11 (by omega)).trans (hc11 (by omega))
 have q3 : ∀ X Y, hget (([m + 4], X) :: ([m + 3], Y) :: H0) [m + 3] = some Y := fun X Y => (hc11 (by omega)).trans (Z1 ..)
 have q4 : ∀ X Y, hget (([m + 4], X) :: ([m + 3], Y) :: H0) [m + 4] = some X := fun X Y => Z1 ..
 have u1 : (m + 4 = m) = False := eq_false (by omega)
 have u2 : (m + 3 = m) = False := eq_false (by omega)
 have hlv := fun s' => Z2i v s.shut K s' hv hsh hsh2
 simp only [vacV] at hlv
 simp -implicitDefEqProofs only [go_sem, a0, a1]
 try simp only [Z2]
 refine Zf [[], [0], [1, 0], [2, 1, 0], [], [4], [3, 2, 1, 0, 5, 4], [6, 3, 2, 1, 0, 5, 4]] [[], [], [], [], [], [], [], []] (by kernel_rfl) rfl rfl ?_
 simp -implicitDefEqProofs only [go_sem, Z0, lkn, lk31, Option.getD_some, Option.getD_none, hT, g0, q0, q3, q4, hlv, u1, u2, Ze]
 have hF1 : ∀ B1 : Blk, Fl E m v g s (([m + 7], .cells [.map [m + 6]] true 0) :: ([m + 6], B1) :: redoH (([m + 4], .cells [.int .i64 s.ticks, .int .i64 s.heat, .lst (s.shut.map iV), .bool s.flash] true 0) :: ([m + 3], .cells [.ptr [0] 0] true 0) :: H0) [([m + 5, 6, 0], some (.map (encE (leaveL v s.shut)) false))]) := fun B1 =>
  ⟨by simp (disch := omega) only [Z1, hc11, Z0, lkn, lk31, Option.getD_none], by simp (disch := omega) only [Z1, hc11, Z0, lkn, lk31, Option.getD_none], Z1 .., by simp (disch := omega) only [hc13, Z0, Zd, Option.getD_some], ⟨by simp (disch := omega) only [hc11, Z0, lkn, lk31, Option.getD_none]; exact hs.x, by simp (disch := omega) only [hc11, Z0, lkn, lk31, Option.getD_none]; exact hs.f, by simp (disch := omega) only [hc11, Z0, lkn, lk31, Option.getD_none]; exact hs.b, fun e => by have := hm e; simp (disch := omega) only [hc11, Z0, lkn, lk31, Option.getD_none]; exact hs.r e⟩⟩
 simp only [Z2]
 refine Tr.Does.mono (Q := fun x => ∃ (T' : List AV) (m' : Nat) (H' : Heap) (es : List (Int × Rg)), x = ((AExit.exit 0, T'), (⟨H', m' + 8, [], false, []⟩ : St)) /\ m <= m' /\ T'.length = 148 /\ nth T' 2 = some (.ptr [m + 3] 0) /\ nth T' 3 = some (.ptr [m + 4] 0) /\ nth T' 5 = some (.ptr [m + 7] 0) /\ Fl E m v g s H' /\ hget H' [m + 6] = some (.map (encE es) false) /\ ∀ q : Nat, q < g.free.length -> getS es q = begR v s.shut g.free q) ?_ ?_
 ·refine Zm (fun k T s' => T.length = 148 /\ nth T 2 = some (.ptr [m + 3] 0) /\ nth T 3 = some (.ptr [m + 4] 0) /\ nth T 4 = some (.map [m + 5, 6, 0]) /\ nth T 5 = some (.ptr [m + 7] 0) /\ nth T 26 = some (.slice [1] 0 g.free.length g.free.length false) /\ nth T 27 = some (.int .i64 g.free.length) /\ ∃ (i m' : Nat) (H' : Heap) (es : List (Int × Rg)), nth T 28 = some (.int .i64 i) /\ i <= g.free.length /\ k = g.free.length - i /\ s' = ⟨H', m' + 8, [], false, []⟩ /\ m <= m' /\ Fl E m v g s H' /\ hget H' [m + 6] = some (.map (encE es) false) /\ ∀ q : Nat, q < i -> getS es q = begR v s.shut g.free q) (k := g.free.length) (by omega) ?_ ?_
  ·exact ⟨by simp -implicitDefEqProofs only [go_sem, hT], by simp -implicitDefEqProofs only [go_sem, hT], by simp -implicitDefEqProofs only [go_sem, hT], by simp -implicitDefEqProofs only [go_sem, hT], by simp -implicitDefEqProofs only [go_sem, hT], by simp -implicitDefEqProofs only [go_sem, hT], by simp -implicitDefEqProofs only [go_sem, hT], 0, m, _, [], by simp -implicitDefEqProofs only [go_sem, hT] <;> rfl, by omega, rfl, rfl, Nat.le_refl _, hF1 _, by simp (disch := omega) only [Z1, hc11]; rfl, fun q hq => absurd hq (by omega)⟩
  clear a0 a1 hT T g0 q0 q3 q4 hs H0 hF1
  rintro k T s' ⟨hT, a2, a3, a4, a5, a26, a27, i, m', H0, es, a28, hi, rfl, rfl, hmm, hF, hM, hq⟩
  simp -implicitDefEqProofs only [go_sem, a27, a28, hT]
  by_cases hil : (i : Int) < (g.free.length : Int)
  ·have hi' : i < g.free.length := by omega
   have hkk : g.free.length - (i + 1) < g.free.length - i := by omega
   have f0 := Xg g.free hi'
   have f1 := Xh g.free hi'
   have hin : inR (i : Int) g.free.length = some i := Z04 hi'
   have hbg : begR v s.shut g.free i = mulR g.free[i] ⟨wrapF .i64 (1000000 - (outR v i s.shut).hi), wrapF .i64 (1000000 - (outR v i s.shut).lo)⟩ := by unfold begR; rw [Z3z _ hi']
   generalize g.free[i] = fi at *
   have x1 := hF.s.f
   unfold rgB at x1
   have hc := hF.c
   have hlL := hF.l
   have z1 : (m' + 1 = m) = False := eq_false (by omega)
   have z2 : (m' + 2 = m) = False := eq_false (by omega)
   have z4 : (m' + 4 = m) = False := eq_false (by omega)
   have z5 : (m' + 5 = m) = False := eq_false (by omega)
   have hlk := fun (st : St) (hg : hget st.H [m + 5, 6, 0] = some (.map (encE (leaveL v s.shut)) false)) => Z9l (C := cfg.at 149) rfl (k := (i : Int)) hg
   rw [Z3u] at hlk
   have hup := fun (st : St) (hg : hget st.H [m + 6] = some (.map (encE es) false)) => Zid (C := cfg.at 149) rfl (k := (i : Int)) (x := begR v s.shut g.free i) hg
   have hes : ∀ q : Nat, q < i + 1 -> getS (setS es i (begR v s.shut g.free i)) q = begR v s.shut g.free q := fun q hq2 => by
    rw [Ji]
    by_cases e : (q : Int) = i
    ·rw [if_pos e, e]
    ·rw [if_neg e]; exact hq q (by omega)
   rw [hbg] at hup
   have hw1 : wrapF .i64 ((i : Int) + 1) = ((i + 1 : Nat) : Int) := Z6 (by omega) (by omega)
   simp only [rgV, mulR] at hlk hup
   simp -implicitDefEqProofs only [go_sem, a2, a3, a4, a5, a26, a27, a28, hT, hil, hin, x1, f0, f1, hc, hM, hlL, z1, z2, hlk, hup, hw1]
   exact ⟨g.free.length - (i + 1), hkk, trivial, trivial, trivial, trivial, trivial, trivial, trivial, i + 1, m' + 1, _, setS es i (begR v s.shut g.free i), rfl, hi', rfl, rfl, by omega, hF.of (fun k hk hne => (hc11 (by omega)).trans (hs11 (by omega))) (hc13.trans hs13) hm (by omega), (hc11 (by omega)).trans (by rw [hbg]; exact hss hM), hes⟩
  ·have hie : i = g.free.length := by omega
   subst hie
   simp -implicitDefEqProofs only [go_sem, hil]
   exact ⟨_, m', H0, es, rfl, hmm, by simp -implicitDefEqProofs only [go_sem, hT], by simp -implicitDefEqProofs only [go_sem, a2], by simp -implicitDefEqProofs only [go_sem, a3], by simp -implicitDefEqProofs only [go_sem, a5], hF, hM, hq⟩
 clear a0 a1 hT T g0 q0 q3 q4 hs H0 hF1
 rintro _ ⟨T, m', H0, es, rfl, hmm, hT, a2, a3, a5, hF, hM, hq⟩
 have x0 := hF.s.x
 have hp := hF.p
 have hpc := hF.c
 unfold sysB at x0
 simp -implicitDefEqProofs only [go_sem, a2, a5, hT, hp, x0]
 simp only [Z2]
 refine Tr.Does.mono (Q := fun x => ∃ (T' : List AV) (m' : Nat) (H' : Heap) (es : List (Int × Rg)), x = ((AExit.exit 2, T'), (⟨H', m' + 8, [], false, []⟩ : St)) /\ m <= m' /\ T'.length = 148 /\ nth T' 2 = some (.ptr [m + 3] 0) /\ nth T' 5 = some (.ptr [m + 7] 0) /\ Fl E m v g s H' /\ hget H' [m + 6] = some (.map (encE es) false) /\ ∀ q : Nat, q < g.free.length -> getS es q = flowS g.free s.shut q 0 (begR v s.shut g.free q) v.pipes) ?_ ?_
 ·refine Zm (fun k T s' => T.length = 148 /\ nth T 2 = some (.ptr [m + 3] 0) /\ nth T 3 = some (.ptr [m + 4] 0) /\ nth T 5 = some (.ptr [m + 7] 0) /\ nth T 8 = some (.func 180 [.ptr [m + 3] 0, .ptr [m + 7] 0]) /\ nth T 58 = some (.lst (v.pipes.map pipV)) /\ nth T 59 = some (.int .i64 v.pipes.length) /\ ∃ (i m' : Nat) (H' : Heap) (es : List (Int × Rg)), nth T 60 = some (.int .i64 i) /\ i <= v.pipes.length /\ k = v.pipes.length - i /\ s' = ⟨H', m' + 8, [], false, []⟩ /\ m <= m' /\ Fl E m v g s H' /\ hget H' [m + 6] = some (.map (encE es) false) /\ ∀ q : Nat, q < g.free.length -> flowS g.free s.shut q 0 (begR v s.shut g.free q) v.pipes = flowS g.free s.shut q i (getS es q) (v.pipes.drop i)) (k := v.pipes.length) (by have := hv.pip.1; omega) ?_ ?_
  ·exact ⟨by simp -implicitDefEqProofs only [go_sem, hT], by simp -implicitDefEqProofs only [go_sem, a2], by simp -implicitDefEqProofs only [go_sem, a3], by simp -implicitDefEqProofs only [go_sem, a5], by simp -implicitDefEqProofs only [go_sem, hT], by simp -implicitDefEqProofs only [go_sem, hT], by simp -implicitDefEqProofs only [go_sem, hT], 0, m', _, es, by simp -implicitDefEqProofs only [go_sem, hT] <;> rfl, by omega, rfl, rfl, hmm, hF, hM, fun q hq2 => by rw [hq q hq2]; rfl⟩
  clear a2 a3 a5 hT T x0 hp hpc hF hM hq H0 hmm
  rintro k T s' ⟨hT, a2, a3, a5, a8, a58, a59, i, m', H0, es, a60, hi, rfl, rfl, hmm, hF, hM, hq⟩
  simp -implicitDefEqProofs only [go_sem, a59, a60, hT]
  by_cases hil : (i : Int) < (v.pipes.length : Int)
  ·have hi' : i < v.pipes.length := by omega
   have e1 := Zj (f := pipV) (l := v.pipes) (i := i) (z := 6) hi' rfl
   have hkk : v.pipes.length - (i + 1) < v.pipes.length - i := by omega
   have hpx := hpp _ (List.getElem_mem hi')
   rw [List.drop_eq_getElem_cons hi'] at hq
   generalize v.pipes[i] = x at *
   simp only [flowS] at hq
   have hkc := hF.k
   have z4 : (m' + 4 = m) = False := eq_false (by omega)
   have z1 : (m' + 1 = m) = False := eq_false (by omega)
   have hco := fun st => Z1n s.shut i (K + 1) st (by omega) hsh2
   simp only [pipV] at e1
   have hw1 : wrapF .i64 ((i : Int) + 1) = ((i + 1 : Nat) : Int) := Z6 (by have := hv.pip.2; omega) (by have := hv.pip.2; omega)
   simp -implicitDefEqProofs only [go_sem, a3, a58, a60, hT, hil, e1, hkc, z4, hco]
   by_cases hin : (i : Int) ∈ s.shut
   ·simp only [if_pos hin] at hq
    simp -implicitDefEqProofs only [go_sem, a2, a3, a5, a8, a58, a59, a60, hT, hin, hw1]
    exact ⟨v.pipes.length - (i + 1), hkk, trivial, trivial, trivial, trivial, trivial, trivial, trivial, i + 1, m' + 1, _, es, rfl, hi', rfl, rfl, by omega, hF.of (fun k hk hne => hc11 (by omega)) hc13 hm (by omega), (hc11 (by omega)).trans hM, hq⟩
   ·simp only [if_neg hin] at hq
    obtain ⟨pa, hpa⟩ : ∃ q : Nat, x.a = q := ⟨x.a.toNat, by omega⟩
    obtain ⟨pb, hpb⟩ : ∃ q : Nat, x.b = q := ⟨x.b.toNat, by omega⟩
    have ha' : pa < g.free.length := by omega
    have hb' : pb < g.free.length := by omega
    have hF1 := hF.of (H' := ([m' + 8], .cells [.int .i64 x.a, .int .i64 x.b, .int .i64 x.out.lo, .int .i64 x.out.hi, .int .i64 x.back.lo, .int .i64 x.back.hi] true 0) :: H0) (fun k hk hne => hc11 (by omega)) hc13 hm (by omega)
    have hM1 : hget (([m' + 8], .cells [.int .i64 x.a, .int .i64 x.b, .int .i64 x.out.lo, .int .i64 x.out.hi, .int .i64 x.back.lo, .int .i64 x.back.hi] true 0) :: H0) [m + 6] = some (.map (encE es) false) := (hc11 (by omega)).trans hM
    have hx1 := hF1.s.x
    unfold sysB at hx1
    obtain ⟨H2, n2, hca, hn2, hM2, hfr, hfr3⟩ := Z7h x.b x.a pa x.out (m + 3) (m + 7) (m + 6) es _ g.free (K + 1) _ (m' + 9) hpa ha' hF1.p hF1.c hM1 hx1 rfl hF1.s.f (by omega) (by omega) (by omega) (by omega) (by omega) (by omega) (by omega) (by omega)
    have hF2 := hF1.of (H' := H2) (fun k hk hne => hfr k (by omega) hne) (hfr3 _ _ _) hm (by omega)
    have hP2 : hget H2 [m' + 8] = some (.cells [.int .i64 x.a, .int .i64 x.b, .int .i64 x.out.lo, .int .i64 x.out.hi, .int .i64 x.back.lo, .int .i64 x.back.hi] true 0) := (hfr _ (by omega) (by omega)).trans (Z1 ..)
    have hx2 := hF2.s.x
    unfold sysB at hx2
    obtain ⟨H3, n3, hcb, hn3, hM3, hfr', hfr3'⟩ := Z7h x.a x.b pb x.back (m + 3) (m + 7) (m + 6) _ _ g.free (K + 1) H2 n2 hpb hb' hF2.p hF2.c hM2 hx2 rfl hF2.s.f (by omega) (by omega) (by omega) (by omega) (by omega) (by omega) (by omega) (by omega)
    have hF3 := hF2.of (H' := H3) (fun k hk hne => hfr' k (by omega) hne) (hfr3' _ _ _) hm (by omega)
    obtain ⟨m3, rfl⟩ : ∃ q, n3 = q + 8 := ⟨n3 - 8, by omega⟩
    have hq2 : ∀ q : Nat, q < g.free.length -> flowS g.free s.shut q 0 (begR v s.shut g.free q) v.pipes = flowS g.free s.shut q (i + 1) (getS (setS (setS es x.b (plusR (getS es x.b) (mulR g.free[pa] x.out))) x.a (plusR (getS (setS es x.b (plusR (getS es x.b) (mulR g.free[pa] x.out))) x.a) (mulR g.free[pb] x.back))) q) (v.pipes.drop (i + 1)) := fun q hq2 => by
     rw [hq q hq2, Ji, hpa, hpb, Z3z _ ha', Z3z _ hb']
     by_cases e1 : (q : Int) = (pa : Int)
     ·rw [if_pos e1, if_pos e1, Ji, e1]
      by_cases e2 : (pa : Int) = (pb : Int)
      ·rw [if_pos e2, if_pos e2, e2]
      ·rw [if_neg e2, if_neg e2]
     ·rw [if_neg e1, if_neg e1, Ji]
      by_cases e2 : (q : Int) = (pb : Int)
      ·rw [if_pos e2, if_pos e2, e2]
      ·rw [if_neg e2, if_neg e2]
    simp only [rgV] at hca hcb
    clear hfr hfr' hfr3 hfr3' hx1 hx2 hF1 hF2 hM1 hM2 hq
    simp -implicitDefEqProofs only [go_sem, a2, a3, a5, a8, a58, a59, a60, hT, hin, hca, hP2, hcb, hw1]
    exact ⟨v.pipes.length - (i + 1), hkk, trivial, trivial, trivial, trivial, trivial, trivial, trivial, i + 1, m3, H3, _, rfl, hi', rfl, rfl, by omega, hF3, hM3, hq2⟩
  ·have hie : i = v.pipes.length := by omega
   subst hie
   rw [List.drop_length] at hq
   simp -implicitDefEqProofs only [go_sem, hil]
   exact ⟨_, m', H0, es, rfl, hmm, by simp -implicitDefEqProofs only [go_sem, hT], by simp -implicitDefEqProofs only [go_sem, a2], by simp -implicitDefEqProofs only [go_sem, a5], hF, hM, fun q hq2 => by rw [hq q hq2]; rfl⟩
 rintro _ ⟨T, m', H0, es, rfl, hmm, hT, a2, a5, hF, hM, hq⟩
 have x0 := hF.s.x
 have hp := hF.p
 unfold sysB at x0
 simp -implicitDefEqProofs only [go_sem, a2, hT, hp, x0]
 simp only [Z2]
 refine Tr.Does.mono (Q := fun x => ∃ (T' : List AV) (m' : Nat) (H' : Heap), x = ((AExit.exit 4, T'), (⟨H', m' + 8, [], false, []⟩ : St)) /\ m <= m' /\ T'.length = 148 /\ nth T' 2 = some (.ptr [m + 3] 0) /\ hget H' [m + 3] = some (.cells [.ptr [0] 0] true 0) /\ SysAt E H' [0] [1] [2] [3] v ⟨flowG v s.shut g.free, g.bound, g.room, g.most, g.flashed⟩) ?_ ?_
 ·have hGl := X9 v s.shut g.free
  refine Zm (fun k T s' => T.length = 148 /\ nth T 2 = some (.ptr [m + 3] 0) /\ nth T 5 = some (.ptr [m + 7] 0) /\ nth T 91 = some (.slice [1] 0 g.free.length g.free.length false) /\ nth T 92 = some (.int .i64 g.free.length) /\ ∃ (i m' : Nat) (H' : Heap), nth T 93 = some (.int .i64 i) /\ i <= g.free.length /\ k = g.free.length - i /\ s' = ⟨H', m' + 8, [], false, []⟩ /\ m <= m' /\ hget H' [m + 3] = some (.cells [.ptr [0] 0] true 0) /\ hget H' [m + 7] = some (.cells [.map [m + 6]] true 0) /\ hget H' [m + 6] = some (.map (encE es) false) /\ SysAt E H' [0] [1] [2] [3] v ⟨(flowG v s.shut g.free).take i ++ g.free.drop i, g.bound, g.room, g.most, g.flashed⟩) (k := g.free.length) (by omega) ?_ ?_
  ·exact ⟨by simp -implicitDefEqProofs only [go_sem, hT], by simp -implicitDefEqProofs only [go_sem, a2], by simp -implicitDefEqProofs only [go_sem, a5], by simp -implicitDefEqProofs only [go_sem, hT], by simp -implicitDefEqProofs only [go_sem, hT], 0, m', _, by simp -implicitDefEqProofs only [go_sem, hT] <;> rfl, by omega, rfl, rfl, hmm, hF.p, hF.c, hM, hF.s⟩
  clear a2 a5 hT T x0 hp hF hM hmm H0
  rintro k T s' ⟨hT, a2, a5, a91, a92, i, m', H0, a93, hi, rfl, rfl, hmm, hp, hc, hM, hs⟩
  simp -implicitDefEqProofs only [go_sem, a92, a93, hT]
  by_cases hil : (i : Int) < (g.free.length : Int)
  ·have hi' : i < g.free.length := by omega
   have hkk : g.free.length - (i + 1) < g.free.length - i := by omega
   obtain ⟨F, hF, lF, f0, f1, fw⟩ := Z8q (G := flowG v s.shut g.free) (F := g.free) hGl hi' (quoR (getS es i)) (fun h0 => by rw [hq i hi']; simp [flowG])
   rw [<- hF] at hs
   clear hF
   generalize hF' : (flowG v s.shut g.free).take (i + 1) ++ g.free.drop (i + 1) = F' at fw
   have lF' : F'.length = F.length := by rw [<- hF', Z68 hGl, lF]
   have x0 := hs.x
   have x1 := hs.f
   have x2 := hs.b
   have x3 := hs.r
   have y0 : hget H0 [0] = some (sysB E v [1] [2] [3] ⟨F', g.bound, g.room, g.most, g.flashed⟩) := x0.trans (congrArg some (Z2a lF'.symm rfl rfl rfl rfl))
   unfold sysB at x0
   unfold rgB at x1
   simp only at x0 x1 x2 x3
   have hin : inR (i : Int) F.length = some i := Z04 (by omega)
   have hlk := fun (st : St) (hg : hget st.H [m + 6] = some (.map (encE es) false)) => Z9l (C := cfg.at 149) rfl (k := (i : Int)) hg
   have hw1 : wrapF .i64 ((i : Int) + 1) = ((i + 1 : Nat) : Int) := Z6 (by omega) (by omega)
   generalize getS es i = q at *
   simp only [rgV] at hlk
   simp only [quoR] at fw
   simp -implicitDefEqProofs only [go_sem, a93, hT, hil]
   try simp only [Z2]
   refine Zf [[], [0], [1, 0], [2, 1, 0], [3, 2, 1, 0], [], [], [], [6, 7], [8, 6, 7], [9, 8, 6, 7], [], [], [11, 12], [13, 11, 12], [14, 13, 11, 12], [15, 14, 13, 11, 12], [16, 15, 14, 13, 11, 12], [10, 9, 8, 6, 7, 17, 16, 15, 14, 13, 11, 12], [4, 3, 2, 1, 0, 5, 18, 10, 9, 8, 6, 7, 17, 16, 15, 14, 13, 11, 12], [19, 4, 3, 2, 1, 0, 5, 18, 10, 9, 8, 6, 7, 17, 16, 15, 14, 13, 11, 12]] [[], [], [], [], [], [], [], [], [], [], [], [], [], [], [], [], [], [], [], [], [[1]]] (by kernel_rfl) rfl rfl ?_
   simp -implicitDefEqProofs only [go_sem, Option.getD_some, a2, a5, a91, a92, a93, hT, hp, hc, hM, x0, x1, hin, f0, f1, hlk, Jk, fw, hw1, Ze]
   refine ⟨g.free.length - (i + 1), hkk, trivial, trivial, trivial, trivial, trivial, i + 1, m' + 1, _, rfl, hi', rfl, rfl, by omega, ?_, ?_, ?_, ?_⟩
   all_goals clear hw1
   ·simp (disch := omega) only [Z0, lkn, lk11, Option.getD_none, hp]
   ·simp (disch := omega) only [Z0, lkn, lk11, Option.getD_none, hc]
   ·simp (disch := omega) only [Z0, lkn, lk11, Option.getD_none, hM]
   ·rw [hF']
    refine ⟨?_, ?_, ?_, fun e => ?_⟩
    ·simp (disch := omega) only [Z0, lkn, lk11, Option.getD_none]; exact y0
    ·simp (disch := omega) only [Z0, Zd, Option.getD_some]; rfl
    ·simp (disch := omega) only [Z0, lkn, lk11, Option.getD_none]; exact x2
    ·have := hm e
     simp (disch := omega) only [Z0, lkn, lk11, Option.getD_none]; exact x3 e
  ·have hie : i = g.free.length := by omega
   subst hie
   have e1 : (flowG v s.shut g.free).take g.free.length ++ g.free.drop g.free.length = flowG v s.shut g.free := by
    rw [List.drop_of_length_le (Nat.le_refl _), List.append_nil, List.take_of_length_le (by omega)]
   rw [e1] at hs
   simp -implicitDefEqProofs only [go_sem, hil]
   exact ⟨_, m', H0, rfl, hmm, by simp -implicitDefEqProofs only [go_sem, hT], by simp -implicitDefEqProofs only [go_sem, a2], hp, hs⟩
 clear a2 a5 hT T x0 hp hF hM hmm H0 hq es m'
 rintro _ ⟨T, m', H0, rfl, hmm, hT, a2, hp, hs⟩
 have x0 := hs.x
 unfold sysB at x0
 have hGl := X9 v s.shut g.free
 unfold flowT
 generalize flowG v s.shut g.free = G at *
 simp -implicitDefEqProofs only [go_sem, a2, hT, hp, x0]
 simp only [Z2]
 refine Zm (fun k T s' => T.length = 148 /\ nth T 2 = some (.ptr [m + 3] 0) /\ nth T 121 = some (.lst (v.leaks.map inlV)) /\ nth T 122 = some (.int .i64 v.leaks.length) /\ ∃ (i m' : Nat) (H' : Heap) (F : List Rg), nth T 123 = some (.int .i64 i) /\ i <= v.leaks.length /\ k = v.leaks.length - i /\ s' = ⟨H', m' + 8, [], false, []⟩ /\ m <= m' /\ hget H' [m + 3] = some (.cells [.ptr [0] 0] true 0) /\ SysAt E H' [0] [1] [2] [3] v ⟨F, g.bound, g.room, g.most, g.flashed⟩ /\ F.length = G.length /\ leakR G v.leaks = leakR F (v.leaks.drop i)) (k := v.leaks.length) (by have := hv.inl.1; omega) ?_ ?_
 ·exact ⟨by simp -implicitDefEqProofs only [go_sem, hT], by simp -implicitDefEqProofs only [go_sem, a2], by simp -implicitDefEqProofs only [go_sem, hT], by simp -implicitDefEqProofs only [go_sem, hT], 0, m', H0, G, by simp -implicitDefEqProofs only [go_sem, hT] <;> rfl, by omega, rfl, rfl, hmm, hp, hs, rfl, rfl⟩
 clear a2 hT T x0 hp hs hmm H0
 rintro k T s' ⟨hT, a2, a121, a122, i, m', H0, F, a123, hi, rfl, rfl, hmm, hp, hs, lF, he⟩
 simp -implicitDefEqProofs only [go_sem, a122, a123, hT]
 by_cases hil : (i : Int) < (v.leaks.length : Int)
 ·have hi' : i < v.leaks.length := by omega
  have e1 := Zj (f := inlV) (l := v.leaks) (i := i) (z := 3) hi' rfl
  have hkk : v.leaks.length - (i + 1) < v.leaks.length - i := by omega
  have hlx := hll _ (List.getElem_mem hi')
  rw [List.drop_eq_getElem_cons hi'] at he
  generalize v.leaks[i] = x at *
  obtain ⟨a, hxa⟩ : ∃ q : Nat, x.at' = q := ⟨x.at'.toNat, by omega⟩
  have haF : a < F.length := by omega
  simp only [leakR] at he
  rw [hxa, Int.toNat_natCast, Z3z _ haF] at he
  have f0 := Xg F haF
  have f1 := Xh F haF
  have fw := Z29 F haF (plusR F[a] x.gas)
  have hin : inR (a : Int) F.length = some a := Z04 haF
  have hpl := fun st => Z1k F[a] x.gas (K + 2) st
  generalize F[a] = fi at *
  generalize hF' : F.set a (plusR fi x.gas) = F' at *
  have lF' : F'.length = F.length := by rw [<- hF']; simp
  generalize plusR fi x.gas = pp at *
  have x0 := hs.x
  have x1 := hs.f
  have x2 := hs.b
  have x3 := hs.r
  have y0 : hget H0 [0] = some (sysB E v [1] [2] [3] ⟨F', g.bound, g.room, g.most, g.flashed⟩) := x0.trans (congrArg some (Z2a lF'.symm rfl rfl rfl rfl))
  unfold sysB at x0
  unfold rgB at x1
  simp only at x0 x1 x2 x3
  simp only [inlV] at e1
  rw [hxa] at e1
  simp only [rgV] at hpl
  have hw1 : wrapF .i64 ((i : Int) + 1) = ((i + 1 : Nat) : Int) := Z6 (by have := hv.inl.2; omega) (by have := hv.inl.2; omega)
  have k3 : ∀ X, hget (([m' + 8], X) :: H0) [m + 3] = hget H0 [m + 3] := fun X => hc11 (by omega)
  have z5 : (m' + 5 = m) = False := eq_false (by omega)
  simp -implicitDefEqProofs only [go_sem, a121, a123, hT, hil, e1]
  try simp only [Z2]
  refine Zf [[], [0], [1, 0], [2, 1, 0], [3, 2, 1, 0], [], [5], [], [7], [8, 7], [9, 8, 7], [10, 9, 8, 7], [], [12], [11, 10, 9, 8, 7, 13, 12], [14, 11, 10, 9, 8, 7, 13, 12], [], [16], [15, 14, 11, 10, 9, 8, 7, 13, 12, 17, 16], [4, 3, 2, 1, 0, 6, 5, 18, 15, 14, 11, 10, 9, 8, 7, 13, 12, 17, 16], [19, 4, 3, 2, 1, 0, 6, 5, 18, 15, 14, 11, 10, 9, 8, 7, 13, 12, 17, 16]] [[], [], [], [], [], [], [], [], [], [], [], [], [], [], [], [], [], [], [], [], [[1]]] (by kernel_rfl) rfl rfl ?_
  simp -implicitDefEqProofs only [go_sem, Option.getD_some, a2, a121, a122, a123, hT, hp, k3, x0, x1, hin, f0, f1, hpl, Jk, fw, hw1, Ze]
  refine ⟨v.leaks.length - (i + 1), hkk, trivial, trivial, trivial, trivial, i + 1, m' + 2, _, F', rfl, hi', rfl, rfl, by omega, ?_, ?_, by omega, he⟩
  all_goals clear hw1
  ·simp (disch := omega) only [hc11, Z0, lkn, lk11, Option.getD_none, hp]
  ·refine ⟨?_, ?_, ?_, fun e => ?_⟩
   ·simp (disch := omega) only [hc11, Z0, lkn, lk11, Option.getD_none]; exact y0
   ·simp (disch := omega) only [hc11, Z0, Zd, Option.getD_some]; rfl
   ·simp (disch := omega) only [hc11, Z0, lkn, lk11, Option.getD_none]; exact x2
   ·have := hm e
    simp (disch := omega) only [hc11, Z0, lkn, lk11, Option.getD_none]; exact x3 e
 ·have hie : i = v.leaks.length := by omega
  subst hie
  rw [List.drop_length] at he
  simp only [leakR] at he
  rw [he]
  simp -implicitDefEqProofs only [go_sem, hil, Try.results149]
  exact ⟨trivial, hs⟩
end Go.Proofs.Ytgnpnfkncbnjnaa
namespace Go.Proofs.Ytgnpnfkncbnjnaa
attribute [local go_sem_proc] Int.reduceEq Int.reduceNeg Nat.reduceEqDiff Nat.reduceLT Nat.reduceAdd Nat.reduceSub Nat.reduceMul Int.reduceLE Int.reduceLT Int.reduceToNat Nat.reduceLeDiff
attribute [local go_sem] Int.toNat_natCast Bool.not_true Bool.not_false
open Go Go.Am
attribute [local congr] Z8 Z5 Z7
attribute [local go_sem] Go.Am.frozen Go.Am.freezeG Go.Am.freezeGs
variable {E : AV}
theorem J7 {H : Heap} {X f b r q : Nm} {v : Vac} {g : Gs} (h1 : X ≠ q) (h2 : f ≠ q) (h3 : b ≠ q) (h4 : g.room ≠ [] -> r ≠ q) : hget (sysPut E X f b r v g H) q = hget H q := by
 unfold sysPut
 cases hg : g.room with
 | nil =>
  show hget (hset (hset (hset H X _) f _) b _) q = _
  rw [Z4 _ _ h3, Z4 _ _ h2, Z4 _ _ h1]
 | cons a l =>
  show hget (hset (hset (hset (hset H X _) f _) b _) r _) q = _
  rw [Z4 _ _ (h4 (by rw [hg]; simp)), Z4 _ _ h3, Z4 _ _ h2, Z4 _ _ h1]
theorem Zf8 {v : Vac} (h : checkE v = 0) : firstE vesE v.vessels = 0 /\ partsE v = 0 := by
 unfold checkE at h
 split at h
 ·exact absurd h (by decide)
 ·split at h
  ·exact absurd h (by decide)
  ·split at h
   ·rename_i h2
    split at h
    ·rename_i h3; exact ⟨h2, h3⟩
    ·rename_i h3; exact absurd h h3
   ·rename_i h2; exact absurd h h2
structure Valid (v : Vac) : Prop where
 n1 : 1 <= v.vessels.length
 n8 : v.vessels.length <= 8
 p16 : v.pipes.length <= 16
 m8 : v.pumps.length <= 8
 l8 : v.leaks.length <= 8
 g8 : v.getters.length <= 8
 bd : ∀ x ∈ v.vessels, x.bands.length <= 8
 pip : ∀ q ∈ v.pipes, (0 <= q.a /\ q.a < v.vessels.length) /\ 0 <= q.b /\ q.b < v.vessels.length
 inl : ∀ q ∈ v.leaks, 0 <= q.at' /\ q.at' < v.vessels.length
 gtr : ∀ q ∈ v.getters, 0 <= q.at' /\ q.at' < v.vessels.length
theorem Zf9 {v : Vac} (h : checkE v = 0) : Valid v := by
 obtain ⟨n1, n2, n3, n4, n5, n6⟩ := Z9s h
 obtain ⟨h1, h2⟩ := Zf8 h
 have hb : ∀ x ∈ v.vessels, x.bands.length <= 8 := fun x hx => by
  have h3 := Yu h1 x hx
  unfold vesE at h3
  split at h3
  ·split at h3
   ·split at h3
    ·split at h3
     ·exact absurd h3 (by decide)
     ·omega
    ·rename_i h4; exact absurd h3 h4
   ·rename_i h4; exact absurd h3 h4
  ·exact absurd h3 (by decide)
 unfold partsE at h2
 split at h2
 ·rename_i p1
  split at h2
  ·rename_i p2
   split at h2
   ·rename_i p3
    refine ⟨n1, n2, n3, n4, n5, n6, hb, fun q hq => ?_, fun q hq => ?_, fun q hq => ?_⟩
    ·have := Z60 (Yu p1 q hq); exact ⟨this.1, this.2.1⟩
    ·exact Z8l (Yu p3 q hq)
    ·have h4 := Yu h2 q hq
     unfold getE at h4
     split at h4
     ·rename_i h5; exact Z8l h5
     ·rename_i h5; exact absurd h4 h5
   ·rename_i p3; exact absurd h2 p3
  ·rename_i p2; exact absurd h2 p2
 ·rename_i p1; exact absurd h2 p1
theorem Valid.lens {v : Vac} (h : Valid v) (K : Nat) (hK : 20 < K) : v.Lens K :=
 ⟨⟨by have := h.n8; omega, by have := h.n8; omega⟩, ⟨by have := h.p16; omega, by have := h.p16; omega⟩, ⟨by have := h.m8; omega, by have := h.m8; omega⟩, ⟨by have := h.l8; omega, by have := h.l8; omega⟩, ⟨by have := h.g8; omega, by have := h.g8; omega⟩, fun x hx => by have := h.bd x hx; omega⟩
structure Fits (v : Vac) (g : Gs) : Prop where
 f : g.free.length = v.vessels.length
 b : g.bound.length = v.vessels.length
 r : g.room.length = v.getters.length
theorem Z58 {v : Vac} {g : Gs} (h : Fits v g) (s : Bk) : Fits v (beginT v g s) := ⟨h.f, h.b, h.r⟩
theorem Z9v {v : Vac} {g : Gs} (h : Fits v g) (s : Bk) : Fits v (relT v g s) := ⟨Z2u h.f h.b, Z9u h.b, h.r⟩
theorem Z7i {v : Vac} {g : Gs} (h : Fits v g) (s : Bk) : Fits v (flowT v g s) := ⟨by show (leakR _ _).length = _; rw [Z40, X9]; exact h.f, h.b, h.r⟩
theorem Z9w {v : Vac} {g : Gs} (h : Fits v g) (s : Bk) : Fits v (getT v g s) := by
 have e := Z69 v.getters 0 g.free g.room
 unfold getT
 split
 ·exact ⟨e.1.trans h.f, h.b, e.2.trans h.r⟩
 ·exact h
theorem Z9x {v : Vac} {g : Gs} (h : Fits v g) (s : Bk) : Fits v (cutT v g s) := ⟨by show (List.map _ _).length = _; rw [List.length_map]; exact h.f, by show (List.map _ _).length = _; rw [List.length_map]; exact h.b, h.r⟩
def tickT (v : Vac) (g : Gs) (s : Bk) : Gs := cutT v (getT v (flowT v (relT v (beginT v g s) s) s) s) s
theorem Z41 {v : Vac} {g : Gs} (h : Fits v g) (s : Bk) : Fits v (tickT v g s) := Z9x (Z9w (Z7i (Z9v (Z58 h s) s) s) s) s
theorem Fits.ne {v : Vac} {g : Gs} (h : Fits v g) (hv : Valid v) : g.free ≠ [] /\ g.bound ≠ [] :=
 ⟨fun e => by have := h.f; rw [e] at this; have := hv.n1; simp at *; omega, fun e => by have := h.b; rw [e] at this; have := hv.n1; simp at *; omega⟩
def stepT (v : Vac) (g : Gs) (s : Bk) : Nat -> Gs
 | 0 => g
 | 1 => beginT v g s
 | 2 => relT v (beginT v g s) s
 | 3 => flowT v (relT v (beginT v g s) s) s
 | 4 => getT v (flowT v (relT v (beginT v g s) s) s) s
 | _ => tickT v g s
theorem Z0u : Apart [0] [1] [2] [3] := ⟨by decide, by decide, by decide, by decide, by decide, by decide⟩
theorem Zdf [hE : Emp E] {K : Nat} {X f b r : Nm} {v : Vac} {g : Gs} {s : Bk} {H : Heap} {n : Nat} {p : Nm} {j : Delta} (h : SysAt E H X f b r v g) (ha : Apart X f b r) (hv : Valid v) (hf : Fits v g) (hK : 200 < K) (hsh : s.shut.length < K) (hsh2 : s.shut.length <= 9223372036854775807) :
  acall cfg (K + 6) 97 [.ptr X 0, bkV s] ⟨H, n, p, false, j⟩ = .ret (.tuple [], ⟨sysPut E X f b r v (tickT v g s) H, n, p, false, j⟩) := by
 have hft := Z41 hf s
 obtain ⟨hn1, hn2⟩ := hf.ne hv
 refine Z0p Zke Zkd h ha hn1 hn2 (by rw [hft.f, hf.f]) (by rw [hft.b, hf.b]) (by rw [hft.r, hf.r]) fun H0 m hs hm => ?_
 refine Za rfl fun T hT' hA => ?_
 have a0 := hA 0 _ rfl
 have a1 := hA 1 _ rfl
 have hT : T.length = 15 := hT'
 clear hA hT'
 simp -implicitDefEqProofs only [go_sem, a1]
 simp only [Z2]
 refine Zm (fun k T s' => T.length = 15 /\ nth T 0 = some (.ptr [0] 0) /\ nth T 3 = some (.ptr [m + 3] 0) /\ nth T 6 = some (.agg [.func 147 [], .func 148 [], .func 149 [], .func 150 [], .func 151 []]) /\ ∃ (i : Nat) (H' : Heap), nth T 7 = some (.int .i64 i) /\ i <= 5 /\ k = 5 - i /\ s' = ⟨H', m + 4, [], false, []⟩ /\ hget H' [m + 3] = some (.cells [.int .i64 s.ticks, .int .i64 s.heat, .lst (s.shut.map iV), .bool s.flash] true 0) /\ Fits v (stepT v g s i) /\ SysAt E H' [0] [1] [2] [3] v (stepT v g s i)) (k := 5) (by omega) ?_ ?_
 ·exact ⟨by simp -implicitDefEqProofs only [go_sem, hT], by simp -implicitDefEqProofs only [go_sem, a0], by simp -implicitDefEqProofs only [go_sem, hT], by simp -implicitDefEqProofs only [go_sem, hT], 0, _, by simp -implicitDefEqProofs only [go_sem, hT] <;> rfl, by omega, rfl, rfl, Z1 .., hf, ⟨(hc11 (by omega)).trans hs.x, (hc11 (by omega)).trans hs.f, (hc11 (by omega)).trans hs.b, fun e => (hc11 (by have := hm e; omega)).trans (hs.r e)⟩⟩
 have hroom : ∀ i, (stepT v g s i).room.length = v.getters.length -> ((stepT v g s i).room ≠ [] -> 1 <= m) := fun i e hne => hm fun e2 => hne (List.length_eq_zero_iff.1 (by rw [e, <- hf.r, e2]; rfl))
 clear a0 a1 hT T hs H0 hn1 hn2 hft
 rintro k T s' ⟨hT, a0, a3, a6, i, H0, a7, hi, rfl, rfl, hbk, hf', hs⟩
 obtain ⟨hn1, hn2⟩ := hf'.ne hv
 have hrm := hroom i hf'.r
 rcases (show i = 0 \/ i = 1 \/ i = 2 \/ i = 3 \/ i = 4 \/ i = 5 by omega) with rfl | rfl | rfl | rfl | rfl | rfl
 ·have b7 : nth T 7 = some (.int .i64 0) := a7
  have hin : inR 0 5 = some 0 := rfl
  have hw1 : wrapF .i64 (0 + 1) = 1 := rfl
  have hfn : Fits v (stepT v g s (0 + 1)) := Z58 hf' s
  have hsn : SysAt E (sysPut E [0] [1] [2] [3] v (stepT v g s (0 + 1)) H0) [0] [1] [2] [3] v (stepT v g s (0 + 1)) := J6 hs Z0u (by rw [hfn.r, hf'.r])
  have hbn : hget (sysPut E [0] [1] [2] [3] v (stepT v g s (0 + 1)) H0) [m + 3] = hget H0 [m + 3] := J7 (n11 (by omega)) (n11 (by omega)) (n11 (by omega)) (fun e => n11 (by have := hroom (0 + 1) hfn.r e; omega))
  rw [hbk] at hbn
  have hc' : ∀ n p j, acall cfg (K + 5) 147 [.ptr [0] 0, bkV s] ⟨H0, n, p, false, j⟩ = .ret (.tuple [], ⟨sysPut E [0] [1] [2] [3] v (stepT v g s (0 + 1)) H0, n, p, false, j⟩) := fun n p j => (Z8p hs Z0u hn1 hn2 (K := K + 4) (by have := hv.l8; omega) (by have := hv.l8; omega))
  generalize sysPut E [0] [1] [2] [3] v (stepT v g s (0 + 1)) H0 = H1 at *
  simp only [bkV] at hc'
  simp -implicitDefEqProofs only [go_sem, a0, a3, b7, a6, hT, hin, hbk, hc', hw1]
  exact ⟨5 - (0 + 1), by omega, trivial, trivial, trivial, trivial, 0 + 1, H1, rfl, by omega, rfl, rfl, hbn, hfn, hsn⟩
 ·have b7 : nth T 7 = some (.int .i64 1) := a7
  have hin : inR 1 5 = some 1 := rfl
  have hw1 : wrapF .i64 (1 + 1) = 2 := rfl
  have hfn : Fits v (stepT v g s (1 + 1)) := Z9v hf' s
  have hsn : SysAt E (sysPut E [0] [1] [2] [3] v (stepT v g s (1 + 1)) H0) [0] [1] [2] [3] v (stepT v g s (1 + 1)) := J6 hs Z0u (by rw [hfn.r, hf'.r])
  have hbn : hget (sysPut E [0] [1] [2] [3] v (stepT v g s (1 + 1)) H0) [m + 3] = hget H0 [m + 3] := J7 (n11 (by omega)) (n11 (by omega)) (n11 (by omega)) (fun e => n11 (by have := hroom (1 + 1) hfn.r e; omega))
  rw [hbk] at hbn
  have hc' : ∀ n p j, acall cfg (K + 5) 148 [.ptr [0] 0, bkV s] ⟨H0, n, p, false, j⟩ = .ret (.tuple [], ⟨sysPut E [0] [1] [2] [3] v (stepT v g s (1 + 1)) H0, n, p, false, j⟩) := fun n p j => (Z7g hs Z0u hn1 hf'.f hf'.b (K := K + 3) (by have := hv.n8; omega) (by have := hv.n8; omega) hv.bd)
  generalize sysPut E [0] [1] [2] [3] v (stepT v g s (1 + 1)) H0 = H1 at *
  simp only [bkV] at hc'
  simp -implicitDefEqProofs only [go_sem, a0, a3, b7, a6, hT, hin, hbk, hc', hw1]
  exact ⟨5 - (1 + 1), by omega, trivial, trivial, trivial, trivial, 1 + 1, H1, rfl, by omega, rfl, rfl, hbn, hfn, hsn⟩
 ·have b7 : nth T 7 = some (.int .i64 2) := a7
  have hin : inR 2 5 = some 2 := rfl
  have hw1 : wrapF .i64 (2 + 1) = 3 := rfl
  have hfn : Fits v (stepT v g s (2 + 1)) := Z7i hf' s
  have hsn : SysAt E (sysPut E [0] [1] [2] [3] v (stepT v g s (2 + 1)) H0) [0] [1] [2] [3] v (stepT v g s (2 + 1)) := J6 hs Z0u (by rw [hfn.r, hf'.r])
  have hbn : hget (sysPut E [0] [1] [2] [3] v (stepT v g s (2 + 1)) H0) [m + 3] = hget H0 [m + 3] := J7 (n11 (by omega)) (n11 (by omega)) (n11 (by omega)) (fun e => n11 (by have := hroom (2 + 1) hfn.r e; omega))
  rw [hbk] at hbn
  have hc' : ∀ n p j, acall cfg (K + 5) 149 [.ptr [0] 0, bkV s] ⟨H0, n, p, false, j⟩ = .ret (.tuple [], ⟨sysPut E [0] [1] [2] [3] v (stepT v g s (2 + 1)) H0, n, p, false, j⟩) := fun n p j => (Zde hs Z0u hn1 hn2 hf'.f (K := K + 1) (by have := hv.n8; omega) (by have := hv.n8; omega) (hv.lens _ (by omega)) (by omega) hsh2 hv.pip hv.inl)
  generalize sysPut E [0] [1] [2] [3] v (stepT v g s (2 + 1)) H0 = H1 at *
  simp only [bkV] at hc'
  simp -implicitDefEqProofs only [go_sem, a0, a3, b7, a6, hT, hin, hbk, hc', hw1]
  exact ⟨5 - (2 + 1), by omega, trivial, trivial, trivial, trivial, 2 + 1, H1, rfl, by omega, rfl, rfl, hbn, hfn, hsn⟩
 ·have b7 : nth T 7 = some (.int .i64 3) := a7
  have hin : inR 3 5 = some 3 := rfl
  have hw1 : wrapF .i64 (3 + 1) = 4 := rfl
  have hfn : Fits v (stepT v g s (3 + 1)) := Z9w hf' s
  have hsn : SysAt E (sysPut E [0] [1] [2] [3] v (stepT v g s (3 + 1)) H0) [0] [1] [2] [3] v (stepT v g s (3 + 1)) := J6 hs Z0u (by rw [hfn.r, hf'.r])
  have hbn : hget (sysPut E [0] [1] [2] [3] v (stepT v g s (3 + 1)) H0) [m + 3] = hget H0 [m + 3] := J7 (n11 (by omega)) (n11 (by omega)) (n11 (by omega)) (fun e => n11 (by have := hroom (3 + 1) hfn.r e; omega))
  rw [hbk] at hbn
  have hc' : ∀ n p j, acall cfg (K + 5) 150 [.ptr [0] 0, bkV s] ⟨H0, n, p, false, j⟩ = .ret (.tuple [], ⟨sysPut E [0] [1] [2] [3] v (stepT v g s (3 + 1)) H0, n, p, false, j⟩) := fun n p j => (Zf7 hs Z0u hn1 hn2 hf'.f hf'.r (K := K + 3) (by have := hv.g8; omega) (by have := hv.g8; omega) hv.gtr)
  generalize sysPut E [0] [1] [2] [3] v (stepT v g s (3 + 1)) H0 = H1 at *
  simp only [bkV] at hc'
  simp -implicitDefEqProofs only [go_sem, a0, a3, b7, a6, hT, hin, hbk, hc', hw1]
  exact ⟨5 - (3 + 1), by omega, trivial, trivial, trivial, trivial, 3 + 1, H1, rfl, by omega, rfl, rfl, hbn, hfn, hsn⟩
 ·have b7 : nth T 7 = some (.int .i64 4) := a7
  have hin : inR 4 5 = some 4 := rfl
  have hw1 : wrapF .i64 (4 + 1) = 5 := rfl
  have hfn : Fits v (stepT v g s (4 + 1)) := Z9x hf' s
  have hsn : SysAt E (sysPut E [0] [1] [2] [3] v (stepT v g s (4 + 1)) H0) [0] [1] [2] [3] v (stepT v g s (4 + 1)) := J6 hs Z0u (by rw [hfn.r, hf'.r])
  have hbn : hget (sysPut E [0] [1] [2] [3] v (stepT v g s (4 + 1)) H0) [m + 3] = hget H0 [m + 3] := J7 (n11 (by omega)) (n11 (by omega)) (n11 (by omega)) (fun e => n11 (by have := hroom (4 + 1) hfn.r e; omega))
  rw [hbk] at hbn
  have hc' : ∀ n p j, acall cfg (K + 5) 151 [.ptr [0] 0, bkV s] ⟨H0, n, p, false, j⟩ = .ret (.tuple [], ⟨sysPut E [0] [1] [2] [3] v (stepT v g s (4 + 1)) H0, n, p, false, j⟩) := fun n p j => (Zf3 (g := stepT v g s 4) hs Z0u hn1 hn2 (K := K + 4) (by have := hf'.f; have := hf'.b; have := hv.n8; omega) (by have := hf'.f; have := hf'.b; have := hv.n8; omega))
  generalize sysPut E [0] [1] [2] [3] v (stepT v g s (4 + 1)) H0 = H1 at *
  simp only [bkV] at hc'
  simp -implicitDefEqProofs only [go_sem, a0, a3, b7, a6, hT, hin, hbk, hc', hw1]
  exact ⟨5 - (4 + 1), by omega, trivial, trivial, trivial, trivial, 4 + 1, H1, rfl, by omega, rfl, rfl, hbn, hfn, hsn⟩
 ·have b7 : nth T 7 = some (.int .i64 5) := a7
  simp -implicitDefEqProofs only [go_sem, b7, hT, Try.results97]
  exact ⟨trivial, hs⟩
end Go.Proofs.Ytgnpnfkncbnjnaa
namespace Go.Proofs.Ytgnpnfkncbnjnaa
open Go Go.Am
attribute [local congr] Z8 Z5 Z7
end Go.Proofs.Ytgnpnfkncbnjnaa
namespace Go.Proofs.Ytgnpnfkncbnjnaa
open Go Go.Am
attribute [local congr] Z8 Z5 Z7
theorem Z9y {H : Heap} {d : Nat} {b : Nm} (l : List Rg) (hb : hget H b = some (rgB l)) : freezeG (freezeD H (d + 1)) H (.slice b 0 l.length l.length false) = some (.lst (l.map rgV)) := by
 cases l with
 | nil => rfl
 | cons a r => exact Z25 (g := rgC) (z := 2) Z17 (by decide) (f := rgV) (fun _ => rfl) (row := freezeD H (d + 1)) (H := H) (a :: r) (Zd6 _) hb (a :: r).length false
def gasP (p : Gs × Int) : AV := .tuple [gsV p.1, .int .i64 p.2]
@[go_sem] theorem Zky (p : Gs × Int) : (gasP p).flat = true := by
 unfold gasP; simp only [gsV, AV.flat, flats, Zap]
theorem Z8r (H : Heap) (e : Int) : Go.Am.frozen H (.tuple [.agg [.nils, .nils, .nils, .int .i64 0, .bool false], .int .i64 e]) = some (gasP (zeroG, e)) := rfl
end Go.Proofs.Ytgnpnfkncbnjnaa
namespace Go.Proofs.Ytgnpnfkncbnjnaa
attribute [local go_sem_proc] Int.reduceEq Int.reduceNeg Nat.reduceEqDiff Nat.reduceLT Nat.reduceAdd Nat.reduceSub Nat.reduceMul Int.reduceLE Int.reduceLT Int.reduceToNat Nat.reduceLeDiff
attribute [local go_sem] Int.toNat_natCast Bool.not_true Bool.not_false
open Go Go.Am
attribute [local congr] Z8 Z5 Z7
def runT {σ : Type} (nxt : σ -> Gs -> Option σ) (v : Vac) : σ -> Gs -> List Bk -> (σ × Gs) ⊕ (σ × Gs)
 | c, g, [] => .inl (c, g)
 | c, g, s :: r => match nxt c (tickT v g s) with | some c' => runT nxt v c' (tickT v g s) r | none => .inr (c, tickT v g s)
def flatT (l : List Bk) : List Bk := l.flatMap fun s => List.replicate s.ticks.toNat s
def allT {σ : Type} (nxt : σ -> Gs -> Option σ) (v : Vac) (c : σ) (l : List Bk) : (σ × Gs) ⊕ (σ × Gs) :=
 match nxt c (beginG v) with | some c' => runT nxt v c' (beginG v) (flatT l) | none => .inr (c, beginG v)
theorem Zb4 (s : Bk) (l : List Bk) : flatT (s :: l) = List.replicate s.ticks.toNat s ++ flatT l := rfl
theorem Zik {a b k c k' c' : Nat} {x : Option Blk} {r : Delta} (h : c ≠ c') : lkD (([a, k, c], x) :: r) [b, k', c'] = lkD r [b, k', c'] := Zax fun e => h (by injection e with _ e; injection e with _ e; injection e)
theorem n33k {a b k c k' c' : Nat} (h : k ≠ k') : ([a, k, c] : Nm) ≠ [b, k', c'] := fun e => h (by injection e with _ e; injection e)
theorem n33c {a b k c k' c' : Nat} (h : c ≠ c') : ([a, k, c] : Nm) ≠ [b, k', c'] := fun e => h (by injection e with _ e; injection e with _ e; injection e)
theorem Z42 {b : Nm} {n : Nat} (h : 0 < n) : mutV b n = .slice b 0 n n false := by cases n with | zero => omega | succ n => rfl
structure Eats {σ : Type} (nxt : σ -> Gs -> Option σ) (v : Vac) (l bV bS : Nm) (stages : List Bk) (m K : Nat) (I : σ -> Heap -> Prop) (S : σ -> Gs -> Heap -> Prop) : Prop where
 eat : ∀ c g H n, m < n -> I c H -> SysAt .nils H [m, 4, 0] [m, 2, 0] [m, 2, 1] [m, 2, 2] v g -> Fits v g -> (∃ c' H' n', nxt c g = some c' /\ around cfg K l [.ptr [m, 4, 0] 0] ⟨H, n, [], false, []⟩ = .ret (.bool true, ⟨H', n', [], false, []⟩) /\ n <= n' /\ I c' H' /\ (∀ q, m < q -> q < n -> hget H' [q] = hget H [q]) /\ SysAt .nils H' [m, 4, 0] [m, 2, 0] [m, 2, 1] [m, 2, 2] v g) \/ (∃ H' n', nxt c g = none /\ around cfg K l [.ptr [m, 4, 0] 0] ⟨H, n, [], false, []⟩ = .ret (.bool false, ⟨H', n', [], false, []⟩) /\ n <= n' /\ S c g H')
 keep : ∀ c H H', I c H -> (∀ k, k < m -> hget H' [k] = hget H [k]) -> I c H'
 hv : ∀ c H, I c H -> hget H bV = some (vacC v)
 hs : ∀ c H, I c H -> hget H bS = some (.cells [.lst (stages.map bkV)] true 0)
theorem Zil {σ : Type} {nxt : σ -> Gs -> Option σ} {v : Vac} {l bV bS : Nm} {stages : List Bk} {m K : Nat} {I : σ -> Heap -> Prop} {S : σ -> Gs -> Heap -> Prop} (he : Eats nxt v l bV bS stages m (K + 6) I S)
  (hva : Valid v) (hK : 300 < K) (hst : ∀ s ∈ stages, 0 <= s.ticks /\ s.ticks <= 2000 /\ s.shut.length <= 40) (hsl : stages.length <= 20) (hK2 : 2100 < K) (c0 : σ) (H : Heap) (h0 : I c0 H) :
  (acall cfg (K + 7) 152 [.yield l, .ptr bV 0, .ptr bS 0] ⟨H, m, [], false, []⟩).Does fun x => ∃ n, x.2 = ⟨x.2.H, n, [], false, []⟩ /\ m < n /\ (match allT nxt v c0 stages with | .inl (c, g) => I c x.2.H /\ SysAt .nils x.2.H [m, 4, 0] [m, 2, 0] [m, 2, 1] [m, 2, 2] v g | .inr (c, g) => S c g x.2.H) := by
 have hbg : ∀ H n p jr j, acall cfg (K + 6) 94 [vacV v] ⟨H, n, p, jr, j⟩ = .ret (gasM (p ++ [n]) (p ++ [n + 1]) (p ++ [n + 2]) (beginG v), gasS ⟨H, n, p, jr, j⟩ (beginG v)) := fun H n p jr j => Z56 v (K + 5) H n p jr j (hva.lens _ (by omega)) (by have := hva.n8; omega) (by have := hva.g8; omega) (fun e => by have := hva.n1; rw [e] at this; simp at this)
 rw [Y8]
 unfold enterA
 rw [Zho]; simp only
 rw [show cfg.mode.get 152 = none from Zhp]; simp only
 refine Za rfl fun T hT' hA => ?_
 have a0 := hA 0 _ rfl
 have a1 := hA 1 _ rfl
 have a2 := hA 2 _ rfl
 have hT : T.length = 35 := hT'
 clear hA hT'
 have q1 := he.hv c0 H h0
 unfold vacC at q1
 simp only [vacV] at hbg
 simp -implicitDefEqProofs only [go_sem]
 simp only [Z2]
 have hfit : Fits v (beginG v) := ⟨by simp [beginG], by simp [beginG], by simp [beginG]⟩
 obtain ⟨p1, p2⟩ := hfit.ne hva
 refine Tr.Does.mono (Q := fun x => ∃ (T' : List AV) (H' : Heap), x = (T', (⟨H', m + 1, [], false, []⟩ : St)) /\ T'.length = 35 /\ nth T' 0 = some (.yield l) /\ nth T' 2 = some (.ptr bS 0) /\ nth T' 4 = some (.ptr [m, 4, 0] 0) /\ SysAt .nils H' [m, 4, 0] [m, 2, 0] [m, 2, 1] [m, 2, 2] v (beginG v) /\ ∀ k, k < m -> hget H' [k] = hget H [k]) ?_ ?_
 ·clear he
  generalize beginG v = g at *
  have hgm : ∀ a b c, gasM a b c g = .agg [.slice a 0 g.free.length g.free.length false, .slice b 0 g.bound.length g.bound.length false, mutV c g.room.length, .int .i64 g.most, .bool g.flashed] := fun a b c => by
   unfold gasM; rw [Z42 (List.length_pos_iff.2 p1), Z42 (List.length_pos_iff.2 p2)]
  simp only [hgm] at hbg
  rcases (show g.room = [] \/ ∃ a l, g.room = a :: l from by cases g.room with | nil => exact .inl rfl | cons a l => exact .inr ⟨a, l, rfl⟩) with hr | ⟨a, l', hr⟩
  ·have hgs : ∀ s, gasS s g = (s.new (rgB g.free)).new (rgB g.bound) := fun s => by unfold gasS; rw [hr]; rfl
   have hm0 : ∀ b, mutV b g.room.length = .nils := fun b => by rw [hr]; rfl
   simp only [hgs, hm0] at hbg
   try simp only [Z2]
   refine Zf [[], [], [1], [0, 2, 1], [3, 0, 2, 1], [4, 3, 0, 2, 1]] [[], [], [], [], [], []] (by kernel_rfl) rfl rfl ?_
   simp -implicitDefEqProofs only [go_sem, Option.getD_some, a1, hT, q1, hbg, Ze]
   refine ⟨_, _, rfl, by simp -implicitDefEqProofs only [go_sem, hT], by simp -implicitDefEqProofs only [go_sem, a0], by simp -implicitDefEqProofs only [go_sem, a2], by simp -implicitDefEqProofs only [go_sem, hT], ⟨?_, by simp (disch := omega) only [Z0, Zd, Z2m, Option.getD_some, Zik], by simp (disch := omega) only [Z0, Zd, Z2m, Option.getD_some], fun e => ?_⟩, fun k hk => by simp (disch := omega) only [Z0, lkn, lk31, Option.getD_none]⟩
   ·rw [Z0, Zd, Option.getD_some]
    unfold sysB
    rw [show rowX .nils [m, 2, 2] g.room.length = .nils from by rw [hr]; rfl]
   ·exact absurd hr e
  ·have hgs : ∀ s, gasS s g = ((s.new (rgB g.free)).new (rgB g.bound)).new (rgB g.room) := fun s => by unfold gasS; rw [hr]; rfl
   have hm0 : ∀ b, mutV b g.room.length = .slice b 0 g.room.length g.room.length false := fun b => Z42 (by rw [hr]; simp)
   simp only [hgs, hm0] at hbg
   try simp only [Z2]
   refine Zf [[], [], [1], [0, 2, 1], [3, 0, 2, 1], [4, 3, 0, 2, 1]] [[], [], [], [], [], []] (by kernel_rfl) rfl rfl ?_
   simp -implicitDefEqProofs only [go_sem, Option.getD_some, a1, hT, q1, hbg, Ze]
   refine ⟨_, _, rfl, by simp -implicitDefEqProofs only [go_sem, hT], by simp -implicitDefEqProofs only [go_sem, a0], by simp -implicitDefEqProofs only [go_sem, a2], by simp -implicitDefEqProofs only [go_sem, hT], ⟨?_, by simp (disch := omega) only [Z0, Zd, Z2m, Option.getD_some, Zik], by simp (disch := omega) only [Z0, Zd, Z2m, Option.getD_some, Zik], fun e => ?_⟩, fun k hk => by simp (disch := omega) only [Z0, lkn, lk31, Option.getD_none]⟩
   ·rw [Z0, Zd, Option.getD_some]
    unfold sysB
    rw [show rowX .nils [m, 2, 2] g.room.length = .slice [m, 2, 2] 0 g.room.length g.room.length false from by rw [hr]; rfl]
   ·simp (disch := omega) only [Z0, Zd, Z2m, Option.getD_some]
 clear a0 a1 a2 hT T hbg q1
 rintro _ ⟨T, H1, rfl, hT, a0, a2, a4, hs, hk⟩
 have hI := he.keep c0 H H1 h0 hk
 clear hk h0
 simp -implicitDefEqProofs only [go_sem, a0, a4, hT]
 rcases he.eat c0 (beginG v) H1 (m + 1) (by omega) hI hs hfit with ⟨c1, H2, n2, e1, e2, e3, hI2, hfr2, hs2⟩ | ⟨H2, n2, e1, e2, e3, e4⟩
 ·have hall : allT nxt v c0 stages = runT nxt v c1 (beginG v) (flatT stages) := by unfold allT; rw [e1]
  rw [hall]
  have g2 := he.hs c1 H2 hI2
  simp -implicitDefEqProofs only [go_sem, a2, hT, e2, g2]
  obtain ⟨R, hR⟩ : ∃ R, R = runT nxt v c1 (beginG v) (flatT stages) := ⟨_, rfl⟩
  rw [<- hR]
  simp only [Z2]
  have hR1 : R = runT nxt v c1 (beginG v) (flatT (stages.drop 0)) := hR
  refine Zm (fun k T s' => T.length = 35 /\ nth T 0 = some (.yield l) /\ nth T 4 = some (.ptr [m, 4, 0] 0) /\ nth T 16 = some (.lst (stages.map bkV)) /\ nth T 17 = some (.int .i64 stages.length) /\ ∃ (i n : Nat) (H : Heap) (c : σ) (g : Gs), nth T 18 = some (.int .i64 i) /\ i <= stages.length /\ k = stages.length - i /\ s' = ⟨H, n, [], false, []⟩ /\ m < n /\ I c H /\ SysAt .nils H [m, 4, 0] [m, 2, 0] [m, 2, 1] [m, 2, 2] v g /\ Fits v g /\ R = runT nxt v c g (flatT (stages.drop i))) (k := stages.length) (by omega) ?_ ?_
  ·exact ⟨by simp -implicitDefEqProofs only [go_sem, hT], by simp -implicitDefEqProofs only [go_sem, a0], by simp -implicitDefEqProofs only [go_sem, a4], by simp -implicitDefEqProofs only [go_sem, hT], by simp -implicitDefEqProofs only [go_sem, hT], 0, n2, H2, c1, beginG v, by simp -implicitDefEqProofs only [go_sem, hT] <;> rfl, by omega, rfl, rfl, by omega, hI2, hs2, hfit, hR1⟩
  clear a0 a2 a4 hT T hI2 hs2 hfr2 hs hI e1 e2 e3 g2 hR1 hR p1 p2 hfit hall H1 H2
  rintro k T s' ⟨hT, a0, a4, a16, a17, i, n, H, c, g, a18, hi, rfl, rfl, hmn, hI, hs, hfit, hR⟩
  simp -implicitDefEqProofs only [go_sem, a17, a18, hT]
  by_cases hil : (i : Int) < (stages.length : Int)
  ·have hi' : i < stages.length := by omega
   have x1 := Zj (f := bkV) (l := stages) (i := i) (z := 4) hi' rfl
   have hkk : stages.length - (i + 1) < stages.length - i := by omega
   have hsx := hst _ (List.getElem_mem hi')
   rw [List.drop_eq_getElem_cons hi'] at hR
   generalize stages[i] = x at *
   rw [Zb4] at hR
   simp only [bkV] at x1
   obtain ⟨q, hq⟩ : ∃ q : Nat, x.ticks = q := ⟨x.ticks.toNat, by omega⟩
   rw [hq, Int.toNat_natCast] at hR
   rw [hq] at x1
   have k1 : ∀ X, hget (([n], X) :: H) [n] = some X := fun X => Z1 ..
   have hw1 : wrapF .i64 ((i : Int) + 1) = ((i + 1 : Nat) : Int) := Z6 (by omega) (by omega)
   simp -implicitDefEqProofs only [go_sem, a16, a18, hT, hil, x1, k1]
   simp only [Z2]
   refine Tr.Does.mono (Q := fun y => (∃ (T' : List AV) (n : Nat) (H : Heap) (c : σ) (g : Gs), y = ((AExit.exit 2, T'), (⟨H, n, [], false, []⟩ : St)) /\ T'.length = 35 /\ nth T' 0 = some (.yield l) /\ nth T' 4 = some (.ptr [m, 4, 0] 0) /\ nth T' 16 = some (.lst (stages.map bkV)) /\ nth T' 17 = some (.int .i64 stages.length) /\ nth T' 18 = some (.int .i64 i) /\ m < n /\ I c H /\ SysAt .nils H [m, 4, 0] [m, 2, 0] [m, 2, 1] [m, 2, 2] v g /\ Fits v g /\ R = runT nxt v c g (flatT (stages.drop (i + 1)))) \/ (∃ (T' : List AV) (n : Nat) (H : Heap) (c : σ) (g : Gs), y = ((AExit.ret, T'), (⟨H, n, [], false, []⟩ : St)) /\ m < n /\ R = .inr (c, g) /\ S c g H)) ?_ ?_
   ·refine Zm (fun k T s' => T.length = 35 /\ nth T 0 = some (.yield l) /\ nth T 4 = some (.ptr [m, 4, 0] 0) /\ nth T 6 = some (.ptr [n] 0) /\ nth T 16 = some (.lst (stages.map bkV)) /\ nth T 17 = some (.int .i64 stages.length) /\ nth T 18 = some (.int .i64 i) /\ nth T 23 = some (.int .i64 q) /\ ∃ (u n' : Nat) (H : Heap) (c : σ) (g : Gs), nth T 24 = some (.int .i64 u) /\ u <= q /\ k = q - u /\ s' = ⟨H, n', [], false, []⟩ /\ n < n' /\ hget H [n] = some (.cells [.int .i64 q, .int .i64 x.heat, .lst (x.shut.map iV), .bool x.flash] true 0) /\ I c H /\ SysAt .nils H [m, 4, 0] [m, 2, 0] [m, 2, 1] [m, 2, 2] v g /\ Fits v g /\ R = runT nxt v c g (List.replicate (q - u) x ++ flatT (stages.drop (i + 1)))) (k := q) (by omega) ?_ ?_
    ·exact ⟨by simp -implicitDefEqProofs only [go_sem, hT], by simp -implicitDefEqProofs only [go_sem, a0], by simp -implicitDefEqProofs only [go_sem, a4], by simp -implicitDefEqProofs only [go_sem, hT], by simp -implicitDefEqProofs only [go_sem, a16], by simp -implicitDefEqProofs only [go_sem, a17], by simp -implicitDefEqProofs only [go_sem, a18], by simp -implicitDefEqProofs only [go_sem, hT], 0, n + 1, _, c, g, by simp -implicitDefEqProofs only [go_sem, hT] <;> rfl, by omega, rfl, rfl, by omega, Z1 .., he.keep c H _ hI (fun k hk => hc11 (by omega)), ⟨hc13.trans hs.x, hc13.trans hs.f, hc13.trans hs.b, fun e => hc13.trans (hs.r e)⟩, hfit, hR⟩
    clear a0 a4 a16 a17 a18 hT T hs hI hR hfit k1 x1 hw1 H c g
    rintro k T s' ⟨hT, a0, a4, a6, a16, a17, a18, a23, u, n', H, c, g, a24, hu, rfl, rfl, hnn, hst0, hI, hs, hfit, hR⟩
    simp -implicitDefEqProofs only [go_sem, a23, a24, hT]
    by_cases huq : (u : Int) < (q : Int)
    ·have hfit2 := Z41 hfit x
     have htc := fun n => Zdf (K := K) (n := n) (p := []) (j := []) (s := x) hs ⟨n33k (by decide), n33k (by decide), n33k (by decide), n33c (by decide), n33c (by decide), n33c (by decide)⟩ hva hfit (by omega) (by omega) (by omega)
     have hs3 := J6 (g' := tickT v g x) hs ⟨n33k (by decide), n33k (by decide), n33k (by decide), n33c (by decide), n33c (by decide), n33c (by decide)⟩ (by rw [hfit2.r, hfit.r])
     have hfr : ∀ k, hget (sysPut .nils [m, 4, 0] [m, 2, 0] [m, 2, 1] [m, 2, 2] v (tickT v g x) H) [k] = hget H [k] := fun k => J7 n31 n31 n31 (fun _ => n31)
     generalize sysPut .nils [m, 4, 0] [m, 2, 0] [m, 2, 1] [m, 2, 2] v (tickT v g x) H = H3 at *
     have hI3 := he.keep c H H3 hI (fun k _ => hfr k)
     have hst3 := (hfr n).trans hst0
     have hrep : q - u = (q - (u + 1)) + 1 := by omega
     rw [hrep, List.replicate_succ] at hR
     have hR2 : R = match nxt c (tickT v g x) with | some c' => runT nxt v c' (tickT v g x) (List.replicate (q - (u + 1)) x ++ flatT (stages.drop (i + 1))) | none => .inr (c, tickT v g x) := hR
     have hw2 : wrapF .i64 ((u : Int) + 1) = ((u + 1 : Nat) : Int) := Z6 (by omega) (by omega)
     have hk3 : q - (u + 1) < q - u := by clear hw2; omega
     have hu3 : u + 1 <= q := by clear hw2; omega
     simp only [bkV, hq] at htc
     rcases he.eat c (tickT v g x) H3 n' (by clear hw2; omega) hI3 hs3 hfit2 with ⟨c', H4, n4, e1, e2, e3, hI4, hf4, hs4⟩ | ⟨H4, n4, e1, e2, e3, e4⟩
     ·rw [e1] at hR2
      simp only at hR2
      have hst4 := (hf4 n (by clear hw2; omega) (by clear hw2; omega)).trans hst3
      have hn4 : n < n4 := by clear hw2; omega
      simp -implicitDefEqProofs only [go_sem, a0, a4, a6, a16, a17, a18, a23, a24, hT, huq, hst0, htc, e2, hw2]
      exact ⟨q - (u + 1), hk3, trivial, trivial, trivial, trivial, trivial, trivial, trivial, trivial, u + 1, n4, H4, c', _, rfl, hu3, rfl, rfl, hn4, hst4, hI4, hs4, hfit2, hR2⟩
     ·rw [e1] at hR2
      simp only at hR2
      have hn4 : m < n4 := by clear hw2; omega
      simp -implicitDefEqProofs only [go_sem, a0, a4, a6, hT, huq, hst0, htc, e2]
      exact .inr ⟨_, n4, H4, c, _, rfl, hn4, hR2, e4⟩
    ·have hue : u = q := by omega
     subst hue
     rw [Nat.sub_self] at hR
     simp -implicitDefEqProofs only [go_sem, huq]
     exact .inl ⟨_, n', H, c, g, rfl, by simp -implicitDefEqProofs only [go_sem, hT], by simp -implicitDefEqProofs only [go_sem, a0], by simp -implicitDefEqProofs only [go_sem, a4], by simp -implicitDefEqProofs only [go_sem, a16], by simp -implicitDefEqProofs only [go_sem, a17], by simp -implicitDefEqProofs only [go_sem, a18], by omega, hI, hs, hfit, hR⟩
   clear a0 a4 a16 a17 a18 hT T hs hI hR hfit k1 x1 H c g
   rintro _ (⟨T, n', H, c, g, rfl, hT, a0, a4, a16, a17, a18, hnn, hI, hs, hfit, hR⟩ | ⟨T, n', H, c, g, rfl, hnn, hR, hS⟩)
   ·simp -implicitDefEqProofs only [go_sem, a0, a4, a16, a17, a18, hT, hw1]
    exact ⟨stages.length - (i + 1), hkk, trivial, trivial, trivial, trivial, trivial, i + 1, n', H, c, g, rfl, hi', rfl, rfl, hnn, hI, hs, hfit, hR⟩
   ·simp -implicitDefEqProofs only [go_sem, Try.results152]
    rw [hR]
    exact ⟨n', rfl, hnn, hS⟩
  ·have hie : i = stages.length := by omega
   subst hie
   rw [List.drop_length] at hR
   simp -implicitDefEqProofs only [go_sem, hil, Try.results152]
   rw [hR]
   exact ⟨n, rfl, hmn, hI, hs⟩
 ·have hall : allT nxt v c0 stages = .inr (c0, beginG v) := by unfold allT; rw [e1]
  rw [hall]
  simp -implicitDefEqProofs only [go_sem, hT, e2, Try.results152]
  exact ⟨n2, rfl, by omega, e4⟩
end Go.Proofs.Ytgnpnfkncbnjnaa
namespace Go.Proofs.Ytgnpnfkncbnjnaa
attribute [local go_sem_proc] Int.reduceEq Int.reduceNeg Nat.reduceEqDiff Nat.reduceLT Nat.reduceAdd Nat.reduceSub Nat.reduceMul Int.reduceLE Int.reduceLT Int.reduceToNat Nat.reduceLeDiff
attribute [local go_sem] Int.toNat_natCast Bool.not_true Bool.not_false
open Go Go.Am
attribute [local congr] Z8 Z5 Z7
attribute [local go_sem] Go.Am.frozen Go.Am.freezeG Go.Am.freezeGs
def runsS (v : Vac) : Int -> List Bk -> Int
 | q, [] => if 2000 < q then 14 else 0
 | q, s :: r => if stageE v s = 0 then runsS v (wrapF .i64 (q + s.ticks)) r else stageE v s
def runsE (v : Vac) (l : List Bk) : Int := if checkE v = 0 then if 20 < l.length then 8 else runsS v 0 l else checkE v
def BkL (K : Nat) (l : List Bk) : Prop := l.length <= 9223372036854775807 /\ ∀ s ∈ l, s.shut.length < K /\ s.shut.length <= 9223372036854775807
theorem Zdg (v : Vac) (l : List Bk) (K : Nat) (s : St) (hK : 100 < K) (hv : v.Lens K) (hl : BkL K l) : acall cfg (K + 12) 98 [vacV v, .lst (l.map bkV)] s = .ret (.int .i64 (runsE v l), s) := by
 refine Z23 Zkg Zkf (by first | rfl | simp -implicitDefEqProofs only [redoH, redo1, go_sem]) (by first | rfl | simp -implicitDefEqProofs only [go_sem]) (by first | rfl | simp -implicitDefEqProofs only [redoH, redo1, go_sem]) ?_
 refine Za rfl fun T hT' hA => ?_
 have a0 := hA 0 _ rfl
 have a1 := hA 1 _ rfl
 have hT : T.length = 37 := hT'
 clear hA hT'
 have hc := fun s => Z54 v (K + 2) s (by omega) (hv.more 2)
 simp only [vacV] at hc
 unfold runsE
 by_cases c0 : checkE v = 0
 ·rw [if_pos c0]
  have hlq : ((20 : Int) < (l.length : Int)) = (20 < l.length) := by rw [eq_iff_iff]; omega
  by_cases c1 : 20 < l.length
  ·rw [if_pos c1]
   simp -implicitDefEqProofs only [go_sem, a0, a1, hT, hc, c0, hlq, c1, Try.results98]
  ·rw [if_neg c1]
   simp -implicitDefEqProofs only [go_sem, a0, a1, hT, hc, c0, hlq, c1]
   simp only [Z2]
   refine Zm (fun k T s' => T.length = 37 /\ nth T 2 = some (.ptr [0] 0) /\ nth T 18 = some (.lst (l.map bkV)) /\ nth T 19 = some (.int .i64 l.length) /\ ∃ (i m : Nat) (q : Int) (H : Heap), nth T 20 = some (.int .i64 i) /\ nth T 6 = some (.int .i64 q) /\ i <= l.length /\ k = l.length - i /\ s' = ⟨H, m + 1, [], false, []⟩ /\ hget H [0] = some (vacC v) /\ runsS v 0 l = runsS v q (l.drop i)) (k := l.length) (by omega) ?_ ?_
   ·exact ⟨by simp -implicitDefEqProofs only [go_sem, hT], by simp -implicitDefEqProofs only [go_sem, hT], by simp -implicitDefEqProofs only [go_sem, hT], by simp -implicitDefEqProofs only [go_sem, hT], 0, 0, 0, _, by simp -implicitDefEqProofs only [go_sem, hT] <;> rfl, by simp -implicitDefEqProofs only [go_sem, hT], by omega, rfl, rfl, rfl, rfl⟩
   clear a0 a1 hT T
   rintro k T s' ⟨hT, a2, a18, a19, i, m, q, H, a20, a6, hi, rfl, rfl, g0, he⟩
   simp -implicitDefEqProofs only [go_sem, a19, a20, hT]
   by_cases hil : (i : Int) < (l.length : Int)
   ·have hi' : i < l.length := by omega
    have e1 := Zj (f := bkV) (l := l) (i := i) (z := 4) hi' rfl
    have hkk : l.length - (i + 1) < l.length - i := by omega
    have hx := hl.2 _ (List.getElem_mem hi')
    rw [List.drop_eq_getElem_cons hi'] at he
    generalize l[i] = x at *
    simp only [runsS] at he
    have hst := fun s => Zau v x (K + 9) s (by omega) hx.2 hv.pip.2
    have k0 : ∀ X, hget (([m + 1], X) :: H) [0] = hget H [0] := fun X => hc11 (by omega)
    have k1 : ∀ X, hget (([m + 1], X) :: H) [m + 1] = some X := fun X => Z1 ..
    have hw1 : wrapF .i64 ((i : Int) + 1) = ((i + 1 : Nat) : Int) := Z6 (by omega) (by omega)
    have g0' := g0
    unfold vacC at g0
    simp only [bkV, vacV] at e1 hst
    by_cases c2 : stageE v x = 0
    ·rw [if_pos c2] at he
     simp -implicitDefEqProofs only [go_sem, a2, a6, a18, a19, a20, hT, hil, e1, k0, k1, g0, hst, c2, hw1]
     exact ⟨l.length - (i + 1), hkk, trivial, trivial, trivial, trivial, i + 1, m + 1, _, _, rfl, rfl, hi', rfl, rfl, (k0 _).trans g0', he⟩
    ·rw [if_neg c2] at he
     simp -implicitDefEqProofs only [go_sem, a2, a18, a20, hT, hil, e1, k0, k1, g0, hst, c2, Try.results98]
     rw [he]
   ·have hie : i = l.length := by omega
    subst hie
    rw [List.drop_length] at he
    simp only [runsS] at he
    rw [he]
    by_cases c2 : 2000 < q
    ·simp -implicitDefEqProofs only [go_sem, a6, hT, hil, c2, Try.results98, if_true]
    ·simp -implicitDefEqProofs only [go_sem, a6, hT, hil, c2, Try.results98, if_false]
 ·rw [if_neg c0]
  simp -implicitDefEqProofs only [go_sem, a0, hT, hc, c0, Try.results98]
end Go.Proofs.Ytgnpnfkncbnjnaa
namespace Go.Proofs.Ytgnpnfkncbnjnaa
open Go Go.Am
section
variable {C : Cfg} {call : FuncId -> List AV -> M AV} {rnd : Nm -> List AV -> M AV} {K : Nat}
theorem Zb5 {l : Nm} {args T T' : List AV} {s : St} {ps : List Nat} {a b : Code} {st0 : LoopState} {pend : Option Code} {Q : AV × St -> Prop} (h : hget s.H l = some (.loop T ps a b st0 pend)) (hs : setAll T ps args = some T')
  (ha : (exec C (acall C K) (around C K) (K + 1) a T' s).Does fun x => x.1.1 = .normal /\ ∃ T1 ps1 a1 b1 pend1, hget x.2.H l = some (.loop T1 ps1 a1 b1 .ready pend1) /\ (exec C (acall C K) (around C K) (K + 1) b x.1.2 (x.2.put l (.loop T1 ps1 a1 b1 .busy pend1))).Does fun z => ∃ T2 ps2 a2 b2 st2 pend2, hget z.2.H l = some (.loop T2 ps2 a2 b2 st2 pend2) /\
   match jumpOf z.1.1 with | none => Q (.bool true, z.2.put l (.loop T2 ps2 a2 b2 .ready none)) | some j => Q (.bool false, z.2.put l (.loop T2 ps2 a2 b2 .done (some j)))) :
  (around C (K + 1) l args s).Does Q := by
 rw [Z0v]
 unfold roundA
 rw [Z9, Ya, h]
 simp only [Tr.bind_ret, hs]
 rw [Z9, Z2]
 refine ha.mono ?_
 rintro ⟨⟨e, T1⟩, s1⟩ ⟨rfl, T2, ps1, a1, b1, pend1, h1, h2⟩
 simp only at h1 h2 ⊢
 rw [Z9, Ya, h1]
 simp only [Tr.bind_ret]
 rw [Z9, Y7, h1]
 simp only [Tr.bind_ret]
 rw [Z9, Z2]
 refine h2.mono ?_
 rintro ⟨⟨e, T3⟩, s3⟩ ⟨T4, ps2, a2, b2, st2, pend2, h3, h4⟩
 simp only at h3 h4 ⊢
 rw [Z9, Ya, h3]
 simp only [Tr.bind_ret]
 cases hj : jumpOf e with
 | none => rw [hj] at h4; simp only at h4 ⊢; rw [Z9, Y7, h3]; simp only [Tr.bind_ret, Y9]; exact ⟨_, rfl, h4⟩
 | some j => rw [hj] at h4; simp only at h4 ⊢; rw [Z9, Y7, h3]; simp only [Tr.bind_ret, Y9]; exact ⟨_, rfl, h4⟩
theorem Zb6 {f : Operand} {g : FuncId} {caps T : List AV} {ps : Array Nat} {a b : Code} {s : St} {Q : X × St -> Prop} (hf : evA T f = some (.func g caps))
  (hc : (call g (.yield s.name :: caps) (s.new (.loop T ps.toList a b .ready none))).Does fun x => ∃ T' ps' a' b' st pend e, hget x.2.H s.name = some (.loop T' ps' a' b' st pend) /\ st ≠ .busy /\ exitOf pend = some e /\ Q ((e, T), x.2.put s.name (.loop T' ps' a' b' .exhausted pend))) :
  (exec C call rnd K (.rangeFunc f ps a b) T s).Does Q := by
 show ((match evA T f with
   | some fv => rangeFuncA call fv ps.toList a b T
   | none => M.fail) s).Does Q
 rw [hf]
 simp only
 unfold rangeFuncA
 rw [Z9, Xf]
 simp only [Tr.bind_ret]
 rw [Z9, Z2]
 refine hc.mono ?_
 rintro ⟨x, s1⟩ ⟨T', ps', a', b', st, pend, e, h1, h2, h3, h4⟩
 simp only at h1 h4 ⊢
 rw [Z9, Ya, h1]
 simp only [Tr.bind_ret]
 cases st with
 | busy => exact absurd rfl h2
 | ready => simp only [h3]; rw [Z9, Y7, h1]; simp only [Tr.bind_ret, Y9]; exact ⟨_, rfl, h4⟩
 | done => simp only [h3]; rw [Z9, Y7, h1]; simp only [Tr.bind_ret, Y9]; exact ⟨_, rfl, h4⟩
 | exhausted => simp only [h3]; rw [Z9, Y7, h1]; simp only [Tr.bind_ret, Y9]; exact ⟨_, rfl, h4⟩
end
theorem Z7j {np : Int} : ∀ {l : List Int} {last : Int}, shutE np last l = 0 -> -1 <= last -> l ≠ [] -> l.length + last < np
 | [], _, _, _, h => absurd rfl h
 | a :: r, last, h, hl, _ => by
  unfold shutE at h
  split at h
  ·rename_i h1
   have h1 : 0 <= a /\ a <= np - 1 := by unfold fromB at h1; rw [decide_eq_true_iff] at h1; exact h1
   split at h
   ·exact absurd h (by decide)
   ·by_cases e : r = []
    ·subst e; rw [List.length_cons, List.length_nil]; omega
    ·have := Z7j h (by omega) e
     rw [List.length_cons]; omega
  ·exact absurd h (by decide)
theorem Zdh {v : Vac} {s : Bk} (hv : Valid v) (h : stageE v s = 0) : 0 <= s.ticks /\ s.ticks <= 2000 /\ s.shut.length <= 40 := by
 unfold stageE at h
 split at h
 ·rename_i h1
  have h2 : 0 <= s.ticks /\ s.ticks <= 2000 := by have := h1.1; unfold fromB at this; rw [decide_eq_true_iff] at this; exact this
  refine ⟨h2.1, h2.2, ?_⟩
  by_cases e : s.shut = []
  ·rw [e]; exact Nat.zero_le _
  ·have := Z7j h (by decide) e
   have := hv.p16
   omega
 ·exact absurd h (by decide)
theorem Z59 {v : Vac} : ∀ {l : List Bk} {q : Int}, runsS v q l = 0 -> ∀ s ∈ l, stageE v s = 0
 | [], _, _, _, h => nomatch h
 | a :: r, q, h, s, hs => by
  unfold runsS at h
  split at h
  ·rename_i h1
   rcases List.mem_cons.1 hs with rfl | hs
   ·exact h1
   ·exact Z59 h s hs
  ·rename_i h1; exact absurd h h1
theorem Z7k {v : Vac} {l : List Bk} (h : runsE v l = 0) : checkE v = 0 /\ l.length <= 20 /\ runsS v 0 l = 0 := by
 unfold runsE at h
 split at h
 ·rename_i h1
  split at h
  ·exact absurd h (by decide)
  ·exact ⟨h1, by omega, h⟩
 ·rename_i h1; exact absurd h h1
theorem Z8s {σ : Type} {K N : Nat} {f : Operand} {T : List AV} {ps : Array Nat} {a b : Code} {n0 : Nat} {H0 : Heap} {Q : X × St -> Prop} {bV bS : Nm} {v : Vac} {stages : List Bk} {fr : FuncId}
  (nxt : σ -> Gs -> Option σ) (Iof : Blk -> σ -> Heap -> Prop) (S : σ -> Gs -> Heap -> Prop) (c0 : σ) (hf : evA T f = some (.func 152 [.ptr bV 0, .ptr bS 0]))
  (hv : Valid v) (hK : 2100 < K) (hst : ∀ s ∈ stages, 0 <= s.ticks /\ s.ticks <= 2000 /\ s.shut.length <= 40) (hsl : stages.length <= 20)
  (P : List AV -> Prop) (hP : P T) (hh : ∀ T, P T -> ∀ L, L = Blk.loop T ps.toList a b .ready none ->
   (Eats nxt v [n0] bV bS stages (n0 + 1) (K + 6) (Iof L) S) /\ (Iof L c0 (([n0], L) :: H0)) /\ (∀ c H, Iof L c H -> hget H [n0] = some L) /\
   (∀ c g H n, allT nxt v c0 stages = .inl (c, g) -> Iof L c H -> SysAt .nils H [n0 + 1, 4, 0] [n0 + 1, 2, 0] [n0 + 1, 2, 1] [n0 + 1, 2, 2] v g -> n0 + 1 < n -> Q ((.normal, T), ⟨hset H [n0] (.loop T ps.toList a b .exhausted none), n, [], false, []⟩)) /\
   (∀ c g H n, allT nxt v c0 stages = .inr (c, g) -> S c g H -> n0 + 1 < n -> ∃ T' ps' a' b' st pend e, hget H [n0] = some (.loop T' ps' a' b' st pend) /\ st ≠ .busy /\ exitOf pend = some e /\ Q ((e, T), ⟨hset H [n0] (.loop T' ps' a' b' .exhausted pend), n, [], false, []⟩))) :
  (exec (cfg.at fr) (acall cfg (K + 7)) (around cfg (K + 7)) N (.rangeFunc f ps a b) T ⟨H0, n0, [], false, []⟩).Does Q := by
 obtain ⟨he, h0, hL, hi, hs⟩ := hh T hP _ rfl
 refine Zb6 hf ?_
 refine (Zil (m := n0 + 1) he hv (by omega) hst hsl hK c0 _ h0).mono ?_
 rintro ⟨x, s⟩ ⟨n, e, hn, h⟩
 simp only at e h
 rw [e]
 cases hall : allT nxt v c0 stages with
 | inl p =>
  obtain ⟨c, g⟩ := p
  rw [hall] at h
  simp only at h
  exact ⟨T, ps.toList, a, b, .ready, none, .normal, hL _ _ h.1, by decide, rfl, hi c g _ n hall h.1 h.2 hn⟩
 | inr p =>
  obtain ⟨c, g⟩ := p
  rw [hall] at h
  exact hs c g _ n hall h hn
end Go.Proofs.Ytgnpnfkncbnjnaa
namespace Go.Proofs.Ytgnpnfkncbnjnaa
open Go Go.Am
attribute [local congr] Z8 Z5 Z7
end Go.Proofs.Ytgnpnfkncbnjnaa
namespace Go.Proofs.Ytgnpnfkncbnjnaa
open Go Go.Am
attribute [local congr] Z8 Z5 Z7
noncomputable def gasPut (f b r : Nm) (g : Gs) (H : Heap) : Heap := match g.room with
 | [] => putsH [f, b] [rgB g.free, rgB g.bound] H
 | _ :: _ => putsH [f, b, r] [rgB g.free, rgB g.bound, rgB g.room] H
structure Apart3 (f b r : Nm) : Prop where
 fb : f ≠ b
 fr : f ≠ r
 br : b ≠ r
theorem Zdi {H : Heap} {f b r : Nm} {g g' : Gs} (h : GasAt H f b r g) (ha : Apart3 f b r) (h1 : g.free ≠ []) (h2 : g.bound ≠ []) (hr : g'.room.length = g.room.length) : GasAt (gasPut f b r g' H) f b r g' := by
 have hf := h.f h1
 have hb := h.b h2
 unfold gasPut
 cases hg : g'.room with
 | nil =>
  show GasAt (hset (hset H f _) b _) f b r g'
  exact ⟨fun _ => by rw [Z4 _ _ (Ne.symm ha.fb)]; exact hss hf, fun _ => hss ((Z4 _ _ ha.fb).trans hb), fun e => absurd hg e⟩
 | cons a l =>
  have hr2 := h.r (fun e => by rw [hg, e] at hr; simp at hr)
  show GasAt (hset (hset (hset H f _) b _) r _) f b r g'
  exact ⟨fun _ => by rw [Z4 _ _ (Ne.symm ha.fr), Z4 _ _ (Ne.symm ha.fb)]; exact hss hf, fun _ => by rw [Z4 _ _ (Ne.symm ha.br)]; exact hss ((Z4 _ _ ha.fb).trans hb),
   fun _ => by rw [hg]; exact hss ((Z4 _ _ ha.br).trans ((Z4 _ _ ha.fr).trans hr2))⟩
theorem Zdj {H : Heap} {f b r q : Nm} {g : Gs} (h2 : f ≠ q) (h3 : b ≠ q) (h4 : g.room ≠ [] -> r ≠ q) : hget (gasPut f b r g H) q = hget H q := by
 unfold gasPut
 cases hg : g.room with
 | nil =>
  show hget (hset (hset H f _) b _) q = _
  rw [Z4 _ _ h3, Z4 _ _ h2]
 | cons a l =>
  show hget (hset (hset (hset H f _) b _) r _) q = _
  rw [Z4 _ _ (h4 (by rw [hg]; simp)), Z4 _ _ h3, Z4 _ _ h2]
end Go.Proofs.Ytgnpnfkncbnjnaa
namespace Go.Proofs.Ytgnpnfkncbnjnaa
open Go Go.Am
attribute [local congr] Z8 Z5 Z7
end Go.Proofs.Ytgnpnfkncbnjnaa
namespace Go.Proofs.Ytgnpnfkncbnjnaa
open Go Go.Am
attribute [local congr] Z8 Z5 Z7
end Go.Proofs.Ytgnpnfkncbnjnaa
namespace Go.Proofs.Ytgnpnfkncbnjnaa
open Go Go.Am
attribute [local congr] Z8 Z5 Z7
end Go.Proofs.Ytgnpnfkncbnjnaa
namespace Go.Proofs.Ytgnpnfkncbnjnaa
open Go Go.Am
attribute [local congr] Z8 Z5 Z7
structure RAt (H : Heap) (f b r : Nm) (v : Vac) (g : Gs) (s : Bk) : Prop where
 v : hget H [0] = some (vacC v)
 c : hget H [1] = some (.cells [mutV f g.free.length, mutV b g.bound.length, mutV r g.room.length, .int .i64 g.most, .bool g.flashed] true 0)
 k : hget H [2] = some (.cells [.int .i64 s.ticks, .int .i64 s.heat, .lst (s.shut.map iV), .bool s.flash] true 0)
 z : hget H [3] = some (.cells [.nils, .nils, .nils, .int .i64 0, .bool false] true 0)
 g : GasAt H f b r g
theorem RAt.put {H : Heap} {f b r : Nm} {v : Vac} {g g' : Gs} {s : Bk} (h : RAt H f b r v g s) (ha : Apart3 f b r) (h1 : g.free ≠ []) (h2 : g.bound ≠ []) (l1 : g'.free.length = g.free.length) (l2 : g'.bound.length = g.bound.length) (l3 : g'.room.length = g.room.length) (e1 : g'.most = g.most) (e2 : g'.flashed = g.flashed) (n0 : ∀ i, i < 4 -> f ≠ [i] /\ b ≠ [i] /\ r ≠ [i]) : RAt (gasPut f b r g' H) f b r v g' s := by
 have q : ∀ i, i < 4 -> hget (gasPut f b r g' H) [i] = hget H [i] := fun i hi => Zdj (n0 i hi).1 (n0 i hi).2.1 (fun _ => (n0 i hi).2.2)
 exact ⟨(q 0 (by omega)).trans h.v, by rw [l1, l2, l3, e1, e2]; exact (q 1 (by omega)).trans h.c, (q 2 (by omega)).trans h.k, (q 3 (by omega)).trans h.z, Zdi h.g ha h1 h2 l3⟩
end Go.Proofs.Ytgnpnfkncbnjnaa
namespace Go.Proofs.Ytgnpnfkncbnjnaa
open Go Go.Am
attribute [local congr] Z8 Z5 Z7
end Go.Proofs.Ytgnpnfkncbnjnaa
namespace Go.Proofs.Ytgnpnfkncbnjnaa
attribute [local go_sem_proc] Int.reduceEq Int.reduceNeg Nat.reduceEqDiff Nat.reduceLT Nat.reduceAdd Nat.reduceSub Nat.reduceMul Int.reduceLE Int.reduceLT Int.reduceToNat Nat.reduceLeDiff
attribute [local go_sem] Int.toNat_natCast Bool.not_true Bool.not_false
open Go Go.Am
attribute [local congr] Z8 Z5 Z7
structure StgG (k : Int) (q : Nat) (s : Bk) : Prop where
 t : 0 <= s.ticks /\ s.ticks <= k
 h : 0 <= s.heat /\ s.heat < 900
 n : s.shut.length <= q
 o : s.shut.Pairwise (· < ·)
 s : ∀ x ∈ s.shut, 0 <= x /\ x < q
def Asc (n : Int) (l : List Int) : Prop := (∀ x ∈ l, 0 <= x /\ x < n) /\ l.Pairwise (· < ·)
theorem Zfa {n n' : Int} {l : List Int} (h : Asc n l) (hn : n <= n') : Asc n' l := ⟨fun x hx => by have := h.1 x hx; omega, h.2⟩
theorem Zfb {n n' : Int} {l : List Int} (h : Asc n l) (h0 : 0 <= n) (hn : n < n') : Asc n' (l ++ [n]) := by
 refine ⟨fun x hx => ?_, List.pairwise_append.2 ⟨h.2, List.pairwise_singleton .., fun a ha b hb => ?_⟩⟩
 ·rcases List.mem_append.1 hx with hx | hx
  ·have := h.1 x hx; omega
  ·rw [List.mem_singleton] at hx; omega
 ·rw [List.mem_singleton] at hb; have := h.1 a ha; omega
theorem bs22 (f : FuncId) (a : Int) (s : St) : buildSliceA (cfg.at f) true 22 1 [(0, .int .i64 a)] s = .ret (.lst [.int .i64 a], s) := by
 simp -implicitDefEqProofs only [go_sem, Go.Am.buildSliceA]
theorem Z7l (v : Vac) (hp : v.pipes.length <= 1000000) (k : Int) (hk : 0 <= k /\ k <= 1000000) (w : Int) (u : Nat) (K : Nat) (hK : v.pipes.length + 20 < K) :
  ∃ s w', StgG k v.pipes.length s /\ ∀ (b : Nm) (st : St), hget st.H b = some (.cells [.int .u64 w] true u) -> acall cfg (K + 10) 24 [.ptr b 0, vacV v, .int .i64 k] st = .ret (bkV s, st.put b (.cells [.int .u64 w'] true u)) := by
 have key : ∃ s w', StgG k v.pipes.length s /\ (bodyA (cfg.at 24) (acall cfg (K + 9)) (around cfg (K + 9)) (K + 9 + 1) Try.f24 [.ptr [0] 0, vacV v, .int .i64 k] ⟨[([0], .cells [.int .u64 w] true u)], 1, [], false, []⟩).Does fun x => x.1.shut = bkV s /\ hget x.2.H [0] = some (.cells [.int .u64 w'] true u) := by
  suffices h : (bodyA (cfg.at 24) (acall cfg (K + 9)) (around cfg (K + 9)) (K + 9 + 1) Try.f24 [.ptr [0] 0, vacV v, .int .i64 k] ⟨[([0], .cells [.int .u64 w] true u)], 1, [], false, []⟩).Does fun x => ∃ s w', StgG k v.pipes.length s /\ x.1.shut = bkV s /\ hget x.2.H [0] = some (.cells [.int .u64 w'] true u) by
   obtain ⟨x, e, s, w', h1, h2, h3⟩ := h
   exact ⟨s, w', h1, x, e, h2, h3⟩
  refine Za rfl fun T hT' hA => ?_
  have a0 := hA 0 _ rfl
  have a1 := hA 1 _ rfl
  have a2 := hA 2 _ rfl
  have hT : T.length = 34 := hT'
  clear hA hT'
  have hk1 : wrapF .i64 (k + 1) = k + 1 := Z6 (by omega) (by omega)
  have ut1 := fun H m jr j hd => Js (H := H) (m := m) (u := u) (p := []) (jr := jr) (j := j) (k + 1) (K + 7) hd (by omega)
  have ut2 := fun H m jr j hd => Js (H := H) (m := m) (u := u) (p := []) (jr := jr) (j := j) 900 (K + 7) hd (by decide)
  have ot := fun H m jr j hd => Zih (H := H) (m := m) (u := u) (p := []) (jr := jr) (j := j) 4 (K + 6) hd (by decide)
  have d0 : isD u [([0], .cells [.int .u64 w] true u)] := ⟨w, rfl⟩
  simp -implicitDefEqProofs (maxDischargeDepth := 9) only [go_sem, Zda, Z64, Xr, Z1p, a0, a1, a2, hT, hk1, ut1, ut2, ot, d0]
  have r1 := Zw w (k + 1) (by omega)
  have r2 := Zw (nextW w) 900 (by decide)
  generalize uptoN w (k + 1) = tk at *
  generalize uptoN (nextW w) 900 = ht at *
  generalize oneB (nextW (nextW w)) 4 = fl at *
  generalize nextW (nextW (nextW w)) = w1 at *
  clear ut1 ut2 ot d0 hk1
  simp only [Z2]
  refine Zm (fun l T s' => T.length = 34 /\ nth T 0 = some (.ptr [0] 0) /\ nth T 4 = some (.ptr [1] 0) /\ nth T 6 = some (.ptr [2] 0) /\ nth T 7 = some (.ptr [3] 0) /\ ∃ (i m c : Nat) (H : Heap) (row : List Int), nth T 8 = some (.int .i64 i) /\ i <= v.pipes.length /\ l = v.pipes.length - i /\ s' = ⟨H, m + 4, [], false, []⟩ /\ isD u H /\ hget H [1] = some (vacC v) /\ hget H [2] = some (.cells [.int .i64 0, .int .i64 0, .nils, .bool false] true 0) /\ hget H [3] = some (.cells [.int .i64 tk, .int .i64 ht, ownV [c + 4] (row.map iV), .bool fl] true 0) /\ (row.map iV ≠ [] -> c < m /\ hget H [c + 4] = some (.tok row.length 1)) /\ row.length <= i /\ Asc i row) (k := v.pipes.length) (by omega) ?_ ?_
  ·exact ⟨by simp -implicitDefEqProofs only [go_sem, hT], by simp -implicitDefEqProofs only [go_sem, a0], by simp -implicitDefEqProofs only [go_sem, hT], by simp -implicitDefEqProofs only [go_sem, hT], by simp -implicitDefEqProofs only [go_sem, hT], 0, 0, 0, _, [], by simp -implicitDefEqProofs only [go_sem, hT] <;> rfl, by omega, rfl, rfl, ⟨_, rfl⟩, rfl, rfl, rfl, fun e => absurd rfl e, Nat.le_refl _, (fun x hx => nomatch hx), List.Pairwise.nil⟩
  clear a0 a1 a2 hT T
  rintro l T s' ⟨hT, a0, a4, a6, a7, i, m, c, H, row, a8, hi, rfl, rfl, hd, g1, g2, g3, gt, hrl, hrx⟩
  unfold vacC at g1
  simp -implicitDefEqProofs only [go_sem, a4, a8, hT, g1]
  by_cases hil : (i : Int) < (v.pipes.length : Int)
  ·have hi' : i < v.pipes.length := by omega
   have hkk : v.pipes.length - (i + 1) < v.pipes.length - i := by omega
   have ot := Zih (H := H) (m := m + 4) (u := u) (p := []) (jr := false) (j := []) 4 (K + 6) hd (by decide)
   generalize oneB (dW H) 4 = ob at *
   generalize nextW (dW H) = w2 at *
   have hd2 : isD u (hset H [0] (.cells [.int .u64 w2] true u)) := Yp hd
   have q1 : hget (hset H [0] (.cells [.int .u64 w2] true u)) [1] = hget H [1] := hs11 (by decide)
   have q2 : hget (hset H [0] (.cells [.int .u64 w2] true u)) [2] = hget H [2] := hs11 (by decide)
   have q3 : hget (hset H [0] (.cells [.int .u64 w2] true u)) [3] = hget H [3] := hs11 (by decide)
   have qt : ∀ c, hget (hset H [0] (.cells [.int .u64 w2] true u)) [c + 4] = hget H [c + 4] := fun c => hs11 (by omega)
   rw [g1] at q1
   rw [g2] at q2
   rw [g3] at q3
   have qt' : row.map iV ≠ [] -> c < m /\ hget (hset H [0] (.cells [.int .u64 w2] true u)) [c + 4] = some (.tok row.length 1) := fun e => ⟨(gt e).1, (qt c).trans (gt e).2⟩
   generalize hset H [0] (.cells [.int .u64 w2] true u) = H1 at *
   clear hd g1 g2 g3 gt qt
   have hroom : (row.length + 1) * 8 <= 140737488355328 := by omega
   have hrl2 : row.length <= i + 1 := by omega
   have hw1 : wrapF .i64 ((i : Int) + 1) = ((i + 1 : Nat) : Int) := Z6 (by omega) (by omega)
   have bs := fun a s => bs22 24 a s
   cases ob with
   | false =>
    simp -implicitDefEqProofs only [go_sem, a0, a4, a6, a7, a8, hT, hil, ot, hw1]
    exact ⟨v.pipes.length - (i + 1), hkk, trivial, trivial, trivial, trivial, trivial, i + 1, m, c, H1, row, rfl, hi', rfl, rfl, hd2, q1, q2, q3, qt', hrl2, Zfa hrx (by clear hw1; omega)⟩
   | true =>
    have hap := Yt (C := cfg.at 24) (sT := 22) (b := [c + 4]) (l := row.map iV) (x := iV i) (H := H1) (n := m + 4) (p := []) (jr := false) (j := []) (z := 1) Zkk Znm rfl rfl rfl rfl rfl rfl (by rw [List.length_map]; exact hroom) (fun hx => by rw [List.length_map]; exact (qt' hx).2)
    have hown : ∀ b, ownV b (row.map iV ++ [iV i]) = .own b (row.map iV ++ [iV i]) := fun b => by cases row.map iV <;> rfl
    have hrm : (row ++ [(i : Int)]).map iV = row.map iV ++ [iV i] := by simp
    simp only [List.nil_append, List.length_map] at hap
    rw [hown] at hap
    have x3 : hget (dropTok (row.map iV) [c + 4] H1) [3] = hget H1 [3] := Y1 _ _ (n11 (by clear hw1; omega))
    have x0 : hget (dropTok (row.map iV) [c + 4] H1) [0] = hget H1 [0] := Y1 _ _ (n11 (by clear hw1; omega))
    have x1 : hget (dropTok (row.map iV) [c + 4] H1) [1] = hget H1 [1] := Y1 _ _ (n11 (by clear hw1; omega))
    have x2 : hget (dropTok (row.map iV) [c + 4] H1) [2] = hget H1 [2] := Y1 _ _ (n11 (by clear hw1; omega))
    generalize dropTok (row.map iV) [c + 4] H1 = H2 at *
    rw [q3] at x3
    have k3 : ∀ q X, hget (([q + 4], X) :: H2) [3] = hget H2 [3] := fun q X => hc11 (by clear hw1; omega)
    simp only [iV] at hap
    simp -implicitDefEqProofs only [go_sem, a0, a4, a6, a7, a8, hT, hil, ot, bs, q3, hap, x3, k3, hw1]
    refine ⟨v.pipes.length - (i + 1), hkk, trivial, trivial, trivial, trivial, trivial, i + 1, m + 1, m, _, row ++ [(i : Int)], rfl, hi', rfl, rfl, ?_, ?_, ?_, ?_, fun _ => ⟨by omega, ?_⟩, ?_, ?_⟩
    all_goals clear hw1
    ·obtain ⟨w9, hw9⟩ := hd2
     exact ⟨w9, (hc11 (by omega)).trans ((hs11 (by decide)).trans (x0.trans hw9))⟩
    ·exact (hc11 (by omega)).trans ((hs11 (by decide)).trans (x1.trans q1))
    ·exact (hc11 (by omega)).trans ((hs11 (by decide)).trans (x2.trans q2))
    ·rw [hrm, hown]; exact (hc11 (by omega)).trans (hss x3)
    ·rw [List.length_append]; exact Z1 ..
    ·simp; omega
    ·exact Zfb hrx (by omega) (by omega)
  ·have e2 : ∀ Z, hget (hset H [2] Z) [2] = some Z := fun Z => hss g2
   have e0 : ∀ Z, hget (hset H [2] Z) [0] = hget H [0] := fun Z => hs11 (by decide)
   have hsh : ∀ b, (ownV b (row.map iV)).shut = .lst (row.map iV) := fun b => X8 b _
   simp -implicitDefEqProofs only [go_sem, a6, a7, hT, hil, g3, g2, e2, e0, hsh, Try.results24]
   exact ⟨⟨tk, ht, row, fl⟩, dW H, ⟨⟨r1.1, by show tk <= k; omega⟩, r2, by show row.length <= _; omega, hrx.2, fun x hx => by have := hrx.1 x hx; omega⟩, rfl, Jj hd⟩
 obtain ⟨s, w', hg, hd⟩ := key
 refine ⟨s, w', hg, fun b st hb => ?_⟩
 exact Z51 (v := bkV s) Zjq Zjp hb rfl (by simp only [vacV, renV, renVs, Jn, Jo, Jp, Jq, Jr]) rfl rfl rfl rfl (by rfl) (by simp only [bkV, renV, renVs, fl_i]) hd
end Go.Proofs.Ytgnpnfkncbnjnaa
namespace Go.Proofs.Ytgnpnfkncbnjnaa
open Go Go.Am
theorem Yd {r : Rg} {m : Int} : spansE r m = 0 ↔ RgG m r := by
 unfold spansE
 constructor
 ·intro h
  split at h
  ·exact absurd h (by decide)
  ·split at h
   ·exact absurd h (by decide)
   ·split at h
    ·exact absurd h (by decide)
    ·exact ⟨by omega, by omega, by omega⟩
 ·rintro ⟨h1, h2, h3⟩
  rw [if_neg (by omega), if_neg (by omega), if_neg (by omega)]
theorem Yf {n lo hi : Int} : fromB n lo hi = true ↔ lo <= n /\ n <= hi := by unfold fromB; rw [decide_eq_true_iff]
theorem Yi {α : Type} {f : α -> Int} : ∀ {l : List α}, firstE f l = 0 ↔ ∀ a ∈ l, f a = 0
 | [] => ⟨(fun _ _ h => nomatch h), fun _ => rfl⟩
 | a :: r => by
  unfold firstE
  by_cases h : f a = 0
  ·rw [if_pos h, Yi]; simp [h]
  ·rw [if_neg h]; simp [h]
theorem Z5a {n a most : Int} {r : Rg} : atE n a r most = 0 ↔ (0 <= a /\ a < n) /\ RgG most r := by
 unfold atE
 by_cases h : fromB a 0 (n - 1) = true
 ·rw [if_pos h, Yd]
  rw [Yf] at h
  constructor
  ·intro g; exact ⟨by omega, g⟩
  ·exact And.right
 ·rw [if_neg h]
  rw [Yf] at h
  constructor
  ·intro g; exact absurd g (by decide)
  ·rintro ⟨g, _⟩; exact absurd (show 0 <= a /\ a <= n - 1 by omega) h
structure PipB (n : Int) (p : Pip) : Prop where
 a : 0 <= p.a /\ p.a < n
 b : 0 <= p.b /\ p.b < n
 ab : p.a ≠ p.b
 out : RgG 1000000 p.out
 back : RgG 1000000 p.back
theorem Zdk {n : Int} {p : Pip} : pipE n p = 0 ↔ PipB n p := by
 unfold pipE
 by_cases h : fromB p.a 0 (n - 1) = true /\ fromB p.b 0 (n - 1) = true
 ·rw [if_pos h]
  rw [Yf, Yf] at h
  by_cases e : p.a = p.b
  ·rw [if_pos e]
   constructor
   ·intro g; exact absurd g (by decide)
   ·intro g; exact absurd e g.ab
  ·rw [if_neg e]
   by_cases g : spansE p.out 1000000 = 0
   ·rw [if_pos g, Yd]
    exact ⟨fun k => ⟨by omega, by omega, e, Yd.1 g, k⟩, fun k => k.back⟩
   ·rw [if_neg g]
    exact ⟨fun k => absurd k g, fun k => absurd (Yd.2 k.out) g⟩
 ·rw [if_neg h]
  constructor
  ·intro g; exact absurd g (by decide)
  ·intro g; exact absurd ⟨Yf.2 (by have := g.a; omega), Yf.2 (by have := g.b; omega)⟩ h
def BandsB : Bool -> Int -> List Rel -> Prop
 | _, _, [] => True
 | first, last, b :: r => (0 <= b.frm /\ b.frm <= 2000) /\ (first = false -> last < b.frm) /\ RgG 1000000 b.rate /\ BandsB false b.frm r
theorem Z7m : ∀ {l : List Rel} {i : Nat} {last : Int}, bandsE i last l = 0 ↔ BandsB (decide (i = 0)) last l
 | [], _, _ => ⟨fun _ => trivial, fun _ => rfl⟩
 | b :: r, i, last => by
  unfold bandsE BandsB
  by_cases h : fromB b.frm 0 2000 = true
  ·rw [if_pos h]
   rw [Yf] at h
   by_cases e : 0 < i /\ b.frm <= last
   ·rw [if_pos e]
    constructor
    ·intro g; exact absurd g (by decide)
    ·rintro ⟨_, g, _⟩
     have := g (by simp; omega)
     omega
   ·rw [if_neg e]
    by_cases g : spansE b.rate 1000000 = 0
    ·rw [if_pos g, Z7m]
     rw [show decide (i + 1 = 0) = false by simp]
     constructor
     ·intro k; exact ⟨h, fun q => by simp at q; omega, Yd.1 g, k⟩
     ·rintro ⟨_, _, _, k⟩; exact k
    ·rw [if_neg g]
     constructor
     ·intro k; exact absurd k g
     ·rintro ⟨_, _, k, _⟩; exact absurd (Yd.2 k) g
  ·rw [if_neg h]
   constructor
   ·intro g; exact absurd g (by decide)
   ·rintro ⟨k, _⟩; exact absurd (Yf.2 k) h
structure VesB (x : Ves) : Prop where
 vol : 1 <= x.vol /\ x.vol <= 1000000
 free : RgG 1000000000 x.free
 bound : RgG 1000000000 x.bound
 len : x.bands.length <= 8
 bands : BandsB true 0 x.bands
theorem Zdl {x : Ves} : vesE x = 0 ↔ VesB x := by
 unfold vesE
 by_cases h : fromB x.vol 1 1000000 = true
 ·rw [if_pos h]
  rw [Yf] at h
  by_cases h1 : spansE x.free 1000000000 = 0
  ·rw [if_pos h1]
   by_cases h2 : spansE x.bound 1000000000 = 0
   ·rw [if_pos h2]
    by_cases h3 : 8 < x.bands.length
    ·rw [if_pos h3]
     constructor
     ·intro g; exact absurd g (by decide)
     ·intro g; have := g.len; omega
    ·rw [if_neg h3, Z7m]
     exact ⟨fun g => ⟨h, Yd.1 h1, Yd.1 h2, by omega, g⟩, fun g => g.bands⟩
   ·rw [if_neg h2]
    exact ⟨fun g => absurd g h2, fun g => absurd (Yd.2 g.bound) h2⟩
  ·rw [if_neg h1]
   exact ⟨fun g => absurd g h1, fun g => absurd (Yd.2 g.free) h1⟩
 ·rw [if_neg h]
  constructor
  ·intro g; exact absurd g (by decide)
  ·intro g; exact absurd (Yf.2 g.vol) h
def sumI {α : Type} (f : α -> Int) : List α -> Int
 | [] => 0
 | a :: r => f a + sumI f r
theorem Zi {α : Type} (f : α -> Int) (a : α) (r : List α) : sumI f (a :: r) = f a + sumI f r := rfl
theorem Xi {α : Type} (f : α -> Int) : sumI f [] = 0 := rfl
theorem Xs {α : Type} {f : α -> Int} : ∀ {l : List α}, (∀ a ∈ l, 0 <= f a) -> 0 <= sumI f l
 | [], _ => Int.le_refl _
 | a :: r, h => by have := Xs (l := r) fun b hb => h b (List.mem_cons_of_mem _ hb); have := h a List.mem_cons_self; simp only [Zi]; omega
theorem Jl {α : Type} {f g : α -> Int} : ∀ {l : List α}, (∀ a ∈ l, f a <= g a) -> sumI f l <= sumI g l
 | [], _ => Int.le_refl _
 | a :: r, h => by have := Jl (l := r) fun b hb => h b (List.mem_cons_of_mem _ hb); have := h a List.mem_cons_self; simp only [Zi]; omega
theorem J8 {α : Type} {f : α -> Int} {q : Int} : ∀ {l : List α}, (∀ a ∈ l, f a <= q) -> sumI f l <= q * l.length
 | [], _ => by simp [sumI]
 | a :: r, h => by
  have h1 := J8 (l := r) fun b hb => h b (List.mem_cons_of_mem _ hb)
  have h2 := h a List.mem_cons_self
  rw [Zi, List.length_cons, Int.natCast_add, Int.mul_add]; simp only [Int.natCast_one, Int.mul_one]; omega
theorem Yz {α : Type} (f g : α -> Int) : ∀ l : List α, sumI (fun a => f a + g a) l = sumI f l + sumI g l
 | [] => rfl
 | a :: r => by simp only [Zi]; rw [Yz f g r]; omega
theorem Z1s {α : Type} (f : α -> Int) (q : Int) : ∀ l : List α, sumI (fun a => q * f a) l = q * sumI f l
 | [] => by simp [sumI]
 | a :: r => by simp only [Zi]; rw [Z1s f q r, Int.mul_add]
theorem Z43 {α : Type} : ∀ l : List α, sumI (fun _ => 0) l = 0
 | [] => rfl
 | a :: r => by simp only [Zi]; rw [Z43 r]; rfl
theorem Jm {α : Type} (f : α -> Int) : ∀ l r : List α, sumI f (l ++ r) = sumI f l + sumI f r
 | [], r => by simp [sumI]
 | a :: l, r => by rw [List.cons_append]; simp only [Zi]; rw [Jm f l r]; omega
theorem Z2v {α β : Type} (f : β -> Int) (g : α -> β) : ∀ l : List α, sumI f (l.map g) = sumI (fun a => f (g a)) l
 | [] => rfl
 | a :: l => by rw [List.map_cons]; simp only [Zi]; rw [Z2v f g l]
theorem Zx {α : Type} {f g : α -> Int} : ∀ {l : List α}, (∀ a ∈ l, f a = g a) -> sumI f l = sumI g l
 | [], _ => rfl
 | a :: r, h => by simp only [Zi]; rw [Zx (l := r) fun b hb => h b (List.mem_cons_of_mem _ hb), h a List.mem_cons_self]
theorem Z0b {α β : Type} (f : α -> β -> Int) : ∀ (l : List α) (r : List β), sumI (fun a => sumI (f a) r) l = sumI (fun b => sumI (fun a => f a b) l) r
 | [], r => by show 0 = sumI (fun _ => 0) r; rw [Z43]
 | a :: l, r => by
  show sumI (f a) r + sumI (fun a => sumI (f a) r) l = sumI (fun b => f a b + sumI (fun a => f a b) l) r
  rw [Yz, Z0b f l r]
def openP (shut : List Int) : Nat -> List Pip -> List Pip
 | _, [] => []
 | k, p :: r => if (k : Int) ∈ shut then openP shut (k + 1) r else p :: openP shut (k + 1) r
theorem J9 {shut : List Int} : ∀ {k : Nat} {l : List Pip} {p : Pip}, p ∈ openP shut k l -> p ∈ l
 | k, [], p, h => h
 | k, q :: r, p, h => by
  unfold openP at h
  split at h
  ·exact List.mem_cons_of_mem _ (J9 h)
  ·rcases List.mem_cons.1 h with rfl | h
   ·exact List.mem_cons_self
   ·exact List.mem_cons_of_mem _ (J9 h)
theorem Z44 {shut : List Int} : ∀ (k : Nat) (l : List Pip), (openP shut k l).length <= l.length
 | k, [] => Nat.le_refl _
 | k, q :: r => by
  unfold openP
  have := Z44 (shut := shut) (k + 1) r
  split
  ·rw [List.length_cons]; omega
  ·rw [List.length_cons, List.length_cons]; omega
theorem Z45 : ∀ (k : Nat) (l : List Pip), openP [] k l = l
 | k, [] => rfl
 | k, q :: r => by unfold openP; rw [if_neg (by simp), Z45]
theorem Z7n {shut : List Int} {f : Pip -> Int} : ∀ {k : Nat} {l : List Pip}, (∀ p ∈ l, 0 <= f p) -> sumI f (openP shut k l) <= sumI f l
 | k, [], _ => Int.le_refl _
 | k, q :: r, h => by
  have h1 := Z7n (shut := shut) (k := k + 1) (l := r) fun b hb => h b (List.mem_cons_of_mem _ hb)
  have h2 := h q List.mem_cons_self
  unfold openP
  split
  ·simp only [Zi]; omega
  ·simp only [Zi]; omega
def pLo (x : Int) (p : Pip) : Int := (if p.a = x then p.out.lo else 0) + (if p.b = x then p.back.lo else 0)
def pHi (x : Int) (p : Pip) : Int := (if p.a = x then p.out.hi else 0) + (if p.b = x then p.back.hi else 0)
def mLo (x : Int) (p : Pmp) : Int := if p.at' = x then p.part.lo else 0
def mHi (x : Int) (p : Pmp) : Int := if p.at' = x then p.part.hi else 0
theorem pb {n : Int} {p : Pip} (h : PipB n p) (x : Int) : 0 <= pLo x p /\ pLo x p <= pHi x p /\ pHi x p <= 2000000 := by
 have := h.out; have := h.back
 obtain ⟨a1, a2, a3⟩ := h.out
 obtain ⟨b1, b2, b3⟩ := h.back
 unfold pLo pHi
 split <;> split <;> omega
theorem mb {p : Pmp} (h : RgG 1000000 p.part) (x : Int) : 0 <= mLo x p /\ mLo x p <= mHi x p /\ mHi x p <= 1000000 := by
 obtain ⟨a1, a2, a3⟩ := h
 unfold mLo mHi
 split <;> omega
theorem Xx {a b : Rg} (h1 : 0 <= a.lo) (h2 : 0 <= a.hi) (h3 : 0 <= b.lo) (h4 : 0 <= b.hi) (h5 : a.lo + b.lo <= 9223372036854775807) (h6 : a.hi + b.hi <= 9223372036854775807) : plusR a b = ⟨a.lo + b.lo, a.hi + b.hi⟩ := by
 unfold plusR
 rw [Z6 (by omega) h5, Z6 (by omega) h6]
theorem Z2b {n x : Int} {shut : List Int} : ∀ {l : List Pip} {k : Nat} {acc : Rg}, (∀ p ∈ l, PipB n p) -> 0 <= acc.lo -> acc.lo <= acc.hi -> acc.hi + 2000000 * l.length <= 1000000000000 -> outP x shut k acc l = ⟨acc.lo + sumI (pLo x) (openP shut k l), acc.hi + sumI (pHi x) (openP shut k l)⟩
 | [], k, acc, _, _, _, _ => by simp [outP, openP, sumI]
 | p :: r, k, acc, h, h1, h2, h3 => by
  have hr : ∀ q ∈ r, PipB n q := fun q hq => h q (List.mem_cons_of_mem _ hq)
  have hp := h p List.mem_cons_self
  obtain ⟨a1, a2, a3⟩ := hp.out
  obtain ⟨b1, b2, b3⟩ := hp.back
  rw [List.length_cons, Int.natCast_add] at h3
  simp only [Int.natCast_one] at h3
  unfold outP openP
  by_cases c : (k : Int) ∈ shut
  ·rw [if_pos c, if_pos c]
   exact Z2b hr h1 h2 (by omega)
  ·rw [if_neg c, if_neg c]
   have e1 : plusR acc p.out = ⟨acc.lo + p.out.lo, acc.hi + p.out.hi⟩ := Xx h1 (by omega) a1 (by omega) (by omega) (by omega)
   by_cases c1 : p.a = x
   ·by_cases c2 : p.b = x
    ·rw [if_pos c2, if_pos c1, e1]
     rw [Xx (by show 0 <= acc.lo + p.out.lo; omega) (by show 0 <= acc.hi + p.out.hi; omega) b1 (by omega) (by show acc.lo + p.out.lo + _ <= _; omega) (by show acc.hi + p.out.hi + _ <= _; omega)]
     rw [Z2b hr (by show 0 <= acc.lo + p.out.lo + p.back.lo; omega) (by show acc.lo + p.out.lo + p.back.lo <= acc.hi + p.out.hi + p.back.hi; omega) (by show acc.hi + p.out.hi + p.back.hi + _ <= _; omega)]
     simp only [Zi, pLo, pHi]
     rw [if_pos c1, if_pos c2, if_pos c1, if_pos c2]
     congr 1 <;> (try simp only) <;> omega
    ·rw [if_neg c2, if_pos c1, e1]
     rw [Z2b hr (by show 0 <= acc.lo + p.out.lo; omega) (by show acc.lo + p.out.lo <= acc.hi + p.out.hi; omega) (by show acc.hi + p.out.hi + _ <= _; omega)]
     simp only [Zi, pLo, pHi]
     rw [if_pos c1, if_neg c2, if_pos c1, if_neg c2]
     congr 1 <;> (try simp only) <;> omega
   ·by_cases c2 : p.b = x
    ·rw [if_pos c2, if_neg c1]
     rw [Xx h1 (by omega) b1 (by omega) (by omega) (by omega)]
     rw [Z2b hr (by show 0 <= acc.lo + p.back.lo; omega) (by show acc.lo + p.back.lo <= acc.hi + p.back.hi; omega) (by show acc.hi + p.back.hi + _ <= _; omega)]
     simp only [Zi, pLo, pHi]
     rw [if_neg c1, if_pos c2, if_neg c1, if_pos c2]
     congr 1 <;> (try simp only) <;> omega
    ·rw [if_neg c2, if_neg c1]
     rw [Z2b hr h1 h2 (by omega)]
     simp only [Zi, pLo, pHi]
     rw [if_neg c1, if_neg c2, if_neg c1, if_neg c2]
     congr 1 <;> (try simp only) <;> omega
theorem Z8t {x : Int} : ∀ {l : List Pmp} {acc : Rg}, (∀ p ∈ l, RgG 1000000 p.part) -> 0 <= acc.lo -> acc.lo <= acc.hi -> acc.hi + 1000000 * l.length <= 1000000000000 -> outM x acc l = ⟨acc.lo + sumI (mLo x) l, acc.hi + sumI (mHi x) l⟩
 | [], acc, _, _, _, _ => by simp [outM, sumI]
 | p :: r, acc, h, h1, h2, h3 => by
  have hr : ∀ q ∈ r, RgG 1000000 q.part := fun q hq => h q (List.mem_cons_of_mem _ hq)
  obtain ⟨a1, a2, a3⟩ := h p List.mem_cons_self
  rw [List.length_cons, Int.natCast_add] at h3
  simp only [Int.natCast_one] at h3
  unfold outM
  by_cases c1 : p.at' = x
  ·rw [if_pos c1, Xx h1 (by omega) a1 (by omega) (by omega) (by omega)]
   rw [Z8t hr (by show 0 <= acc.lo + p.part.lo; omega) (by show acc.lo + p.part.lo <= acc.hi + p.part.hi; omega) (by show acc.hi + p.part.hi + _ <= _; omega)]
   simp only [Zi, mLo, mHi]
   rw [if_pos c1, if_pos c1]
   congr 1 <;> (try simp only) <;> omega
  ·rw [if_neg c1]
   rw [Z8t hr h1 h2 (by omega)]
   simp only [Zi, mLo, mHi]
   rw [if_neg c1, if_neg c1]
   congr 1 <;> (try simp only) <;> omega
def outLo (v : Vac) (x : Int) (ps : List Pip) : Int := sumI (pLo x) ps + sumI (mLo x) v.pumps
def outHi (v : Vac) (x : Int) (ps : List Pip) : Int := sumI (pHi x) ps + sumI (mHi x) v.pumps
structure VB (v : Vac) : Prop where
 n1 : 1 <= v.vessels.length
 n8 : v.vessels.length <= 8
 p16 : v.pipes.length <= 16
 m8 : v.pumps.length <= 8
 l8 : v.leaks.length <= 8
 g8 : v.getters.length <= 8
 ves : ∀ x ∈ v.vessels, VesB x
 pip : ∀ p ∈ v.pipes, PipB v.vessels.length p
 pmp : ∀ q ∈ v.pumps, (0 <= q.at' /\ q.at' < v.vessels.length) /\ RgG 1000000 q.part
 inl : ∀ q ∈ v.leaks, (0 <= q.at' /\ q.at' < v.vessels.length) /\ RgG 100000 q.gas
 gtr : ∀ q ∈ v.getters, ((0 <= q.at' /\ q.at' < v.vessels.length) /\ RgG 1000000 q.part) /\ RgG 1000000000 q.room
 out : ∀ i : Nat, i < v.vessels.length -> outHi v i v.pipes <= 1000000
theorem Zdm {v : Vac} {n x : Int} {shut : List Int} (h1 : ∀ p ∈ v.pipes, PipB n p) (h2 : ∀ q ∈ v.pumps, RgG 1000000 q.part) (h3 : v.pipes.length <= 16) (h4 : v.pumps.length <= 8) : outR v x shut = ⟨outLo v x (openP shut 0 v.pipes), outHi v x (openP shut 0 v.pipes)⟩ := by
 unfold outR
 have hm : ∀ p ∈ openP shut 0 v.pipes, PipB n p := fun p hp => h1 p (J9 hp)
 have b1 : 0 <= sumI (pLo x) (openP shut 0 v.pipes) := Xs fun p hp => (pb (hm p hp) x).1
 have b2 : sumI (pLo x) (openP shut 0 v.pipes) <= sumI (pHi x) (openP shut 0 v.pipes) := Jl fun p hp => (pb (hm p hp) x).2.1
 have b3 : sumI (pHi x) (openP shut 0 v.pipes) <= 2000000 * (openP shut 0 v.pipes).length := J8 fun p hp => (pb (hm p hp) x).2.2
 have b4 := Z44 (shut := shut) 0 v.pipes
 rw [Z2b h1 (Int.le_refl _) (Int.le_refl _) (by show 0 + _ <= _; omega)]
 rw [Z8t h2 (by show 0 <= 0 + _; omega) (by show 0 + _ <= 0 + _; omega) (by show 0 + _ + _ <= _; omega)]
 unfold outLo outHi
 congr 1 <;> (try simp only) <;> omega
theorem VB.outR_eq {v : Vac} (h : VB v) (x : Int) (shut : List Int) : outR v x shut = ⟨outLo v x (openP shut 0 v.pipes), outHi v x (openP shut 0 v.pipes)⟩ :=
 Zdm h.pip (fun q hq => (h.pmp q hq).2) h.p16 h.m8
theorem Z2c {v : Vac} : ∀ {k i : Nat}, outB v i k = false ↔ ∀ j : Nat, i <= j -> j < i + k -> (outR v j []).hi <= 1000000
 | 0, i => ⟨fun _ j h1 h2 => absurd h2 (by omega), fun _ => rfl⟩
 | k + 1, i => by
  unfold outB
  rw [Bool.or_eq_false_iff, Z2c]
  constructor
  ·rintro ⟨h1, h2⟩ j h3 h4
   rw [decide_eq_false_iff_not] at h1
   by_cases e : j = i
   ·subst e; omega
   ·exact h2 j (by omega) (by omega)
  ·intro h
   exact ⟨by rw [decide_eq_false_iff_not]; have := h i (Nat.le_refl _) (by omega); omega, fun j h1 h2 => h j (by omega) (by omega)⟩
theorem Z7o {v : Vac} : checkE v = 0 ↔ VB v := by
 constructor
 ·intro h
  obtain ⟨h1, h2, h3, h4, h5, h6⟩ := Z9s h
  unfold checkE at h
  rw [if_neg (by omega)] at h
  split at h
  ·exact absurd h (by decide)
  ·split at h
   ·rename_i g1
    split at h
    ·rename_i g2
     unfold partsE at g2
     split at g2
     ·rename_i p1
      split at g2
      ·rename_i p2
       split at g2
       ·rename_i p3
        have q1 := fun p hp => Zdk.1 (Yi.1 p1 p hp)
        have q2 := fun p hp => Z5a.1 (Yi.1 p2 p hp)
        have q3 := fun p hp => Z5a.1 (Yi.1 p3 p hp)
        have q4 : ∀ p ∈ v.getters, ((0 <= p.at' /\ p.at' < v.vessels.length) /\ RgG 1000000 p.part) /\ RgG 1000000000 p.room := fun p hp => by
         have := Yi.1 g2 p hp
         unfold getE at this
         split at this
         ·rename_i k1; exact ⟨Z5a.1 k1, Yd.1 this⟩
         ·rename_i k1; exact absurd this k1
        refine ⟨h1, h2, h3, h4, h5, h6, fun x hx => Zdl.1 (Yi.1 g1 x hx), q1, q2, q3, q4, fun i hi => ?_⟩
        split at h
        ·exact absurd h (by decide)
        ·rename_i k1
         have k2 := Z2c.1 (Bool.not_eq_true _ ▸ k1) i (Nat.zero_le _) (by omega)
         rw [Zdm q1 (fun q hq => (q2 q hq).2) h3 h4, Z45] at k2
         exact k2
       ·rename_i p3; exact absurd g2 p3
      ·rename_i p2; exact absurd g2 p2
     ·rename_i p1; exact absurd g2 p1
    ·rename_i g2; exact absurd h g2
   ·rename_i g1; exact absurd h g1
 ·intro h
  have h0 := h.n1; have h1 := h.n8; have h2 := h.p16; have h3 := h.m8; have h4 := h.l8; have h5 := h.g8
  unfold checkE
  rw [if_neg (by omega), if_neg (by unfold overB; simp only [Bool.or_eq_true, decide_eq_true_eq]; omega), if_pos (Yi.2 fun x hx => Zdl.2 (h.ves x hx))]
  have hp : partsE v = 0 := by
   unfold partsE
   rw [if_pos (Yi.2 fun p hp => Zdk.2 (h.pip p hp)), if_pos (Yi.2 fun p hp => Z5a.2 (h.pmp p hp)), if_pos (Yi.2 fun p hp => Z5a.2 (h.inl p hp))]
   refine Yi.2 fun p hp => ?_
   unfold getE
   rw [if_pos (Z5a.2 (h.gtr p hp).1)]
   exact Yd.2 (h.gtr p hp).2
  rw [if_pos hp, if_neg]
  rw [Bool.not_eq_true]
  refine Z2c.2 fun j _ hj => ?_
  rw [h.outR_eq, Z45]
  exact h.out j (by omega)
theorem Z7p {k : Int} (hk : k <= 2001) : ∀ {l : List Rel} {first : Bool} {last : Int}, BandsG k l -> (first = false -> ∀ b ∈ l, last < b.frm) -> BandsB first last l
 | [], _, _, _, _ => trivial
 | b :: r, first, last, ⟨g1, g2, g3, g4, g5⟩, h => ⟨⟨g1, by omega⟩, fun e => h e b List.mem_cons_self, ⟨g4.lo, g4.le, by have := g4.hi; omega⟩, Z7p hk g5 fun _ b hb => g3 b hb⟩
theorem Zb7 {v : Vac} (h : VacG v) : VB v := by
 have hq : ∀ p ∈ v.pipes, PipB v.vessels.length p := fun p hp => by
  have := h.pip p hp
  exact ⟨this.a, this.b, this.ab, ⟨this.out.lo, this.out.le, by have := this.out.hi; omega⟩, ⟨this.back.lo, this.back.le, by have := this.back.hi; omega⟩⟩
 have hm : ∀ p ∈ v.pumps, (0 <= p.at' /\ p.at' < v.vessels.length) /\ RgG 1000000 p.part := fun p hp => by
  have := h.pmp p hp
  exact ⟨this.at', ⟨this.part.lo, this.part.le, by have := this.part.hi; omega⟩⟩
 refine ⟨h.n1, by have := h.n4; omega, by have := h.np; omega, by have := h.nm; omega, by have := h.nl; omega, by have := h.ng; omega, fun x hx => ?_, hq, hm, fun p hp => ?_, fun p hp => ?_, fun i hi => ?_⟩
 ·have := h.ves x hx
  exact ⟨by have := this.vol; omega, ⟨this.free.lo, this.free.le, by have := this.free.hi; omega⟩, ⟨this.bound.lo, this.bound.le, by have := this.bound.hi; omega⟩, by have := this.len; omega, Z7p (by decide) this.bands fun e => by cases e⟩
 ·have := h.inl p hp
  exact ⟨this.at', ⟨this.gas.lo, this.gas.le, by have := this.gas.hi; omega⟩⟩
 ·have := h.gtr p hp
  exact ⟨⟨this.at', ⟨this.part.lo, this.part.le, by have := this.part.hi; omega⟩⟩, ⟨this.room.lo, this.room.le, by have := this.room.hi; omega⟩⟩
 ·have h1 : sumI (pHi i) v.pipes <= 120000 * v.pipes.length := J8 fun p hp => by
   have := h.pip p hp
   have a1 := this.out.hi
   have a2 := this.back.hi
   have a3 := this.out.lo; have a4 := this.out.le; have a5 := this.back.lo; have a6 := this.back.le
   have a7 := this.ab
   unfold pHi
   split
   ·rw [if_neg (by omega)]; omega
   ·split <;> omega
  have h2 : sumI (mHi i) v.pumps <= 200000 * v.pumps.length := J8 fun p hp => by
   have := (h.pmp p hp).part.hi
   have := (h.pmp p hp).part.lo
   have := (h.pmp p hp).part.le
   unfold mHi
   split <;> omega
  have := h.np
  have := h.nm
  unfold outHi
  omega
end Go.Proofs.Ytgnpnfkncbnjnaa
namespace Go.Proofs.Ytgnpnfkncbnjnaa
open Go Go.Am
def dn (n q : Int) : Int := n * q / 1000000
def ups (n q : Int) : Int := (n * q + 999999) / 1000000
theorem Z7q {n q N : Int} (h0 : 0 <= n) (h1 : n <= N) (q0 : 0 <= q) (q1 : q <= 1000000) : 0 <= n * q /\ n * q <= N * 1000000 :=
 ⟨Int.mul_nonneg h0 q0, Int.mul_le_mul h1 q1 q0 (by omega)⟩
theorem Z5b {n q : Int} (h0 : 0 <= n) (q0 : 0 <= q) (q1 : q <= 1000000) : 0 <= n * q /\ n * q <= n * 1000000 := Z7q h0 (Int.le_refl _) q0 q1
theorem Zb8 {n q : Int} (h0 : 0 <= n) (q0 : 0 <= q) (q1 : q <= 1000000) : 0 <= dn n q /\ dn n q <= n := by
 have := Z5b h0 q0 q1
 unfold dn
 omega
theorem Z7r {n q : Int} (h0 : 0 <= n) (q0 : 0 <= q) (q1 : q <= 1000000) : 0 <= ups n q /\ ups n q <= n := by
 have := Z5b h0 q0 q1
 unfold ups
 omega
theorem Z9z {n n' q q' : Int} (h0 : 0 <= n) (h1 : n <= n') (q0 : 0 <= q) (q1 : q <= q') : dn n q <= ups n' q' := by
 have : n * q <= n' * q' := Int.mul_le_mul h1 q1 q0 (by omega)
 unfold dn ups
 omega
theorem Z2w {n q : Int} (h0 : 0 <= n) (h1 : n <= 5000000000000) (q0 : 0 <= q) (q1 : q <= 1000000) : downN n q = dn n q := by
 have hb := Z7q h0 h1 q0 q1
 have hd := Zb8 h0 q0 q1
 unfold downN
 rw [Z6 (x := n * q) (by omega) (by omega), Int.tdiv_eq_ediv_of_nonneg hb.1]
 unfold dn at *
 exact Z6 (by omega) (by omega)
theorem Za0 {n q : Int} (h0 : 0 <= n) (h1 : n <= 5000000000000) (q0 : 0 <= q) (q1 : q <= 1000000) : upN n q = ups n q := by
 have hb := Z7q h0 h1 q0 q1
 have hd := Z7r h0 q0 q1
 unfold upN
 rw [Z6 (x := n * q) (by omega) (by omega), Z6 (x := n * q + 1000000) (by omega) (by omega), Z6 (x := n * q + 1000000 - 1) (by omega) (by omega)]
 rw [show n * q + 1000000 - 1 = n * q + 999999 by omega, Int.tdiv_eq_ediv_of_nonneg (by omega)]
 unfold ups at *
 exact Z6 (by omega) (by omega)
def Row (m : Int) (F : List Rg) : Prop := ∀ r ∈ F, RgG m r
theorem Row.at {m : Int} {F : List Rg} (h : Row m F) (hm : 0 <= m) (a : Int) : RgG m (atR F a) := by
 unfold atR
 cases e : F[a.toNat]? with
 | none => exact Zdb m hm
 | some r => exact h r (List.mem_of_getElem? e)
theorem RgG.mono {m m' : Int} {r : Rg} (h : RgG m r) (hm : m <= m') : RgG m' r := ⟨h.lo, h.le, Int.le_trans h.hi hm⟩
theorem Za1 {h : Int} : ∀ {l : List Rel} {q : Rg} {f : Bool} {last : Int}, RgG 1000000 q -> BandsB f last l -> RgG 1000000 (rateP h q l)
 | [], q, _, _, hq, _ => hq
 | b :: r, q, f, last, hq, ⟨_, _, h3, h4⟩ => by
  unfold rateP
  split
  ·exact hq
  ·exact Za1 h3 h4
theorem Za2 {h : Int} {x : Ves} {f b : Rg} (hx : VesB x) (hf : RgG 68719476736 f) (hb : RgG 68719476736 b) : relFr h x f b = ⟨f.lo + dn b.lo (rateP h ⟨0, 0⟩ x.bands).lo, f.hi + ups b.hi (rateP h ⟨0, 0⟩ x.bands).hi⟩ /\ RgG 137438953472 (relFr h x f b) := by
 obtain ⟨q1, q2, q3⟩ := Za1 (h := h) (Zdb 1000000 (by decide)) hx.bands
 unfold relFr
 generalize rateP h ⟨0, 0⟩ x.bands = q at *
 obtain ⟨f1, f2, f3⟩ := hf
 obtain ⟨b1, b2, b3⟩ := hb
 have d1 := Zb8 b1 q1 (by omega)
 have d2 := Z7r (n := b.hi) (q := q.hi) (by omega) (by omega) q3
 have d3 := Z9z b1 b2 q1 q2
 rw [Z2w b1 (by omega) q1 (by omega), Za0 (by omega) (by omega) (by omega) q3]
 rw [Xx f1 (by omega) d1.1 d2.1 (by show f.lo + dn _ _ <= _; omega) (by show f.hi + ups _ _ <= _; omega)]
 exact ⟨rfl, by show 0 <= f.lo + dn _ _; omega, by show f.lo + dn _ _ <= f.hi + ups _ _; omega, by show f.hi + ups _ _ <= _; omega⟩
theorem Za3 {h : Int} {x : Ves} {b : Rg} (hx : VesB x) (hb : RgG 68719476736 b) : relBo h x b = ⟨dn b.lo (1000000 - (rateP h ⟨0, 0⟩ x.bands).hi), ups b.hi (1000000 - (rateP h ⟨0, 0⟩ x.bands).lo)⟩ /\ RgG 68719476736 (relBo h x b) /\ (relBo h x b).lo <= b.lo /\ (relBo h x b).hi <= b.hi := by
 obtain ⟨q1, q2, q3⟩ := Za1 (h := h) (Zdb 1000000 (by decide)) hx.bands
 unfold relBo
 generalize rateP h ⟨0, 0⟩ x.bands = q at *
 obtain ⟨b1, b2, b3⟩ := hb
 rw [Z6 (x := 1000000 - q.hi) (by omega) (by omega), Z6 (x := 1000000 - q.lo) (by omega) (by omega)]
 have d1 := Zb8 (n := b.lo) (q := 1000000 - q.hi) b1 (by omega) (by omega)
 have d2 := Z7r (n := b.hi) (q := 1000000 - q.lo) (by omega) (by omega) (by omega)
 have d3 := Z9z (n := b.lo) (n' := b.hi) (q := 1000000 - q.hi) (q' := 1000000 - q.lo) b1 b2 (by omega) (by omega)
 rw [Z2w b1 (by omega) (by omega) (by omega), Za0 (by omega) (by omega) (by omega) (by omega)]
 exact ⟨rfl, ⟨d1.1, d3, by show ups _ _ <= _; omega⟩, d1.2, d2.2⟩
theorem Za4 : ∀ {l : List Inl} {m : Int}, (∀ q ∈ l, RgG 100000 q.gas) -> 0 <= m -> m <= 68719476736 -> m <= leakF m l /\ leakF m l <= 68719476736
 | [], m, _, _, h => ⟨Int.le_refl _, h⟩
 | q :: r, m, hg, h0, h1 => by
  obtain ⟨g1, g2, g3⟩ := hg q List.mem_cons_self
  unfold leakF
  rw [Z6 (x := m + q.gas.hi) (by omega) (by omega)]
  have hm : m <= min2 68719476736 (m + q.gas.hi) /\ min2 68719476736 (m + q.gas.hi) <= 68719476736 := by unfold min2; split <;> omega
  have := Za4 (l := r) (m := min2 68719476736 (m + q.gas.hi)) (fun q hq => hg q (List.mem_cons_of_mem _ hq)) (by omega) hm.2
  omega
def fLo (F : List Rg) (x : Int) (p : Pip) : Int := (if x = p.b then (atR F p.a).lo * p.out.lo else 0) + (if x = p.a then (atR F p.b).lo * p.back.lo else 0)
def fHi (F : List Rg) (x : Int) (p : Pip) : Int := (if x = p.b then (atR F p.a).hi * p.out.hi else 0) + (if x = p.a then (atR F p.b).hi * p.back.hi else 0)
theorem Z46 {f r : Rg} (hf : RgG 137438953472 f) (hr : RgG 1000000 r) : mulR f r = ⟨f.lo * r.lo, f.hi * r.hi⟩ /\ RgG 137438953472000000 (mulR f r) := by
 obtain ⟨f1, f2, f3⟩ := hf
 obtain ⟨r1, r2, r3⟩ := hr
 have b1 := Z7q f1 (show f.lo <= 137438953472 by omega) r1 (by omega)
 have b2 := Z7q (show 0 <= f.hi by omega) f3 (show 0 <= r.hi by omega) r3
 have b3 : f.lo * r.lo <= f.hi * r.hi := Int.mul_le_mul f2 r2 r1 (by omega)
 unfold mulR
 rw [Z6 (x := f.lo * r.lo) (by omega) (by omega), Z6 (x := f.hi * r.hi) (by omega) (by omega)]
 exact ⟨rfl, b1.1, b3, b2.2⟩
theorem fb {n : Int} {F : List Rg} {p : Pip} (hF : Row 137438953472 F) (hp : PipB n p) (x : Int) : 0 <= fLo F x p /\ fLo F x p <= fHi F x p /\ fHi F x p <= 137438953472000000 := by
 obtain ⟨e1, a1, a2, a3⟩ := Z46 (hF.at (by decide) p.a) hp.out
 obtain ⟨e2, b1, b2, b3⟩ := Z46 (hF.at (by decide) p.b) hp.back
 rw [e1] at a1 a2 a3
 rw [e2] at b1 b2 b3
 simp only at a1 a2 a3 b1 b2 b3
 have := hp.ab
 unfold fLo fHi
 split
 ·rw [if_neg (by omega), if_neg (by omega)]; omega
 ·split <;> omega
theorem Z1t {n x : Int} {F : List Rg} {shut : List Int} (hF : Row 137438953472 F) : ∀ {l : List Pip} {k : Nat} {acc : Rg}, (∀ p ∈ l, PipB n p) -> 0 <= acc.lo -> acc.lo <= acc.hi -> acc.hi + 137438953472000000 * l.length <= 9223372036854775807 -> flowS F shut x k acc l = ⟨acc.lo + sumI (fLo F x) (openP shut k l), acc.hi + sumI (fHi F x) (openP shut k l)⟩
 | [], k, acc, _, _, _, _ => by simp [flowS, openP, sumI]
 | p :: r, k, acc, h, h1, h2, h3 => by
  have hr : ∀ q ∈ r, PipB n q := fun q hq => h q (List.mem_cons_of_mem _ hq)
  have hp := h p List.mem_cons_self
  obtain ⟨e1, a1, a2, a3⟩ := Z46 (hF.at (by decide) p.a) hp.out
  obtain ⟨e2, b1, b2, b3⟩ := Z46 (hF.at (by decide) p.b) hp.back
  rw [e1] at a1 a2 a3
  rw [e2] at b1 b2 b3
  simp only at a1 a2 a3 b1 b2 b3
  have hab := hp.ab
  rw [List.length_cons, Int.natCast_add] at h3
  simp only [Int.natCast_one] at h3
  unfold flowS openP
  by_cases c : (k : Int) ∈ shut
  ·rw [if_pos c, if_pos c]
   exact Z1t hF hr h1 h2 (by omega)
  ·rw [if_neg c, if_neg c, e1, e2]
   by_cases c1 : x = p.a
   ·have c2 : ¬ x = p.b := by omega
    rw [if_pos c1, if_neg c2]
    rw [Xx h1 (by omega) b1 (by show 0 <= (atR F p.b).hi * _; omega) (by show acc.lo + (atR F p.b).lo * _ <= _; omega) (by show acc.hi + (atR F p.b).hi * _ <= _; omega)]
    rw [Z1t hF hr (by show 0 <= acc.lo + (atR F p.b).lo * _; omega) (by show acc.lo + (atR F p.b).lo * _ <= acc.hi + (atR F p.b).hi * _; omega) (by show acc.hi + (atR F p.b).hi * _ + _ <= _; omega)]
    simp only [Zi, fLo, fHi]
    rw [if_neg c2, if_pos c1, if_neg c2, if_pos c1]
    congr 1 <;> (try simp only) <;> omega
   ·rw [if_neg c1]
    by_cases c2 : x = p.b
    ·rw [if_pos c2]
     rw [Xx h1 (by omega) a1 (by show 0 <= (atR F p.a).hi * _; omega) (by show acc.lo + (atR F p.a).lo * _ <= _; omega) (by show acc.hi + (atR F p.a).hi * _ <= _; omega)]
     rw [Z1t hF hr (by show 0 <= acc.lo + (atR F p.a).lo * _; omega) (by show acc.lo + (atR F p.a).lo * _ <= acc.hi + (atR F p.a).hi * _; omega) (by show acc.hi + (atR F p.a).hi * _ + _ <= _; omega)]
     simp only [Zi, fLo, fHi]
     rw [if_pos c2, if_neg c1, if_pos c2, if_neg c1]
     congr 1 <;> (try simp only) <;> omega
    ·rw [if_neg c2]
     rw [Z1t hF hr h1 h2 (by omega)]
     simp only [Zi, fLo, fHi]
     rw [if_neg c2, if_neg c1, if_neg c2, if_neg c1]
     congr 1 <;> (try simp only) <;> omega
def floLo (v : Vac) (ps : List Pip) (F : List Rg) (x : Int) : Int := (atR F x).lo * (1000000 - outHi v x ps) + sumI (fLo F x) ps
def floHi (v : Vac) (ps : List Pip) (F : List Rg) (x : Int) : Int := (atR F x).hi * (1000000 - outLo v x ps) + sumI (fHi F x) ps
theorem VB.outs {v : Vac} (h : VB v) (shut : List Int) {i : Nat} (hi : i < v.vessels.length) : 0 <= outLo v i (openP shut 0 v.pipes) /\ outLo v i (openP shut 0 v.pipes) <= outHi v i (openP shut 0 v.pipes) /\ outHi v i (openP shut 0 v.pipes) <= 1000000 := by
 have hm : ∀ p ∈ openP shut 0 v.pipes, PipB v.vessels.length p := fun p hp => h.pip p (J9 hp)
 have b1 : 0 <= sumI (pLo i) (openP shut 0 v.pipes) := Xs fun p hp => (pb (hm p hp) i).1
 have b2 : sumI (pLo i) (openP shut 0 v.pipes) <= sumI (pHi i) (openP shut 0 v.pipes) := Jl fun p hp => (pb (hm p hp) i).2.1
 have b3 : sumI (pHi i) (openP shut 0 v.pipes) <= sumI (pHi i) v.pipes := Z7n fun p hp => by have := pb (h.pip p hp) i; omega
 have c1 : 0 <= sumI (mLo i) v.pumps := Xs fun p hp => (mb (h.pmp p hp).2 i).1
 have c2 : sumI (mLo i) v.pumps <= sumI (mHi i) v.pumps := Jl fun p hp => (mb (h.pmp p hp).2 i).2.1
 have := h.out i hi
 unfold outLo outHi at *
 omega
theorem Zdn {v : Vac} (h : VB v) {F : List Rg} (hF : Row 137438953472 F) (hl : F.length = v.vessels.length) (shut : List Int) {i : Nat} (hi : i < F.length) :
  (flowG v shut F)[i]? = some ⟨floLo v (openP shut 0 v.pipes) F i / 1000000, (floHi v (openP shut 0 v.pipes) F i + 999999) / 1000000⟩ /\ 0 <= floLo v (openP shut 0 v.pipes) F i /\ floLo v (openP shut 0 v.pipes) F i <= floHi v (openP shut 0 v.pipes) F i /\ floHi v (openP shut 0 v.pipes) F i <= 4600000000000000000 := by
 obtain ⟨o1, o2, o3⟩ := h.outs shut (show i < v.vessels.length by omega)
 have hm : ∀ p ∈ openP shut 0 v.pipes, PipB v.vessels.length p := fun p hp => h.pip p (J9 hp)
 have b1 : 0 <= sumI (fLo F i) (openP shut 0 v.pipes) := Xs fun p hp => (fb hF (hm p hp) i).1
 have b2 : sumI (fLo F i) (openP shut 0 v.pipes) <= sumI (fHi F i) (openP shut 0 v.pipes) := Jl fun p hp => (fb hF (hm p hp) i).2.1
 have b3 : sumI (fHi F i) (openP shut 0 v.pipes) <= 137438953472000000 * (openP shut 0 v.pipes).length := J8 fun p hp => (fb hF (hm p hp) i).2.2
 have b4 := Z44 (shut := shut) 0 v.pipes
 have b5 := h.p16
 have hg : (flowG v shut F)[i]? = some (quoR (flowS F shut i 0 (begR v shut F i) v.pipes)) := by
  unfold flowG
  rw [List.getElem?_map, List.getElem?_range hi]; rfl
 rw [hg]
 have hb : begR v shut F i = ⟨(atR F i).lo * (1000000 - outHi v i (openP shut 0 v.pipes)), (atR F i).hi * (1000000 - outLo v i (openP shut 0 v.pipes))⟩ /\ RgG 137438953472000000 (begR v shut F i) := by
  unfold begR
  rw [h.outR_eq]
  simp only
  rw [Z6 (x := 1000000 - outHi v i (openP shut 0 v.pipes)) (by omega) (by omega), Z6 (x := 1000000 - outLo v i (openP shut 0 v.pipes)) (by omega) (by omega)]
  exact Z46 (hF.at (by decide) i) ⟨by show 0 <= 1000000 - _; omega, by show 1000000 - _ <= 1000000 - _; omega, by show 1000000 - _ <= _; omega⟩
 obtain ⟨e1, c1, c2, c3⟩ := hb
 rw [Z1t hF h.pip c1 c2 (by omega), e1]
 rw [e1] at c1 c2 c3
 simp only at c1 c2 c3
 unfold floLo floHi
 simp only
 generalize (atR F i).lo * (1000000 - outHi v i (openP shut 0 v.pipes)) = A at *
 generalize (atR F i).hi * (1000000 - outLo v i (openP shut 0 v.pipes)) = B at *
 generalize sumI (fLo F i) (openP shut 0 v.pipes) = C at *
 generalize sumI (fHi F i) (openP shut 0 v.pipes) = D at *
 refine ⟨?_, by omega, by omega, by omega⟩
 unfold quoR
 simp only
 rw [Z6 (x := B + D + 1000000) (by omega) (by omega), Z6 (x := B + D + 1000000 - 1) (by omega) (by omega), show B + D + 1000000 - 1 = B + D + 999999 by omega, Int.tdiv_eq_ediv_of_nonneg (by omega), Int.tdiv_eq_ediv_of_nonneg (by omega)]
 rw [Z6 (x := (A + C) / 1000000) (by omega) (by omega), Z6 (x := (B + D + 999999) / 1000000) (by omega) (by omega)]
theorem Zfc {v : Vac} (h : VB v) {F : List Rg} (hF : Row 137438953472 F) (hl : F.length = v.vessels.length) (shut : List Int) : Row 4600000000000 (flowG v shut F) := by
 intro r hr
 obtain ⟨i, hi, e⟩ := List.mem_iff_getElem.1 hr
 rw [X9] at hi
 obtain ⟨e1, c1, c2, c3⟩ := Zdn h hF hl shut hi
 rw [List.getElem?_eq_getElem (by rw [X9]; exact hi), e] at e1
 injection e1 with e1
 subst e1
 refine ⟨?_, ?_, ?_⟩ <;> simp only <;> omega
theorem Z7s {n : Nat} : ∀ {l : List Inl} {R : List Rg} {m : Int}, (∀ q ∈ l, (0 <= q.at' /\ q.at' < n) /\ RgG 100000 q.gas) -> 0 <= m -> m + 100000 * l.length <= 5000000000000 -> Row m R -> Row (m + 100000 * l.length) (leakR R l)
 | [], R, m, _, _, _, h => fun r hr => (h r hr).mono (by simp)
 | q :: l, R, m, hq, hm, hb, h => by
  have h1 := (hq q List.mem_cons_self).2
  have h2 := h.at hm q.at'
  unfold leakR
  rw [List.length_cons, Int.natCast_add] at hb ⊢
  simp only [Int.natCast_one] at hb ⊢
  obtain ⟨a1, a2, a3⟩ := h1
  obtain ⟨b1, b2, b3⟩ := h2
  have e := Xx (a := atR R q.at') (b := q.gas) b1 (by omega) a1 (by omega) (by omega) (by omega)
  refine fun r hr => (Z7s (l := l) (m := m + 100000) (fun p hp => hq p (List.mem_cons_of_mem _ hp)) (by omega) (by omega) ?_ r hr).mono (by omega)
  intro r hr
  rcases List.mem_or_eq_of_mem_set hr with hr | rfl
  ·exact (h r hr).mono (by omega)
  ·rw [e]; exact ⟨by show 0 <= (atR R q.at').lo + _; omega, by show (atR R q.at').lo + _ <= (atR R q.at').hi + _; omega, by show (atR R q.at').hi + _ <= _; omega⟩
theorem Zfd {t : Gtr} {f r : Rg} (ht : RgG 1000000 t.part) (hf : RgG 5000000000000 f) (hr : RgG 68719476736 r) : getFr t f r = ⟨f.lo - min2 (ups f.lo t.part.hi) r.hi, f.hi - min2 (dn f.hi t.part.lo) r.lo⟩ /\ RgG 5000000000000 (getFr t f r) := by
 obtain ⟨t1, t2, t3⟩ := ht
 obtain ⟨f1, f2, f3⟩ := hf
 obtain ⟨r1, r2, r3⟩ := hr
 have u1 := Z7r (n := f.lo) (q := t.part.hi) f1 (by omega) t3
 have d1 := Zb8 (n := f.hi) (q := t.part.lo) (by omega) t1 (by omega)
 have d2 := Zb8 (n := f.lo) (q := t.part.lo) (by omega) t1 (by omega)
 have d3 : dn f.lo t.part.lo <= ups f.lo t.part.hi := Z9z f1 (Int.le_refl _) t1 t2
 have d4 : f.lo - dn f.lo t.part.lo <= f.hi - dn f.hi t.part.lo := by
  have hm : (f.hi - f.lo) * t.part.lo <= (f.hi - f.lo) * 1000000 := Int.mul_le_mul_of_nonneg_left (by omega) (by omega)
  rw [Int.sub_mul, Int.sub_mul] at hm
  unfold dn
  omega
 unfold getFr
 rw [Za0 f1 (by omega) (by omega) t3, Z2w (by omega) f3 t1 (by omega)]
 have m1 : 0 <= min2 (ups f.lo t.part.hi) r.hi /\ min2 (ups f.lo t.part.hi) r.hi <= ups f.lo t.part.hi := by unfold min2; split <;> omega
 have m2 : 0 <= min2 (dn f.hi t.part.lo) r.lo /\ min2 (dn f.hi t.part.lo) r.lo <= dn f.hi t.part.lo := by unfold min2; split <;> omega
 rw [Z6 (x := f.lo - _) (by omega) (by omega), Z6 (x := f.hi - _) (by omega) (by omega)]
 refine ⟨rfl, by show 0 <= f.lo - _; omega, ?_, by show f.hi - _ <= _; omega⟩
 show f.lo - min2 _ _ <= f.hi - min2 _ _
 unfold min2
 split <;> split <;> omega
theorem Zfe {t : Gtr} {f r : Rg} (ht : RgG 1000000 t.part) (hf : RgG 5000000000000 f) (hr : RgG 68719476736 r) : getRo t f r = ⟨max2 0 (r.lo - ups f.hi t.part.hi), max2 0 (r.hi - dn f.lo t.part.lo)⟩ /\ RgG 68719476736 (getRo t f r) /\ (getRo t f r).lo <= r.lo /\ (getRo t f r).hi <= r.hi := by
 obtain ⟨t1, t2, t3⟩ := ht
 obtain ⟨f1, f2, f3⟩ := hf
 obtain ⟨r1, r2, r3⟩ := hr
 have u1 := Z7r (n := f.hi) (q := t.part.hi) (by omega) (by omega) t3
 have d2 := Zb8 (n := f.lo) (q := t.part.lo) (by omega) t1 (by omega)
 have d3 : dn f.lo t.part.lo <= ups f.hi t.part.hi := Z9z f1 f2 t1 t2
 unfold getRo
 rw [Za0 (by omega) f3 (by omega) t3, Z2w f1 (by omega) t1 (by omega)]
 rw [Z6 (x := r.lo - _) (by omega) (by omega), Z6 (x := r.hi - _) (by omega) (by omega)]
 refine ⟨rfl, ⟨?_, ?_, ?_⟩, ?_, ?_⟩ <;> simp only <;> unfold max2 <;> (repeat' split) <;> omega
theorem Za5 : ∀ {l : List Gtr} {k : Nat} {F R : List Rg}, (∀ t ∈ l, RgG 1000000 t.part) -> Row 5000000000000 F -> Row 68719476736 R -> Row 5000000000000 (getF l k F R).1 /\ Row 68719476736 (getF l k F R).2 /\ ∀ i, (atR (getF l k F R).2 i).lo <= (atR R i).lo /\ (atR (getF l k F R).2 i).hi <= (atR R i).hi
 | [], k, F, R, _, h1, h2 => ⟨h1, h2, fun i => ⟨Int.le_refl _, Int.le_refl _⟩⟩
 | t :: ts, k, F, R, ht, h1, h2 => by
  have e1 := (Zfd (ht t List.mem_cons_self) (h1.at (by decide) t.at') (h2.at (by decide) (k : Int))).2
  have e2 := (Zfe (ht t List.mem_cons_self) (h1.at (by decide) t.at') (h2.at (by decide) (k : Int))).2
  unfold getF
  rw [show F[t.at'.toNat]?.getD ⟨0, 0⟩ = atR F t.at' from rfl, show R[k]?.getD ⟨0, 0⟩ = atR R (k : Int) from rfl]
  have r1 : Row 5000000000000 (F.set t.at'.toNat (getFr t (atR F t.at') (atR R (k : Int)))) := fun r hr => by
   rcases List.mem_or_eq_of_mem_set hr with hr | rfl
   ·exact h1 r hr
   ·exact e1
  have r2 : Row 68719476736 (R.set k (getRo t (atR F t.at') (atR R (k : Int)))) := fun r hr => by
   rcases List.mem_or_eq_of_mem_set hr with hr | rfl
   ·exact h2 r hr
   ·exact e2.1
  have h3 := Za5 (l := ts) (k := k + 1) (fun t ht' => ht t (List.mem_cons_of_mem _ ht')) r1 r2
  refine ⟨h3.1, h3.2.1, fun i => ?_⟩
  have h4 := h3.2.2 i
  have h5 : (atR (R.set k (getRo t (atR F t.at') (atR R (k : Int)))) i).lo <= (atR R i).lo /\ (atR (R.set k (getRo t (atR F t.at') (atR R (k : Int)))) i).hi <= (atR R i).hi := by
   by_cases e : i.toNat = k
   ·have q : atR R (k : Int) = atR R i := by unfold atR; rw [Int.toNat_natCast, e]
    by_cases hk : k < R.length
    ·have : atR (R.set k (getRo t (atR F t.at') (atR R (k : Int)))) i = getRo t (atR F t.at') (atR R (k : Int)) := by
      show (R.set k _)[i.toNat]?.getD _ = _
      rw [e, List.getElem?_set_self hk]; rfl
     rw [this, <- q]
     exact e2.2
    ·rw [List.set_eq_of_length_le (by omega)]
     exact ⟨Int.le_refl _, Int.le_refl _⟩
   ·have : atR (R.set k (getRo t (atR F t.at') (atR R (k : Int)))) i = atR R i := by
     unfold atR
     rw [List.getElem?_set_ne (fun q => e q.symm)]
    rw [this]
    exact ⟨Int.le_refl _, Int.le_refl _⟩
  omega
theorem Za6 {q m : Int} (hq : 0 <= q) {F : List Rg} (h : Row m F) : Row (min2 m q) (F.map (cutR q)) := by
 intro r hr
 obtain ⟨f, hf, rfl⟩ := List.mem_map.1 hr
 obtain ⟨a1, a2, a3⟩ := h f hf
 refine ⟨?_, ?_, ?_⟩ <;> simp only [cutR] <;> unfold min2 <;> (repeat' split) <;> omega
structure GB (v : Vac) (g : Gs) : Prop where
 fits : Fits v g
 f : Row 68719476736 g.free
 b : Row 68719476736 g.bound
 r : Row 68719476736 g.room
 m : 0 <= g.most /\ g.most <= 68719476736
theorem Zff {v : Vac} (hv : VB v) {h : Int} {F B : List Rg} (h1 : Row 68719476736 F) (h2 : Row 68719476736 B) : Row 137438953472 (relF h v.vessels F B) /\ Row 68719476736 (relB h v.vessels B) := by
 constructor
 ·intro r hr
  obtain ⟨t, ht, rfl⟩ := List.mem_map.1 hr
  obtain ⟨x, y⟩ := t
  have a := List.of_mem_zip ht
  have b := List.of_mem_zip (show (y.1, y.2) ∈ _ from a.2)
  exact (Za2 (hv.ves _ a.1) (h1 _ b.1) (h2 _ b.2)).2
 ·intro r hr
  obtain ⟨t, ht, rfl⟩ := List.mem_map.1 hr
  obtain ⟨x, y⟩ := t
  have a := List.of_mem_zip ht
  exact (Za3 (hv.ves _ a.1) (h2 _ a.2)).2.1
theorem Zfg {v : Vac} (hv : VB v) {F : List Rg} (hF : Row 137438953472 F) (hl : F.length = v.vessels.length) (shut : List Int) : Row 5000000000000 (leakR (flowG v shut F) v.leaks) := by
 have h8 := hv.l8
 have := Z7s (n := v.vessels.length) (l := v.leaks) (m := 4600000000000) hv.inl (by decide) (by omega) (Zfc hv hF hl shut)
 exact fun r hr => (this r hr).mono (by omega)
structure Steps (v : Vac) (g : Gs) (s : Bk) : Prop where
 m1 : g.most <= (beginT v g s).most /\ (beginT v g s).most <= 68719476736
 f2 : Row 137438953472 (relT v (beginT v g s) s).free
 b2 : Row 68719476736 (relT v (beginT v g s) s).bound
 f3 : Row 5000000000000 (flowT v (relT v (beginT v g s) s) s).free
 f4 : Row 5000000000000 (getT v (flowT v (relT v (beginT v g s) s) s) s).free
 r4 : Row 68719476736 (getT v (flowT v (relT v (beginT v g s) s) s) s).room
 r4l : ∀ i, (atR (getT v (flowT v (relT v (beginT v g s) s) s) s).room i).lo <= (atR g.room i).lo /\ (atR (getT v (flowT v (relT v (beginT v g s) s) s) s).room i).hi <= (atR g.room i).hi
theorem Za7 {v : Vac} {g : Gs} (hv : VB v) (h : GB v g) (s : Bk) : Steps v g s := by
 have m1 := Za4 (l := v.leaks) (m := g.most) (fun q hq => (hv.inl q hq).2) h.m.1 h.m.2
 have r2 := Zff (h := s.heat) hv h.f h.b
 have f3 := Zfg hv r2.1 (Z2u h.fits.f h.fits.b) s.shut
 have h4 : Row 5000000000000 (getT v (flowT v (relT v (beginT v g s) s) s) s).free /\ Row 68719476736 (getT v (flowT v (relT v (beginT v g s) s) s) s).room /\ ∀ i, (atR (getT v (flowT v (relT v (beginT v g s) s) s) s).room i).lo <= (atR g.room i).lo /\ (atR (getT v (flowT v (relT v (beginT v g s) s) s) s).room i).hi <= (atR g.room i).hi := by
  unfold getT
  split
  ·exact Za5 (fun t ht => (hv.gtr t ht).1.2) f3 h.r
  ·exact ⟨f3, h.r, fun i => ⟨Int.le_refl _, Int.le_refl _⟩⟩
 exact ⟨m1, r2.1, r2.2, f3, h4.1, h4.2.1, h4.2.2⟩
theorem Z1u (v : Vac) (g : Gs) (s : Bk) : (getT v g s).most = g.most /\ (getT v g s).bound = g.bound /\ (getT v g s).flashed = g.flashed := by unfold getT; split <;> exact ⟨rfl, rfl, rfl⟩
theorem Z7t (v : Vac) (g : Gs) (s : Bk) : (tickT v g s).most = leakF g.most v.leaks := (Z1u v (flowT v (relT v (beginT v g s) s) s) s).1
theorem Zdo {v : Vac} {g : Gs} (hv : VB v) (h : GB v g) (s : Bk) : GB v (tickT v g s) /\ Row (tickT v g s).most (tickT v g s).free := by
 have st := Za7 hv h s
 have hm := Z7t v g s
 have h1 := st.m1
 have h0 := h.m.1
 have e1 : (getT v (flowT v (relT v (beginT v g s) s) s) s).most = leakF g.most v.leaks := hm
 have hmm : g.most <= leakF g.most v.leaks /\ leakF g.most v.leaks <= 68719476736 := h1
 have f5 : Row (min2 5000000000000 (leakF g.most v.leaks)) (tickT v g s).free := by
  have := Za6 (q := leakF g.most v.leaks) (by omega) st.f4
  rw [<- e1] at this ⊢
  exact this
 have b5 : Row (min2 68719476736 (leakF g.most v.leaks)) (tickT v g s).bound := by
  have hb : Row 68719476736 (getT v (flowT v (relT v (beginT v g s) s) s) s).bound := by rw [(Z1u _ _ _).2.1]; exact st.b2
  have := Za6 (q := leakF g.most v.leaks) (by omega) hb
  rw [<- e1] at this ⊢
  exact this
 have k1 : min2 5000000000000 (leakF g.most v.leaks) = leakF g.most v.leaks := by unfold min2; rw [if_pos (by omega)]
 have k2 : min2 68719476736 (leakF g.most v.leaks) <= 68719476736 := by unfold min2; split <;> omega
 rw [k1] at f5
 refine ⟨⟨Z41 h.fits s, fun r hr => (f5 r hr).mono hmm.2, fun r hr => (b5 r hr).mono k2, st.r4, by rw [hm]; omega⟩, by rw [hm]; exact f5⟩
theorem Zim (a b : Int) : min2 a b <= a /\ min2 a b <= b := by unfold min2; split <;> omega
end Go.Proofs.Ytgnpnfkncbnjnaa
namespace Go.Proofs.Ytgnpnfkncbnjnaa
attribute [local go_sem_proc] Int.reduceEq Int.reduceNeg Nat.reduceEqDiff Nat.reduceLT Nat.reduceAdd Nat.reduceSub Nat.reduceMul Int.reduceLE Int.reduceLT Int.reduceToNat Nat.reduceLeDiff
attribute [local go_sem] Int.toNat_natCast Bool.not_true Bool.not_false
open Go Go.Am
attribute [local congr] Z8 Z5 Z7
def runG (v : Vac) (l : List Bk) : Gs := (flatT l).foldl (tickT v) (beginG v)
def runE (v : Vac) (l : List Bk) : Gs × Int := if runsE v l = 0 then (runG v l, 0) else (zeroG, runsE v l)
theorem Z7u (v : Vac) : ∀ (l : List Bk) (g : Gs), runT (fun (_ : Bool) _ => some true) v true g l = .inl (true, l.foldl (tickT v) g)
 | [], g => rfl
 | s :: r, g => by
  show runT (fun (_ : Bool) _ => some true) v true (tickT v g s) r = _
  rw [Z7u v r]; rfl
theorem Z7v (v : Vac) (c : Bool) (l : List Bk) : allT (fun (_ : Bool) _ => some true) v c l = .inl (true, runG v l) := by
 show runT (fun (_ : Bool) _ => some true) v true (beginG v) (flatT l) = _
 rw [Z7u]; rfl
theorem Zin {H : Heap} {d : Nat} {b : Nm} (l : List Rg) (hb : l ≠ [] -> hget H b = some (rgB l)) : freezeG (freezeD H (d + 1)) H (rowX .nils b l.length) = some (.lst (l.map rgV)) := by
 cases l with
 | nil => rfl
 | cons a r => exact Z25 (g := rgC) (z := 2) Z17 (by decide) (f := rgV) (fun _ => rfl) (row := freezeD H (d + 1)) (H := H) (a :: r) (Zd6 _) (hb (by simp)) (a :: r).length false
theorem Z8u {H : Heap} {f b r : Nm} {g : Gs} {e : Int} (h1 : hget H f = some (rgB g.free)) (h2 : hget H b = some (rgB g.bound)) (h3 : g.room ≠ [] -> hget H r = some (rgB g.room)) : Go.Am.frozen H (.tuple [.agg [.slice f 0 g.free.length g.free.length false, .slice b 0 g.bound.length g.bound.length false, rowX .nils r g.room.length, .int .i64 g.most, .bool g.flashed], .int .i64 e]) = some (gasP (g, e)) := by
 have h4 : freezeG (freezeD H 6) H (.tuple [.agg [.slice f 0 g.free.length g.free.length false, .slice b 0 g.bound.length g.bound.length false, rowX .nils r g.room.length, .int .i64 g.most, .bool g.flashed], .int .i64 e]) = some (.tuple [gsV g, .int .i64 e]) := by
  show (match freezeGs (freezeD H 6) H [.agg [.slice f 0 g.free.length g.free.length false, .slice b 0 g.bound.length g.bound.length false, rowX .nils r g.room.length, .int .i64 g.most, .bool g.flashed], .int .i64 e] with | some l => some (AV.tuple l) | none => none) = _
  have h5 : freezeG (freezeD H 6) H (.agg [.slice f 0 g.free.length g.free.length false, .slice b 0 g.bound.length g.bound.length false, rowX .nils r g.room.length, .int .i64 g.most, .bool g.flashed]) = some (gsV g) := by
   show (match freezeGs (freezeD H 6) H [.slice f 0 g.free.length g.free.length false, .slice b 0 g.bound.length g.bound.length false, rowX .nils r g.room.length, .int .i64 g.most, .bool g.flashed] with | some l => some (AV.agg l) | none => none) = _
   simp only [freezeGs, Z9y g.free h1, Z9y g.bound h2, Zin g.room h3]
   rfl
  simp only [freezeGs, h5]
  rfl
 unfold Go.Am.frozen
 rw [h4]
 have h5 : (AV.tuple [gsV g, .int .i64 e]).flat = true := by simp only [gsV, AV.flat, flats, Zap]
 simp only [h5]
 rfl
theorem Zio (v : Vac) (l : List Bk) (K : Nat) (H : Heap) (n : Nat) : acall cfg (K + 1) 99 [vacV v, .lst (l.map bkV)] ⟨H, n, [], false, []⟩ = .ret (.func 152 [.ptr [n] 0, .ptr [n + 1] 0], ⟨([n + 1], .cells [.lst (l.map bkV)] true 0) :: ([n], vacC v) :: H, n + 2, [], false, []⟩) := by
 suffices h : (acall cfg (K + 1) 99 [vacV v, .lst (l.map bkV)] ⟨H, n, [], false, []⟩).Does fun x => x = (.func 152 [.ptr [n] 0, .ptr [n + 1] 0], ⟨([n + 1], .cells [.lst (l.map bkV)] true 0) :: ([n], vacC v) :: H, n + 2, [], false, []⟩) by
  obtain ⟨a, e, rfl⟩ := h; exact e
 rw [Z5x Zki Zkh]
 refine Za rfl fun T hT' hA => ?_
 have a0 := hA 0 _ rfl
 have a1 := hA 1 _ rfl
 have hT : T.length = 6 := hT'
 clear hA hT'
 unfold vacV at a0
 unfold vacC
 simp -implicitDefEqProofs only [go_sem, a0, a1, hT, Try.results99]
theorem Zfh (v : Vac) (l : List Bk) (K : Nat) (s : St) (hK : 3000 < K) (hv : v.Lens K) (hl : BkL K l) : acall cfg (K + 14) 37 [vacV v, .lst (l.map bkV)] s = .ret (gasP (runE v l), s) := by
 refine Z23 Zjw Zjv (by first | rfl | simp -implicitDefEqProofs only [redoH, redo1, go_sem]) (by first | rfl | simp -implicitDefEqProofs only [go_sem]) (by first | rfl | simp -implicitDefEqProofs only [go_sem]) ?_
 refine Za rfl fun T hT' hA => ?_
 have a0 := hA 0 _ rfl
 have a1 := hA 1 _ rfl
 have hT : T.length = 25 := hT'
 clear hA hT'
 have hr := fun s => Zdg v l (K + 1) s (by omega) (hv.more 1) ⟨hl.1, fun x hx => by have := hl.2 x hx; omega⟩
 simp only [vacV] at hr
 unfold runE
 by_cases c0 : runsE v l = 0
 ·rw [if_pos c0]
  obtain ⟨hz, hl20, hrs⟩ := Z7k c0
  have hva := Zf9 hz
  have hst : ∀ s ∈ l, 0 <= s.ticks /\ s.ticks <= 2000 /\ s.shut.length <= 40 := fun s hs => Zdh hva (Z59 hrs s hs)
  have h99 := fun H n => Zio v l (K + 12) H n
  simp only [vacV] at h99
  simp -implicitDefEqProofs only [go_sem, a0, a1, hT, hr, c0, h99]
  simp only [Z2]
  refine Z8s (nxt := fun (_ : Bool) _ => some true) (fun L c H => hget H [0] = some (vacC v) /\ hget H [1] = some (.cells [.nils, .nils, .nils, .int .i64 0, .bool false] true 0) /\ hget H [2] = some (.cells [if c = true then .ptr [6, 4, 0] 0 else .nilp] true 0) /\ hget H [3] = some (vacC v) /\ hget H [4] = some (.cells [.lst (l.map bkV)] true 0) /\ hget H [5] = some L) (fun _ _ _ => False) false (by simp -implicitDefEqProofs only [go_sem, hT] <;> rfl) hva (by omega) hst hl20
   (P := fun T => T.length = 25 /\ nth T 7 = some (.ptr [2] 0) /\ nth T 4 = some (.ptr [1] 0)) (by exact ⟨by simp -implicitDefEqProofs only [go_sem, hT], by simp -implicitDefEqProofs only [go_sem, hT], by simp -implicitDefEqProofs only [go_sem, hT]⟩) ?_
  clear a0 a1 hT T hr h99
  rintro T ⟨hT, a7, a4⟩ L hL
  refine ⟨⟨?_, ?_, ?_, ?_⟩, ?_, ?_, ?_, ?_⟩
  ·intro c g H n hn hI hs hf
   left
   obtain ⟨i0, i1, i2, i3, i4, i5⟩ := hI
   subst hL
   suffices hd : (around cfg (K + 11 + 1) [5] [.ptr [6, 4, 0] 0] ⟨H, n, [], false, []⟩).Does fun x => ∃ H', x = (.bool true, (⟨H', n, [], false, []⟩ : St)) /\ (∀ q : Nm, q ≠ [2] -> q ≠ [5] -> hget H' q = hget H q) /\ hget H' [2] = some (.cells [.ptr [6, 4, 0] 0] true 0) /\ hget H' [5] = hget H [5] by
    obtain ⟨x, e, H', rfl, k1, k2, k3⟩ := hd
    exact ⟨true, H', n, rfl, e, Nat.le_refl _, ⟨(k1 _ (by decide) (by decide)).trans i0, (k1 _ (by decide) (by decide)).trans i1, k2, (k1 _ (by decide) (by decide)).trans i3, (k1 _ (by decide) (by decide)).trans i4, k3.trans i5⟩, fun q h1 h2 => k1 _ (n11 (by omega)) (n11 (by omega)),
     ⟨(k1 _ n31 n31).trans hs.x, (k1 _ n31 n31).trans hs.f, (k1 _ n31 n31).trans hs.b, fun e => (k1 _ n31 n31).trans (hs.r e)⟩⟩
   refine Zb5 i5 rfl ?_
   simp -implicitDefEqProofs only [go_sem, a7, hT]
   refine ⟨trivial, _, _, _, _, _, i5, ?_⟩
   have k2 : ∀ Y, hget (hset H [5] Y) [2] = hget H [2] := fun Y => hs11 (by decide)
   have k5 : ∀ X Y, hget (hset (hset H [5] Y) [2] X) [5] = some Y := fun X Y => (hs11 (by decide)).trans (hss i5)
   simp -implicitDefEqProofs only [go_sem, i2, k2]
   refine ⟨_, _, _, _, _, _, k5 _ _, ?_⟩
   simp -implicitDefEqProofs only [go_sem, jumpOf]
   refine ⟨_, rfl, fun q h1 h2 => ?_, ?_, ?_⟩
   ·rw [Z4 _ _ (Ne.symm h2), Z4 _ _ (Ne.symm h1), Z4 _ _ (Ne.symm h2)]
   ·rw [Z4 _ _ (by decide)]
    exact hss ((k2 _).trans i2)
   ·rw [hss (k5 _ _), i5]
  ·rintro c H H' ⟨i0, i1, i2, i3, i4, i5⟩ hk
   exact ⟨(hk 0 (by omega)).trans i0, (hk 1 (by omega)).trans i1, (hk 2 (by omega)).trans i2, (hk 3 (by omega)).trans i3, (hk 4 (by omega)).trans i4, (hk 5 (by omega)).trans i5⟩
  ·exact fun c H h => h.2.2.2.1
  ·exact fun c H h => h.2.2.2.2.1
  ·exact ⟨rfl, rfl, rfl, rfl, rfl, rfl⟩
  ·exact fun c H h => h.2.2.2.2.2
  ·intro c g H n hall hI hs hn
   rw [Z7v] at hall
   injection hall with hall
   obtain ⟨rfl, rfl⟩ := Prod.mk.inj hall
   obtain ⟨i0, i1, i2, i3, i4, i5⟩ := hI
   have hs : SysAt .nils H [6, 4, 0] [6, 2, 0] [6, 2, 1] [6, 2, 2] v (runG v l) := hs
   have i2 : hget H [2] = some (.cells [.ptr [6, 4, 0] 0] true 0) := i2
   have k2 : ∀ Y, hget (hset H [5] Y) [2] = hget H [2] := fun Y => hs11 (by decide)
   have k1 : ∀ Y, hget (hset H [5] Y) [1] = hget H [1] := fun Y => hs11 (by decide)
   have k6 : ∀ Y, hget (hset H [5] Y) [6, 4, 0] = hget H [6, 4, 0] := fun Y => hs13
   have k3 : ∀ X Y, hget (hset (hset H [5] Y) [1] X) [1] = some X := fun X Y => hss ((k1 Y).trans i1)
   have g4 := hs.x
   unfold sysB at g4
   simp -implicitDefEqProofs only [go_sem, a7, a4, hT, i1, i2, k1, k2, k3, k6, g4, Try.results37]
   exact Z8u (hs13.trans (hs13.trans hs.f)) (hs13.trans (hs13.trans hs.b)) (fun e => hs13.trans (hs13.trans (hs.r e)))
  ·intro c g H n hall
   rw [Z7v] at hall
   cases hall
 ·rw [if_neg c0]
  simp -implicitDefEqProofs only [go_sem, a0, a1, hT, hr, c0, Try.results37]
  exact Z8r _ _
end Go.Proofs.Ytgnpnfkncbnjnaa
namespace Go.Proofs.Ytgnpnfkncbnjnaa
open Go Go.Am
attribute [local congr] Z8 Z5 Z7
end Go.Proofs.Ytgnpnfkncbnjnaa
namespace Go.Proofs.Ytgnpnfkncbnjnaa
open Go Go.Am
attribute [local congr] Z8 Z5 Z7
end Go.Proofs.Ytgnpnfkncbnjnaa
namespace Go.Proofs.Ytgnpnfkncbnjnaa
open Go Go.Am
attribute [local congr] Z8 Z5 Z7
end Go.Proofs.Ytgnpnfkncbnjnaa
namespace Go.Proofs.Ytgnpnfkncbnjnaa
open Go Go.Am
attribute [local congr] Z8 Z5 Z7
attribute [local go_sem] Go.Am.frozen Go.Am.freezeG Go.Am.freezeGs
end Go.Proofs.Ytgnpnfkncbnjnaa
namespace Go.Proofs.Ytgnpnfkncbnjnaa
open Go Go.Am
attribute [local congr] Z8 Z5 Z7
end Go.Proofs.Ytgnpnfkncbnjnaa
namespace Go.Proofs.Ytgnpnfkncbnjnaa
open Go Go.Am
theorem Z8v {v : Vac} {s : Bk} (h : stageE v s = 0) : 0 <= s.ticks /\ s.ticks <= 2000 := by
 unfold stageE at h
 split at h
 ·rename_i h1; exact Yf.1 h1.1
 ·exact absurd h (by decide)
theorem Z47 {v : Vac} : ∀ {l : List Bk} {q : Int}, 0 <= q -> q + 2000 * l.length <= 1000000 -> (runsS v q l = 0 ↔ (∀ s ∈ l, stageE v s = 0) /\ q + sumI Bk.ticks l <= 2000)
 | [], q, _, _ => by
  unfold runsS
  rw [Xi]
  by_cases h : 2000 < q
  ·rw [if_pos h]; constructor
   ·intro g; exact absurd g (by decide)
   ·rintro ⟨_, g⟩; omega
  ·rw [if_neg h]; exact ⟨fun _ => ⟨fun s hs => (nomatch hs), by omega⟩, fun _ => rfl⟩
 | a :: r, q, h0, h1 => by
  unfold runsS
  rw [List.length_cons, Int.natCast_add] at h1
  simp only [Int.natCast_one] at h1
  by_cases h : stageE v a = 0
  ·have ht := Z8v h
   rw [if_pos h, Z6 (by omega) (by omega), Z47 (by omega) (by omega), Zi]
   constructor
   ·rintro ⟨g1, g2⟩
    refine ⟨fun s hs => ?_, by omega⟩
    rcases List.mem_cons.1 hs with rfl | hs
    ·exact h
    ·exact g1 s hs
   ·rintro ⟨g1, g2⟩
    exact ⟨fun s hs => g1 s (List.mem_cons_of_mem _ hs), by omega⟩
  ·rw [if_neg h]
   constructor
   ·intro g; exact absurd g h
   ·rintro ⟨g, _⟩; exact absurd (g a List.mem_cons_self) h
theorem Zfi {v : Vac} {l : List Bk} : runsE v l = 0 ↔ checkE v = 0 /\ l.length <= 20 /\ (∀ s ∈ l, stageE v s = 0) /\ sumI Bk.ticks l <= 2000 := by
 constructor
 ·intro h
  obtain ⟨h1, h2, h3⟩ := Z7k h
  obtain ⟨h4, h5⟩ := (Z47 (by decide) (by omega)).1 h3
  exact ⟨h1, h2, h4, by omega⟩
 ·rintro ⟨h1, h2, h3, h4⟩
  unfold runsE
  rw [if_pos h1, if_neg (by omega)]
  exact (Z47 (by decide) (by omega)).2 ⟨h3, by omega⟩
theorem Z6a : ∀ {l : List Ves} {m : Int}, (∀ x ∈ l, VesB x) -> 0 <= m -> m + 2000000000 * l.length <= 68719476736 -> m <= mostF m l /\ mostF m l <= m + 2000000000 * l.length /\ mostF m l = m + sumI (fun x => x.free.hi + x.bound.hi) l
 | [], m, _, _, _ => ⟨Int.le_refl _, by simp [mostF], by rw [Xi]; show m = m + 0; omega⟩
 | x :: r, m, h, h0, h1 => by
  have hx := h x List.mem_cons_self
  obtain ⟨a1, a2, a3⟩ := hx.free
  obtain ⟨b1, b2, b3⟩ := hx.bound
  rw [List.length_cons, Int.natCast_add] at h1 ⊢
  simp only [Int.natCast_one] at h1 ⊢
  unfold mostF
  rw [Z6 (x := m + (x.free.hi + x.bound.hi)) (by omega) (by omega)]
  obtain ⟨g1, g2, g3⟩ := Z6a (l := r) (m := m + (x.free.hi + x.bound.hi)) (fun y hy => h y (List.mem_cons_of_mem _ hy)) (by omega) (by omega)
  rw [Zi]
  omega
theorem Za8 {v : Vac} (h : VB v) : GB v (beginG v) := by
 have h8 := h.n8
 obtain ⟨m1, m2, _⟩ := Z6a (l := v.vessels) (m := 0) h.ves (by decide) (by omega)
 refine ⟨⟨by simp [beginG], by simp [beginG], by simp [beginG]⟩, fun r hr => ?_, fun r hr => ?_, fun r hr => ?_, m1, by show mostF 0 v.vessels <= _; omega⟩
 ·obtain ⟨x, hx, rfl⟩ := List.mem_map.1 hr
  exact (h.ves x hx).free.mono (by decide)
 ·obtain ⟨x, hx, rfl⟩ := List.mem_map.1 hr
  exact (h.ves x hx).bound.mono (by decide)
 ·obtain ⟨x, hx, rfl⟩ := List.mem_map.1 hr
  exact (h.gtr x hx).2.mono (by decide)
theorem Za9 {v : Vac} (h : VB v) : ∀ {l : List Bk} {g : Gs}, GB v g -> GB v (l.foldl (tickT v) g)
 | [], g, hg => hg
 | s :: r, g, hg => Za9 (l := r) (g := tickT v g s) h (Zdo h hg s).1
end Go.Proofs.Ytgnpnfkncbnjnaa
namespace Go.Proofs.Ytgnpnfkncbnjnaa
open Go Go.Am
attribute [local congr] Z8 Z5 Z7
attribute [local go_sem] Go.Am.frozen Go.Am.freezeG Go.Am.freezeGs
end Go.Proofs.Ytgnpnfkncbnjnaa
namespace Go.Proofs.Ytgnpnfkncbnjnaa
open Go Go.Am
attribute [local congr] Z8 Z5 Z7
attribute [local go_sem] Go.Am.frozen Go.Am.freezeG Go.Am.freezeGs
end Go.Proofs.Ytgnpnfkncbnjnaa
namespace Go.Proofs.Ytgnpnfkncbnjnaa
attribute [local go_sem_proc] Int.reduceEq Int.reduceNeg Nat.reduceEqDiff Nat.reduceLT Nat.reduceAdd Nat.reduceSub Nat.reduceMul Int.reduceLE Int.reduceLT Int.reduceToNat Nat.reduceLeDiff
attribute [local go_sem] Int.toNat_natCast Bool.not_true Bool.not_false
open Go Go.Am
attribute [local congr] Z8 Z5 Z7
theorem Zkz : cfg.desc 73 = some (.slice 42) := by kernel_rfl
theorem bs73 (f : FuncId) (z : Bk) (s : St) : buildSliceA (cfg.at f) true 73 1 [(0, bkV z)] s = .ret (.lst [bkV z], s) := by
 simp -implicitDefEqProofs only [go_sem, Go.Am.buildSliceA]
theorem Z6b (v : Vac) (hp : v.pipes.length <= 1000000) (w : Int) (u : Nat) (K : Nat) (hK : v.pipes.length + 60 < K) :
  ∃ (l : List Bk) (w' : Int), (∀ s ∈ l, StgG 15 v.pipes.length s) /\ l.length <= 4 /\ ∀ (b : Nm) (H : Heap) (n : Nat) (p : Nm) (jr : Bool) (j : Delta), hget H b = some (.cells [.int .u64 w] true u) -> acall cfg (K + 12) 45 [.ptr b 0, vacV v] ⟨H, n, p, jr, j⟩ = .ret (ownV (p ++ [n]) (l.map bkV), match l with | [] => St.put ⟨H, n, p, jr, j⟩ b (.cells [.int .u64 w'] true u) | _ :: _ => (St.put ⟨H, n, p, jr, j⟩ b (.cells [.int .u64 w'] true u)).new (.tok l.length 4)) := by
 have key : ∃ (l : List Bk) (w' : Int), (∀ s ∈ l, StgG 15 v.pipes.length s) /\ l.length <= 4 /\ (bodyA (cfg.at 45) (acall cfg (K + 11)) (around cfg (K + 11)) (K + 11 + 1) Try.f45 [.ptr [0] 0, vacV v] ⟨[([0], .cells [.int .u64 w] true u)], 1, [], false, []⟩).Does fun x => ∃ c, x.1 = ownV [c + 1] (l.map bkV) /\ hget x.2.H [0] = some (.cells [.int .u64 w'] true u) /\ (l.map bkV ≠ [] -> hget x.2.H [c + 1] = some (.tok l.length 4)) := by
  suffices h : (bodyA (cfg.at 45) (acall cfg (K + 11)) (around cfg (K + 11)) (K + 11 + 1) Try.f45 [.ptr [0] 0, vacV v] ⟨[([0], .cells [.int .u64 w] true u)], 1, [], false, []⟩).Does fun x => ∃ (l : List Bk) (w' : Int), (∀ s ∈ l, StgG 15 v.pipes.length s) /\ l.length <= 4 /\ ∃ c, x.1 = ownV [c + 1] (l.map bkV) /\ hget x.2.H [0] = some (.cells [.int .u64 w'] true u) /\ (l.map bkV ≠ [] -> hget x.2.H [c + 1] = some (.tok l.length 4)) by
   obtain ⟨x, e, l, w', h1, h2, h3⟩ := h
   exact ⟨l, w', h1, h2, x, e, h3⟩
  refine Za rfl fun T hT' hA => ?_
  have a0 := hA 0 _ rfl
  have a1 := hA 1 _ rfl
  have hT : T.length = 20 := hT'
  clear hA hT'
  have ut1 := fun H m jr j hd => Js (H := H) (m := m) (u := u) (p := []) (jr := jr) (j := j) 5 (K + 9) hd (by decide)
  have d0 : isD u [([1], vacC v), ([0], .cells [.int .u64 w] true u)] := ⟨w, rfl⟩
  unfold vacV at a1
  unfold vacC at d0
  simp -implicitDefEqProofs (maxDischargeDepth := 9) only [go_sem, Z64, Z1p, a0, a1, hT, ut1, d0]
  have r1 := Zw w 5 (by decide)
  generalize uptoN w 5 = tk at *
  obtain ⟨q, rfl⟩ : ∃ q : Nat, tk = q := ⟨tk.toNat, by omega⟩
  generalize nextW w = w1 at *
  clear ut1 d0
  simp only [Z2]
  refine Zm (fun k T s' => T.length = 20 /\ nth T 0 = some (.ptr [0] 0) /\ nth T 3 = some (.ptr [1] 0) /\ ∃ (i m c : Nat) (H : Heap) (row : List Bk) (w : Int), nth T 6 = some (.int .i64 i) /\ nth T 5 = some (ownV [c + 1] (row.map bkV)) /\ i + row.length <= 4 /\ k = i /\ s' = ⟨H, m + 2, [], false, []⟩ /\ hget H [0] = some (.cells [.int .u64 w] true u) /\ hget H [1] = some (vacC v) /\ (row.map bkV ≠ [] -> 1 <= c /\ c < m + 1 /\ hget H [c + 1] = some (.tok row.length 4)) /\ ∀ s ∈ row, StgG 15 v.pipes.length s) (k := q) (by omega) ?_ ?_
  ·exact ⟨by simp -implicitDefEqProofs only [go_sem, hT], by simp -implicitDefEqProofs only [go_sem, a0], by simp -implicitDefEqProofs only [go_sem, hT], q, 0, 0, _, [], w1, by simp -implicitDefEqProofs only [go_sem, hT], by simp -implicitDefEqProofs only [go_sem, hT] <;> rfl, by show q + 0 <= 4; omega, rfl, rfl, rfl, rfl, fun e => absurd rfl e, fun s hs => nomatch hs⟩
  clear a0 a1 hT T
  rintro k T s' ⟨hT, a0, a3, i, m, c, H, row, w, a6, a5, hi, rfl, rfl, g0, g1, gt, hrow⟩
  by_cases hil : (0 : Int) < (k : Int)
  ·obtain ⟨z, w2, hz, hso⟩ := Z7l v hp 15 (by decide) w u (K + 1) (by omega)
   have hs0 := fun H n p jr j h => hso [0] ⟨H, n, p, jr, j⟩ h
   have q1 : ∀ Y, hget (hset H [0] Y) [1] = hget H [1] := fun Y => hs11 (by decide)
   have q0 : ∀ Y, hget (hset H [0] Y) [0] = some Y := fun Y => hss g0
   have qc : ∀ Y, hget (hset H [0] Y) [c + 1] = hget H [c + 1] := fun Y => hs11 (by omega)
   have g1' := g1
   unfold vacC at g1
   have bs := fun s => bs73 45 z s
   have hroom : (row.length + 1) * ty42.bytes <= 140737488355328 := by show (row.length + 1) * 48 <= _; omega
   have hap := Yt (C := cfg.at 45) (sT := 73) (b := [c + 1]) (l := row.map bkV) (x := bkV z) (H := hset H [0] (.cells [.int .u64 w2] true u)) (n := m + 2) (p := []) (jr := false) (j := []) (z := 4) Zkz Zji rfl rfl rfl rfl rfl rfl (by rw [List.length_map]; exact hroom) (fun hx => by rw [List.length_map, qc]; exact (gt hx).2.2)
   have hown : ∀ b, ownV b (row.map bkV ++ [bkV z]) = .own b (row.map bkV ++ [bkV z]) := fun b => by cases row.map bkV <;> rfl
   simp only [List.nil_append, List.length_map] at hap
   rw [hown] at hap
   have hw1 : wrapF .i64 ((k : Int) - 1) = ((k - 1 : Nat) : Int) := by rw [Z6 (by omega) (by omega)]; omega
   have x0 : hget (dropTok (row.map bkV) [c + 1] (hset H [0] (.cells [.int .u64 w2] true u))) [0] = some (.cells [.int .u64 w2] true u) := by rw [Y1 _ _ (n11 (by omega))]; exact q0 _
   have x1 : hget (dropTok (row.map bkV) [c + 1] (hset H [0] (.cells [.int .u64 w2] true u))) [1] = some (vacC v) := by
    by_cases e : row.map bkV = []
    ·rw [e]; exact (q1 _).trans g1'
    ·rw [Y1 _ _ (n11 (by have := (gt e).1; omega))]; exact (q1 _).trans g1'
   generalize dropTok (row.map bkV) [c + 1] (hset H [0] (.cells [.int .u64 w2] true u)) = H2 at *
   have hrm : (row ++ [z]).map bkV = row.map bkV ++ [bkV z] := by simp
   have hk1 : k - 1 < k := by omega
   have hl1 : k - 1 + (row ++ [z]).length <= 4 := by rw [List.length_append]; show k - 1 + (row.length + 1) <= 4; omega
   simp only [bkV, vacV] at hs0 bs hap
   simp -implicitDefEqProofs only [go_sem, a0, a3, a5, a6, hT, hil, g1, g0, hs0, bs, hap, hw1]
   refine ⟨k - 1, hk1, trivial, trivial, trivial, k - 1, m + 1, m + 1, _, row ++ [z], w2, rfl, ?_, hl1, rfl, rfl, (hc11 (by omega)).trans x0, (hc11 (by omega)).trans x1, fun _ => ⟨by omega, by omega, ?_⟩, fun s hs => ?_⟩
   ·rw [hrm, hown]; rfl
   ·rw [List.length_append]; exact Z1 ..
   ·rcases List.mem_append.1 hs with hs | hs
    ·exact hrow s hs
    ·rw [List.mem_singleton] at hs; rw [hs]; exact hz
  ·simp -implicitDefEqProofs only [go_sem, a5, a6, hT, hil, Try.results45]
   exact ⟨row, w, hrow, by omega, c, rfl, g0, fun e => (gt e).2.2⟩
 obtain ⟨l, w', hl, hn, hd⟩ := key
 refine ⟨l, w', hl, hn, fun b H n p jr j hb => ?_⟩
 obtain ⟨⟨v1, s1⟩, e, c, hx1, hx2, hx3⟩ := hd
 simp only at hx1 hx2 hx3
 subst hx1
 have hlend : lendM 200 (namesVs false [.ptr b 0, vacV v] []) [] [] ⟨H, n, p, jr, j⟩ = .ret (([b], [.cells [.int .u64 w] true u]), ⟨H, n, p, jr, j⟩) := by
  show lendM (199 + 1) [b] [] [] _ = _
  rw [Yl 199 rfl hb]
  exact Y3 198 _ _ _
 have hra : renVs (zipN [b] (namesFrom [] 0 [b].length)) [.ptr b 0, vacV v] = some [.ptr [0] 0, vacV v] := by
  show renVs [(b, [0])] _ = _
  simp only [vacV, renVs, renV, lookN, Zg, Jn, Jo, Jp, Jq, Jr]
 have hput : putAll [b] [.cells [.int .u64 w'] true u] ⟨H, n, p, jr, j⟩ = .ret ((), St.put ⟨H, n, p, jr, j⟩ b (.cells [.int .u64 w'] true u)) := by
  show ((putM b _).bind fun _ => putAll [] []) _ = _
  rw [Z9, Y7, hb]; rfl
 have hga : getAll s1.H [[0]] = some [.cells [.int .u64 w'] true u] := by simp only [getAll, hx2]
 have hbl : [b].length = 1 := rfl
 cases l with
 | nil =>
  refine Z08 (bs := [b]) (xs := [.cells [.int .u64 w] true u]) (xs0 := [.cells [.int .u64 w] true u]) (args' := [.ptr [0] 0, vacV v]) (ys' := [.cells [.int .u64 w'] true u]) (zs' := []) (s2 := St.put ⟨H, n, p, jr, j⟩ b (.cells [.int .u64 w'] true u)) Zft Zfs hlend rfl rfl hra rfl ⟨_, e, [.cells [.int .u64 w'] true u], [[0]], [], hga, rfl, rfl, rfl, rfl, rfl⟩ hput rfl
 | cons a r =>
  have h3 := hx3 (by simp)
  refine Z08 (bs := [b]) (xs := [.cells [.int .u64 w] true u]) (xs0 := [.cells [.int .u64 w] true u]) (args' := [.ptr [0] 0, vacV v]) (ys' := [.cells [.int .u64 w'] true u]) (zs' := [.tok (a :: r).length 4]) (s2 := St.put ⟨H, n, p, jr, j⟩ b (.cells [.int .u64 w'] true u)) Zft Zfs hlend rfl rfl hra rfl ⟨_, e, [.cells [.int .u64 w'] true u], [[0], [c + 1]], [.tok (a :: r).length 4], hga, ?_, ?_, ?_, rfl, rfl⟩ hput rfl
  ·show reachL s1.H (199 + 1) [[c + 1]] [[0]] [] = _
   have hm : memNm [c + 1] [[0]] = false := rfl
   rw [Xp, hm]
   simp only [h3]
   rfl
  ·rfl
  ·show renV [([0], b), ([c + 1], p ++ [n])] (.own [c + 1] (List.map bkV (a :: r))) = _
   have q1 : eqb [c + 1] [0] = false := rfl
   have q2 : flats (List.map bkV (a :: r)) = true := Y2 (f := bkV) (fun z => by simp only [bkV, AV.flat, flats, fl_i]) _
   simp only [renV, q2, lookN, q1, Zg]
   rfl
end Go.Proofs.Ytgnpnfkncbnjnaa
namespace Go.Proofs.Ytgnpnfkncbnjnaa
open Go Go.Am
theorem Zdp (k : Nat) (s : St) : acall cfg (k + 300) 39 [] s = .ret (.bool true, s) := by kernel_rfl
end Go.Proofs.Ytgnpnfkncbnjnaa
namespace Go.Proofs.Ytgnpnfkncbnjnaa
open Go Go.Am
def I64 (n : Int) : Prop := -9223372036854775808 <= n /\ n <= 9223372036854775807
def Arg {α : Type} (t : TypeId) (d : Nat) (cells : α -> List AV) (ok : α -> Prop) : Prop := ∀ cs, Content Try.prog d t cs -> ∃ a, cs = cells a /\ ok a
theorem Zip (d : Nat) : Arg 3 (d + 1) (fun n => [iV n]) I64 := by
 intro cs h
 unfold Content at h
 rw [show Try.prog.underlying 3 = some (.int .i64) by kernel_rfl] at h
 obtain ⟨n, rfl, hn⟩ := h
 refine ⟨n, rfl, ?_⟩
 simp only [Lit.wf, Bool.and_eq_true, decide_eq_true_eq] at hn
 exact hn
theorem Zdq {α : Type} {e z : Nat} {d : Nat} {cells : α -> List AV} {ok : α -> Prop} {f : α -> AV} (he : Arg e d cells ok) (hf : ∀ a, rowA z (cells a) = f a) : ∀ rows : List (List AV), (∀ r ∈ rows, r.length = z /\ Content Try.prog d e r) ->
  ∃ l : List α, rows.map (rowA z) = l.map f /\ l.length = rows.length /\ ∀ a ∈ l, ok a
 | [], _ => ⟨[], rfl, rfl, fun a h => by cases h⟩
 | r :: rows, h => by
  obtain ⟨a, rfl, ha⟩ := he r (h r List.mem_cons_self).2
  obtain ⟨l, h1, h2, h3⟩ := Zdq he hf rows fun r hr => h r (List.mem_cons_of_mem _ hr)
  refine ⟨a :: l, by simp [h1, hf], by simp [h2], fun b hb => ?_⟩
  rcases List.mem_cons.1 hb with rfl | hb
  ·exact ha
  ·exact h3 b hb
theorem Zdr {α : Type} {t e z : Nat} {d : Nat} {cells : α -> List AV} {ok : α -> Prop} {f : α -> AV} (hu : Try.prog.underlying t = some (.slice e)) (hz : Try.prog.cellsOf e = z) (he : Arg e d cells ok) (hf : ∀ a, rowA z (cells a) = f a) :
  Arg t (d + 1) (fun l : List α => [.lst (l.map f)]) (fun l => l.length <= 9223372036854775807 /\ ∀ a ∈ l, ok a) := by
 intro cs h
 unfold Content at h
 rw [hu] at h
 obtain ⟨rows, rfl, hl, hr⟩ := h
 rw [hz] at hr ⊢
 obtain ⟨l, h1, h2, h3⟩ := Zdq he hf rows hr
 refine ⟨l, by rw [h1], ?_, h3⟩
 rw [h2]; exact hl
theorem Arg.to {α β : Type} {t d : Nat} {c : α -> List AV} {k : α -> Prop} (h : Arg t d c k) (g : α -> β) {c' : β -> List AV} {k' : β -> Prop} (hc : ∀ a, c a = c' (g a)) (hk : ∀ a, k a -> k' (g a)) : Arg t d c' k' := fun cs hx => by
 obtain ⟨a, rfl, ha⟩ := h cs hx
 exact ⟨g a, hc a, hk a ha⟩
def Len {α : Type} (l : List α) : Prop := l.length <= 9223372036854775807
theorem Zfj (d : Nat) : Arg 22 (d + 2) (fun l : List Int => [.lst (l.map iV)]) (fun l => Len l /\ ∀ a ∈ l, I64 a) := Zdr (z := 1) (by kernel_rfl) (by kernel_rfl) (Zip d) fun _ => rfl
def Tri.I (t : Tri) : Prop := (Len t.of /\ ∀ a ∈ t.of, I64 a) /\ I64 t.cost
def Hnt.I (h : Hnt) : Prop := I64 h.suspects /\ Len h.trials /\ ∀ t ∈ h.trials, t.I
def Rg.I (r : Rg) : Prop := I64 r.lo /\ I64 r.hi
def Rel.I (x : Rel) : Prop := I64 x.frm /\ x.rate.I
def Ves.I (x : Ves) : Prop := I64 x.vol /\ x.free.I /\ x.bound.I /\ Len x.bands /\ ∀ a ∈ x.bands, a.I
def Pip.I (x : Pip) : Prop := I64 x.a /\ I64 x.b /\ x.out.I /\ x.back.I
def Pmp.I (x : Pmp) : Prop := I64 x.at' /\ x.part.I
def Inl.I (x : Inl) : Prop := I64 x.at' /\ x.gas.I
def Gtr.I (x : Gtr) : Prop := I64 x.at' /\ x.part.I /\ x.room.I
def Vac.I (v : Vac) : Prop := (Len v.vessels /\ ∀ a ∈ v.vessels, a.I) /\ (Len v.pipes /\ ∀ a ∈ v.pipes, a.I) /\ (Len v.pumps /\ ∀ a ∈ v.pumps, a.I) /\ (Len v.leaks /\ ∀ a ∈ v.leaks, a.I) /\ (Len v.getters /\ ∀ a ∈ v.getters, a.I)
def Bk.I (s : Bk) : Prop := I64 s.ticks /\ I64 s.heat /\ (Len s.shut /\ ∀ a ∈ s.shut, I64 a)
def Gs.I (g : Gs) : Prop := (Len g.free /\ ∀ a ∈ g.free, a.I) /\ (Len g.bound /\ ∀ a ∈ g.bound, a.I) /\ (Len g.room /\ ∀ a ∈ g.room, a.I) /\ I64 g.most
end Go.Proofs.Ytgnpnfkncbnjnaa
namespace Go.Proofs.Ytgnpnfkncbnjnaa
open Go Go.Am
attribute [local congr] Z8 Z5 Z7
attribute [local go_sem] Go.Am.frozen Go.Am.freezeG Go.Am.freezeGs Go.Am.minmax
theorem VacG.lens {v : Vac} (h : VacG v) (K : Nat) (hK : 10 < K) : v.Lens K :=
 ⟨⟨by have := h.n4; omega, by have := h.n4; omega⟩, ⟨by have := h.np; omega, by have := h.np; omega⟩, ⟨by have := h.nm; omega, by have := h.nm; omega⟩, ⟨by have := h.nl; omega, by have := h.nl; omega⟩, ⟨by have := h.ng; omega, by have := h.ng; omega⟩, fun x hx => by have := (h.ves x hx).len; omega⟩
theorem Vac.I.lens {v : Vac} (h : v.I) (K : Nat) (h1 : v.vessels.length < K) (h2 : v.pipes.length < K) (h3 : v.pumps.length < K) (h4 : v.leaks.length < K) (h5 : v.getters.length < K) : v.Lens K :=
 ⟨⟨h1, h.1.1⟩, ⟨h2, h.2.1.1⟩, ⟨h3, h.2.2.1.1⟩, ⟨h4, h.2.2.2.1.1⟩, ⟨h5, h.2.2.2.2.1⟩, fun x hx => (h.1.2 x hx).2.2.2.1⟩
end Go.Proofs.Ytgnpnfkncbnjnaa
namespace Go.Proofs.Ytgnpnfkncbnjnaa
open Go Go.Am
attribute [local congr] Z8 Z5 Z7
attribute [local go_sem] Go.Am.frozen Go.Am.freezeG Go.Am.freezeGs
end Go.Proofs.Ytgnpnfkncbnjnaa
namespace Go.Proofs.Ytgnpnfkncbnjnaa
open Go Go.Am
attribute [local congr] Z8 Z5 Z7
attribute [local go_sem] Go.Am.frozen Go.Am.freezeG Go.Am.freezeGs
end Go.Proofs.Ytgnpnfkncbnjnaa
namespace Go.Proofs.Ytgnpnfkncbnjnaa
open Go Go.Am
attribute [local congr] Z8 Z5 Z7
attribute [local go_sem] Go.Am.frozen Go.Am.freezeG Go.Am.freezeGs
theorem GasG.gb {v : Vac} {g : Gs} (h : GasG v g) : GB v g :=
 ⟨⟨h.fl, h.bl, h.rl⟩, fun r hr => (h.f r hr).mono (by decide), fun r hr => (h.b r hr).mono (by decide), fun r hr => (h.r r hr).mono (by decide), by have := h.m; omega⟩
theorem Z5c {np : Int} : ∀ {l : List Int} {last : Int}, (∀ x ∈ l, 0 <= x /\ x < np) -> (∀ x ∈ l, last < x) -> List.Pairwise (· < ·) l -> shutE np last l = 0
 | [], _, _, _, _ => rfl
 | a :: r, last, h1, h2, h3 => by
  unfold shutE
  have ha := h1 a List.mem_cons_self
  rw [if_pos (Yf.2 (by omega)), if_neg (by have := h2 a List.mem_cons_self; omega)]
  rw [List.pairwise_cons] at h3
  exact Z5c (fun x hx => h1 x (List.mem_cons_of_mem _ hx)) h3.1 h3.2
theorem StgG.ok {k : Int} {v : Vac} {b : Bk} (h : StgG k v.pipes.length b) (hk : k <= 2000) : stageE v b = 0 := by
 unfold stageE
 rw [if_pos ⟨Yf.2 (by have := h.t; omega), Yf.2 (by have := h.h; omega)⟩]
 exact Z5c h.s (fun x hx => by have := (h.s x hx).1; omega) h.o
end Go.Proofs.Ytgnpnfkncbnjnaa
namespace Go.Proofs.Ytgnpnfkncbnjnaa
open Go Go.Am
attribute [local congr] Z8 Z5 Z7
attribute [local go_sem] Go.Am.frozen Go.Am.freezeG Go.Am.freezeGs
theorem Zds {v : Vac} {l : List Bk} (hv : VB v) (hl : ∀ s ∈ l, StgG 15 v.pipes.length s) (hn : l.length <= 20) : runsE v l = 0 := by
 refine Zfi.2 ⟨Z7o.2 hv, hn, fun s hs => (hl s hs).ok (by decide), ?_⟩
 have : sumI Bk.ticks l <= 15 * l.length := J8 fun s hs => (hl s hs).t.2
 omega
end Go.Proofs.Ytgnpnfkncbnjnaa
namespace Go.Proofs.Ytgnpnfkncbnjnaa
open Go Go.Am
theorem Xj {a c : Int} : ∀ {n : Nat}, 0 <= a -> a < n -> sumI (fun i : Nat => if (i : Int) = a then c else 0) (List.range n) = c
 | 0, h0, h1 => absurd h1 (by omega)
 | n + 1, h0, h1 => by
  rw [List.range_succ, Jm, Zi, Xi]
  by_cases e : (n : Int) = a
  ·rw [if_pos e, Zx (g := fun _ => 0), Z43]; omega
   intro i hi
   rw [List.mem_range] at hi
   rw [if_neg (by omega)]
  ·rw [if_neg e, Xj h0 (by omega)]; omega
theorem Z6c (f : Rg -> Int) (F : List Rg) : sumI f F = sumI (fun i : Nat => f (atR F i)) (List.range F.length) := by
 have : F = (List.range F.length).map fun i : Nat => atR F i := by
  refine List.ext_getElem (by simp) fun i h1 h2 => ?_
  rw [List.getElem_map, List.getElem_range, Z3z _ h1]
 conv => lhs; rw [this]
 rw [Z2v]
theorem Zdt {α : Type} {f : α -> Int} : ∀ l : List α, sumI (fun a => f a / 1000000) l <= sumI f l / 1000000
 | [] => by rw [Xi, Xi]; decide
 | a :: r => by
  have := Zdt (f := f) r
  rw [Zi, Zi]
  omega
theorem Zfx {α : Type} {f : α -> Int} : ∀ l : List α, sumI f l <= 1000000 * sumI (fun a => (f a + 999999) / 1000000) l
 | [] => by rw [Xi, Xi]; decide
 | a :: r => by
  have := Zfx (f := f) r
  rw [Zi, Zi]
  omega
structure Bare' (v : Vac) : Prop where
 m : v.pumps = []
 l : v.leaks = []
 g : v.getters = []
theorem Ziq {v : Vac} (hv : VB v) {h : Int} {F B : List Rg} (hf : F.length = v.vessels.length) (hb : B.length = v.vessels.length) (h1 : Row 68719476736 F) (h2 : Row 68719476736 B) :
  sumI Rg.lo (relF h v.vessels F B) + sumI Rg.lo (relB h v.vessels B) <= sumI Rg.lo F + sumI Rg.lo B /\ sumI Rg.hi F + sumI Rg.hi B <= sumI Rg.hi (relF h v.vessels F B) + sumI Rg.hi (relB h v.vessels B) := by
 have key : ∀ (vs : List Ves) (F B : List Rg), (∀ x ∈ vs, VesB x) -> F.length = vs.length -> B.length = vs.length -> Row 68719476736 F -> Row 68719476736 B ->
   sumI Rg.lo (relF h vs F B) + sumI Rg.lo (relB h vs B) <= sumI Rg.lo F + sumI Rg.lo B /\ sumI Rg.hi F + sumI Rg.hi B <= sumI Rg.hi (relF h vs F B) + sumI Rg.hi (relB h vs B) := by
  intro vs
  induction vs with
  | nil =>
   intro F B _ hf hb _ _
   have e1 : F = [] := List.length_eq_zero_iff.1 hf
   have e2 : B = [] := List.length_eq_zero_iff.1 hb
   subst e1; subst e2
   exact ⟨Int.le_refl _, Int.le_refl _⟩
  | cons x vs ih =>
   intro F B hx hf hb h1 h2
   cases F with
   | nil => simp at hf
   | cons f F =>
    cases B with
    | nil => simp at hb
    | cons b B =>
     obtain ⟨i1, i2⟩ := ih F B (fun y hy => hx y (List.mem_cons_of_mem _ hy)) (by simpa using hf) (by simpa using hb) (fun r hr => h1 r (List.mem_cons_of_mem _ hr)) (fun r hr => h2 r (List.mem_cons_of_mem _ hr))
     have hxx := hx x List.mem_cons_self
     have e1 := (Za2 (h := h) hxx (h1 f List.mem_cons_self) (h2 b List.mem_cons_self)).1
     have e2 := (Za3 (h := h) hxx (h2 b List.mem_cons_self)).1
     obtain ⟨q1, q2, q3⟩ := Za1 (h := h) (Zdb 1000000 (by decide)) hxx.bands
     obtain ⟨b1, b2, b3⟩ := h2 b List.mem_cons_self
     rw [show relF h (x :: vs) (f :: F) (b :: B) = relFr h x f b :: relF h vs F B from rfl, show relB h (x :: vs) (b :: B) = relBo h x b :: relB h vs B from rfl]
     simp only [Zi]
     rw [e1, e2]
     generalize rateP h ⟨0, 0⟩ x.bands = q at *
     simp only
     have m1 : b.lo * q.lo + b.lo * (1000000 - q.hi) <= b.lo * 1000000 := by
      rw [<- Int.mul_add]; exact Int.mul_le_mul_of_nonneg_left (by omega) b1
     have m2 : b.hi * 1000000 <= b.hi * q.hi + b.hi * (1000000 - q.lo) := by
      rw [<- Int.mul_add]; exact Int.mul_le_mul_of_nonneg_left (by omega) (by omega)
     unfold dn ups
     omega
 exact key v.vessels F B hv.ves hf hb h1 h2
theorem Zfk {v : Vac} (hv : VB v) (hb : Bare' v) {F : List Rg} (hF : Row 137438953472 F) (hl : F.length = v.vessels.length) (shut : List Int) :
  sumI Rg.lo (flowG v shut F) <= sumI Rg.lo F /\ sumI Rg.hi F <= sumI Rg.hi (flowG v shut F) := by
 have hm : ∀ p ∈ openP shut 0 v.pipes, PipB v.vessels.length p := fun p hp => hv.pip p (J9 hp)
 generalize hps : openP shut 0 v.pipes = ps at hm
 have e0 : ∀ i : Nat, i < F.length -> atR (flowG v shut F) i = ⟨floLo v ps F i / 1000000, (floHi v ps F i + 999999) / 1000000⟩ := fun i hi => by
  have := (Zdn hv hF hl shut hi).1
  rw [hps] at this
  unfold atR
  rw [Int.toNat_natCast, this]; rfl
 have f1 : sumI Rg.lo (flowG v shut F) = sumI (fun i : Nat => floLo v ps F i / 1000000) (List.range F.length) := by
  rw [Z6c, X9]
  exact Zx fun i hi => by rw [e0 i (List.mem_range.1 hi)]
 have f2 : sumI Rg.hi (flowG v shut F) = sumI (fun i : Nat => (floHi v ps F i + 999999) / 1000000) (List.range F.length) := by
  rw [Z6c, X9]
  exact Zx fun i hi => by rw [e0 i (List.mem_range.1 hi)]
 have o1 : ∀ i : Nat, outHi v i ps = sumI (pHi i) ps := fun i => by unfold outHi; rw [hb.m]; simp [sumI]
 have o2 : ∀ i : Nat, outLo v i ps = sumI (pLo i) ps := fun i => by unfold outLo; rw [hb.m]; simp [sumI]
 have s1 : sumI (fun i : Nat => (atR F i).lo * sumI (pHi i) ps) (List.range F.length) = sumI (fun p : Pip => (atR F p.a).lo * p.out.hi + (atR F p.b).lo * p.back.hi) ps := by
  rw [Zx (g := fun i : Nat => sumI (fun p => (atR F i).lo * pHi i p) ps) fun i _ => (Z1s _ _ _).symm, Z0b]
  refine Zx fun p hp => ?_
  have hpb := hm p hp
  rw [Zx (g := fun i : Nat => (if (i : Int) = p.a then (atR F p.a).lo * p.out.hi else 0) + (if (i : Int) = p.b then (atR F p.b).lo * p.back.hi else 0)), Yz, Xj hpb.a.1 (by rw [hl]; exact hpb.a.2), Xj hpb.b.1 (by rw [hl]; exact hpb.b.2)]
  intro i _
  unfold pHi
  by_cases c1 : (i : Int) = p.a
  ·have c2 : ¬ (i : Int) = p.b := fun e => hpb.ab (by omega)
   rw [if_pos c1, if_neg c2, if_pos c1.symm, if_neg (Ne.symm c2), c1]; simp
  ·by_cases c2 : (i : Int) = p.b
   ·rw [if_neg c1, if_pos c2, if_neg (Ne.symm c1), if_pos c2.symm, c2]; simp
   ·rw [if_neg c1, if_neg c2, if_neg (Ne.symm c1), if_neg (Ne.symm c2)]; simp
 have s2 : sumI (fun i : Nat => (atR F i).hi * sumI (pLo i) ps) (List.range F.length) = sumI (fun p : Pip => (atR F p.a).hi * p.out.lo + (atR F p.b).hi * p.back.lo) ps := by
  rw [Zx (g := fun i : Nat => sumI (fun p => (atR F i).hi * pLo i p) ps) fun i _ => (Z1s _ _ _).symm, Z0b]
  refine Zx fun p hp => ?_
  have hpb := hm p hp
  rw [Zx (g := fun i : Nat => (if (i : Int) = p.a then (atR F p.a).hi * p.out.lo else 0) + (if (i : Int) = p.b then (atR F p.b).hi * p.back.lo else 0)), Yz, Xj hpb.a.1 (by rw [hl]; exact hpb.a.2), Xj hpb.b.1 (by rw [hl]; exact hpb.b.2)]
  intro i _
  unfold pLo
  by_cases c1 : (i : Int) = p.a
  ·have c2 : ¬ (i : Int) = p.b := fun e => hpb.ab (by omega)
   rw [if_pos c1, if_neg c2, if_pos c1.symm, if_neg (Ne.symm c2), c1]; simp
  ·by_cases c2 : (i : Int) = p.b
   ·rw [if_neg c1, if_pos c2, if_neg (Ne.symm c1), if_pos c2.symm, c2]; simp
   ·rw [if_neg c1, if_neg c2, if_neg (Ne.symm c1), if_neg (Ne.symm c2)]; simp
 have t1 : sumI (fun i : Nat => sumI (fLo F i) ps) (List.range F.length) = sumI (fun p : Pip => (atR F p.a).lo * p.out.lo + (atR F p.b).lo * p.back.lo) ps := by
  rw [Z0b]
  refine Zx fun p hp => ?_
  have hpb := hm p hp
  unfold fLo
  rw [Yz, Xj hpb.b.1 (by rw [hl]; exact hpb.b.2), Xj hpb.a.1 (by rw [hl]; exact hpb.a.2)]
 have t2 : sumI (fun i : Nat => sumI (fHi F i) ps) (List.range F.length) = sumI (fun p : Pip => (atR F p.a).hi * p.out.hi + (atR F p.b).hi * p.back.hi) ps := by
  rw [Z0b]
  refine Zx fun p hp => ?_
  have hpb := hm p hp
  unfold fHi
  rw [Yz, Xj hpb.b.1 (by rw [hl]; exact hpb.b.2), Xj hpb.a.1 (by rw [hl]; exact hpb.a.2)]
 have u1 : sumI (fun i : Nat => floLo v ps F i) (List.range F.length) <= 1000000 * sumI Rg.lo F := by
  have : sumI (fun i : Nat => floLo v ps F i + (atR F i).lo * sumI (pHi i) ps) (List.range F.length) = sumI (fun i : Nat => 1000000 * (atR F i).lo + sumI (fLo F i) ps) (List.range F.length) := Zx fun i _ => by
   unfold floLo
   rw [o1, Int.mul_sub]; omega
  rw [Yz, Yz, Z1s, s1, t1, <- Z6c Rg.lo F] at this
  have hle : sumI (fun p : Pip => (atR F p.a).lo * p.out.lo + (atR F p.b).lo * p.back.lo) ps <= sumI (fun p : Pip => (atR F p.a).lo * p.out.hi + (atR F p.b).lo * p.back.hi) ps := Jl fun p hp => by
   have hpb := hm p hp
   have a1 := (hF.at (by decide) p.a).lo
   have a2 := (hF.at (by decide) p.b).lo
   have := Int.mul_le_mul_of_nonneg_left hpb.out.le a1
   have := Int.mul_le_mul_of_nonneg_left hpb.back.le a2
   omega
  omega
 have u2 : 1000000 * sumI Rg.hi F <= sumI (fun i : Nat => floHi v ps F i) (List.range F.length) := by
  have : sumI (fun i : Nat => floHi v ps F i + (atR F i).hi * sumI (pLo i) ps) (List.range F.length) = sumI (fun i : Nat => 1000000 * (atR F i).hi + sumI (fHi F i) ps) (List.range F.length) := Zx fun i _ => by
   unfold floHi
   rw [o2, Int.mul_sub]; omega
  rw [Yz, Yz, Z1s, s2, t2, <- Z6c Rg.hi F] at this
  have hle : sumI (fun p : Pip => (atR F p.a).hi * p.out.lo + (atR F p.b).hi * p.back.lo) ps <= sumI (fun p : Pip => (atR F p.a).hi * p.out.hi + (atR F p.b).hi * p.back.hi) ps := Jl fun p hp => by
   have hpb := hm p hp
   have a1 := (hF.at (by decide) p.a)
   have a2 := (hF.at (by decide) p.b)
   have := Int.mul_le_mul_of_nonneg_left hpb.out.le (show 0 <= (atR F p.a).hi by have := a1.lo; have := a1.le; omega)
   have := Int.mul_le_mul_of_nonneg_left hpb.back.le (show 0 <= (atR F p.b).hi by have := a2.lo; have := a2.le; omega)
   omega
  omega
 have d1 := Zdt (f := fun i : Nat => floLo v ps F i) (List.range F.length)
 have d2 := Zfx (f := fun i : Nat => floHi v ps F i) (List.range F.length)
 rw [f1, f2]
 generalize sumI (fun i : Nat => floLo v ps F i) (List.range F.length) = A at *
 generalize sumI (fun i : Nat => floHi v ps F i) (List.range F.length) = B at *
 generalize sumI (fun i : Nat => (floHi v ps F i + 999999) / 1000000) (List.range F.length) = C at *
 generalize sumI (fun i : Nat => floLo v ps F i / 1000000) (List.range F.length) = D at *
 omega
theorem Z8w {q : Int} (hq : 0 <= q) {m : Int} : ∀ {F : List Rg}, Row m F -> sumI Rg.lo (F.map (cutR q)) <= sumI Rg.lo F /\ 0 <= sumI Rg.hi (F.map (cutR q)) /\ (sumI Rg.hi (F.map (cutR q)) = sumI Rg.hi F \/ q <= sumI Rg.hi (F.map (cutR q)))
 | [], _ => ⟨Int.le_refl _, Int.le_refl _, .inl rfl⟩
 | r :: F, h => by
  obtain ⟨h1, h2, h3⟩ := Z8w hq (F := F) fun x hx => h x (List.mem_cons_of_mem _ hx)
  obtain ⟨r1, r2, r3⟩ := h r List.mem_cons_self
  rw [List.map_cons, Zi, Zi, Zi, Zi]
  have k1 : (cutR q r).lo <= r.lo := (Zim _ _).1
  have k2 : 0 <= (cutR q r).hi := by show 0 <= min2 r.hi q; unfold min2; split <;> omega
  have k3 : (cutR q r).hi = r.hi \/ (cutR q r).hi = q := by show min2 r.hi q = r.hi \/ min2 r.hi q = q; unfold min2; split <;> simp
  refine ⟨by omega, by omega, ?_⟩
  rcases h3 with h3 | h3 <;> rcases k3 with k3 | k3 <;> omega
def loS (g : Gs) : Int := sumI Rg.lo g.free + sumI Rg.lo g.bound
def hiS (g : Gs) : Int := sumI Rg.hi g.free + sumI Rg.hi g.bound
theorem Zdu {v : Vac} (hv : VB v) (hb : Bare' v) {g : Gs} (hg : GB v g) (s : Bk) (hm : g.most <= hiS g) : loS (tickT v g s) <= loS g /\ g.most <= hiS (tickT v g s) /\ (tickT v g s).most = g.most := by
 have st := Za7 hv hg s
 have e0 : leakF g.most v.leaks = g.most := by rw [hb.l]; rfl
 have r1 := Ziq (h := s.heat) hv hg.fits.f hg.fits.b hg.f hg.b
 have hFl : (relF s.heat v.vessels g.free g.bound).length = v.vessels.length := Z2u hg.fits.f hg.fits.b
 have r2 := Zfk hv hb st.f2 hFl s.shut
 have e1 : (getT v (flowT v (relT v (beginT v g s) s) s) s).free = flowG v s.shut (relF s.heat v.vessels g.free g.bound) := by
  have : (flowT v (relT v (beginT v g s) s) s).free = flowG v s.shut (relF s.heat v.vessels g.free g.bound) := by
   show leakR _ v.leaks = _; rw [hb.l]; rfl
  unfold getT
  rw [hb.g]
  split <;> exact this
 have e2 : (getT v (flowT v (relT v (beginT v g s) s) s) s).bound = relB s.heat v.vessels g.bound := (Z1u _ _ _).2.1
 have e3 : (getT v (flowT v (relT v (beginT v g s) s) s) s).most = g.most := ((Z1u _ _ _).1).trans e0
 have c1 := Z8w (q := g.most) hg.m.1 (F := flowG v s.shut (relF s.heat v.vessels g.free g.bound)) (by have := st.f4; rw [e1] at this; exact this)
 have c2 := Z8w (q := g.most) hg.m.1 (F := relB s.heat v.vessels g.bound) st.b2
 have q1 : loS (tickT v g s) = sumI Rg.lo ((flowG v s.shut (relF s.heat v.vessels g.free g.bound)).map (cutR g.most)) + sumI Rg.lo ((relB s.heat v.vessels g.bound).map (cutR g.most)) := by
  show sumI Rg.lo (List.map (cutR _) _) + sumI Rg.lo (List.map (cutR _) _) = _
  rw [e1, e2, e3]
 have q2 : hiS (tickT v g s) = sumI Rg.hi ((flowG v s.shut (relF s.heat v.vessels g.free g.bound)).map (cutR g.most)) + sumI Rg.hi ((relB s.heat v.vessels g.bound).map (cutR g.most)) := by
  show sumI Rg.hi (List.map (cutR _) _) + sumI Rg.hi (List.map (cutR _) _) = _
  rw [e1, e2, e3]
 rw [q1, q2, Z7t, e0]
 have r2' : sumI Rg.lo (flowG v s.shut (relF s.heat v.vessels g.free g.bound)) <= sumI Rg.lo (relF s.heat v.vessels g.free g.bound) /\ sumI Rg.hi (relF s.heat v.vessels g.free g.bound) <= sumI Rg.hi (flowG v s.shut (relF s.heat v.vessels g.free g.bound)) := r2
 unfold loS
 unfold hiS at hm
 omega
theorem Zaa {v : Vac} (hv : VB v) (hb : Bare' v) : ∀ {l : List Bk} {g : Gs}, GB v g -> g.most <= hiS g -> loS (l.foldl (tickT v) g) <= loS g /\ g.most <= hiS (l.foldl (tickT v) g) /\ (l.foldl (tickT v) g).most = g.most
 | [], g, _, h => ⟨Int.le_refl _, h, rfl⟩
 | s :: r, g, hg, h => by
  obtain ⟨h1, h2, h3⟩ := Zdu hv hb hg s h
  obtain ⟨k1, k2, k3⟩ := Zaa hv hb (l := r) (g := tickT v g s) (Zdo hv hg s).1 (by omega)
  rw [List.foldl_cons]
  omega
theorem Zfl {v : Vac} (hv : VB v) : (beginG v).most = hiS (beginG v) /\ loS (beginG v) <= hiS (beginG v) := by
 have h8 := hv.n8
 obtain ⟨_, _, h⟩ := Z6a (l := v.vessels) (m := 0) hv.ves (by decide) (by omega)
 have e : hiS (beginG v) = sumI (fun x : Ves => x.free.hi + x.bound.hi) v.vessels := by
  show sumI Rg.hi (v.vessels.map Ves.free) + sumI Rg.hi (v.vessels.map Ves.bound) = _
  rw [Z2v, Z2v, Yz]
 refine ⟨by rw [e]; show mostF 0 v.vessels = _; omega, ?_⟩
 have gb := Za8 hv
 have a := Jl (f := Rg.lo) (g := Rg.hi) (l := (beginG v).free) fun r hr => (gb.f r hr).le
 have b := Jl (f := Rg.lo) (g := Rg.hi) (l := (beginG v).bound) fun r hr => (gb.b r hr).le
 unfold loS hiS
 omega
end Go.Proofs.Ytgnpnfkncbnjnaa
namespace Go.Proofs.Ytgnpnfkncbnjnaa
attribute [local go_sem_proc] Int.reduceEq Int.reduceNeg Nat.reduceEqDiff Nat.reduceLT Nat.reduceAdd Nat.reduceSub Nat.reduceMul Int.reduceLE Int.reduceLT Int.reduceToNat Nat.reduceLeDiff
attribute [local go_sem] Int.toNat_natCast Bool.not_true Bool.not_false
open Go Go.Am
attribute [local congr] Z8 Z5 Z7
attribute [local go_sem] Go.Am.frozen Go.Am.freezeG Go.Am.freezeGs
def sumsW : Int -> Int -> List Rg -> Int × Int
 | a, b, [] => (a, b)
 | a, b, r :: l => sumsW (wrapF .i64 (a + r.lo)) (wrapF .i64 (b + r.hi)) l
theorem Zab {m : Int} : ∀ {l : List Rg} {a b : Int}, Row m l -> 0 <= a -> 0 <= b -> a + m * l.length <= 9223372036854775807 -> b + m * l.length <= 9223372036854775807 -> sumsW a b l = (a + sumI Rg.lo l, b + sumI Rg.hi l)
 | [], a, b, _, _, _, _, _ => by unfold sumsW; rw [Xi, Xi, Int.add_zero, Int.add_zero]
 | r :: l, a, b, h, h1, h2, h3, h4 => by
  obtain ⟨r1, r2, r3⟩ := h r List.mem_cons_self
  rw [List.length_cons, Int.natCast_add, Int.mul_add] at h3 h4
  simp only [Int.natCast_one, Int.mul_one] at h3 h4
  have hn : 0 <= m * (l.length : Int) := Int.mul_nonneg (by omega) (by omega)
  unfold sumsW
  rw [Z6 (by omega) (by omega), Z6 (by omega) (by omega), Zab (fun x hx => h x (List.mem_cons_of_mem _ hx)) (by omega) (by omega) (by omega) (by omega), Zi, Zi]
  congr 1 <;> omega
theorem Z7w (g : Gs) (K : Nat) (s : St) (n1 : 1 <= g.free.length) (n2 : 1 <= g.bound.length) (h1 : g.free.length <= 1000) (h2 : g.bound.length <= 1000) (hK : 3000 < K) : acall cfg (K + 1) 46 [gsV g] s = .ret (.tuple [.int .i64 (sumsW 0 0 (g.free ++ g.bound)).1, .int .i64 (sumsW 0 0 (g.free ++ g.bound)).2], s) := by
 refine Z23 Zk0 Zjz (by first | rfl | simp -implicitDefEqProofs only [redoH, redo1, go_sem]) (by first | rfl | simp -implicitDefEqProofs only [go_sem]) (by first | rfl | simp -implicitDefEqProofs only [redoH, redo1, go_sem]) ?_
 refine Za rfl fun T hT' hA => ?_
 have a0 := hA 0 _ rfl
 have hT : T.length = 37 := hT'
 clear hA hT'
 unfold gsV at a0
 simp -implicitDefEqProofs only [go_sem, a0]
 simp only [Z2]
 refine Tr.Does.mono (Q := fun x => ∃ (T' : List AV) (H : Heap) (b : Nm), x = (T', (⟨H, 2, [], false, []⟩ : St)) /\ T'.length = 37 /\ nth T' 4 = some (.int .i64 0) /\ nth T' 5 = some (.int .i64 0) /\ nth T' 6 = some (.own b ((g.free ++ g.bound).map rgV))) ?_ ?_
 ·have f1 := fun (p : Nm) (H : Heap) => Z7e (C := cfg.at 46) (sT := 50) (l2 := g.free.map rgV) (H := H) (n := 0) (z := 2) (p := p) (jr := true) (j := []) Z9q Z70 rfl rfl rfl rfl rfl (z_rg _) (by rw [List.length_map]; show (0 + g.free.length) * 16 <= _; omega) (fun h => by have := congrArg List.length h; rw [List.length_map, List.length_nil] at this; omega)
  have f2 := fun (b p : Nm) (H : Heap) (hg : hget H b = some (.tok (g.free.map rgV).length 2)) => Zb3 (C := cfg.at 46) (sT := 50) (b := b) (l := g.free.map rgV) (l2 := g.bound.map rgV) (H := H) (n := 0) (z := 2) (p := p) (jr := true) (j := []) Z9q Z70 rfl rfl rfl rfl rfl (z_rg _) (by rw [List.length_map, List.length_map]; show (g.free.length + g.bound.length) * 16 <= _; omega) (fun h => by have := congrArg List.length h; rw [List.length_map, List.length_nil] at this; omega) hg
  have hbs : ∀ s, buildSliceA (cfg.at 46) true 50 0 [] s = .ret (.empty, s) := fun s => by simp -implicitDefEqProofs only [go_sem, Go.Am.buildSliceA]
  rw [List.map_append]
  generalize g.free.map rgV = F at *
  generalize g.bound.map rgV = B at *
  try simp only [Z2]
  refine Zf [[], [], [1], [0, 2, 1], [], [4], [5, 4, 3, 0, 2, 1], [6, 5, 4, 3, 0, 2, 1]] [[], [], [], [], [], [], [[1, 3, 0]], []] (by kernel_rfl) rfl rfl ?_
  simp -implicitDefEqProofs only [go_sem, Z0, Zd, Option.getD_some, hT, hbs, f1, f2, Ze]
  exact ⟨_, _, [1, 6, 0], rfl, by simp -implicitDefEqProofs only [go_sem, hT], by simp -implicitDefEqProofs only [go_sem, hT], by simp -implicitDefEqProofs only [go_sem, hT], by simp -implicitDefEqProofs only [go_sem, hT]⟩
 clear a0 hT T
 rintro _ ⟨T, H, b, rfl, hT, a4, a5, a6⟩
 have hLl : (g.free ++ g.bound).length <= 2000 := by rw [List.length_append]; omega
 generalize g.free ++ g.bound = L at *
 simp -implicitDefEqProofs only [go_sem]
 simp only [Z2]
 refine Zm (fun k T s' => T.length = 37 /\ nth T 6 = some (.own b (L.map rgV)) /\ ∃ (i m : Nat) (H : Heap) (x y : Int), nth T 7 = some (.int .i64 i) /\ nth T 4 = some (.int .i64 x) /\ nth T 5 = some (.int .i64 y) /\ i <= L.length /\ k = L.length - i /\ s' = ⟨H, m, [], false, []⟩ /\ sumsW 0 0 L = sumsW x y (L.drop i)) (k := L.length) (by omega) ?_ ?_
 ·exact ⟨by simp -implicitDefEqProofs only [go_sem, hT], by simp -implicitDefEqProofs only [go_sem, a6], 0, 2, _, 0, 0, by simp -implicitDefEqProofs only [go_sem, hT] <;> rfl, by simp -implicitDefEqProofs only [go_sem, a4], by simp -implicitDefEqProofs only [go_sem, a5], by omega, rfl, rfl, rfl⟩
 clear a4 a5 a6 hT T H
 rintro k T s' ⟨hT, a6, i, m, H, x, y, a7, a4, a5, hi, rfl, rfl, he⟩
 simp -implicitDefEqProofs only [go_sem, a6, a7, hT, List.length_map]
 by_cases hil : (i : Int) < (L.length : Int)
 ·have hi' : i < L.length := by omega
  have e1 := Zj (f := rgV) (l := L) (i := i) (z := 2) hi' rfl
  rw [List.drop_eq_getElem_cons hi'] at he
  generalize L[i] = r at *
  simp only [rgV] at e1
  have he : sumsW 0 0 L = sumsW (wrapF .i64 (x + r.lo)) (wrapF .i64 (y + r.hi)) (L.drop (i + 1)) := he
  have hkk : L.length - (i + 1) < L.length - i := by clear he; omega
  have hw1 : wrapF .i64 ((i : Int) + 1) = ((i + 1 : Nat) : Int) := Z6 (by clear he; omega) (by clear he; omega)
  simp -implicitDefEqProofs only [go_sem, hil]
  try simp only [Z2]
  refine Zf [[], [], [], [1, 2], [3, 1, 2], [4, 3, 1, 2], [0, 5, 4, 3, 1, 2], [], [], [], [8, 9], [10, 8, 9], [11, 10, 8, 9], [7, 12, 11, 10, 8, 9], [6, 0, 5, 4, 3, 1, 2], [13, 7, 12, 11, 10, 8, 9, 14, 6, 0, 5, 4, 3, 1, 2]] [[], [], [], [], [], [], [], [], [], [], [], [], [], [], [], []] (by kernel_rfl) rfl rfl ?_
  simp -implicitDefEqProofs only [go_sem, Option.getD_some, a4, a5, a6, a7, hT, e1, hw1, Ze]
  exact ⟨L.length - (i + 1), hkk, trivial, trivial, i + 1, m + 1, _, _, _, rfl, rfl, rfl, hi', rfl, rfl, he⟩
 ·have hie : i = L.length := by omega
  subst hie
  rw [List.drop_length] at he
  simp -implicitDefEqProofs only [go_sem, a4, a5, hT, hil, Try.results46]
  rw [he]; rfl
def keptV (v : Vac) : Vac := ⟨v.vessels, v.pipes, [], [], []⟩
theorem Zir {v : Vac} (h : VacG v) : VacG (keptV v) :=
 ⟨h.n1, h.n4, h.ves, h.np, h.pip, Nat.zero_le _, (fun x hx => nomatch hx), Nat.zero_le _, (fun x hx => nomatch hx), Nat.zero_le _, (fun x hx => nomatch hx)⟩
theorem Zdv {v : Vac} {g : Gs} (hv : VB v) (hg : GB v g) : sumsW 0 0 (g.free ++ g.bound) = (loS g, hiS g) := by
 have h1 := hg.fits.f
 have h2 := hg.fits.b
 have h8 := hv.n8
 have hr : Row 68719476736 (g.free ++ g.bound) := fun r hr => by
  rcases List.mem_append.1 hr with hr | hr
  ·exact hg.f r hr
  ·exact hg.b r hr
 have hl : (g.free ++ g.bound).length <= 16 := by rw [List.length_append]; omega
 rw [Zab hr (by decide) (by decide) (by omega) (by omega), Jm, Jm]
 unfold loS hiS
 congr 1 <;> omega
set_option maxHeartbeats 2000000 in
theorem Zdw (nums : List Int) (K : Nat) (hK : 4000 < K) (hk2 : nums.length < K) (hn : Len nums) :
  (acall cfg (K + 320) 8 [.lst (nums.map iV)] s0).Does fun x => x.1 = .bool true := by
 rw [Z5x Zog Zof]
 refine Za rfl fun T hT' hA => ?_
 have a0 := hA 0 _ rfl
 have hT : T.length = 72 := hT'
 clear hA hT'
 have haw := fun s => Zdp (K + 19) s
 have hnd := fun s => Z74 nums (K + 317) s (by omega) hn
 generalize newDice nums = w0 at *
 obtain ⟨own, w1, hg0, hof⟩ := Z67 w0 [0] 0 (K + 309) ⟨[([0], .cells [.int .u64 w0] true 0)], 1, [], false, []⟩ rfl (by omega)
 have hg := Zir hg0
 have hbare : Bare' (keptV own) := ⟨rfl, rfl, rfl⟩
 have hvv : vacV (keptV own) = .agg [.lst (own.vessels.map vesV), .lst (own.pipes.map pipV), .lst [], .lst [], .lst []] := rfl
 obtain ⟨SL, w2, hsl, hsn, hso⟩ := Z6b (keptV own) (by have := hg.np; omega) w1 0 (K + 307) (by have := hg.np; omega)
 have hva := Zb7 hg
 have hck := Z7o.2 hva
 have hbe := fun s => Zb2 (keptV own) (K + 309) s (by omega) (hg.lens _ (by omega))
 unfold gasE at hbe
 rw [hck] at hbe
 simp only [if_true] at hbe
 have hru := fun s => Zfh (keptV own) SL (K + 305) s (by omega) (hg.lens _ (by omega)) ⟨by omega, fun s hs => by have := (hsl s hs).n; have := hg.np; omega⟩
 have hrz : runE (keptV own) SL = (runG (keptV own) SL, 0) := by unfold runE; rw [if_pos (Zds hva hsl (by omega))]
 rw [hrz] at hru
 have gb0 := Za8 hva
 have gb1 : GB (keptV own) (runG (keptV own) SL) := Za9 hva gb0
 obtain ⟨b1, b2⟩ := Zfl hva
 obtain ⟨k1, k2, k3⟩ := Zaa hva hbare (l := flatT SL) gb0 (by omega)
 have k1 : loS (runG (keptV own) SL) <= loS (beginG (keptV own)) := k1
 have k2 : (beginG (keptV own)).most <= hiS (runG (keptV own) SL) := k2
 have k3 : (runG (keptV own) SL).most = (beginG (keptV own)).most := k3
 have c0 := fun s => Z7w (beginG (keptV own)) (K + 318) s (by rw [gb0.fits.f]; exact hva.n1) (by rw [gb0.fits.b]; exact hva.n1) (by rw [gb0.fits.f]; have := hva.n8; omega) (by rw [gb0.fits.b]; have := hva.n8; omega) (by omega)
 have c1 := fun s => Z7w (runG (keptV own) SL) (K + 318) s (by rw [gb1.fits.f]; exact hva.n1) (by rw [gb1.fits.b]; exact hva.n1) (by rw [gb1.fits.f]; have := hva.n8; omega) (by rw [gb1.fits.b]; have := hva.n8; omega) (by omega)
 rw [Zdv hva gb0] at c0
 rw [Zdv hva gb1] at c1
 rw [hvv] at hso hbe hru
 simp only [vacV] at hof
 clear hvv hck hrz gb0 gb1 hbare
 generalize runG (keptV own) SL = G1 at *
 generalize beginG (keptV own) = G0 at *
 have p1 : loS G1 <= loS G0 := k1
 have p2 : loS G0 <= hiS G1 := by omega
 have p3 : loS G1 <= hiS G0 := by omega
 have p4 : (G1.most = G0.most) = True := eq_true k3
 generalize loS G0 = A0 at *
 generalize hiS G0 = B0 at *
 generalize loS G1 = A1 at *
 generalize hiS G1 = B1 at *
 simp only [gsV, gasP] at hbe hru c0 c1
 simp -implicitDefEqProofs only [go_sem, AV.shut, shuts, a0, hT, hnd, hof, hbe]
 have step : ∀ (R : AV) (D : Delta), R.shut = .lst (SL.map bkV) -> True := fun _ _ _ => trivial
 cases hSL : SL with
 | nil =>
  subst hSL
  simp only [List.map_nil, Zed] at hso hru
  try simp only [Z2]
  refine Zf [[], [], [], [1, 2], [0, 3, 1, 2], [4, 0, 3, 1, 2], [5, 4, 0, 3, 1, 2], [5, 4, 0, 3, 1, 2], [], [6, 5, 4, 0, 3, 1, 2, 8], [7, 9, 6, 5, 4, 0, 3, 1, 2, 8]] [[], [], [], [[0]], [], [], [], [], [], [[3, 8, 0]], []] (by kernel_rfl) rfl rfl ?_
  simp -implicitDefEqProofs only [go_sem, Nat.reduceEqDiff, Nat.reduceLT, Nat.reduceAdd, Bool.not_true, Z0, lkn, Zd, lk11, lk13, lk31, Option.getD_some, Option.getD_none, AV.shut, shuts, hT, hso [0], hru, Ze]
  simp -implicitDefEqProofs only [go_sem, Z0, lkn, Zd, lk11, lk31, Option.getD_some, Option.getD_none, AV.shut, shuts, hT, c0, c1, p1, p2, p3, p4, haw, Try.results8]
 | cons z r =>
  have hown : ∀ b, ownV b (SL.map bkV) = .own b (SL.map bkV) := fun b => by rw [hSL]; rfl
  have hso' : ∀ (H : Heap) (n : Nat) (p : Nm) (jr : Bool) (j : Delta), hget H [0] = some (.cells [.int .u64 w1] true 0) -> acall cfg (K + 307 + 12) 45 [.ptr [0] 0, .agg [.lst (own.vessels.map vesV), .lst (own.pipes.map pipV), .lst [], .lst [], .lst []]] ⟨H, n, p, jr, j⟩ = .ret (.own (p ++ [n]) (SL.map bkV), (St.put ⟨H, n, p, jr, j⟩ [0] (.cells [.int .u64 w2] true 0)).new (.tok SL.length 4)) := fun H n p jr j h => by
   have := hso [0] H n p jr j h
   rw [hown] at this
   rw [this, hSL]
  clear hso
  try simp only [Z2]
  refine Zf [[], [], [], [1, 2], [0, 3, 1, 2], [4, 0, 3, 1, 2], [5, 4, 0, 3, 1, 2], [5, 4, 0, 3, 1, 2], [], [6, 5, 4, 0, 3, 1, 2, 8], [7, 9, 6, 5, 4, 0, 3, 1, 2, 8]] [[], [], [], [[0]], [], [], [], [], [], [[3, 8, 0]], []] (by kernel_rfl) rfl rfl ?_
  simp -implicitDefEqProofs only [go_sem, Z0, lkn, Zd, lk11, lk13, lk31, Z2m, Option.getD_some, Option.getD_none, AV.shut, shuts, hT, hso', hru, Ze]
  simp -implicitDefEqProofs only [go_sem, Z0, lkn, Zd, lk11, lk31, Option.getD_some, Option.getD_none, AV.shut, shuts, hT, c0, c1, p1, p2, p3, p4, haw, Try.results8]
theorem Zfm (L : List (List AV)) (hl : L.length = [22].length) (hc : ∀ (i : Nat) t acs, [22][i]? = some t -> L[i]? = some acs -> Content Try.prog 12 t acs) :
  ∃ K, Yes (acall cfg K 8 (([22].zip L).map fun x => argOf Try.prog x.1 x.2) s0) := by
 match L, hl with
 | [c0], _ =>
  obtain ⟨nums, rfl, hn⟩ := Zfj 10 c0 (hc 0 22 c0 rfl rfl)
  refine ⟨(4001 + nums.length) + 320, ⟨?_⟩⟩
  exact (Zdw nums _ (by omega) (by omega) hn.1).all
end Go.Proofs.Ytgnpnfkncbnjnaa
namespace Go.Am
open Go Go.RowKit
section
variable {H0 : Type} {enc : TypeId × Value -> H0} {P : Program} {w : World} {held : Bool}
theorem Zac : ∀ (ts : List TypeId) (vs : List Value) (ds : List (DataW H0)) (ps : List MemPlace), DataW.TrodAll enc P w 0 (fun _ => true) held ts vs ds ps -> ds.length = ts.length
 | [], [], [], ps, _ => rfl
 | t :: ts, v :: vs, d :: ds, ps, h => by
  obtain ⟨p, q, _, h2, _⟩ := h
  simp [Zac ts vs ds q h2]
 | [], [], _ :: _, _, h => h.elim
 | [], _ :: _, [], _, h => h.elim
 | [], _ :: _, _ :: _, _, h => h.elim
 | _ :: _, [], [], _, h => h.elim
 | _ :: _, [], _ :: _, _, h => h.elim
 | _ :: _, _ :: _, [], _, h => h.elim
end
end Go.Am
namespace Go.Proofs.Ytgnpnfkncbnjnaa
open Go Go.Am
theorem Try.laidOut : laidOutB Try.prog = true := by kernel_rfl
theorem Try.own : ownKnob Try.prog.godebug = none := by kernel_rfl
theorem Try.rowed : mapsRowed Try.prog = true := by kernel_rfl
theorem Try.noStops : (Try.prog.stops == []) = true := by kernel_rfl
theorem Try.noKnobs : (Try.prog.stopKnobs == []) = true := by kernel_rfl
theorem Try.plain : (Rows.pumpKnownRow.plainKeys == Try.prog.plainKeys) = true := by kernel_rfl
theorem Try.heard : Try.prog.stopsHeard = true := by kernel_rfl
theorem Try.enters : Try.prog.mayEnter = true := by kernel_rfl
theorem Try.lifts : (Rows.pumpKnownRow.lifted == Try.prog.liftsFinal) = true := by kernel_rfl
theorem Try.makes : (Try.prog.make == some Rows.pumpKnownRow.make) = true := by kernel_rfl
end Go.Proofs.Ytgnpnfkncbnjnaa
namespace Go.Proofs.Ytgnpnfkncbnjnaa
open Go.Am
theorem tok1 : TyOk Try.prog 1 ty1 := Zc (by kernel_rfl) (by kernel_rfl)
theorem tok2 : TyOk Try.prog 2 ty2 := Zc (by kernel_rfl) (by kernel_rfl)
theorem tok3 : TyOk Try.prog 3 ty3 := Zc (by kernel_rfl) (by kernel_rfl)
theorem tok4 : TyOk Try.prog 4 ty4 := Zc (by kernel_rfl) (by kernel_rfl)
theorem tok5 : TyOk Try.prog 5 ty5 := Zc (by kernel_rfl) (by kernel_rfl)
theorem tok9 : TyOk Try.prog 9 ty9 := Zc (by kernel_rfl) (by kernel_rfl)
theorem Zpu : TyOk Try.prog 22 ty22 := Zc (by kernel_rfl) (by kernel_rfl)
theorem Zpv : TyOk Try.prog 23 ty23 := Zc (by kernel_rfl) (by kernel_rfl)
theorem Zpw : TyOk Try.prog 26 ty26 := Zc (by kernel_rfl) (by kernel_rfl)
theorem Zpx : TyOk Try.prog 33 ty33 := Zc (by kernel_rfl) (by kernel_rfl)
theorem Zpy : TyOk Try.prog 34 ty34 := Zc (by kernel_rfl) (by kernel_rfl)
theorem Zpz : TyOk Try.prog 35 ty35 := Zc (by kernel_rfl) (by kernel_rfl)
theorem Zq0 : TyOk Try.prog 36 ty36 := Zc (by kernel_rfl) (by kernel_rfl)
theorem Zq1 : TyOk Try.prog 37 ty37 := Zc (by kernel_rfl) (by kernel_rfl)
theorem Zq2 : TyOk Try.prog 39 ty39 := Zc (by kernel_rfl) (by kernel_rfl)
theorem Zq3 : TyOk Try.prog 42 ty42 := Zc (by kernel_rfl) (by kernel_rfl)
theorem Zq4 : TyOk Try.prog 47 ty47 := Zc (by kernel_rfl) (by kernel_rfl)
theorem Zq5 : TyOk Try.prog 50 ty50 := Zc (by kernel_rfl) (by kernel_rfl)
theorem Zq6 : TyOk Try.prog 56 ty56 := Zc (by kernel_rfl) (by kernel_rfl)
theorem Zq7 : TyOk Try.prog 61 ty61 := Zc (by kernel_rfl) (by kernel_rfl)
theorem Zq8 : TyOk Try.prog 69 ty69 := Zc (by kernel_rfl) (by kernel_rfl)
theorem Zq9 : TyOk Try.prog 71 ty71 := Zc (by kernel_rfl) (by kernel_rfl)
theorem Zqa : TyOk Try.prog 73 ty73 := Zc (by kernel_rfl) (by kernel_rfl)
theorem Zqb : TyOk Try.prog 75 ty75 := Zc (by kernel_rfl) (by kernel_rfl)
theorem Zqc : TyOk Try.prog 77 ty77 := Zc (by kernel_rfl) (by kernel_rfl)
theorem Zqd : TyOk Try.prog 84 ty84 := Zc (by kernel_rfl) (by kernel_rfl)
theorem Zl0 : TyOk Try.prog 128 ty128 := Zc (by kernel_rfl) (by kernel_rfl)
theorem Zl1 : TyOk Try.prog 130 ty130 := Zc (by kernel_rfl) (by kernel_rfl)
theorem Zl2 : TyOk Try.prog 132 ty132 := Zc (by kernel_rfl) (by kernel_rfl)
theorem Zl3 : TyOk Try.prog 138 ty138 := Zc (by kernel_rfl) (by kernel_rfl)
theorem Zl4 : TyOk Try.prog 140 ty140 := Zc (by kernel_rfl) (by kernel_rfl)
theorem Zl5 : TyOk Try.prog 142 ty142 := Zc (by kernel_rfl) (by kernel_rfl)
theorem Zl6 : TyOk Try.prog 148 ty148 := Zc (by kernel_rfl) (by kernel_rfl)
theorem Zl7 : TyOk Try.prog 151 ty151 := Zc (by kernel_rfl) (by kernel_rfl)
theorem Zl8 : TyOk Try.prog 154 ty154 := Zc (by kernel_rfl) (by kernel_rfl)
theorem Zl9 : TyOk Try.prog 155 ty155 := Zc (by kernel_rfl) (by kernel_rfl)
theorem Zla : TyOk Try.prog 158 ty158 := Zc (by kernel_rfl) (by kernel_rfl)
theorem Zlb : TyOk Try.prog 162 ty162 := Zc (by kernel_rfl) (by kernel_rfl)
theorem Zlc : TyOk Try.prog 163 ty163 := Zc (by kernel_rfl) (by kernel_rfl)
theorem Zld : TyOk Try.prog 168 ty168 := Zc (by kernel_rfl) (by kernel_rfl)
theorem Zle : TyOk Try.prog 169 ty169 := Zc (by kernel_rfl) (by kernel_rfl)
theorem Zlf : TyOk Try.prog 170 ty170 := Zc (by kernel_rfl) (by kernel_rfl)
theorem Zlg : TyOk Try.prog 171 ty171 := Zc (by kernel_rfl) (by kernel_rfl)
theorem Zlh : TyOk Try.prog 172 ty172 := Zc (by kernel_rfl) (by kernel_rfl)
theorem Zli : TyOk Try.prog 174 ty174 := Zc (by kernel_rfl) (by kernel_rfl)
theorem Zlj : TyOk Try.prog 176 ty176 := Zc (by kernel_rfl) (by kernel_rfl)
theorem Zlk : TyOk Try.prog 181 ty181 := Zc (by kernel_rfl) (by kernel_rfl)
theorem Zll : TyOk Try.prog 190 ty190 := Zc (by kernel_rfl) (by kernel_rfl)
theorem Zlm : TyOk Try.prog 191 ty191 := Zc (by kernel_rfl) (by kernel_rfl)
theorem Zln : TyOk Try.prog 193 ty193 := Zc (by kernel_rfl) (by kernel_rfl)
theorem Zlo : TyOk Try.prog 210 ty210 := Zc (by kernel_rfl) (by kernel_rfl)
theorem Zlp : TyOk Try.prog 211 ty211 := Zc (by kernel_rfl) (by kernel_rfl)
theorem Zlq : TyOk Try.prog 212 ty212 := Zc (by kernel_rfl) (by kernel_rfl)
theorem Zlr : TyOk Try.prog 214 ty214 := Zc (by kernel_rfl) (by kernel_rfl)
theorem Zls : TyOk Try.prog 215 ty215 := Zc (by kernel_rfl) (by kernel_rfl)
theorem Zlt : TyOk Try.prog 220 ty220 := Zc (by kernel_rfl) (by kernel_rfl)
theorem Zlu : TyOk Try.prog 230 ty230 := Zc (by kernel_rfl) (by kernel_rfl)
theorem Zlv : TyOk Try.prog 231 ty231 := Zc (by kernel_rfl) (by kernel_rfl)
theorem fok8 : Try.prog.funcs[8]? = some Try.f8 /\ (Try.f8.name == "runtime.NumGoroutine") = false := ⟨Try.func8, by kernel_rfl⟩
theorem Zqe : Try.prog.funcs[20]? = some Try.f20 /\ (Try.f20.name == "runtime.NumGoroutine") = false := ⟨Try.func20, by kernel_rfl⟩
theorem Zqf : Try.prog.funcs[23]? = some Try.f23 /\ (Try.f23.name == "runtime.NumGoroutine") = false := ⟨Try.func23, by kernel_rfl⟩
theorem Zqg : Try.prog.funcs[24]? = some Try.f24 /\ (Try.f24.name == "runtime.NumGoroutine") = false := ⟨Try.func24, by kernel_rfl⟩
theorem Zqh : Try.prog.funcs[25]? = some Try.f25 /\ (Try.f25.name == "runtime.NumGoroutine") = false := ⟨Try.func25, by kernel_rfl⟩
theorem Zqi : Try.prog.funcs[29]? = some Try.f29 /\ (Try.f29.name == "runtime.NumGoroutine") = false := ⟨Try.func29, by kernel_rfl⟩
theorem Zqj : Try.prog.funcs[35]? = some Try.f35 /\ (Try.f35.name == "runtime.NumGoroutine") = false := ⟨Try.func35, by kernel_rfl⟩
theorem Zqk : Try.prog.funcs[36]? = some Try.f36 /\ (Try.f36.name == "runtime.NumGoroutine") = false := ⟨Try.func36, by kernel_rfl⟩
theorem Zql : Try.prog.funcs[37]? = some Try.f37 /\ (Try.f37.name == "runtime.NumGoroutine") = false := ⟨Try.func37, by kernel_rfl⟩
theorem Zqm : Try.prog.funcs[38]? = some Try.f38 /\ (Try.f38.name == "runtime.NumGoroutine") = false := ⟨Try.func38, by kernel_rfl⟩
theorem Zqn : Try.prog.funcs[39]? = some Try.f39 /\ (Try.f39.name == "runtime.NumGoroutine") = false := ⟨Try.func39, by kernel_rfl⟩
theorem Zqo : Try.prog.funcs[41]? = some Try.f41 /\ (Try.f41.name == "runtime.NumGoroutine") = false := ⟨Try.func41, by kernel_rfl⟩
theorem Zqp : Try.prog.funcs[44]? = some Try.f44 /\ (Try.f44.name == "runtime.NumGoroutine") = false := ⟨Try.func44, by kernel_rfl⟩
theorem Zqq : Try.prog.funcs[45]? = some Try.f45 /\ (Try.f45.name == "runtime.NumGoroutine") = false := ⟨Try.func45, by kernel_rfl⟩
theorem Zqr : Try.prog.funcs[46]? = some Try.f46 /\ (Try.f46.name == "runtime.NumGoroutine") = false := ⟨Try.func46, by kernel_rfl⟩
theorem Zqs : Try.prog.funcs[49]? = some Try.f49 /\ (Try.f49.name == "runtime.NumGoroutine") = false := ⟨Try.func49, by kernel_rfl⟩
theorem Zqt : Try.prog.funcs[58]? = some Try.f58 /\ (Try.f58.name == "runtime.NumGoroutine") = false := ⟨Try.func58, by kernel_rfl⟩
theorem Zqu : Try.prog.funcs[83]? = some Try.f83 /\ (Try.f83.name == "runtime.NumGoroutine") = false := ⟨Try.func83, by kernel_rfl⟩
theorem Zqv : Try.prog.funcs[84]? = some Try.f84 /\ (Try.f84.name == "runtime.NumGoroutine") = false := ⟨Try.func84, by kernel_rfl⟩
theorem Zqw : Try.prog.funcs[85]? = some Try.f85 /\ (Try.f85.name == "runtime.NumGoroutine") = false := ⟨Try.func85, by kernel_rfl⟩
theorem Zqx : Try.prog.funcs[87]? = some Try.f87 /\ (Try.f87.name == "runtime.NumGoroutine") = false := ⟨Try.func87, by kernel_rfl⟩
theorem Zqy : Try.prog.funcs[88]? = some Try.f88 /\ (Try.f88.name == "runtime.NumGoroutine") = false := ⟨Try.func88, by kernel_rfl⟩
theorem Zqz : Try.prog.funcs[94]? = some Try.f94 /\ (Try.f94.name == "runtime.NumGoroutine") = false := ⟨Try.func94, by kernel_rfl⟩
theorem Zr0 : Try.prog.funcs[95]? = some Try.f95 /\ (Try.f95.name == "runtime.NumGoroutine") = false := ⟨Try.func95, by kernel_rfl⟩
theorem Zr1 : Try.prog.funcs[97]? = some Try.f97 /\ (Try.f97.name == "runtime.NumGoroutine") = false := ⟨Try.func97, by kernel_rfl⟩
theorem Zr2 : Try.prog.funcs[98]? = some Try.f98 /\ (Try.f98.name == "runtime.NumGoroutine") = false := ⟨Try.func98, by kernel_rfl⟩
theorem Zr3 : Try.prog.funcs[99]? = some Try.f99 /\ (Try.f99.name == "runtime.NumGoroutine") = false := ⟨Try.func99, by kernel_rfl⟩
theorem Zlw : Try.prog.funcs[100]? = some Try.f100 /\ (Try.f100.name == "runtime.NumGoroutine") = false := ⟨Try.func100, by kernel_rfl⟩
theorem Zlx : Try.prog.funcs[101]? = some Try.f101 /\ (Try.f101.name == "runtime.NumGoroutine") = false := ⟨Try.func101, by kernel_rfl⟩
theorem Zly : Try.prog.funcs[102]? = some Try.f102 /\ (Try.f102.name == "runtime.NumGoroutine") = false := ⟨Try.func102, by kernel_rfl⟩
theorem Zlz : Try.prog.funcs[103]? = some Try.f103 /\ (Try.f103.name == "runtime.NumGoroutine") = false := ⟨Try.func103, by kernel_rfl⟩
theorem Zm0 : Try.prog.funcs[104]? = some Try.f104 /\ (Try.f104.name == "runtime.NumGoroutine") = false := ⟨Try.func104, by kernel_rfl⟩
theorem Zm1 : Try.prog.funcs[105]? = some Try.f105 /\ (Try.f105.name == "runtime.NumGoroutine") = false := ⟨Try.func105, by kernel_rfl⟩
theorem Zm2 : Try.prog.funcs[106]? = some Try.f106 /\ (Try.f106.name == "runtime.NumGoroutine") = false := ⟨Try.func106, by kernel_rfl⟩
theorem Zm3 : Try.prog.funcs[107]? = some Try.f107 /\ (Try.f107.name == "runtime.NumGoroutine") = false := ⟨Try.func107, by kernel_rfl⟩
theorem Zm4 : Try.prog.funcs[108]? = some Try.f108 /\ (Try.f108.name == "runtime.NumGoroutine") = false := ⟨Try.func108, by kernel_rfl⟩
theorem Zm5 : Try.prog.funcs[109]? = some Try.f109 /\ (Try.f109.name == "runtime.NumGoroutine") = false := ⟨Try.func109, by kernel_rfl⟩
theorem Zm6 : Try.prog.funcs[110]? = some Try.f110 /\ (Try.f110.name == "runtime.NumGoroutine") = false := ⟨Try.func110, by kernel_rfl⟩
theorem Zm7 : Try.prog.funcs[111]? = some Try.f111 /\ (Try.f111.name == "runtime.NumGoroutine") = false := ⟨Try.func111, by kernel_rfl⟩
theorem Zm8 : Try.prog.funcs[112]? = some Try.f112 /\ (Try.f112.name == "runtime.NumGoroutine") = false := ⟨Try.func112, by kernel_rfl⟩
theorem Zm9 : Try.prog.funcs[113]? = some Try.f113 /\ (Try.f113.name == "runtime.NumGoroutine") = false := ⟨Try.func113, by kernel_rfl⟩
theorem Zma : Try.prog.funcs[114]? = some Try.f114 /\ (Try.f114.name == "runtime.NumGoroutine") = false := ⟨Try.func114, by kernel_rfl⟩
theorem Zmb : Try.prog.funcs[115]? = some Try.f115 /\ (Try.f115.name == "runtime.NumGoroutine") = false := ⟨Try.func115, by kernel_rfl⟩
theorem Zmc : Try.prog.funcs[116]? = some Try.f116 /\ (Try.f116.name == "runtime.NumGoroutine") = false := ⟨Try.func116, by kernel_rfl⟩
theorem Zmd : Try.prog.funcs[117]? = some Try.f117 /\ (Try.f117.name == "runtime.NumGoroutine") = false := ⟨Try.func117, by kernel_rfl⟩
theorem Zme : Try.prog.funcs[118]? = some Try.f118 /\ (Try.f118.name == "runtime.NumGoroutine") = false := ⟨Try.func118, by kernel_rfl⟩
theorem Zmf : Try.prog.funcs[126]? = some Try.f126 /\ (Try.f126.name == "runtime.NumGoroutine") = false := ⟨Try.func126, by kernel_rfl⟩
theorem Zmg : Try.prog.funcs[147]? = some Try.f147 /\ (Try.f147.name == "runtime.NumGoroutine") = false := ⟨Try.func147, by kernel_rfl⟩
theorem Zmh : Try.prog.funcs[148]? = some Try.f148 /\ (Try.f148.name == "runtime.NumGoroutine") = false := ⟨Try.func148, by kernel_rfl⟩
theorem Zmi : Try.prog.funcs[149]? = some Try.f149 /\ (Try.f149.name == "runtime.NumGoroutine") = false := ⟨Try.func149, by kernel_rfl⟩
theorem Zmj : Try.prog.funcs[150]? = some Try.f150 /\ (Try.f150.name == "runtime.NumGoroutine") = false := ⟨Try.func150, by kernel_rfl⟩
theorem Zmk : Try.prog.funcs[151]? = some Try.f151 /\ (Try.f151.name == "runtime.NumGoroutine") = false := ⟨Try.func151, by kernel_rfl⟩
theorem Zml : Try.prog.funcs[152]? = some Try.f152 /\ (Try.f152.name == "runtime.NumGoroutine") = false := ⟨Try.func152, by kernel_rfl⟩
theorem Zmm : Try.prog.funcs[153]? = some Try.f153 /\ (Try.f153.name == "runtime.NumGoroutine") = false := ⟨Try.func153, by kernel_rfl⟩
theorem Zmn : Try.prog.funcs[154]? = some Try.f154 /\ (Try.f154.name == "runtime.NumGoroutine") = false := ⟨Try.func154, by kernel_rfl⟩
theorem Zmo : Try.prog.funcs[155]? = some Try.f155 /\ (Try.f155.name == "runtime.NumGoroutine") = false := ⟨Try.func155, by kernel_rfl⟩
theorem Zmp : Try.prog.funcs[156]? = some Try.f156 /\ (Try.f156.name == "runtime.NumGoroutine") = false := ⟨Try.func156, by kernel_rfl⟩
theorem Zmq : Try.prog.funcs[157]? = some Try.f157 /\ (Try.f157.name == "runtime.NumGoroutine") = false := ⟨Try.func157, by kernel_rfl⟩
theorem Zmr : Try.prog.funcs[158]? = some Try.f158 /\ (Try.f158.name == "runtime.NumGoroutine") = false := ⟨Try.func158, by kernel_rfl⟩
theorem Zms : Try.prog.funcs[159]? = some Try.f159 /\ (Try.f159.name == "runtime.NumGoroutine") = false := ⟨Try.func159, by kernel_rfl⟩
theorem Zmt : Try.prog.funcs[164]? = some Try.f164 /\ (Try.f164.name == "runtime.NumGoroutine") = false := ⟨Try.func164, by kernel_rfl⟩
theorem Zmu : Try.prog.funcs[165]? = some Try.f165 /\ (Try.f165.name == "runtime.NumGoroutine") = false := ⟨Try.func165, by kernel_rfl⟩
theorem Zmv : Try.prog.funcs[178]? = some Try.f178 /\ (Try.f178.name == "runtime.NumGoroutine") = false := ⟨Try.func178, by kernel_rfl⟩
theorem Zmw : Try.prog.funcs[179]? = some Try.f179 /\ (Try.f179.name == "runtime.NumGoroutine") = false := ⟨Try.func179, by kernel_rfl⟩
theorem Zmx : Try.prog.funcs[180]? = some Try.f180 /\ (Try.f180.name == "runtime.NumGoroutine") = false := ⟨Try.func180, by kernel_rfl⟩
theorem Zmy : Try.prog.funcs[181]? = some Try.f181 /\ (Try.f181.name == "runtime.NumGoroutine") = false := ⟨Try.func181, by kernel_rfl⟩
theorem Zr4 : AllNT (fun t i => TyOk Try.prog t i) tyT := ⟨Zl3, ⟨Zq2, ⟨Zpv, ⟨tok4, ⟨tok2, ⟨tok1, trivial, trivial⟩, ⟨tok3, trivial, trivial⟩⟩, ⟨tok9, ⟨tok5, trivial, trivial⟩, ⟨Zpu, trivial, trivial⟩⟩⟩, ⟨Zpz, ⟨Zpx, ⟨Zpw, trivial, trivial⟩, ⟨Zpy, trivial, trivial⟩⟩, ⟨Zq1, ⟨Zq0, trivial, trivial⟩, trivial⟩⟩⟩, ⟨Zqa, ⟨Zq6, ⟨Zq4, ⟨Zq3, trivial, trivial⟩, ⟨Zq5, trivial, trivial⟩⟩, ⟨Zq8, ⟨Zq7, trivial, trivial⟩, ⟨Zq9, trivial, trivial⟩⟩⟩, ⟨Zl0, ⟨Zqc, ⟨Zqb, trivial, trivial⟩, ⟨Zqd, trivial, trivial⟩⟩, ⟨Zl2, ⟨Zl1, trivial, trivial⟩, trivial⟩⟩⟩⟩, ⟨Zli, ⟨Zlb, ⟨Zl7, ⟨Zl5, ⟨Zl4, trivial, trivial⟩, ⟨Zl6, trivial, trivial⟩⟩, ⟨Zl9, ⟨Zl8, trivial, trivial⟩, ⟨Zla, trivial, trivial⟩⟩⟩, ⟨Zlf, ⟨Zld, ⟨Zlc, trivial, trivial⟩, ⟨Zle, trivial, trivial⟩⟩, ⟨Zlh, ⟨Zlg, trivial, trivial⟩, trivial⟩⟩⟩, ⟨Zlp, ⟨Zlm, ⟨Zlk, ⟨Zlj, trivial, trivial⟩, ⟨Zll, trivial, trivial⟩⟩, ⟨Zlo, ⟨Zln, trivial, trivial⟩, trivial⟩⟩, ⟨Zlt, ⟨Zlr, ⟨Zlq, trivial, trivial⟩, ⟨Zls, trivial, trivial⟩⟩, ⟨Zlv, ⟨Zlu, trivial, trivial⟩, trivial⟩⟩⟩⟩⟩
theorem Zr5 : AllNT (fun f fn => Try.prog.funcs[f]? = some fn /\ (fn.name == "runtime.NumGoroutine") = false) fnT := ⟨Zm2, ⟨Zqt, ⟨Zql, ⟨Zqh, ⟨Zqf, ⟨Zqe, ⟨fok8, trivial, trivial⟩, trivial⟩, ⟨Zqg, trivial, trivial⟩⟩, ⟨Zqj, ⟨Zqi, trivial, trivial⟩, ⟨Zqk, trivial, trivial⟩⟩⟩, ⟨Zqp, ⟨Zqn, ⟨Zqm, trivial, trivial⟩, ⟨Zqo, trivial, trivial⟩⟩, ⟨Zqr, ⟨Zqq, trivial, trivial⟩, ⟨Zqs, trivial, trivial⟩⟩⟩⟩, ⟨Zr2, ⟨Zqy, ⟨Zqw, ⟨Zqv, ⟨Zqu, trivial, trivial⟩, trivial⟩, ⟨Zqx, trivial, trivial⟩⟩, ⟨Zr0, ⟨Zqz, trivial, trivial⟩, ⟨Zr1, trivial, trivial⟩⟩⟩, ⟨Zly, ⟨Zlw, ⟨Zr3, trivial, trivial⟩, ⟨Zlx, trivial, trivial⟩⟩, ⟨Zm0, ⟨Zlz, trivial, trivial⟩, ⟨Zm1, trivial, trivial⟩⟩⟩⟩⟩, ⟨Zmj, ⟨Zmb, ⟨Zm7, ⟨Zm5, ⟨Zm4, ⟨Zm3, trivial, trivial⟩, trivial⟩, ⟨Zm6, trivial, trivial⟩⟩, ⟨Zm9, ⟨Zm8, trivial, trivial⟩, ⟨Zma, trivial, trivial⟩⟩⟩, ⟨Zmf, ⟨Zmd, ⟨Zmc, trivial, trivial⟩, ⟨Zme, trivial, trivial⟩⟩, ⟨Zmh, ⟨Zmg, trivial, trivial⟩, ⟨Zmi, trivial, trivial⟩⟩⟩⟩, ⟨Zmr, ⟨Zmn, ⟨Zml, ⟨Zmk, trivial, trivial⟩, ⟨Zmm, trivial, trivial⟩⟩, ⟨Zmp, ⟨Zmo, trivial, trivial⟩, ⟨Zmq, trivial, trivial⟩⟩⟩, ⟨Zmv, ⟨Zmt, ⟨Zms, trivial, trivial⟩, ⟨Zmu, trivial, trivial⟩⟩, ⟨Zmx, ⟨Zmw, trivial, trivial⟩, ⟨Zmy, trivial, trivial⟩⟩⟩⟩⟩⟩
theorem Zr6 : CfgOk Try.prog cfg := Ze9 Zr5 Zr4 (by kernel_rfl)
theorem Zis : CodesOk cfg := Zam (by kernel_rfl)
end Go.Proofs.Ytgnpnfkncbnjnaa
namespace Go.Proofs.Ytgnpnfkncbnjnaa
open Go Go.Am Go.ChangeShapes Go.WideShapes Go.ChangeAt Go.RowKit
set_option maxRecDepth 100000 in
theorem Z8x (os : Os) (started : os.Started) (H : Type) (enc : TypeId × Value -> H) :
  ReturnsInHanded {} Try.checked os 8 .any (Rows.pumpKeptSpec.pre6 enc Try.prog Try.f8 Rows.pumpKeptRow.domain false) (Rows.pumpKeptSpec.post enc Try.prog Try.f8 false true false false) := by
 refine returnsInHanded_of_change (C := Try.checked) Try.own started (by kernel_rfl) Try.func8
  (ChangeSpec.witness6 (enc := enc) (C := Try.checked) false ⟨#[], #[.slice none 0 0], []⟩ 8 (by kernel_rfl) (by kernel_rfl) (by kernel_rfl) (by kernel_rfl)) ?_
 intro W base args ds gs before hval0 hW hcnd _
 have hW' := hW
 obtain ⟨p, q, hA0, hV, rfl, hfz, hnd⟩ := hW
 have hA : DataW.TrodAll enc Try.prog W 0 (fun _ => true) true Try.f8.params.toList args.toList ds p := hA0
 rw [Try.params8] at hA
 obtain ⟨rfl, rfl⟩ := trodVars_none hV
 simp only [List.append_nil] at hW'
 have hlen : ds.length = 1 := Zac _ _ _ _ hA
 have hsup : (([22] : List TypeId).all fun t => suppB Try.prog 12 t) = true := by as_aux_lemma => kernel_rfl
 have hpar : (([22] : List TypeId).all fun t => Try.prog.readableRec t && Nat.blt t Try.prog.types.size) = true := by as_aux_lemma => kernel_rfl
 refine (Z5v (d := 12) Zr6 Zis hA (fun t ht => List.all_eq_true.1 hsup t ht) (fun j t v e1 e2 => hval0 j t v (by rw [Try.params8]; simpa using e1) (by simpa using e2)) fun L hl hc => Zfm L hl hc).mono fun e W' ⟨he, hb⟩ => ?_
 subst he
 exact ⟨_, rfl, Zea Try.laidOut (fun t ht => by rw [Try.params8] at ht; have := List.all_eq_true.1 hpar t ht; rw [Bool.and_eq_true, Nat.blt_eq] at this; exact this) rfl rfl Try.underlying4 hW' (by match ds, hlen with | [_], _ => rfl) hb⟩
set_option maxHeartbeats 4000000 in
theorem Z8y : joinedFacts Try.prog 8 Try.f8 Rows.pumpKeptSpec Rows.pumpKeptRow = true := by
 refine Zck Try.laidOut Try.rowed Try.noStops Try.noKnobs Try.plain Try.heard Try.enters Try.lifts Try.makes (by as_aux_lemma => kernel_rfl) (by as_aux_lemma => kernel_rfl) (by as_aux_lemma => kernel_rfl) (by as_aux_lemma => kernel_rfl) (by as_aux_lemma => kernel_rfl)
  (by as_aux_lemma => kernel_rfl) (by as_aux_lemma => kernel_rfl) (by as_aux_lemma => kernel_rfl) (by as_aux_lemma => kernel_rfl) ?_
 kernel_rfl
theorem kept_holds : Rows.PumpKeptSaid :=
 OpenClaim.holds_of_wide 8 Try.f8 rfl rfl rfl rfl rfl rfl rfl ⟨rfl, rfl, rfl, rfl, rfl⟩ rfl rfl rfl rfl rfl (by as_aux_lemma => kernel_rfl) Try.func8 Z8y
  (of_decide_eq_true (by as_aux_lemma => kernel_rfl)) (by as_aux_lemma => unfold Func.isWrapper; first | (rw [if_pos (by decide +kernel)]; kernel_rfl) | (rw [if_neg (by decide +kernel)]; exact ⟨rfl, rfl⟩))
  (fun os started H enc _ => Z8x os started H enc)
end Go.Proofs.Ytgnpnfkncbnjnaa
