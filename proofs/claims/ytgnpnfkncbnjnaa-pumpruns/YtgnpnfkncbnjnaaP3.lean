/- The statement PumpRuns holds for every input, without further conditions: a part of its proof (an abstract machine for the loaded code, its soundness, and what the functions answer in it). -/
import Derived.Test.YtgnpnfkncbnjnaaP2
set_option linter.unusedSimpArgs false
set_option linter.unusedVariables false
set_option maxRecDepth 100000
namespace Go.Proofs.Ytgnpnfkncbnjnaa
attribute [local go_sem_proc] Int.reduceEq Int.reduceNeg Nat.reduceEqDiff Nat.reduceLT Nat.reduceAdd Nat.reduceSub Nat.reduceMul Int.reduceLE Int.reduceLT Int.reduceToNat Nat.reduceLeDiff
attribute [local go_sem] Int.toNat_natCast Bool.not_true Bool.not_false
open Go Go.Am
attribute [local congr] Ze Zb Zc
attribute [local go_sem] Go.Am.buildSliceA Go.Am.frozen Go.Am.freezeG Go.Am.freezeGs Go.Am.minmax
def shutE (np : Int) : Int -> List Int -> Int
 | _, [] => 0
 | last, p :: l => if fromB p 0 (np - 1) = true then if p <= last then 11 else shutE np p l else 7
def stageE (v : Vac) (s : Bk) : Int := if fromB s.ticks 0 2000 = true /\ fromB s.heat 0 2000 = true then shutE v.pipes.length (-1) s.shut else 2
theorem Zc6 (v : Vac) (b : Bk) (K : Nat) (s : St) (hK : b.shut.length < K) (hl : b.shut.length <= 9223372036854775807) (hp : v.pipes.length <= 9223372036854775807) : acall cfg (K + 2) 95 [vacV v, bkV b] s = .ret (.int .i64 (stageE v b), s) := by
 refine Yh Znv Znu (by first | rfl | simp -implicitDefEqProofs only [redoH, redo1, go_sem]) (by first | rfl | simp -implicitDefEqProofs only [go_sem]) (by first | rfl | simp -implicitDefEqProofs only [redoH, redo1, go_sem]) ?_
 refine Z6 rfl fun T hT' hA => ?_
 have a0 := hA 0 _ rfl
 have a1 := hA 1 _ rfl
 have hT : T.length = 39 := hT'
 clear hA hT'
 have hc := fun n lo hi s => J8 n lo hi K s
 have hw : wrapF .i64 ((v.pipes.length : Int) - 1) = (v.pipes.length : Int) - 1 := Z5 (by omega) (by omega)
 unfold stageE
 simp -implicitDefEqProofs only [go_sem, a0, a1, hT, hc]
 by_cases c1 : fromB b.ticks 0 2000 = true
 ·by_cases c2 : fromB b.heat 0 2000 = true
  ·rw [if_pos ⟨c1, c2⟩]
   simp -implicitDefEqProofs only [go_sem, hT, c1, c2]
   simp only [Z1]
   refine Zf (fun k T s' => T.length = 39 /\ nth T 2 = some (.ptr [0] 0) /\ nth T 19 = some (.lst (b.shut.map iV)) /\ nth T 20 = some (.int .i64 b.shut.length) /\ s' = ⟨[([1], .cells [.int .i64 b.ticks, .int .i64 b.heat, .lst (b.shut.map iV), .bool b.flash] true 0), ([0], .cells [.lst (v.vessels.map vesV), .lst (v.pipes.map pipV), .lst (v.pumps.map pmpV), .lst (v.leaks.map inlV), .lst (v.getters.map gtrV)] true 0)], 2, [], false, []⟩ /\
    ∃ (i : Nat) (last : Int), nth T 21 = some (.int .i64 i) /\ nth T 5 = some (.int .i64 last) /\ i <= b.shut.length /\ k = b.shut.length - i /\ shutE v.pipes.length (-1) b.shut = shutE v.pipes.length last (b.shut.drop i)) (k := b.shut.length) (by omega) ?_ ?_
   ·exact ⟨by simp -implicitDefEqProofs only [go_sem, hT], by simp -implicitDefEqProofs only [go_sem, hT], by simp -implicitDefEqProofs only [go_sem, hT], by simp -implicitDefEqProofs only [go_sem, hT], rfl, 0, -1, by simp -implicitDefEqProofs only [go_sem, hT] <;> rfl, by simp -implicitDefEqProofs only [go_sem, hT] <;> rfl, by omega, rfl, rfl⟩
   clear a0 a1 hT T
   rintro k T s' ⟨hT, a2, a19, a20, rfl, i, last, a21, a5, hi, rfl, he⟩
   simp -implicitDefEqProofs only [go_sem, a20, a21, hT]
   by_cases hil : (i : Int) < (b.shut.length : Int)
   ·have hi' : i < b.shut.length := by omega
    have e1 := Z9 (f := iV) (l := b.shut) (i := i) (z := 1) hi' rfl
    have hkk : b.shut.length - (i + 1) < b.shut.length - i := by omega
    rw [List.drop_eq_getElem_cons hi'] at he
    have hw1 : wrapF .i64 ((i : Int) + 1) = ((i + 1 : Nat) : Int) := Z5 (by omega) (by omega)
    generalize b.shut[i] = x at *
    simp only [shutE] at he
    simp -implicitDefEqProofs only [go_sem, a2, a19, a21, hT, hil, e1, hw, hc]
    by_cases d1 : fromB x 0 (v.pipes.length - 1) = true
    ·rw [if_pos d1] at he
     by_cases d2 : x <= last
     ·rw [if_pos d2] at he
      simp -implicitDefEqProofs only [go_sem, a5, hT, d1, d2, he, Try.results95]
     ·rw [if_neg d2] at he
      simp -implicitDefEqProofs only [go_sem, a2, a5, a19, a20, a21, hT, d1, d2, hw1]
      exact ⟨b.shut.length - (i + 1), hkk, trivial, trivial, trivial, trivial, trivial, i + 1, x, rfl, rfl, hi', rfl, he⟩
    ·rw [if_neg d1] at he
     simp -implicitDefEqProofs only [go_sem, hT, d1, he, Try.results95]
   ·have hie : i = b.shut.length := by omega
    subst hie
    rw [List.drop_length] at he
    simp only [shutE] at he
    simp -implicitDefEqProofs only [go_sem, hT, hil, he, Try.results95]
  ·rw [if_neg (fun h => c2 h.2)]
   simp -implicitDefEqProofs only [go_sem, hT, c1, c2, Try.results95]
 ·rw [if_neg (fun h => c1 h.1)]
  simp -implicitDefEqProofs only [go_sem, hT, c1, Try.results95]
theorem Z4p (v : Vac) (b : Bk) (K : Nat) (s : St) (hK : b.shut.length < K) (hl : b.shut.length <= 9223372036854775807) (hp : v.pipes.length <= 9223372036854775807) : acall cfg (K + 2) 122 [vacV v, bkV b] s = .ret (.int .i64 (stageE v b), s) := by
 refine Yh Zj9 Zj8 (by first | rfl | simp -implicitDefEqProofs only [redoH, redo1, go_sem]) (by first | rfl | simp -implicitDefEqProofs only [go_sem]) (by first | rfl | simp -implicitDefEqProofs only [redoH, redo1, go_sem]) ?_
 refine Z6 rfl fun T hT' hA => ?_
 have a0 := hA 0 _ rfl
 have a1 := hA 1 _ rfl
 have hT : T.length = 50 := hT'
 clear hA hT'
 have hc := fun n lo hi s => X1 n lo hi K s
 have hw : wrapF .i64 ((v.pipes.length : Int) - 1) = (v.pipes.length : Int) - 1 := Z5 (by omega) (by omega)
 unfold stageE
 simp -implicitDefEqProofs only [go_sem, a0, a1, hT, hc]
 by_cases c1 : fromB b.ticks 0 2000 = true
 ·by_cases c2 : fromB b.heat 0 2000 = true
  ·rw [if_pos ⟨c1, c2⟩]
   simp -implicitDefEqProofs only [go_sem, hT, c1, c2]
   simp only [Z1]
   refine Zf (fun k T s' => T.length = 50 /\ nth T 2 = some (.ptr [0] 0) /\ nth T 3 = some (.ptr [1] 0) /\
    ∃ (i n : Nat) (last : Int) (H : Heap), nth T 5 = some (.int .i64 i) /\ i <= b.shut.length /\ k = b.shut.length - i /\ s' = ⟨H, n, [], false, []⟩ /\ hget H [0] = some (.cells [.lst (v.vessels.map vesV), .lst (v.pipes.map pipV), .lst (v.pumps.map pmpV), .lst (v.leaks.map inlV), .lst (v.getters.map gtrV)] true 0) /\ hget H [1] = some (.cells [.int .i64 b.ticks, .int .i64 b.heat, .lst (b.shut.map iV), .bool b.flash] true 0) /\ shutE v.pipes.length (-1) b.shut = shutE v.pipes.length last (b.shut.drop i) /\
    (i = 0 -> last = -1) /\ ∀ h : i - 1 < b.shut.length, 0 < i -> b.shut[i - 1] = last) (k := b.shut.length) (by omega) ?_ ?_
   ·exact ⟨by simp -implicitDefEqProofs only [go_sem, hT], by simp -implicitDefEqProofs only [go_sem, hT], by simp -implicitDefEqProofs only [go_sem, hT], 0, _, -1, _, by simp -implicitDefEqProofs only [go_sem, hT] <;> rfl, by omega, rfl, rfl, rfl, rfl, rfl, fun _ => rfl, fun _ h => by omega⟩
   clear a0 a1 hT T
   rintro k T s' ⟨hT, a2, a3, i, n, last, H, a5, hi, rfl, rfl, g0, g1, he, hl0, hlast⟩
   simp -implicitDefEqProofs only [go_sem, a3, a5, hT, g1]
   by_cases hil : (i : Int) < (b.shut.length : Int)
   ·have hi' : i < b.shut.length := by omega
    have e1 := Z9 (f := iV) (l := b.shut) (i := i) (z := 1) hi' rfl
    have hkk : b.shut.length - (i + 1) < b.shut.length - i := by omega
    rw [List.drop_eq_getElem_cons hi'] at he
    have hnext : ∀ h : i + 1 - 1 < b.shut.length, 0 < i + 1 -> b.shut[i + 1 - 1] = b.shut[i] := fun _ _ => rfl
    have hi0 : (0 : Int) < (i : Int) ↔ 0 < i := by omega
    have hprev : 0 < i -> elemAt 1 ((i - 1 : Nat) : Int) (b.shut.map iV) = some (.fptr [.int .i64 last] 0) := fun h => by
     have := Z9 (f := iV) (l := b.shut) (i := i - 1) (z := 1) (by omega) rfl
     rw [this, <- hlast (by omega) h]; rfl
    have hz : ∀ x : Int, fromB x 0 (v.pipes.length - 1) = true -> ¬ x <= -1 := fun x hx => by
     unfold fromB at hx
     have := of_decide_eq_true hx
     omega
    have hnz : i + 1 = 0 -> b.shut[i] = -1 := fun h => by omega
    have hw2 : 0 < i -> wrapF .i64 ((i : Int) - 1) = ((i - 1 : Nat) : Int) := fun h => by rw [Z5 (by omega) (by omega)]; omega
    have hw1 : wrapF .i64 ((i : Int) + 1) = ((i + 1 : Nat) : Int) := Z5 (by omega) (by omega)
    generalize hb : b.shut[i] = x at *
    simp only [shutE] at he
    simp -implicitDefEqProofs only [go_sem, hil]
    simp only [Z1]
    refine Y9 [] [] (by kernel_rfl) ?_
    by_cases d1 : fromB x 0 (v.pipes.length - 1) = true
    ·rw [if_pos d1] at he
     simp -implicitDefEqProofs only [redoH, go_sem, a2, a3, a5, hT, g0, g1, e1, hw, hc, d1]
     simp only [Z1]
     refine Y9 [] [] (by kernel_rfl) ?_
     by_cases d0 : 0 < i
     ·have d0' := hi0.2 d0
      by_cases d2 : x <= last
      ·rw [if_pos d2] at he
       simp -implicitDefEqProofs only [redoH, go_sem, a3, a5, hT, g1, e1, d0', hprev d0, hw2 d0, d2, he, Try.results122]
      ·rw [if_neg d2] at he
       simp -implicitDefEqProofs only [redoH, go_sem, a2, a3, a5, hT, g1, e1, d0', hprev d0, hw2 d0, d2, hw1]
       exact ⟨b.shut.length - (i + 1), hkk, trivial, trivial, trivial, i + 1, _, x, H, rfl, hi', rfl, rfl, g0, g1, he, hnz, by rw [<- hb]; exact hnext⟩
     ·have d0' : ¬ (0 : Int) < (i : Int) := fun h => d0 (hi0.1 h)
      have hi00 : i = 0 := Nat.eq_zero_of_not_pos d0
      rw [hl0 hi00, if_neg (hz x d1)] at he
      simp -implicitDefEqProofs only [redoH, go_sem, a2, a3, a5, hT, d0', hw1]
      exact ⟨b.shut.length - (i + 1), hkk, trivial, trivial, trivial, i + 1, _, x, H, rfl, hi', rfl, rfl, g0, g1, he, hnz, by rw [<- hb]; exact hnext⟩
    ·rw [if_neg d1] at he
     simp -implicitDefEqProofs only [redoH, go_sem, a2, a3, a5, hT, g0, g1, e1, hw, hc, d1, he, Try.results122]
   ·have hie : i = b.shut.length := by omega
    subst hie
    rw [List.drop_length] at he
    simp only [shutE] at he
    simp -implicitDefEqProofs only [go_sem, hT, hil, he, Try.results122]
  ·rw [if_neg (fun h => c2 h.2)]
   simp -implicitDefEqProofs only [go_sem, hT, c1, c2, Try.results122]
 ·rw [if_neg (fun h => c1 h.1)]
  simp -implicitDefEqProofs only [go_sem, hT, c1, Try.results122]
def sameR : List Rg -> List Rg -> Bool
 | [], [] => true
 | a :: l, b :: r => decide (a = b) && sameR l r
 | _, _ => false
theorem Zay : ∀ {l r : List Rg}, sameR l r = true ↔ l = r
 | [], [] => by simp [sameR]
 | [], _ :: _ => by simp [sameR]
 | _ :: _, [] => by simp [sameR]
 | a :: l, b :: r => by simp [sameR, Zay (l := l) (r := r)]
theorem Z8f : ∀ {l r : List Rg}, l.length ≠ r.length -> sameR l r = false
 | [], [], h => absurd rfl h
 | [], _ :: _, _ => rfl
 | _ :: _, [], _ => rfl
 | a :: l, b :: r, h => by
  have := Z8f (l := l) (r := r) (by simpa using h)
  simp [sameR, this]
theorem Zuh {C : Cfg} (a b : Rg) (hC : C.ty = cfg.ty) : eqA C 20 26 (.agg [.int .i64 a.lo, .int .i64 a.hi]) (.agg [.int .i64 b.lo, .int .i64 b.hi]) = some (decide (a = b)) := by
 have h26 : C.ty.get 26 = some ty26 := by rw [hC]; exact Z36
 have h3 : C.ty.get 3 = some ty3 := by rw [hC]; exact Zmi
 obtain ⟨al, ah⟩ := a
 obtain ⟨bl, bh⟩ := b
 by_cases h1 : al = bl
 ·by_cases h2 : ah = bh
  ·subst h1; subst h2
   simp only [eqA, eqFields, go_sem, h26, h3]
  ·have h4 : decide ((⟨al, ah⟩ : Rg) = ⟨bl, bh⟩) = false := decide_eq_false fun h => h2 (by injection h)
   subst h1
   simp only [eqA, eqFields, go_sem, h26, h3, h2, h4]
 ·have h4 : decide ((⟨al, ah⟩ : Rg) = ⟨bl, bh⟩) = false := decide_eq_false fun h => h1 (by injection h)
  simp only [eqA, eqFields, go_sem, h26, h3, h1, h4]
theorem J9 (l r : List Rg) (K : Nat) (s : St) (hK : l.length < K) (hl : l.length <= 9223372036854775807) (hr : r.length <= 9223372036854775807) : acall cfg (K + 1) 100 [.lst (l.map rgV), .lst (r.map rgV)] s = .ret (.bool (sameR l r), s) := by
 refine Yh Zi7 Zi6 (by first | rfl | simp -implicitDefEqProofs only [redoH, redo1, go_sem]) (by first | rfl | simp -implicitDefEqProofs only [go_sem]) (by first | rfl | simp -implicitDefEqProofs only [redoH, redo1, go_sem]) ?_
 refine Z6 rfl fun T hT' hA => ?_
 have a0 := hA 0 _ rfl
 have a1 := hA 1 _ rfl
 have hT : T.length = 26 := hT'
 clear hA hT'
 simp -implicitDefEqProofs only [go_sem, a0, a1, hT]
 by_cases hlen : (l.length : Int) = (r.length : Int)
 ·have hlr : l.length = r.length := by omega
  simp -implicitDefEqProofs only [go_sem, hlen]
  simp only [Z1]
  refine Zf (fun k T s' => T.length = 26 /\ nth T 0 = some (.lst (l.map rgV)) /\ nth T 1 = some (.lst (r.map rgV)) /\ ∃ i n : Nat, s' = ⟨[], n, [], false, []⟩ /\ nth T 5 = some (.int .i64 i) /\ i <= l.length /\ k = l.length - i /\ sameR l r = sameR (l.drop i) (r.drop i)) (k := l.length) (by omega) ?_ ?_
  ·exact ⟨by simp -implicitDefEqProofs only [go_sem, hT], by simp -implicitDefEqProofs only [go_sem, a0], by simp -implicitDefEqProofs only [go_sem, a1], 0, 0, rfl, by simp -implicitDefEqProofs only [go_sem, hT] <;> rfl, by omega, rfl, rfl⟩
  clear a0 a1 hT
  rintro k T s' ⟨hT, a0, a1, i, n, rfl, a5, hi, rfl, hs⟩
  simp -implicitDefEqProofs only [go_sem, a0, a5, hT]
  by_cases hlo : (i : Int) < (l.length : Int)
  ·have hi' : i < l.length := by omega
   have hi2 : i < r.length := by omega
   have hk2 : l.length - (i + 1) < l.length - i := by omega
   have hel := Z9 (f := rgV) (l := l) (i := i) (z := 2) hi' rfl
   have hel2 := Z9 (f := rgV) (l := r) (i := i) (z := 2) hi2 rfl
   rw [List.drop_eq_getElem_cons hi', List.drop_eq_getElem_cons hi2, sameR] at hs
   have heq := Zuh (C := cfg.at 100) l[i] r[i] rfl
   have hw1 : wrapF .i64 ((i : Int) + 1) = ((i + 1 : Nat) : Int) := Z5 (by omega) (by omega)
   simp -implicitDefEqProofs only [go_sem, hlo]
   simp only [Z1]
   refine Y9 [] [] (by kernel_rfl) ?_
   by_cases c1 : l[i] = r[i]
   ·rw [decide_eq_true c1] at heq hs
    rw [Bool.true_and] at hs
    simp -implicitDefEqProofs only [redoH, go_sem, a0, a1, a5, hT, hel, hel2, heq, hw1]
    exact ⟨l.length - (i + 1), hk2, trivial, trivial, trivial, i + 1, n + 1, rfl, rfl, hi', rfl, hs⟩
   ·rw [decide_eq_false c1] at heq hs
    rw [Bool.false_and] at hs
    simp -implicitDefEqProofs only [redoH, go_sem, a0, a1, a5, hT, hel, hel2, heq, hs, Try.results100]
  ·have hil : i = l.length := by omega
   subst hil
   rw [List.drop_length, hlr, List.drop_length] at hs
   simp -implicitDefEqProofs only [go_sem, hT, hlo, hs, sameR, Try.results100]
 ·have hlr : l.length ≠ r.length := by omega
  simp -implicitDefEqProofs only [go_sem, hT, hlen, Z8f hlr, Try.results100]
theorem Z8g (g : Gs) (K : Nat) (s : St) (hK : g.free.length < K /\ g.bound.length < K /\ g.room.length < K) (h1 : g.free.length <= 9223372036854775807) (h2 : g.bound.length <= 9223372036854775807) (h3 : g.room.length <= 9223372036854775807) : acall cfg (K + 2) 51 [gsV g, gsV g] s = .ret (.bool true, s) := by
 refine Yh Zn9 Zn8 (by first | rfl | simp -implicitDefEqProofs only [redoH, redo1, go_sem]) (by first | rfl | simp -implicitDefEqProofs only [go_sem]) (by first | rfl | simp -implicitDefEqProofs only [redoH, redo1, go_sem]) ?_
 refine Z6 rfl fun T hT' hA => ?_
 have a0 := hA 0 _ rfl
 have a1 := hA 1 _ rfl
 have hT : T.length = 38 := hT'
 clear hA hT'
 have hc1 := fun s => J9 g.free g.free K s hK.1 h1 h1
 have hc2 := fun s => J9 g.bound g.bound K s hK.2.1 h2 h2
 have hc3 := fun s => J9 g.room g.room K s hK.2.2 h3 h3
 rw [Zay.2 rfl] at hc1 hc2 hc3
 have hb : eqA (cfg.at 51) 20 4 (.bool g.flashed) (.bool g.flashed) = some true := by
  cases g.flashed <;> simp only [eqA, go_sem]
 simp -implicitDefEqProofs only [go_sem, a0, a1, hT, hc1, hc2, hc3, hb, Try.results51]
def largeB (v : Vac) : Bool := decide (20 < v.vessels.length) || decide (30 < v.pipes.length) || decide (20 < v.pumps.length) || decide (20 < v.leaks.length) || decide (20 < v.getters.length) || v.vessels.any fun x => decide (20 < x.bands.length)
end Go.Proofs.Ytgnpnfkncbnjnaa
namespace Go.Proofs.Ytgnpnfkncbnjnaa
attribute [local go_sem_proc] Int.reduceEq Int.reduceNeg Nat.reduceEqDiff Nat.reduceLT Nat.reduceAdd Nat.reduceSub Nat.reduceMul Int.reduceLE Int.reduceLT Int.reduceToNat Nat.reduceLeDiff
attribute [local go_sem] Int.toNat_natCast Bool.not_true Bool.not_false
open Go Go.Am
attribute [local congr] Ze Zb Zc
attribute [local go_sem] Go.Am.buildSliceA Go.Am.frozen Go.Am.freezeG Go.Am.freezeGs Go.Am.minmax
def outP (x : Int) (shut : List Int) : Nat -> Rg -> List Pip -> Rg
 | _, acc, [] => acc
 | i, acc, p :: r => if (i : Int) ∈ shut then outP x shut (i + 1) acc r else
  outP x shut (i + 1) (if p.b = x then plusR (if p.a = x then plusR acc p.out else acc) p.back else (if p.a = x then plusR acc p.out else acc)) r
def outM (x : Int) : Rg -> List Pmp -> Rg
 | acc, [] => acc
 | acc, q :: r => outM x (if q.at' = x then plusR acc q.part else acc) r
def outR (v : Vac) (x : Int) (shut : List Int) : Rg := outM x (outP x shut 0 ⟨0, 0⟩ v.pipes) v.pumps
structure Vac.Lens (v : Vac) (K : Nat) : Prop where
 ves : v.vessels.length < K /\ v.vessels.length <= 9223372036854775807
 pip : v.pipes.length < K /\ v.pipes.length <= 9223372036854775807
 pmp : v.pumps.length < K /\ v.pumps.length <= 9223372036854775807
 inl : v.leaks.length < K /\ v.leaks.length <= 9223372036854775807
 gtr : v.getters.length < K /\ v.getters.length <= 9223372036854775807
 bands : ∀ x ∈ v.vessels, x.bands.length <= 9223372036854775807
theorem Zaz (v : Vac) (x : Int) (shut : List Int) (K : Nat) (s : St) (hv : v.Lens K) (hs : shut.length < K) (hs2 : shut.length <= 9223372036854775807) : acall cfg (K + 2) 121 [vacV v, .int .i64 x, .lst (shut.map iV)] s = .ret (rgV (outR v x shut), s) := by
 refine Yh Zj7 Zj6 (by first | rfl | simp -implicitDefEqProofs only [redoH, redo1, go_sem]) (by first | rfl | simp -implicitDefEqProofs only [go_sem]) (by first | rfl | simp -implicitDefEqProofs only [redoH, redo1, go_sem]) ?_
 refine Z6 rfl fun T hT' hA => ?_
 have a0 := hA 0 _ rfl
 have a1 := hA 1 _ rfl
 have a2 := hA 2 _ rfl
 have hT : T.length = 66 := hT'
 clear hA hT'
 obtain ⟨⟨_, _⟩, ⟨hp1, hp2⟩, ⟨hm1, hm2⟩, _, _, _⟩ := hv
 have hh := fun n s => Z8e shut n K s hs hs2
 have had := fun a b s => Z70 a b K s
 simp only [rgV] at had
 simp -implicitDefEqProofs only [go_sem, a0]
 simp only [Z1]
 refine Zf (fun k T s' => T.length = 66 /\ nth T 1 = some (.int .i64 x) /\ nth T 2 = some (.lst (shut.map iV)) /\ nth T 3 = some (.ptr [0] 0) /\ nth T 6 = some (.ptr [1] 0) /\ nth T 7 = some (.ptr [2] 0) /\ ∃ (i n : Nat) (acc : Rg) (H : Heap), nth T 8 = some (.int .i64 i) /\ i <= v.pipes.length /\ k = v.pipes.length - i /\ s' = ⟨H, n + 3, [], false, []⟩ /\ hget H [0] = some (.cells [.lst (v.vessels.map vesV), .lst (v.pipes.map pipV), .lst (v.pumps.map pmpV), .lst (v.leaks.map inlV), .lst (v.getters.map gtrV)] true 0) /\
  hget H [1] = some (.cells [.int .i64 0, .int .i64 0] true 0) /\ hget H [2] = some (.cells [.int .i64 acc.lo, .int .i64 acc.hi] true 0) /\ outP x shut 0 ⟨0, 0⟩ v.pipes = outP x shut i acc (v.pipes.drop i)) (k := v.pipes.length) (by omega) ?_ ?_
 ·exact ⟨by simp -implicitDefEqProofs only [go_sem, hT], by simp -implicitDefEqProofs only [go_sem, a1], by simp -implicitDefEqProofs only [go_sem, a2], by simp -implicitDefEqProofs only [go_sem, hT], by simp -implicitDefEqProofs only [go_sem, hT], by simp -implicitDefEqProofs only [go_sem, hT], 0, 0, ⟨0, 0⟩, _, by simp -implicitDefEqProofs only [go_sem, hT] <;> rfl, by omega, rfl, rfl, rfl, rfl, rfl, rfl⟩
 clear a0 a1 a2 hT T
 rintro k T s' ⟨hT, a1, a2, a3, a6, a7, i, n, acc, H, a8, hi, rfl, rfl, g0, g1, g2, he⟩
 simp -implicitDefEqProofs only [go_sem, a3, a8, hT, g0]
 by_cases hil : (i : Int) < (v.pipes.length : Int)
 ·have hi' : i < v.pipes.length := by omega
  have e1 := Z9 (f := pipV) (l := v.pipes) (i := i) (z := 6) hi' rfl
  have hkk : v.pipes.length - (i + 1) < v.pipes.length - i := by omega
  rw [List.drop_eq_getElem_cons hi'] at he
  generalize v.pipes[i] = p at *
  simp only [outP] at he
  have k0 : ∀ X, hget (([n + 3], X) :: H) [0] = _ := fun X => (Z4 _ _ (Zu (by omega))).trans g0
  have k1 : ∀ X, hget (([n + 3], X) :: H) [1] = _ := fun X => (Z4 _ _ (Zu (by omega))).trans g1
  have k2 : ∀ X, hget (([n + 3], X) :: H) [2] = _ := fun X => (Z4 _ _ (Zu (by omega))).trans g2
  have m0 : ∀ X Z, hget (([n + 3], X) :: hset H [2] Z) [0] = _ := fun X Z => (Z4 _ _ (Zu (by omega))).trans ((Z2 H Z (by decide)).trans g0)
  have m1 : ∀ X Z, hget (([n + 3], X) :: hset H [2] Z) [1] = _ := fun X Z => (Z4 _ _ (Zu (by omega))).trans ((Z2 H Z (by decide)).trans g1)
  have m2 : ∀ X Z, hget (([n + 3], X) :: hset H [2] Z) [2] = _ := fun X Z => (Z4 _ _ (Zu (by omega))).trans (Zh Z g2)
  have w2 : ∀ Z, hget (hset H [2] Z) [2] = _ := fun Z => Zh Z g2
  have d2 : ∀ Z Y, hget (hset (hset H [2] Z) [2] Y) [2] = some Y := fun Z Y => Zh Y (w2 Z)
  have d0 : ∀ X Z Y, hget (([n + 3], X) :: hset (hset H [2] Z) [2] Y) [0] = _ := fun X Z Y => (Z4 _ _ (Zu (by omega))).trans ((Z2 _ Y (by decide)).trans ((Z2 H Z (by decide)).trans g0))
  have d1 : ∀ X Z Y, hget (([n + 3], X) :: hset (hset H [2] Z) [2] Y) [1] = _ := fun X Z Y => (Z4 _ _ (Zu (by omega))).trans ((Z2 _ Y (by decide)).trans ((Z2 H Z (by decide)).trans g1))
  have d3 : ∀ X Z Y, hget (([n + 3], X) :: hset (hset H [2] Z) [2] Y) [2] = some Y := fun X Z Y => (Z4 _ _ (Zu (by omega))).trans (d2 Z Y)
  have hw1 : wrapF .i64 ((i : Int) + 1) = ((i + 1 : Nat) : Int) := Z5 (by omega) (by omega)
  simp -implicitDefEqProofs only [go_sem, a2, a3, a8, hT, hil, e1, hh, g0]
  by_cases c1 : (i : Int) ∈ shut
  ·rw [if_pos c1] at he
   simp -implicitDefEqProofs only [go_sem, a1, a2, a3, a6, a7, a8, hT, c1, hw1]
   exact ⟨v.pipes.length - (i + 1), hkk, trivial, trivial, trivial, trivial, trivial, trivial, i + 1, n + 1, acc, _, rfl, hi', rfl, rfl, k0 _, k1 _, k2 _, he⟩
  ·rw [if_neg c1] at he
   by_cases c2 : p.a = x
   ·rw [if_pos c2] at he
    by_cases c3 : p.b = x
    ·rw [if_pos c3] at he
     simp -implicitDefEqProofs only [go_sem, a1, a2, a3, a6, a7, a8, hT, c1, c2, c3, g2, w2, had ⟨acc.lo, acc.hi⟩ ⟨p.out.lo, p.out.hi⟩, had ⟨(plusR acc p.out).lo, (plusR acc p.out).hi⟩ ⟨p.back.lo, p.back.hi⟩, hw1]
     exact ⟨v.pipes.length - (i + 1), hkk, trivial, trivial, trivial, trivial, trivial, trivial, i + 1, n + 1, _, _, rfl, hi', rfl, rfl, d0 _ _ _, d1 _ _ _, d3 _ _ _, he⟩
    ·rw [if_neg c3] at he
     simp -implicitDefEqProofs only [go_sem, a1, a2, a3, a6, a7, a8, hT, c1, c2, c3, g2, had ⟨acc.lo, acc.hi⟩ ⟨p.out.lo, p.out.hi⟩, hw1]
     exact ⟨v.pipes.length - (i + 1), hkk, trivial, trivial, trivial, trivial, trivial, trivial, i + 1, n + 1, _, _, rfl, hi', rfl, rfl, m0 _ _, m1 _ _, m2 _ _, he⟩
   ·rw [if_neg c2] at he
    by_cases c3 : p.b = x
    ·rw [if_pos c3] at he
     simp -implicitDefEqProofs only [go_sem, a1, a2, a3, a6, a7, a8, hT, c1, c2, c3, g2, had ⟨acc.lo, acc.hi⟩ ⟨p.back.lo, p.back.hi⟩, hw1]
     exact ⟨v.pipes.length - (i + 1), hkk, trivial, trivial, trivial, trivial, trivial, trivial, i + 1, n + 1, _, _, rfl, hi', rfl, rfl, m0 _ _, m1 _ _, m2 _ _, he⟩
    ·rw [if_neg c3] at he
     simp -implicitDefEqProofs only [go_sem, a1, a2, a3, a6, a7, a8, hT, c1, c2, c3, hw1]
     exact ⟨v.pipes.length - (i + 1), hkk, trivial, trivial, trivial, trivial, trivial, trivial, i + 1, n + 1, acc, _, rfl, hi', rfl, rfl, k0 _, k1 _, k2 _, he⟩
 ·have hie : i = v.pipes.length := by omega
  subst hie
  rw [List.drop_length] at he
  simp only [outP] at he
  unfold outR
  rw [he]
  simp -implicitDefEqProofs only [go_sem, hil]
  simp only [Z1]
  refine Zf (fun k T s' => T.length = 66 /\ nth T 1 = some (.int .i64 x) /\ nth T 3 = some (.ptr [0] 0) /\ nth T 6 = some (.ptr [1] 0) /\ nth T 7 = some (.ptr [2] 0) /\ ∃ (i n : Nat) (acc2 : Rg) (H : Heap), nth T 10 = some (.int .i64 i) /\ i <= v.pumps.length /\ k = v.pumps.length - i /\ s' = ⟨H, n, [], false, []⟩ /\ hget H [0] = some (.cells [.lst (v.vessels.map vesV), .lst (v.pipes.map pipV), .lst (v.pumps.map pmpV), .lst (v.leaks.map inlV), .lst (v.getters.map gtrV)] true 0) /\
   hget H [1] = some (.cells [.int .i64 0, .int .i64 0] true 0) /\ hget H [2] = some (.cells [.int .i64 acc2.lo, .int .i64 acc2.hi] true 0) /\ outM x acc v.pumps = outM x acc2 (v.pumps.drop i)) (k := v.pumps.length) (by omega) ?_ ?_
  ·exact ⟨by simp -implicitDefEqProofs only [go_sem, hT], by simp -implicitDefEqProofs only [go_sem, a1], by simp -implicitDefEqProofs only [go_sem, a3], by simp -implicitDefEqProofs only [go_sem, a6], by simp -implicitDefEqProofs only [go_sem, a7], 0, _, acc, H, by simp -implicitDefEqProofs only [go_sem, hT] <;> rfl, by omega, rfl, rfl, g0, g1, g2, rfl⟩
  clear a1 a2 a3 a6 a7 a8 hT T g0 g1 g2 H n
  rintro k T s' ⟨hT, a1, a3, a6, a7, i, n, acc2, H, a10, hi, rfl, rfl, g0, g1, g2, he2⟩
  simp -implicitDefEqProofs only [go_sem, a3, a10, hT, g0]
  by_cases hil2 : (i : Int) < (v.pumps.length : Int)
  ·have hi' : i < v.pumps.length := by omega
   have e1 := Z9 (f := pmpV) (l := v.pumps) (i := i) (z := 3) hi' rfl
   have hkk : v.pumps.length - (i + 1) < v.pumps.length - i := by omega
   rw [List.drop_eq_getElem_cons hi'] at he2
   generalize v.pumps[i] = q at *
   simp only [outM] at he2
   have n0 : ∀ Z, hget (hset H [2] Z) [0] = _ := fun Z => (Z2 H Z (by decide)).trans g0
   have n1 : ∀ Z, hget (hset H [2] Z) [1] = _ := fun Z => (Z2 H Z (by decide)).trans g1
   have n2 : ∀ Z, hget (hset H [2] Z) [2] = some Z := fun Z => Zh Z g2
   have hw1 : wrapF .i64 ((i : Int) + 1) = ((i + 1 : Nat) : Int) := Z5 (by omega) (by omega)
   simp -implicitDefEqProofs only [go_sem, a1, a3, a10, hT, hil2, e1, g0]
   by_cases c2 : q.at' = x
   ·rw [if_pos c2] at he2
    simp -implicitDefEqProofs only [go_sem, c2]
    simp only [Z1]
    refine Z65 [[], [], [1], [], [2, 1, 3], [4, 2, 1, 3], [5, 4, 2, 1, 3], [0, 6, 5, 4, 2, 1, 3], [7, 0, 6, 5, 4, 2, 1, 3]] [8] (by kernel_rfl) (by kernel_rfl) ?_
    simp -implicitDefEqProofs only [redoH, redo1, go_sem, a1, a3, a6, a7, a10, hT, g0, g2, e1, had ⟨acc2.lo, acc2.hi⟩ ⟨q.part.lo, q.part.hi⟩, hw1]
    exact ⟨v.pumps.length - (i + 1), hkk, trivial, trivial, trivial, trivial, trivial, i + 1, n + 1, _, _, rfl, hi', rfl, rfl, n0 _, n1 _, n2 _, he2⟩
   ·rw [if_neg c2] at he2
    simp -implicitDefEqProofs only [go_sem, a1, a3, a6, a7, a10, hT, c2, hw1]
    exact ⟨v.pumps.length - (i + 1), hkk, trivial, trivial, trivial, trivial, trivial, i + 1, n, acc2, H, rfl, hi', rfl, rfl, g0, g1, g2, he2⟩
  ·have hie : i = v.pumps.length := by omega
   subst hie
   rw [List.drop_length] at he2
   simp only [outM] at he2
   rw [he2]
   have n1 : ∀ Z, hget (hset H [1] Z) [1] = some Z := fun Z => Zh Z g1
   simp -implicitDefEqProofs only [go_sem, a6, a7, hT, hil2, g1, g2, n1, Try.results121]
end Go.Proofs.Ytgnpnfkncbnjnaa
namespace Go.Proofs.Ytgnpnfkncbnjnaa
attribute [local go_sem_proc] Int.reduceEq Int.reduceNeg Nat.reduceEqDiff Nat.reduceLT Nat.reduceAdd Nat.reduceSub Nat.reduceMul Int.reduceLE Int.reduceLT Int.reduceToNat Nat.reduceLeDiff
attribute [local go_sem] Int.toNat_natCast Bool.not_true Bool.not_false
open Go Go.Am
attribute [local congr] Ze Zb Zc
attribute [local go_sem] Go.Am.buildSliceA Go.Am.frozen Go.Am.freezeG Go.Am.freezeGs Go.Am.minmax
def firstE {α : Type} (f : α -> Int) : List α -> Int
 | [] => 0
 | a :: r => if f a = 0 then firstE f r else f a
def getE (n : Int) (g : Gtr) : Int := if atE n g.at' g.part 1000000 = 0 then spansE g.room 1000000000 else atE n g.at' g.part 1000000
def partsE (v : Vac) : Int :=
 if firstE (pipE v.vessels.length) v.pipes = 0 then
  if firstE (fun q : Pmp => atE v.vessels.length q.at' q.part 1000000) v.pumps = 0 then
   if firstE (fun l : Inl => atE v.vessels.length l.at' l.gas 100000) v.leaks = 0 then firstE (getE v.vessels.length) v.getters
   else firstE (fun l : Inl => atE v.vessels.length l.at' l.gas 100000) v.leaks
  else firstE (fun q : Pmp => atE v.vessels.length q.at' q.part 1000000) v.pumps
 else firstE (pipE v.vessels.length) v.pipes
theorem Z4q (v : Vac) (K : Nat) (s : St) (hv : v.Lens K) : acall cfg (K + 3) 120 [vacV v] s = .ret (.int .i64 (partsE v), s) := by
 refine Yh Zj5 Zj4 (by first | rfl | simp -implicitDefEqProofs only [redoH, redo1, go_sem]) (by first | rfl | simp -implicitDefEqProofs only [go_sem]) (by first | rfl | simp -implicitDefEqProofs only [redoH, redo1, go_sem]) ?_
 refine Z6 rfl fun T hT' hA => ?_
 have a0 := hA 0 _ rfl
 have hT : T.length = 115 := hT'
 clear hA hT'
 obtain ⟨⟨hv1, hv2⟩, ⟨hp1, hp2⟩, ⟨hm1, hm2⟩, ⟨hi1, hi2⟩, ⟨hg1, hg2⟩, _⟩ := hv
 have hpi := fun p s => Z5d v.vessels.length p K s (by omega) (by omega)
 have hat := fun a r m s => Z8d v.vessels.length a r m K s (by omega) (by omega)
 have hsp := fun r s => Yo r 1000000000 (K + 1) s
 simp only [rgV, pipV] at hpi hat hsp
 unfold partsE
 simp -implicitDefEqProofs only [go_sem, a0, hT]
 simp only [Z1]
 refine Zf (fun k T s' => T.length = 115 /\ nth T 1 = some (.ptr [0] 0) /\ nth T 3 = some (.int .i64 v.vessels.length) /\ ∃ (i n : Nat), nth T 4 = some (.int .i64 i) /\ i <= v.pipes.length /\ k = v.pipes.length - i /\ s' = ⟨[([0], .cells [.lst (v.vessels.map vesV), .lst (v.pipes.map pipV), .lst (v.pumps.map pmpV), .lst (v.leaks.map inlV), .lst (v.getters.map gtrV)] true 0)], n, [], false, []⟩ /\ firstE (pipE v.vessels.length) v.pipes = firstE (pipE v.vessels.length) (v.pipes.drop i)) (k := v.pipes.length) (by omega) ?_ ?_
 ·exact ⟨by simp -implicitDefEqProofs only [go_sem, hT], by simp -implicitDefEqProofs only [go_sem, hT], by simp -implicitDefEqProofs only [go_sem, hT], 0, _, by simp -implicitDefEqProofs only [go_sem, hT] <;> rfl, by omega, rfl, rfl, rfl⟩
 clear a0 hT T
 rintro k T s' ⟨hT, a1, a3, i, n, a4, hi, rfl, rfl, he⟩
 simp -implicitDefEqProofs only [go_sem, a1, a4, hT]
 by_cases hil : (i : Int) < (v.pipes.length : Int)
 ·have hi' : i < v.pipes.length := by omega
  have e1 := Z9 (f := pipV) (l := v.pipes) (i := i) (z := 6) hi' rfl
  have hkk : v.pipes.length - (i + 1) < v.pipes.length - i := by omega
  rw [List.drop_eq_getElem_cons hi'] at he
  have hw1 : wrapF .i64 ((i : Int) + 1) = ((i + 1 : Nat) : Int) := Z5 (by omega) (by omega)
  generalize v.pipes[i] = x at *
  simp only [firstE] at he
  by_cases c1 : pipE v.vessels.length x = 0
  ·rw [if_pos c1] at he
   simp -implicitDefEqProofs only [go_sem, a1, a3, a4, hT, hil, e1, hpi, c1, hw1]
   exact ⟨v.pipes.length - (i + 1), hkk, trivial, trivial, trivial, i + 1, _, rfl, hi', rfl, rfl, he⟩
  ·rw [if_neg c1] at he
   rw [if_neg (by rw [he]; exact c1)]
   simp -implicitDefEqProofs only [go_sem, a1, a3, a4, hT, hil, e1, hpi, c1, he, Try.results120]
 ·have hie : i = v.pipes.length := by omega
  subst hie
  rw [List.drop_length] at he
  simp only [firstE] at he
  rw [if_pos he]
  simp -implicitDefEqProofs only [go_sem, hil]
  simp only [Z1]
  refine Zf (fun k T s' => T.length = 115 /\ nth T 1 = some (.ptr [0] 0) /\ nth T 3 = some (.int .i64 v.vessels.length) /\ ∃ (i n : Nat), nth T 6 = some (.int .i64 i) /\ i <= v.pumps.length /\ k = v.pumps.length - i /\ s' = ⟨[([0], .cells [.lst (v.vessels.map vesV), .lst (v.pipes.map pipV), .lst (v.pumps.map pmpV), .lst (v.leaks.map inlV), .lst (v.getters.map gtrV)] true 0)], n, [], false, []⟩ /\ firstE (fun q : Pmp => atE v.vessels.length q.at' q.part 1000000) v.pumps = firstE (fun q : Pmp => atE v.vessels.length q.at' q.part 1000000) (v.pumps.drop i)) (k := v.pumps.length) (by omega) ?_ ?_
  ·exact ⟨by simp -implicitDefEqProofs only [go_sem, hT], by simp -implicitDefEqProofs only [go_sem, a1], by simp -implicitDefEqProofs only [go_sem, a3], 0, _, by simp -implicitDefEqProofs only [go_sem, hT] <;> rfl, by omega, rfl, rfl, rfl⟩
  clear a1 a3 a4 hT T
  rintro k T s' ⟨hT, a1, a3, i, n, a6, hi, rfl, rfl, he⟩
  simp -implicitDefEqProofs only [go_sem, a1, a6, hT]
  by_cases hil : (i : Int) < (v.pumps.length : Int)
  ·have hi' : i < v.pumps.length := by omega
   have e1 := Z9 (f := pmpV) (l := v.pumps) (i := i) (z := 3) hi' rfl
   have hkk : v.pumps.length - (i + 1) < v.pumps.length - i := by omega
   rw [List.drop_eq_getElem_cons hi'] at he
   have hw1 : wrapF .i64 ((i : Int) + 1) = ((i + 1 : Nat) : Int) := Z5 (by omega) (by omega)
   generalize v.pumps[i] = x at *
   simp only [firstE] at he
   simp -implicitDefEqProofs only [go_sem, hil]
   simp only [Z1]
   refine Y9 [] [] (by kernel_rfl) ?_
   by_cases c1 : atE v.vessels.length x.at' x.part 1000000 = 0
   ·rw [if_pos c1] at he
    simp -implicitDefEqProofs only [redoH, go_sem, a1, a3, a6, hT, e1, hat x.at' ⟨x.part.lo, x.part.hi⟩, c1, hw1]
    exact ⟨v.pumps.length - (i + 1), hkk, trivial, trivial, trivial, i + 1, _, rfl, hi', rfl, rfl, he⟩
   ·rw [if_neg c1] at he
    rw [if_neg (by rw [he]; exact c1)]
    simp -implicitDefEqProofs only [redoH, go_sem, a1, a3, a6, hT, e1, hat x.at' ⟨x.part.lo, x.part.hi⟩, c1, he, Try.results120]
  ·have hie : i = v.pumps.length := by omega
   subst hie
   rw [List.drop_length] at he
   simp only [firstE] at he
   rw [if_pos he]
   simp -implicitDefEqProofs only [go_sem, hil]
   simp only [Z1]
   refine Zf (fun k T s' => T.length = 115 /\ nth T 1 = some (.ptr [0] 0) /\ nth T 3 = some (.int .i64 v.vessels.length) /\ ∃ (i n : Nat), nth T 8 = some (.int .i64 i) /\ i <= v.leaks.length /\ k = v.leaks.length - i /\ s' = ⟨[([0], .cells [.lst (v.vessels.map vesV), .lst (v.pipes.map pipV), .lst (v.pumps.map pmpV), .lst (v.leaks.map inlV), .lst (v.getters.map gtrV)] true 0)], n, [], false, []⟩ /\ firstE (fun l : Inl => atE v.vessels.length l.at' l.gas 100000) v.leaks = firstE (fun l : Inl => atE v.vessels.length l.at' l.gas 100000) (v.leaks.drop i)) (k := v.leaks.length) (by omega) ?_ ?_
   ·exact ⟨by simp -implicitDefEqProofs only [go_sem, hT], by simp -implicitDefEqProofs only [go_sem, a1], by simp -implicitDefEqProofs only [go_sem, a3], 0, _, by simp -implicitDefEqProofs only [go_sem, hT] <;> rfl, by omega, rfl, rfl, rfl⟩
   clear a1 a3 a6 hT T
   rintro k T s' ⟨hT, a1, a3, i, n, a8, hi, rfl, rfl, he⟩
   simp -implicitDefEqProofs only [go_sem, a1, a8, hT]
   by_cases hil : (i : Int) < (v.leaks.length : Int)
   ·have hi' : i < v.leaks.length := by omega
    have e1 := Z9 (f := inlV) (l := v.leaks) (i := i) (z := 3) hi' rfl
    have hkk : v.leaks.length - (i + 1) < v.leaks.length - i := by omega
    rw [List.drop_eq_getElem_cons hi'] at he
    have hw1 : wrapF .i64 ((i : Int) + 1) = ((i + 1 : Nat) : Int) := Z5 (by omega) (by omega)
    generalize v.leaks[i] = x at *
    simp only [firstE] at he
    simp -implicitDefEqProofs only [go_sem, hil]
    simp only [Z1]
    refine Y9 [] [] (by kernel_rfl) ?_
    by_cases c1 : atE v.vessels.length x.at' x.gas 100000 = 0
    ·rw [if_pos c1] at he
     simp -implicitDefEqProofs only [redoH, go_sem, a1, a3, a8, hT, e1, hat x.at' ⟨x.gas.lo, x.gas.hi⟩, c1, hw1]
     exact ⟨v.leaks.length - (i + 1), hkk, trivial, trivial, trivial, i + 1, _, rfl, hi', rfl, rfl, he⟩
    ·rw [if_neg c1] at he
     rw [if_neg (by rw [he]; exact c1)]
     simp -implicitDefEqProofs only [redoH, go_sem, a1, a3, a8, hT, e1, hat x.at' ⟨x.gas.lo, x.gas.hi⟩, c1, he, Try.results120]
   ·have hie : i = v.leaks.length := by omega
    subst hie
    rw [List.drop_length] at he
    simp only [firstE] at he
    rw [if_pos he]
    simp -implicitDefEqProofs only [go_sem, hil]
    simp only [Z1]
    refine Zf (fun k T s' => T.length = 115 /\ nth T 1 = some (.ptr [0] 0) /\ nth T 3 = some (.int .i64 v.vessels.length) /\ ∃ (i n : Nat), nth T 10 = some (.int .i64 i) /\ i <= v.getters.length /\ k = v.getters.length - i /\ s' = ⟨[([0], .cells [.lst (v.vessels.map vesV), .lst (v.pipes.map pipV), .lst (v.pumps.map pmpV), .lst (v.leaks.map inlV), .lst (v.getters.map gtrV)] true 0)], n, [], false, []⟩ /\ firstE (getE v.vessels.length) v.getters = firstE (getE v.vessels.length) (v.getters.drop i)) (k := v.getters.length) (by omega) ?_ ?_
    ·exact ⟨by simp -implicitDefEqProofs only [go_sem, hT], by simp -implicitDefEqProofs only [go_sem, a1], by simp -implicitDefEqProofs only [go_sem, a3], 0, _, by simp -implicitDefEqProofs only [go_sem, hT] <;> rfl, by omega, rfl, rfl, rfl⟩
    clear a1 a3 a8 hT T
    rintro k T s' ⟨hT, a1, a3, i, n, a10, hi, rfl, rfl, he⟩
    simp -implicitDefEqProofs only [go_sem, a1, a10, hT]
    by_cases hil : (i : Int) < (v.getters.length : Int)
    ·have hi' : i < v.getters.length := by omega
     have e1 := Z9 (f := gtrV) (l := v.getters) (i := i) (z := 5) hi' rfl
     have hkk : v.getters.length - (i + 1) < v.getters.length - i := by omega
     rw [List.drop_eq_getElem_cons hi'] at he
     have hw1 : wrapF .i64 ((i : Int) + 1) = ((i + 1 : Nat) : Int) := Z5 (by omega) (by omega)
     generalize v.getters[i] = x at *
     simp only [firstE] at he
     simp -implicitDefEqProofs only [go_sem, hil]
     simp only [Z1]
     refine Y9 [] [] (by kernel_rfl) ?_
     by_cases c1 : atE v.vessels.length x.at' x.part 1000000 = 0
     ·by_cases c2 : spansE x.room 1000000000 = 0
      ·have c3 : getE v.vessels.length x = 0 := by unfold getE; rw [if_pos c1]; exact c2
       rw [if_pos c3] at he
       simp -implicitDefEqProofs only [redoH, go_sem, a1, a3, a10, hT, e1, hat x.at' ⟨x.part.lo, x.part.hi⟩, hsp ⟨x.room.lo, x.room.hi⟩, c1, c2, hw1]
       exact ⟨v.getters.length - (i + 1), hkk, trivial, trivial, trivial, i + 1, _, rfl, hi', rfl, rfl, he⟩
      ·have c3 : getE v.vessels.length x = spansE x.room 1000000000 := by unfold getE; rw [if_pos c1]
       rw [c3, if_neg c2] at he
       simp -implicitDefEqProofs only [redoH, go_sem, a1, a3, a10, hT, e1, hat x.at' ⟨x.part.lo, x.part.hi⟩, hsp ⟨x.room.lo, x.room.hi⟩, c1, c2, he, Try.results120]
     ·have c3 : getE v.vessels.length x = atE v.vessels.length x.at' x.part 1000000 := by unfold getE; rw [if_neg c1]
      rw [c3, if_neg c1] at he
      simp -implicitDefEqProofs only [redoH, go_sem, a1, a3, a10, hT, e1, hat x.at' ⟨x.part.lo, x.part.hi⟩, c1, he, Try.results120]
    ·have hie : i = v.getters.length := by omega
     subst hie
     rw [List.drop_length] at he
     simp only [firstE] at he
     simp -implicitDefEqProofs only [go_sem, hT, hil, he, Try.results120]
def overB (v : Vac) : Bool := decide (8 < v.vessels.length) || decide (16 < v.pipes.length) || decide (8 < v.pumps.length) || decide (8 < v.leaks.length) || decide (8 < v.getters.length)
def outB (v : Vac) : Nat -> Nat -> Bool
 | _, 0 => false
 | i, k + 1 => decide (1000000 < (outR v i []).hi) || outB v (i + 1) k
def checkE (v : Vac) : Int :=
 if v.vessels.length = 0 then 6 else if overB v = true then 8 else
 if firstE vesE v.vessels = 0 then if partsE v = 0 then if outB v 0 v.vessels.length = true then 14 else 0 else partsE v else firstE vesE v.vessels
theorem Z4r (v : Vac) (K : Nat) (s : St) (hK : 20 < K) (hv : v.Lens K) : acall cfg (K + 4) 50 [vacV v] s = .ret (.int .i64 (checkE v), s) := by
 refine Yh Zn7 Zn6 (by first | rfl | simp -implicitDefEqProofs only [redoH, redo1, go_sem]) (by first | rfl | simp -implicitDefEqProofs only [go_sem]) (by first | rfl | simp -implicitDefEqProofs only [redoH, redo1, go_sem]) ?_
 refine Z6 rfl fun T hT' hA => ?_
 have a0 := hA 0 _ rfl
 have hT : T.length = 72 := hT'
 clear hA hT'
 have hvs := fun x (hx : x ∈ v.vessels) s => Z3g x (K + 1) s (by omega) (hv.bands x hx)
 have hpc := fun s => Z4q v K s hv
 have hoc := fun n s => Zaz v n [] (K + 1) s ⟨⟨by have := hv.ves.1; omega, hv.ves.2⟩, ⟨by have := hv.pip.1; omega, hv.pip.2⟩, ⟨by have := hv.pmp.1; omega, hv.pmp.2⟩, ⟨by have := hv.inl.1; omega, hv.inl.2⟩, ⟨by have := hv.gtr.1; omega, hv.gtr.2⟩, hv.bands⟩ (by simp) (by simp)
 obtain ⟨⟨hv1, hv2⟩, _, _, _, _, _⟩ := hv
 simp only [vacV, rgV, List.map_nil] at hpc hoc
 have q1 : (8 : Int) < (v.vessels.length : Int) ↔ 8 < v.vessels.length := by omega
 have q2 : (16 : Int) < (v.pipes.length : Int) ↔ 16 < v.pipes.length := by omega
 have q3 : (8 : Int) < (v.pumps.length : Int) ↔ 8 < v.pumps.length := by omega
 have q4 : (8 : Int) < (v.leaks.length : Int) ↔ 8 < v.leaks.length := by omega
 have q5 : (8 : Int) < (v.getters.length : Int) ↔ 8 < v.getters.length := by omega
 unfold checkE
 simp -implicitDefEqProofs only [go_sem, a0, hT]
 by_cases c1 : v.vessels.length = 0
 ·have c1' : (v.vessels.length : Int) = 0 := by omega
  rw [if_pos c1]
  simp -implicitDefEqProofs only [go_sem, hT, c1', Try.results50]
 ·have c1' : ¬ (v.vessels.length : Int) = 0 := by omega
  rw [if_neg c1]
  have hov : overB v = (decide ((8 : Int) < (v.vessels.length : Int)) || decide ((16 : Int) < (v.pipes.length : Int)) || decide ((8 : Int) < (v.pumps.length : Int)) || decide ((8 : Int) < (v.leaks.length : Int)) || decide ((8 : Int) < (v.getters.length : Int))) := by
   unfold overB
   simp only [q1, q2, q3, q4, q5]
  rw [hov]
  by_cases o1 : (8 : Int) < (v.vessels.length : Int)
  ·simp -implicitDefEqProofs only [go_sem, hT, c1', o1, Bool.true_or, Try.results50]
  ·by_cases o2 : (16 : Int) < (v.pipes.length : Int)
   ·simp -implicitDefEqProofs only [go_sem, hT, c1', o1, o2, Bool.true_or, Bool.or_true, Try.results50]
   ·by_cases o3 : (8 : Int) < (v.pumps.length : Int)
    ·simp -implicitDefEqProofs only [go_sem, hT, c1', o1, o2, o3, Bool.true_or, Bool.or_true, Try.results50]
    ·by_cases o4 : (8 : Int) < (v.leaks.length : Int)
     ·simp -implicitDefEqProofs only [go_sem, hT, c1', o1, o2, o3, o4, Bool.true_or, Bool.or_true, Try.results50]
     ·by_cases o5 : (8 : Int) < (v.getters.length : Int)
      ·simp -implicitDefEqProofs only [go_sem, hT, c1', o1, o2, o3, o4, o5, Bool.or_true, Try.results50]
      ·clear hov q1 q2 q3 q4 q5
       simp -implicitDefEqProofs only [go_sem, hT, c1', o1, o2, o3, o4, o5, Bool.or_false, Bool.false_eq_true, if_false]
       simp only [Z1]
       refine Zf (fun k T s' => T.length = 72 /\ nth T 1 = some (.ptr [0] 0) /\ ∃ (i n : Nat), nth T 3 = some (.int .i64 i) /\ i <= v.vessels.length /\ k = v.vessels.length - i /\ s' = ⟨[([0], .cells [.lst (v.vessels.map vesV), .lst (v.pipes.map pipV), .lst (v.pumps.map pmpV), .lst (v.leaks.map inlV), .lst (v.getters.map gtrV)] true 0)], n, [], false, []⟩ /\ firstE vesE v.vessels = firstE vesE (v.vessels.drop i)) (k := v.vessels.length) (by omega) ?_ ?_
       ·exact ⟨by simp -implicitDefEqProofs only [go_sem, hT], by simp -implicitDefEqProofs only [go_sem, hT], 0, _, by simp -implicitDefEqProofs only [go_sem, hT] <;> rfl, by omega, rfl, rfl, rfl⟩
       clear a0 hT T
       rintro k T s' ⟨hT, a1, i, n, a3, hi, rfl, rfl, he⟩
       simp -implicitDefEqProofs only [go_sem, a1, a3, hT]
       by_cases hil : (i : Int) < (v.vessels.length : Int)
       ·have hi' : i < v.vessels.length := by omega
        have e1 := Z9 (f := vesV) (l := v.vessels) (i := i) (z := 6) hi' rfl
        have hkk : v.vessels.length - (i + 1) < v.vessels.length - i := by omega
        have hv1 := fun s => hvs _ (List.getElem_mem hi') s
        rw [List.drop_eq_getElem_cons hi'] at he
        have hw1 : wrapF .i64 ((i : Int) + 1) = ((i + 1 : Nat) : Int) := Z5 (by omega) (by omega)
        generalize v.vessels[i] = x at *
        simp only [firstE] at he
        simp only [vesV] at hv1
        by_cases d1 : vesE x = 0
        ·rw [if_pos d1] at he
         simp -implicitDefEqProofs only [go_sem, a1, a3, hT, hil, e1, hv1, d1, hw1]
         exact ⟨v.vessels.length - (i + 1), hkk, trivial, trivial, i + 1, _, rfl, hi', rfl, rfl, he⟩
        ·rw [if_neg d1] at he
         rw [if_neg (by rw [he]; exact d1)]
         simp -implicitDefEqProofs only [go_sem, a1, a3, hT, hil, e1, hv1, d1, he, Try.results50]
       ·have hie : i = v.vessels.length := by omega
        subst hie
        rw [List.drop_length] at he
        simp only [firstE] at he
        rw [if_pos he]
        by_cases d2 : partsE v = 0
        ·rw [if_pos d2]
         simp -implicitDefEqProofs only [go_sem, a1, hT, hil, hpc, d2]
         simp only [Z1]
         refine Zf (fun k T s' => T.length = 72 /\ nth T 1 = some (.ptr [0] 0) /\ ∃ (i n : Nat), nth T 6 = some (.int .i64 i) /\ i <= v.vessels.length /\ k = v.vessels.length - i /\ s' = ⟨[([0], .cells [.lst (v.vessels.map vesV), .lst (v.pipes.map pipV), .lst (v.pumps.map pmpV), .lst (v.leaks.map inlV), .lst (v.getters.map gtrV)] true 0)], n, [], false, []⟩ /\ outB v 0 v.vessels.length = outB v i (v.vessels.length - i)) (k := v.vessels.length) (by omega) ?_ ?_
         ·exact ⟨by simp -implicitDefEqProofs only [go_sem, hT], by simp -implicitDefEqProofs only [go_sem, a1], 0, _, by simp -implicitDefEqProofs only [go_sem, hT] <;> rfl, by omega, rfl, rfl, rfl⟩
         clear a1 a3 hT T hil he
         rintro k T s' ⟨hT, a1, i, n, a6, hi, rfl, rfl, he⟩
         simp -implicitDefEqProofs only [go_sem, a1, a6, hT]
         by_cases hil : (i : Int) < (v.vessels.length : Int)
         ·have hi' : i < v.vessels.length := by omega
          have hkk : v.vessels.length - (i + 1) < v.vessels.length - i := by omega
          rw [show v.vessels.length - i = (v.vessels.length - (i + 1)) + 1 by omega] at he
          simp only [outB] at he
          have hw1 : wrapF .i64 ((i : Int) + 1) = ((i + 1 : Nat) : Int) := Z5 (by omega) (by omega)
          by_cases d3 : 1000000 < (outR v i []).hi
          ·rw [decide_eq_true d3, Bool.true_or] at he
           simp -implicitDefEqProofs only [go_sem, a1, a6, hT, hil, hoc, d3, he, Try.results50]
          ·rw [decide_eq_false d3, Bool.false_or] at he
           simp -implicitDefEqProofs only [go_sem, a1, a6, hT, hil, hoc, d3, hw1]
           exact ⟨v.vessels.length - (i + 1), hkk, trivial, trivial, i + 1, _, rfl, hi', rfl, rfl, he⟩
         ·have hie : i = v.vessels.length := by omega
          subst hie
          rw [Nat.sub_self] at he
          simp only [outB] at he
          simp -implicitDefEqProofs only [go_sem, hT, hil, he, Bool.false_eq_true, if_false, Try.results50]
        ·rw [if_neg d2]
         simp -implicitDefEqProofs only [go_sem, a1, hT, hil, hpc, d2, Try.results50]
end Go.Proofs.Ytgnpnfkncbnjnaa
namespace Go.Am
open Go
section
variable {C : Cfg} {K : Nat}
theorem Z8h {f : FuncId} {fn : Func} {args : List AV} {s : St} {es : List (AV × AV)} (hm : C.mode.get f = some 3) (hf : C.fn.get f = some fn) (hn : namesVs false args [] = []) (hr : renVs [] args = some args)
  (hes : flatE es = true)
  (hd : (bodyA (C.at f) (acall C K) (around C K) (K + 1) fn args s0).Does fun x => ∃ mm, x.1 = .map mm /\ hget x.2.H mm = some (.map es false)) :
  acall C (K + 1) f args s = .ret (.map (s.pre ++ [s.n]), s.new (.map es false)) := by
 rw [Yb]
 unfold enterA
 rw [hf]; simp only
 rw [hm]; simp only
 obtain ⟨⟨v1, s1⟩, e1, mm, rfl, e2⟩ := hd
 simp only at e2
 unfold handA
 have hl : lendM 200 (namesVs false args []) [] [] s = .ret (([], []), s) := by rw [hn]; exact Zn 199 _ _ _
 rw [Zd, hl]
 have hnd : nodupN [] = true := rfl
 have hz : zipN [] (namesFrom [] 0 ([] : List Nm).length) = [] := rfl
 have hrb : renBs [] [] = some [] := rfl
 have hcalm : calm [] = true := rfl
 simp only [Tr.bind_ret, hnd, hz, hr, hrb, hcalm]
 have hst : (⟨zipB (namesFrom [] 0 ([] : List Nm).length) [], ([] : List Nm).length, [], false, []⟩ : St) = s0 := rfl
 rw [hst, e1]
 have ho : oneR false (.ret (.map mm, s1)) = some (.map mm, s1.H) := rfl
 have hy : getAll s1.H (namesFrom [] 0 ([] : List Nm).length) = some [] := rfl
 rw [ho]; simp only
 rw [hy]; simp only
 have hnv : namesV true (.map mm) (namesBs true [] []) = [mm] := rfl
 rw [hnv]
 have hre0 : ∀ k, reachL s1.H (k + 2) [mm] [] [] = some ([mm], [.map es false]) := fun k => by
  rw [Xi]
  have m0 : memNm mm [] = false := rfl
  rw [m0]; simp only
  rw [e2]; simp only
  show reachL s1.H (k + 1) [] [mm] [_] = _
  rw [Z2r]
 have hre : reachL s1.H 200 [mm] (namesFrom [] 0 ([] : List Nm).length) [] = some ([mm], [.map es false]) := hre0 198
 rw [hre]; simp only
 have hn0 : nodupN [mm] = true := rfl
 rw [hn0]; simp only
 rw [Zd]
 show (Tr.ret ((s.pre, s.n), s)).bind _ = _
 rw [Tr.bind_ret]
 have hz2 : zipN [mm] ([] ++ namesFrom s.pre s.n ([.map es false] : List Blk).length) = [(mm, s.pre ++ [s.n])] := rfl
 simp only
 rw [hz2]
 have hz0 : ∀ mp, renBs mp [] = some [] := fun _ => rfl
 have hv2 : renV [(mm, s.pre ++ [s.n])] (.map mm) = some (.map (s.pre ++ [s.n])) := by simp only [renV, lookN, Zi]
 have hb2 : renBs [(mm, s.pre ++ [s.n])] [.map es false] = some [.map es false] := by simp only [renBs, renB, hes]
 simp only [hv2, hz0, hb2, putAll, newAll, Zd, J1, Tr.bind_ret, Yc]
end
end Go.Am
namespace Go.Proofs.Ytgnpnfkncbnjnaa
open Go Go.Am
attribute [local congr] Ze Zb Zc
attribute [local go_sem] Go.Am.buildSliceA Go.Am.frozen Go.Am.freezeG Go.Am.freezeGs Go.Am.minmax
def getS : List (Int × Rg) -> Int -> Rg
 | [], _ => ⟨0, 0⟩
 | a :: r, k => if k = a.1 then a.2 else getS r k
def setS : List (Int × Rg) -> Int -> Rg -> List (Int × Rg)
 | [], k, x => [(k, x)]
 | a :: r, k, x => if k = a.1 then (k, x) :: r else a :: setS r k x
theorem Z06 (k : Int) (x : Rg) : ∀ (es : List (Int × Rg)) (q : Int), getS (setS es k x) q = if q = k then x else getS es q
 | [], q => by simp only [setS, getS]
 | a :: r, q => by
  unfold setS
  by_cases h : k = a.1
  ·rw [if_pos h]
   simp only [getS]
   by_cases hq : q = k
   ·rw [if_pos hq, if_pos hq]
   ·rw [if_neg hq, if_neg hq, if_neg (by rw [<- h]; exact hq)]
  ·rw [if_neg h]
   simp only [getS]
   by_cases hq : q = a.1
   ·rw [if_pos hq, if_neg (by rw [hq]; exact Ne.symm h), if_pos hq]
   ·rw [if_neg hq, Z06 k x r q, if_neg hq]
def encE (es : List (Int × Rg)) : List (AV × AV) := es.map fun e => (iV e.1, rgV e.2)
theorem Z8i : ∀ es, flatE (encE es) = true
 | [] => rfl
 | a :: r => Z8i r
theorem Z72 (k : Int) : ∀ (es : List (Int × Rg)) (i : Nat), (findA (.int .i64 k) (encE es) i = some none /\ getS es k = ⟨0, 0⟩ /\ ∀ x, encE (setS es k x) = encE es ++ [(iV k, rgV x)]) ∨
  ∃ j, findA (.int .i64 k) (encE es) i = some (some (i + j, rgV (getS es k))) /\ ∀ x, encE (setS es k x) = setNth (encE es) j (iV k, rgV x)
 | [], i => .inl ⟨rfl, rfl, fun _ => rfl⟩
 | a :: r, i => by
  have he : eqSame (.int .i64 k) (iV a.1) = some (decide (k = a.1)) := rfl
  have hu : findA (.int .i64 k) (encE (a :: r)) i = (match eqSame (.int .i64 k) (iV a.1) with
   | some true => some (some (i, rgV a.2))
   | some false => findA (.int .i64 k) (encE r) (i + 1)
   | none => none) := rfl
  by_cases h : k = a.1
  ·refine .inr ⟨0, ?_, fun x => ?_⟩
   ·rw [hu, he, decide_eq_true h]
    simp only [getS, if_pos h, Nat.add_zero]
   ·simp only [setS, if_pos h]; rfl
  ·have hd : decide (k = a.1) = false := decide_eq_false h
   rcases Z72 k r (i + 1) with ⟨h1, h2, h3⟩ | ⟨j, h1, h2⟩
   ·refine .inl ⟨?_, ?_, fun x => ?_⟩
    ·rw [hu, he, hd]; exact h1
    ·simp only [getS, if_neg h]; exact h2
    ·simp only [setS, if_neg h]
     show (iV a.1, rgV a.2) :: encE (setS r k x) = _
     rw [h3]; rfl
   ·refine .inr ⟨j + 1, ?_, fun x => ?_⟩
    ·rw [hu, he, hd]
     simp only [getS, if_neg h]
     rw [h1, show i + 1 + j = i + (j + 1) by omega]
    ·simp only [setS, if_neg h]
     show (iV a.1, rgV a.2) :: encE (setS r k x) = _
     rw [h2]; rfl
theorem Z9t : cfg.desc 181 = some (.map 3 26) := by kernel_rfl
theorem Zhk : cfg.desc 3 = some (.int .i64) := by kernel_rfl
theorem Zb0 {C : Cfg} (hC : C.ty = cfg.ty) {es : List (Int × Rg)} {k : Int} {b : Nm} {s : St} {fz : Bool} (hg : hget s.H b = some (.map (encE es) fz)) :
  lookupA C 181 (.map b) (.int .i64 k) false s = .ret (rgV (getS es k), s) := by
 have d1 : C.desc 181 = some (.map 3 26) := by unfold Cfg.desc; rw [hC]; exact Z9t
 have d3 : C.desc 3 = some (.int .i64) := by unfold Cfg.desc; rw [hC]; exact Zhk
 unfold lookupA
 rw [d1]
 simp only [Zd, entriesA, Ym, hg, Tr.bind_ret, Yc]
 rw [d3, hC, Z36]
 rcases Z72 k es 0 with ⟨h1, h2, _⟩ | ⟨j, h1, _⟩
 ·simp only [h1, keyKind, decide_true]
  rw [h2]; rfl
 ·simp only [h1, keyKind, decide_true]
  rfl
theorem Zl7 {C : Cfg} (hC : C.ty = cfg.ty) {es : List (Int × Rg)} {k : Int} {x : Rg} {b : Nm} {s : St} (hg : hget s.H b = some (.map (encE es) false)) :
  updateA C 181 (.map b) (.int .i64 k) (rgV x) s = .ret ((), s.put b (.map (encE (setS es k x)) false)) := by
 have d1 : C.desc 181 = some (.map 3 26) := by unfold Cfg.desc; rw [hC]; exact Z9t
 have d3 : C.desc 3 = some (.int .i64) := by unfold Cfg.desc; rw [hC]; exact Zhk
 unfold updateA
 rw [d1]
 simp only [Zd, Ym, hg, Tr.bind_ret]
 rw [d3]
 rcases Z72 k es 0 with ⟨h1, _, h2⟩ | ⟨j, h1, h2⟩
 ·have ho : (rgV x).okc = true := rfl
  simp only [h1, keyKind, decide_true, ho]
  rw [Ya, hg]
  simp only
  rw [h2]; rfl
 ·have ho : (rgV x).okc = true := rfl
  simp only [h1, keyKind, decide_true, ho]
  rw [Ya, hg]
  simp only
  rw [h2, Nat.zero_add]; rfl
def leaveP (shut : List Int) : Nat -> List (Int × Rg) -> List Pip -> List (Int × Rg)
 | _, es, [] => es
 | i, es, p :: r => if (i : Int) ∈ shut then leaveP shut (i + 1) es r else
  leaveP shut (i + 1) (setS (setS es p.a (plusR (getS es p.a) p.out)) p.b (plusR (getS (setS es p.a (plusR (getS es p.a) p.out)) p.b) p.back)) r
def leaveM : List (Int × Rg) -> List Pmp -> List (Int × Rg)
 | es, [] => es
 | es, q :: r => leaveM (setS es q.at' (plusR (getS es q.at') q.part)) r
def leaveL (v : Vac) (shut : List Int) : List (Int × Rg) := leaveM (leaveP shut 0 [] v.pipes) v.pumps
theorem Z2v (shut : List Int) (x : Int) : ∀ (l : List Pip) (i : Nat) (es : List (Int × Rg)), getS (leaveP shut i es l) x = outP x shut i (getS es x) l
 | [], _, _ => rfl
 | p :: r, i, es => by
  simp only [leaveP, outP]
  split
  ·exact Z2v shut x r _ _
  ·rw [Z2v shut x r _ _]
   congr 1
   rw [Z06]
   by_cases h1 : x = p.b
   ·subst h1
    rw [if_pos rfl, if_pos rfl, Z06]
    by_cases h2 : p.b = p.a
    ·rw [if_pos h2, if_pos h2.symm, <- h2]
    ·rw [if_neg h2, if_neg (Ne.symm h2)]
   ·rw [if_neg h1, if_neg (fun h => h1 h.symm), Z06]
    by_cases h2 : x = p.a
    ·subst h2
     simp
    ·rw [if_neg h2, if_neg (fun h => h2 h.symm)]
theorem Z68 (x : Int) : ∀ (l : List Pmp) (es : List (Int × Rg)), getS (leaveM es l) x = outM x (getS es x) l
 | [], _ => rfl
 | q :: r, es => by
  simp only [leaveM, outM]
  rw [Z68 x r, Z06]
  by_cases h : q.at' = x
  ·rw [if_pos h.symm, if_pos h, h]
  ·rw [if_neg (Ne.symm h), if_neg h]
theorem Z4s (v : Vac) (shut : List Int) (x : Int) : getS (leaveL v shut) x = outR v x shut := by
 unfold leaveL outR
 rw [Z68, Z2v shut x v.pipes 0 []]; rfl
end Go.Proofs.Ytgnpnfkncbnjnaa
namespace Go.Proofs.Ytgnpnfkncbnjnaa
attribute [local go_sem_proc] Int.reduceEq Int.reduceNeg Nat.reduceEqDiff Nat.reduceLT Nat.reduceAdd Nat.reduceSub Nat.reduceMul Int.reduceLE Int.reduceLT Int.reduceToNat Nat.reduceLeDiff
attribute [local go_sem] Int.toNat_natCast Bool.not_true Bool.not_false
open Go Go.Am
attribute [local congr] Ze Zb Zc
attribute [local go_sem] Go.Am.buildSliceA Go.Am.frozen Go.Am.freezeG Go.Am.freezeGs Go.Am.minmax
theorem Z3a (v : Vac) (shut : List Int) (K : Nat) (s : St) (hv : v.Lens K) (hs : shut.length < K) (hs2 : shut.length <= 9223372036854775807) :
  acall cfg (K + 3) 118 [vacV v, .lst (shut.map iV)] s = .ret (.map (s.pre ++ [s.n]), s.new (.map (encE (leaveL v shut)) false)) := by
 refine Z8h Zj1 Zj0 rfl (by simp only [renVs, renV, vacV, Xs, Xt, Xu, Xv, Xw, fl_i]) (Z8i _) ?_
 refine Z6 rfl fun T hT' hA => ?_
 have a0 := hA 0 _ rfl
 have a1 := hA 1 _ rfl
 have hT : T.length = 63 := hT'
 clear hA hT'
 obtain ⟨⟨_, _⟩, ⟨hp1, hp2⟩, ⟨hm1, hm2⟩, _, _, _⟩ := hv
 have hh := fun n s => Z29 shut n K s hs hs2
 have had := fun a b s => Z26 a b (K + 1) s
 have hlk := fun (es : List (Int × Rg)) (k : Int) (s : St) (hg : hget s.H [1] = some (.map (encE es) false)) => Zb0 (C := cfg.at 118) rfl (k := k) hg
 have hup := fun (es : List (Int × Rg)) (k : Int) (x : Rg) (s : St) (hg : hget s.H [1] = some (.map (encE es) false)) => Zl7 (C := cfg.at 118) rfl (k := k) (x := x) hg
 simp only [rgV] at had hlk hup
 simp -implicitDefEqProofs only [go_sem, a0, hT]
 simp only [Z1]
 refine Zf (fun k T s' => T.length = 63 /\ nth T 1 = some (.lst (shut.map iV)) /\ nth T 2 = some (.ptr [0] 0) /\ nth T 5 = some (.map [1]) /\ nth T 12 = some (.lst (v.pipes.map pipV)) /\ nth T 13 = some (.int .i64 v.pipes.length) /\ ∃ (i n : Nat) (es : List (Int × Rg)) (H : Heap), nth T 14 = some (.int .i64 i) /\ i <= v.pipes.length /\ k = v.pipes.length - i /\ s' = ⟨H, n + 2, [], false, []⟩ /\ hget H [0] = some (.cells [.lst (v.vessels.map vesV), .lst (v.pipes.map pipV), .lst (v.pumps.map pmpV), .lst (v.leaks.map inlV), .lst (v.getters.map gtrV)] true 0) /\
  hget H [1] = some (.map (encE es) false) /\ leaveP shut 0 [] v.pipes = leaveP shut i es (v.pipes.drop i)) (k := v.pipes.length) (by omega) ?_ ?_
 ·exact ⟨by simp -implicitDefEqProofs only [go_sem, hT], by simp -implicitDefEqProofs only [go_sem, a1], by simp -implicitDefEqProofs only [go_sem, hT], by simp -implicitDefEqProofs only [go_sem, hT], by simp -implicitDefEqProofs only [go_sem, hT], by simp -implicitDefEqProofs only [go_sem, hT], 0, 0, [], _, by simp -implicitDefEqProofs only [go_sem, hT] <;> rfl, by omega, rfl, rfl, rfl, rfl, rfl⟩
 clear a0 a1 hT T
 rintro k T s' ⟨hT, a1, a2, a5, a12, a13, i, n, es, H, a14, hi, rfl, rfl, g0, g1, he⟩
 simp -implicitDefEqProofs only [go_sem, a13, a14, hT]
 by_cases hil : (i : Int) < (v.pipes.length : Int)
 ·have hi' : i < v.pipes.length := by omega
  have e1 := Z9 (f := pipV) (l := v.pipes) (i := i) (z := 6) hi' rfl
  have hkk : v.pipes.length - (i + 1) < v.pipes.length - i := by omega
  rw [List.drop_eq_getElem_cons hi'] at he
  generalize v.pipes[i] = p at *
  simp only [leaveP] at he
  have k0 : ∀ X, hget (([n + 2], X) :: H) [0] = _ := fun X => (Z4 _ _ (Zu (by omega))).trans g0
  have k1 : ∀ X, hget (([n + 2], X) :: H) [1] = _ := fun X => (Z4 _ _ (Zu (by omega))).trans g1
  have j1 : ∀ X Z, hget (([n + 2], X) :: hset H [1] Z) [1] = _ := fun X Z => (Z4 _ _ (Zu (by omega))).trans (Zh Z g1)
  have w1 : ∀ Z, hget (hset H [1] Z) [1] = some Z := fun Z => Zh Z g1
  have w2 : ∀ Z Y, hget (hset (hset H [1] Z) [1] Y) [1] = some Y := fun Z Y => Zh Y (w1 Z)
  have d0 : ∀ X Z Y, hget (([n + 2], X) :: hset (hset H [1] Z) [1] Y) [0] = _ := fun X Z Y => (Z4 _ _ (Zu (by omega))).trans ((Z2 _ Y (by decide)).trans ((Z2 H Z (by decide)).trans g0))
  have d1 : ∀ X Z Y, hget (([n + 2], X) :: hset (hset H [1] Z) [1] Y) [1] = _ := fun X Z Y => (Z4 _ _ (Zu (by omega))).trans (w2 Z Y)
  have hw1 : wrapF .i64 ((i : Int) + 1) = ((i + 1 : Nat) : Int) := Z5 (by omega) (by omega)
  simp -implicitDefEqProofs only [go_sem, a1, a12, a14, hT, hil, e1, hh]
  by_cases c1 : (i : Int) ∈ shut
  ·rw [if_pos c1] at he
   simp -implicitDefEqProofs only [go_sem, a1, a2, a5, a12, a13, a14, hT, c1, hw1]
   exact ⟨v.pipes.length - (i + 1), hkk, trivial, trivial, trivial, trivial, trivial, trivial, i + 1, n + 1, es, _, rfl, hi', rfl, rfl, k0 _, k1 _, he⟩
  ·rw [if_neg c1] at he
   simp -implicitDefEqProofs only [go_sem, c1]
   simp only [Z1]
   refine Y9 [10] [10] (by kernel_rfl) ?_
   simp -implicitDefEqProofs only [redoH, redo1, go_sem, a5, hT, k1, hlk es p.a, had (getS es p.a) ⟨p.out.lo, p.out.hi⟩, hup es p.a (plusR (getS es p.a) p.out)]
   generalize hes : setS es p.a (plusR (getS es p.a) p.out) = es1 at *
   simp only [Z1]
   refine Y9 [10] [10] (by kernel_rfl) ?_
   simp -implicitDefEqProofs only [redoH, redo1, go_sem, a1, a2, a5, a12, a13, a14, hT, j1, hlk es1 p.b, had (getS es1 p.b) ⟨p.back.lo, p.back.hi⟩, hup es1 p.b (plusR (getS es1 p.b) p.back), hw1]
   exact ⟨v.pipes.length - (i + 1), hkk, trivial, trivial, trivial, trivial, trivial, trivial, i + 1, n + 3, setS es1 p.b (plusR (getS es1 p.b) p.back), _, rfl, hi', rfl, rfl, d0 _ _ _, d1 _ _ _, he⟩
 ·have hie : i = v.pipes.length := by omega
  subst hie
  rw [List.drop_length] at he
  simp only [leaveP] at he
  have hL : leaveL v shut = leaveM es v.pumps := by unfold leaveL; rw [he]
  rw [hL]
  simp -implicitDefEqProofs only [go_sem, a2, hT, hil, g0]
  simp only [Z1]
  refine Zf (fun k T s' => T.length = 63 /\ nth T 5 = some (.map [1]) /\ nth T 45 = some (.lst (v.pumps.map pmpV)) /\ nth T 46 = some (.int .i64 v.pumps.length) /\ ∃ (i n : Nat) (es2 : List (Int × Rg)) (H : Heap), nth T 47 = some (.int .i64 i) /\ i <= v.pumps.length /\ k = v.pumps.length - i /\ s' = ⟨H, n + 2, [], false, []⟩ /\
   hget H [1] = some (.map (encE es2) false) /\ leaveM es v.pumps = leaveM es2 (v.pumps.drop i)) (k := v.pumps.length) (by omega) ?_ ?_
  ·exact ⟨by simp -implicitDefEqProofs only [go_sem, hT], by simp -implicitDefEqProofs only [go_sem, a5], by simp -implicitDefEqProofs only [go_sem, hT], by simp -implicitDefEqProofs only [go_sem, hT], 0, n, es, H, by simp -implicitDefEqProofs only [go_sem, hT] <;> rfl, by omega, rfl, rfl, g1, rfl⟩
  clear a1 a2 a5 a12 a13 a14 hT T g0 g1 H n
  rintro k T s' ⟨hT, a5, a45, a46, i, n, es2, H, a47, hi, rfl, rfl, g1, he2⟩
  simp -implicitDefEqProofs only [go_sem, a46, a47, hT]
  by_cases hil2 : (i : Int) < (v.pumps.length : Int)
  ·have hi' : i < v.pumps.length := by omega
   have e1 := Z9 (f := pmpV) (l := v.pumps) (i := i) (z := 3) hi' rfl
   have hkk : v.pumps.length - (i + 1) < v.pumps.length - i := by omega
   rw [List.drop_eq_getElem_cons hi'] at he2
   generalize v.pumps[i] = q at *
   simp only [leaveM] at he2
   have k1 : ∀ X, hget (([n + 2], X) :: H) [1] = _ := fun X => (Z4 _ _ (Zu (by omega))).trans g1
   have j1 : ∀ X Z, hget (([n + 2], X) :: hset H [1] Z) [1] = _ := fun X Z => (Z4 _ _ (Zu (by omega))).trans (Zh Z g1)
   have hw1 : wrapF .i64 ((i : Int) + 1) = ((i + 1 : Nat) : Int) := Z5 (by omega) (by omega)
   simp -implicitDefEqProofs only [go_sem, a45, a47, hT, hil2, e1]
   simp only [Z1]
   refine Y9 [10] [10] (by kernel_rfl) ?_
   simp -implicitDefEqProofs only [redoH, redo1, go_sem, a5, a45, a46, a47, hT, k1, hlk es2 q.at', had (getS es2 q.at') ⟨q.part.lo, q.part.hi⟩, hup es2 q.at' (plusR (getS es2 q.at') q.part), hw1]
   exact ⟨v.pumps.length - (i + 1), hkk, trivial, trivial, trivial, trivial, i + 1, n + 2, setS es2 q.at' (plusR (getS es2 q.at') q.part), _, rfl, hi', rfl, rfl, j1 _ _, he2⟩
  ·have hie : i = v.pumps.length := by omega
   subst hie
   rw [List.drop_length] at he2
   simp only [leaveM] at he2
   rw [he2]
   simp -implicitDefEqProofs only [go_sem, a5, hT, hil2, Try.results118]
   exact ⟨_, rfl, g1⟩
end Go.Proofs.Ytgnpnfkncbnjnaa
namespace Go.Am
open Go
theorem Y6 {b : Nm} {r bs : List Nm} {xs : List Blk} {H : Heap} {n : Nat} {p : Nm} {jr : Bool} {j : Delta} {x : Blk} (k : Nat) (hm : memNm b bs = false) (hb : hget H b = some x) : lendM (k + 1) (b :: r) bs xs ⟨H, n, p, jr, j⟩ = lendM k (namesB false x r) (bs ++ [b]) (xs ++ [x]) ⟨H, n, p, jr, j⟩ := by
 rw [Zc3, hm]
 simp only
 rw [Zd, Ym, hb]
 rfl
end Go.Am
namespace Go.Proofs.Ytgnpnfkncbnjnaa
attribute [local go_sem_proc] Int.reduceEq Int.reduceNeg Nat.reduceEqDiff Nat.reduceLT Nat.reduceAdd Nat.reduceSub Nat.reduceMul Int.reduceLE Int.reduceLT Int.reduceToNat Nat.reduceLeDiff
attribute [local go_sem] Int.toNat_natCast Bool.not_true Bool.not_false
open Go Go.Am
attribute [local congr] Ze Zb Zc
attribute [local go_sem] Go.Am.buildSliceA Go.Am.frozen Go.Am.freezeG Go.Am.freezeGs Go.Am.minmax
theorem Z9u (at' : Int) (r : Rg) (most N : Int) (b : Nm) (K : Nat) (H : Heap) (n : Nat) (p : Nm) (jr : Bool) (j : Delta) (hb : hget H b = some (.cells [.int .i64 N] true 0)) (h1 : 0 <= N) (h2 : N <= 9223372036854775807) :
  acall cfg (K + 2) 104 [.int .i64 at', rgV r, .int .i64 most, .ptr b 0] ⟨H, n, p, jr, j⟩ = .ret (.int .i64 (atE N at' r most), ⟨H, n, p, jr, backJ jr [b] [.cells [.int .i64 N] true 0] j⟩) := by
 refine Yx (bs := [b]) (xs := [.cells [.int .i64 N] true 0]) (args' := [.int .i64 at', rgV r, .int .i64 most, .ptr [0] 0]) (xs' := [.cells [.int .i64 N] true 0]) Zi9 Zi8 (by show lendM (199 + 1) [b] [] [] _ = _; rw [Y6 199 rfl hb]; exact Zn 198 _ _ _) (by simp only [getAll, hb]) rfl rfl (by show renVs [(b, [0])] _ = _; simp only [renVs, renV, rgV, lookN, Zi]) rfl rfl (fun _ => rfl) (fun _ h => by cases h) (show (0 : Nat) < 200 by decide) rfl rfl ?_
 refine Z6 rfl fun T hT' hA => ?_
 have a0 := hA 0 _ rfl
 have a1 := hA 1 _ rfl
 have a2 := hA 2 _ rfl
 have a3 := hA 3 _ rfl
 have hT : T.length = 16 := hT'
 clear hA hT'
 have hg : hget (zipB (namesFrom [] 0 [b].length) [.cells [.int .i64 N] true 0]) [0] = some (.cells [.int .i64 N] true 0) := rfl
 have hz : zipB (namesFrom [] 0 [b].length) [Blk.cells [.int .i64 N] true 0] = [([0], .cells [.int .i64 N] true 0)] := rfl
 have hy : getAll [([1], Blk.cells [.int .i64 r.lo, .int .i64 r.hi] true 0), ([0], .cells [.int .i64 N] true 0)] (namesFrom [] 0 [b].length) = some [.cells [.int .i64 N] true 0] := rfl
 rw [hz]
 have hc := fun s => J8 at' 0 (N - 1) K s
 have hsp := fun s => Jl r most K s
 have hw : wrapF .i64 (N - 1) = N - 1 := Z5 (by omega) (by omega)
 simp only [rgV] at hsp
 unfold atE
 by_cases c1 : fromB at' 0 (N - 1) = true
 ·rw [if_pos c1]
  simp -implicitDefEqProofs only [go_sem, a0, a1, a2, a3, hT, hw, hc, c1, hsp, Try.results104]
  exact ⟨trivial, hy⟩
 ·rw [if_neg c1]
  simp -implicitDefEqProofs only [go_sem, a0, a1, a3, hT, hw, hc, c1, Try.results104]
  exact ⟨trivial, hy⟩
theorem Zeb (x : Pip) (N : Int) (b : Nm) (K : Nat) (H : Heap) (n : Nat) (p : Nm) (jr : Bool) (j : Delta) (hb : hget H b = some (.cells [.int .i64 N] true 0)) (h1 : 0 <= N) (h2 : N <= 9223372036854775807) :
  acall cfg (K + 2) 107 [pipV x, .ptr b 0] ⟨H, n, p, jr, j⟩ = .ret (.int .i64 (pipE N x), ⟨H, n, p, jr, backJ jr [b] [.cells [.int .i64 N] true 0] j⟩) := by
 refine Yx (bs := [b]) (xs := [.cells [.int .i64 N] true 0]) (args' := [pipV x, .ptr [0] 0]) (xs' := [.cells [.int .i64 N] true 0]) Zif Zie (by show lendM (199 + 1) [b] [] [] _ = _; rw [Y6 199 rfl hb]; exact Zn 198 _ _ _) (by simp only [getAll, hb]) rfl rfl (by show renVs [(b, [0])] _ = _; simp only [renVs, renV, pipV, lookN, Zi]) rfl rfl (fun _ => rfl) (fun _ h => by cases h) (show (0 : Nat) < 200 by decide) rfl rfl ?_
 refine Z6 rfl fun T hT' hA => ?_
 have a0 := hA 0 _ rfl
 have a1 := hA 1 _ rfl
 have hT : T.length = 35 := hT'
 clear hA hT'
 have hz : zipB (namesFrom [] 0 [b].length) [Blk.cells [.int .i64 N] true 0] = [([0], .cells [.int .i64 N] true 0)] := rfl
 have hy : ∀ X, getAll [([1], X), ([0], .cells [.int .i64 N] true 0)] (namesFrom [] 0 [b].length) = some [.cells [.int .i64 N] true 0] := fun _ => rfl
 rw [hz]
 have hc := fun m s => J8 m 0 (N - 1) K s
 have hsp := fun r s => Jl r 1000000 K s
 have hw : wrapF .i64 (N - 1) = N - 1 := Z5 (by omega) (by omega)
 simp only [rgV] at hsp
 unfold pipE
 by_cases c1 : fromB x.a 0 (N - 1) = true
 ·by_cases c2 : fromB x.b 0 (N - 1) = true
  ·rw [if_pos ⟨c1, c2⟩]
   by_cases c3 : x.a = x.b
   ·rw [if_pos c3]
    simp -implicitDefEqProofs only [go_sem, a0, a1, hT, hw, hc, c2, c3, Try.results107]
    exact ⟨trivial, hy _⟩
   ·rw [if_neg c3]
    by_cases c4 : spansE x.out 1000000 = 0
    ·rw [if_pos c4]
     simp -implicitDefEqProofs only [go_sem, a0, a1, hT, hw, hc, c1, c2, c3, hsp ⟨x.out.lo, x.out.hi⟩, hsp ⟨x.back.lo, x.back.hi⟩, c4, Try.results107]
     exact ⟨trivial, hy _⟩
    ·rw [if_neg c4]
     simp -implicitDefEqProofs only [go_sem, a0, a1, hT, hw, hc, c1, c2, c3, hsp ⟨x.out.lo, x.out.hi⟩, c4, Try.results107]
     exact ⟨trivial, hy _⟩
  ·rw [if_neg (fun h => c2 h.2)]
   simp -implicitDefEqProofs only [go_sem, a0, a1, hT, hw, hc, c1, c2, Try.results107]
   exact ⟨trivial, hy _⟩
 ·rw [if_neg (fun h => c1 h.1)]
  simp -implicitDefEqProofs only [go_sem, a0, a1, hT, hw, hc, c1, Try.results107]
  exact ⟨trivial, hy _⟩
theorem Zc7 (x : Pmp) (N : Int) (b4 b3 : Nm) (hne : b3 ≠ b4) (K : Nat) (H : Heap) (n : Nat) (p : Nm) (jr : Bool) (j : Delta) (hb4 : hget H b4 = some (.cells [.func 104 [.ptr b3 0]] true 0)) (hb3 : hget H b3 = some (.cells [.int .i64 N] true 0)) (h1 : 0 <= N) (h2 : N <= 9223372036854775807) :
  acall cfg (K + 3) 108 [pmpV x, .ptr b4 0] ⟨H, n, p, jr, j⟩ = .ret (.int .i64 (atE N x.at' x.part 1000000), ⟨H, n, p, jr, backJ jr [b4, b3] [.cells [.func 104 [.ptr b3 0]] true 0, .cells [.int .i64 N] true 0] j⟩) := by
 have e34 := Zg hne
 have e43 := Zg (Ne.symm hne)
 refine Yx (bs := [b4, b3]) (xs := [.cells [.func 104 [.ptr b3 0]] true 0, .cells [.int .i64 N] true 0]) (args' := [pmpV x, .ptr [0] 0]) (xs' := [.cells [.func 104 [.ptr [1] 0]] true 0, .cells [.int .i64 N] true 0]) Zih Zig (by show lendM (199 + 1) [b4] [] [] _ = _; rw [Y6 199 rfl hb4]; show lendM (198 + 1) [b3] [b4] [_] _ = _; rw [Y6 198 (by simp only [memNm, e34]) hb3]; exact Zn 197 _ _ _) (by simp only [getAll, hb4, hb3]) (by simp only [nodupN, memNm, e43]) rfl (by show renVs [(b4, [0]), (b3, [1])] _ = _; simp only [renVs, renV, pmpV, lookN, Zi])
  (by show renBs [(b4, [0]), (b3, [1])] _ = _; simp only [renBs, renB, renVs, renV, lookN, e34, Zi]) rfl (fun _ => rfl) (fun c h => by rcases List.mem_cons.1 h with rfl | h; rfl; cases h) (show (1 : Nat) < 200 by decide) rfl rfl ?_
 refine Z6 rfl fun T hT' hA => ?_
 have a0 := hA 0 _ rfl
 have a1 := hA 1 _ rfl
 have hT : T.length = 10 := hT'
 clear hA hT'
 have hz : zipB (namesFrom [] 0 [b4, b3].length) [Blk.cells [.func 104 [.ptr [1] 0]] true 0, .cells [.int .i64 N] true 0] = [([0], .cells [.func 104 [.ptr [1] 0]] true 0), ([1], .cells [.int .i64 N] true 0)] := rfl
 have hy : ∀ X, getAll [([2], X), ([0], .cells [.func 104 [.ptr [1] 0]] true 0), ([1], .cells [.int .i64 N] true 0)] (namesFrom [] 0 [b4, b3].length) = some [.cells [.func 104 [.ptr [1] 0]] true 0, .cells [.int .i64 N] true 0] := fun _ => rfl
 have hl2 : [b4, b3].length = 2 := rfl
 rw [hz, hl2]
 rw [hl2] at hy
 have hat := fun X at' r most j => Z9u at' r most N [1] K [([2], X), ([0], .cells [.func 104 [.ptr [1] 0]] true 0), ([1], .cells [.int .i64 N] true 0)] 3 [] false j rfl h1 h2
 simp only [rgV, Yp] at hat
 simp -implicitDefEqProofs only [go_sem, a0, a1, hT, hat _ x.at' ⟨x.part.lo, x.part.hi⟩, Try.results108]
 exact ⟨trivial, hy _⟩
theorem Zc8 (x : Inl) (N : Int) (b4 b3 : Nm) (hne : b3 ≠ b4) (K : Nat) (H : Heap) (n : Nat) (p : Nm) (jr : Bool) (j : Delta) (hb4 : hget H b4 = some (.cells [.func 104 [.ptr b3 0]] true 0)) (hb3 : hget H b3 = some (.cells [.int .i64 N] true 0)) (h1 : 0 <= N) (h2 : N <= 9223372036854775807) :
  acall cfg (K + 3) 109 [inlV x, .ptr b4 0] ⟨H, n, p, jr, j⟩ = .ret (.int .i64 (atE N x.at' x.gas 100000), ⟨H, n, p, jr, backJ jr [b4, b3] [.cells [.func 104 [.ptr b3 0]] true 0, .cells [.int .i64 N] true 0] j⟩) := by
 have e34 := Zg hne
 have e43 := Zg (Ne.symm hne)
 refine Yx (bs := [b4, b3]) (xs := [.cells [.func 104 [.ptr b3 0]] true 0, .cells [.int .i64 N] true 0]) (args' := [inlV x, .ptr [0] 0]) (xs' := [.cells [.func 104 [.ptr [1] 0]] true 0, .cells [.int .i64 N] true 0]) Zij Zii (by show lendM (199 + 1) [b4] [] [] _ = _; rw [Y6 199 rfl hb4]; show lendM (198 + 1) [b3] [b4] [_] _ = _; rw [Y6 198 (by simp only [memNm, e34]) hb3]; exact Zn 197 _ _ _) (by simp only [getAll, hb4, hb3]) (by simp only [nodupN, memNm, e43]) rfl (by show renVs [(b4, [0]), (b3, [1])] _ = _; simp only [renVs, renV, inlV, lookN, Zi])
  (by show renBs [(b4, [0]), (b3, [1])] _ = _; simp only [renBs, renB, renVs, renV, lookN, e34, Zi]) rfl (fun _ => rfl) (fun c h => by rcases List.mem_cons.1 h with rfl | h; rfl; cases h) (show (1 : Nat) < 200 by decide) rfl rfl ?_
 refine Z6 rfl fun T hT' hA => ?_
 have a0 := hA 0 _ rfl
 have a1 := hA 1 _ rfl
 have hT : T.length = 10 := hT'
 clear hA hT'
 have hz : zipB (namesFrom [] 0 [b4, b3].length) [Blk.cells [.func 104 [.ptr [1] 0]] true 0, .cells [.int .i64 N] true 0] = [([0], .cells [.func 104 [.ptr [1] 0]] true 0), ([1], .cells [.int .i64 N] true 0)] := rfl
 have hy : ∀ X, getAll [([2], X), ([0], .cells [.func 104 [.ptr [1] 0]] true 0), ([1], .cells [.int .i64 N] true 0)] (namesFrom [] 0 [b4, b3].length) = some [.cells [.func 104 [.ptr [1] 0]] true 0, .cells [.int .i64 N] true 0] := fun _ => rfl
 have hl2 : [b4, b3].length = 2 := rfl
 rw [hz, hl2]
 rw [hl2] at hy
 have hat := fun X at' r most j => Z9u at' r most N [1] K [([2], X), ([0], .cells [.func 104 [.ptr [1] 0]] true 0), ([1], .cells [.int .i64 N] true 0)] 3 [] false j rfl h1 h2
 simp only [rgV, Yp] at hat
 simp -implicitDefEqProofs only [go_sem, a0, a1, hT, hat _ x.at' ⟨x.gas.lo, x.gas.hi⟩, Try.results109]
 exact ⟨trivial, hy _⟩
theorem Zec (x : Gtr) (N : Int) (b4 b3 : Nm) (hne : b3 ≠ b4) (K : Nat) (H : Heap) (n : Nat) (p : Nm) (jr : Bool) (j : Delta) (hb4 : hget H b4 = some (.cells [.func 104 [.ptr b3 0]] true 0)) (hb3 : hget H b3 = some (.cells [.int .i64 N] true 0)) (h1 : 0 <= N) (h2 : N <= 9223372036854775807) :
  acall cfg (K + 3) 110 [gtrV x, .ptr b4 0] ⟨H, n, p, jr, j⟩ = .ret (.int .i64 (getE N x), ⟨H, n, p, jr, backJ jr [b4, b3] [.cells [.func 104 [.ptr b3 0]] true 0, .cells [.int .i64 N] true 0] j⟩) := by
 have e34 := Zg hne
 have e43 := Zg (Ne.symm hne)
 refine Yx (bs := [b4, b3]) (xs := [.cells [.func 104 [.ptr b3 0]] true 0, .cells [.int .i64 N] true 0]) (args' := [gtrV x, .ptr [0] 0]) (xs' := [.cells [.func 104 [.ptr [1] 0]] true 0, .cells [.int .i64 N] true 0]) Zil Zik (by show lendM (199 + 1) [b4] [] [] _ = _; rw [Y6 199 rfl hb4]; show lendM (198 + 1) [b3] [b4] [_] _ = _; rw [Y6 198 (by simp only [memNm, e34]) hb3]; exact Zn 197 _ _ _) (by simp only [getAll, hb4, hb3]) (by simp only [nodupN, memNm, e43]) rfl (by show renVs [(b4, [0]), (b3, [1])] _ = _; simp only [renVs, renV, gtrV, lookN, Zi])
  (by show renBs [(b4, [0]), (b3, [1])] _ = _; simp only [renBs, renB, renVs, renV, lookN, e34, Zi]) rfl (fun _ => rfl) (fun c h => by rcases List.mem_cons.1 h with rfl | h; rfl; cases h) (show (1 : Nat) < 200 by decide) rfl rfl ?_
 refine Z6 rfl fun T hT' hA => ?_
 have a0 := hA 0 _ rfl
 have a1 := hA 1 _ rfl
 have hT : T.length = 17 := hT'
 clear hA hT'
 have hz : zipB (namesFrom [] 0 [b4, b3].length) [Blk.cells [.func 104 [.ptr [1] 0]] true 0, .cells [.int .i64 N] true 0] = [([0], .cells [.func 104 [.ptr [1] 0]] true 0), ([1], .cells [.int .i64 N] true 0)] := rfl
 have hy : ∀ X, getAll [([2], X), ([0], .cells [.func 104 [.ptr [1] 0]] true 0), ([1], .cells [.int .i64 N] true 0)] (namesFrom [] 0 [b4, b3].length) = some [.cells [.func 104 [.ptr [1] 0]] true 0, .cells [.int .i64 N] true 0] := fun _ => rfl
 have hl2 : [b4, b3].length = 2 := rfl
 rw [hz, hl2]
 rw [hl2] at hy
 have hat := fun X at' r most j => Z9u at' r most N [1] K [([2], X), ([0], .cells [.func 104 [.ptr [1] 0]] true 0), ([1], .cells [.int .i64 N] true 0)] 3 [] false j rfl h1 h2
 simp only [rgV, Yp] at hat
 have hsp := fun r s => Jl r 1000000000 (K + 1) s
 simp only [rgV] at hsp
 unfold getE
 by_cases c1 : atE N x.at' x.part 1000000 = 0
 ·rw [if_pos c1]
  simp -implicitDefEqProofs only [go_sem, a0, a1, hT, hat _ x.at' ⟨x.part.lo, x.part.hi⟩, c1, hsp ⟨x.room.lo, x.room.hi⟩, Try.results110]
  exact ⟨trivial, hy _⟩
 ·rw [if_neg c1]
  simp -implicitDefEqProofs only [go_sem, a0, a1, hT, hat _ x.at' ⟨x.part.lo, x.part.hi⟩, c1, Try.results110]
  exact ⟨trivial, hy _⟩
end Go.Proofs.Ytgnpnfkncbnjnaa
namespace Go.Proofs.Ytgnpnfkncbnjnaa
attribute [local go_sem_proc] Int.reduceEq Int.reduceNeg Nat.reduceEqDiff Nat.reduceLT Nat.reduceAdd Nat.reduceSub Nat.reduceMul Int.reduceLE Int.reduceLT Int.reduceToNat Nat.reduceLeDiff
attribute [local go_sem] Int.toNat_natCast Bool.not_true Bool.not_false
open Go Go.Am
attribute [local congr] Ze Zb Zc
attribute [local go_sem] Go.Am.buildSliceA Go.Am.frozen Go.Am.freezeG Go.Am.freezeGs Go.Am.minmax
theorem Zg6 (l : List Ves) (bl bf : Nm) (nblbf : bl ≠ bf) (K : Nat) (H : Heap) (n : Nat) (p : Nm) (jr : Bool) (j : Delta) (hbl : hget H bl = some (.cells [.lst (l.map vesV)] true 0)) (hbf : hget H bf = some (.cells [.func 113 []] true 0)) (hK : 20 < K) (hl : l.length < K) (hl2 : l.length <= 9223372036854775807) (hb : ∀ v ∈ l, v.bands.length <= 9223372036854775807) :
  acall cfg (K + 4) 153 [.ptr bl 0, .ptr bf 0] ⟨H, n, p, jr, j⟩ = .ret (.int .i64 (firstE vesE l), ⟨H, n, p, jr, backJ jr [bl, bf] [.cells [.lst (l.map vesV)] true 0, .cells [.func 113 []] true 0] j⟩) := by
 have eblbf := Zg nblbf
 have ebfbl := Zg (Ne.symm nblbf)
 refine Yx (bs := [bl, bf]) (xs := [.cells [.lst (l.map vesV)] true 0, .cells [.func 113 []] true 0]) (args' := [.ptr [0] 0, .ptr [1] 0]) (xs' := [.cells [.lst (l.map vesV)] true 0, .cells [.func 113 []] true 0]) Zjx Zjw (by show lendM (199 + 1) [bl, bf] [] [] _ = _; rw [Y6 199 rfl hbl]; show lendM (198 + 1) [bf] [bl] [_] _ = _; rw [Y6 198 (by simp only [memNm, ebfbl]) hbf]; exact Zn 197 _ _ _) (by simp only [getAll, hbl, hbf]) (by simp only [nodupN, memNm, eblbf]) rfl (by show renVs [(bl, [0]), (bf, [1])] _ = _; simp only [renVs, renV, lookN, Zi, ebfbl])
  (by show renBs [(bl, [0]), (bf, [1])] _ = _; simp only [renBs, renB, renVs, renV, Xs]) rfl (fun _ => rfl) (fun c h => by cases h) (show (0 : Nat) < 200 by decide) rfl (by show renBs [([0], bl), ([1], bf)] _ = _; simp only [renBs, renB, renVs, renV, Xs]) ?_
 refine Z6 rfl fun T hT' hA => ?_
 have a0 := hA 0 _ rfl
 have a1 := hA 1 _ rfl
 have hT : T.length = 19 := hT'
 clear hA hT'
 have hz : zipB (namesFrom [] 0 [bl, bf].length) [Blk.cells [.lst (l.map vesV)] true 0, Blk.cells [.func 113 []] true 0] = [([0], .cells [.lst (l.map vesV)] true 0), ([1], .cells [.func 113 []] true 0)] := rfl
 have hl3 : [bl, bf].length = 2 := rfl
 rw [hz, hl3]
 simp -implicitDefEqProofs only [go_sem, a0, hT]
 simp only [Z1]
 refine Zf (fun k T s' => T.length = 19 /\ nth T 1 = some (.ptr [1] 0) /\ nth T 6 = some (.lst (l.map vesV)) /\ nth T 7 = some (.int .i64 l.length) /\ ∃ (i n : Nat) (H : Heap), nth T 8 = some (.int .i64 i) /\ i <= l.length /\ k = l.length - i /\ s' = ⟨H, n + 2, [], false, []⟩ /\ hget H [0] = some (.cells [.lst (l.map vesV)] true 0) /\ hget H [1] = some (.cells [.func 113 []] true 0) /\ firstE vesE l = firstE vesE (l.drop i)) (k := l.length) (by omega) ?_ ?_
 ·exact ⟨by simp -implicitDefEqProofs only [go_sem, hT], by simp -implicitDefEqProofs only [go_sem, a1], by simp -implicitDefEqProofs only [go_sem, hT], by simp -implicitDefEqProofs only [go_sem, hT], 0, 0, _, by simp -implicitDefEqProofs only [go_sem, hT] <;> rfl, by omega, rfl, rfl, rfl, rfl, rfl⟩
 clear a0 a1 hT T
 rintro k T s' ⟨hT, a1, a6, a7, i, n, H, a8, hi, rfl, rfl, g0, g1, he⟩
 have hy : getAll H (namesFrom [] 0 2) = some [.cells [.lst (l.map vesV)] true 0, .cells [.func 113 []] true 0] := by show getAll H [[0], [1]] = _; simp only [getAll, g0, g1]
 simp -implicitDefEqProofs only [go_sem, a7, a8, hT]
 by_cases hil : (i : Int) < (l.length : Int)
 ·have hi' : i < l.length := by omega
  have e1 := Z9 (f := vesV) (l := l) (i := i) (z := 6) hi' rfl
  have hkk : l.length - (i + 1) < l.length - i := by omega
  have hbi := hb (l[i]) (List.getElem_mem hi')
  rw [List.drop_eq_getElem_cons hi'] at he
  have hw1 : wrapF .i64 ((i : Int) + 1) = ((i + 1 : Nat) : Int) := Z5 (by omega) (by omega)
  generalize l[i] = x at *
  simp only [firstE] at he
  have k0 : ∀ X, hget (([n + 2], X) :: H) [0] = _ := fun X => (Z4 _ _ (Zu (by omega))).trans g0
  have k1 : ∀ X, hget (([n + 2], X) :: H) [1] = _ := fun X => (Z4 _ _ (Zu (by omega))).trans g1
  have hy2 : ∀ X, getAll (([n + 2], X) :: H) (namesFrom [] 0 2) = some [.cells [.lst (l.map vesV)] true 0, .cells [.func 113 []] true 0] := fun X => by show getAll _ [[0], [1]] = _; simp only [getAll, k0 X, k1 X]
  have hc := fun s => Z9s x (K + 1) s (by omega) hbi
  simp only [vesV] at hc
  simp only [vesV] at e1
  by_cases c1 : vesE x = 0
  ·rw [if_pos c1] at he
   simp -implicitDefEqProofs only [go_sem, a1, a6, a7, a8, hT, hil, e1, hc, c1, hw1, k1]
   exact ⟨l.length - (i + 1), hkk, trivial, trivial, trivial, trivial, i + 1, n + 1, _, rfl, hi', rfl, rfl, k0 _, k1 _, he⟩
  ·rw [if_neg c1] at he
   simp -implicitDefEqProofs only [go_sem, a1, a6, a8, hT, hil, e1, hc, c1, k1, he, Try.results153]
   exact ⟨trivial, hy2 _⟩
 ·have hie : i = l.length := by omega
  subst hie
  rw [List.drop_length] at he
  simp only [firstE] at he
  simp -implicitDefEqProofs only [go_sem, hT, hil, he, Try.results153]
  exact ⟨trivial, hy⟩
theorem Zg7 (l : List Pip) (N : Int) (bl bf b3 : Nm) (nblbf : bl ≠ bf) (nblb3 : bl ≠ b3) (nbfb3 : bf ≠ b3) (K : Nat) (H : Heap) (n : Nat) (p : Nm) (jr : Bool) (j : Delta) (hbl : hget H bl = some (.cells [.lst (l.map pipV)] true 0)) (hbf : hget H bf = some (.cells [.func 107 [.ptr b3 0]] true 0)) (hb3 : hget H b3 = some (.cells [.int .i64 N] true 0)) (h1 : 0 <= N) (h2 : N <= 9223372036854775807) (hK : 20 < K) (hl : l.length < K) (hl2 : l.length <= 9223372036854775807) :
  acall cfg (K + 4) 154 [.ptr bl 0, .ptr bf 0] ⟨H, n, p, jr, j⟩ = .ret (.int .i64 (firstE (pipE N) l), ⟨H, n, p, jr, backJ jr [bl, bf, b3] [.cells [.lst (l.map pipV)] true 0, .cells [.func 107 [.ptr b3 0]] true 0, .cells [.int .i64 N] true 0] j⟩) := by
 have eblbf := Zg nblbf
 have ebfbl := Zg (Ne.symm nblbf)
 have eblb3 := Zg nblb3
 have eb3bl := Zg (Ne.symm nblb3)
 have ebfb3 := Zg nbfb3
 have eb3bf := Zg (Ne.symm nbfb3)
 refine Yx (bs := [bl, bf, b3]) (xs := [.cells [.lst (l.map pipV)] true 0, .cells [.func 107 [.ptr b3 0]] true 0, .cells [.int .i64 N] true 0]) (args' := [.ptr [0] 0, .ptr [1] 0]) (xs' := [.cells [.lst (l.map pipV)] true 0, .cells [.func 107 [.ptr [2] 0]] true 0, .cells [.int .i64 N] true 0]) Zjz Zjy (by show lendM (199 + 1) [bl, bf] [] [] _ = _; rw [Y6 199 rfl hbl]; show lendM (198 + 1) [bf] [bl] [_] _ = _; rw [Y6 198 (by simp only [memNm, ebfbl]) hbf]; show lendM (197 + 1) [b3] [bl, bf] _ _ = _; rw [Y6 197 (by simp only [memNm, eb3bl, eb3bf]) hb3]; exact Zn 196 _ _ _) (by simp only [getAll, hbl, hbf, hb3]) (by simp only [nodupN, memNm, eblbf, eblb3, ebfb3]) rfl (by show renVs [(bl, [0]), (bf, [1]), (b3, [2])] _ = _; simp only [renVs, renV, lookN, Zi, ebfbl])
  (by show renBs [(bl, [0]), (bf, [1]), (b3, [2])] _ = _; simp only [renBs, renB, renVs, renV, lookN, Xt, Zi, eb3bl, eb3bf]) rfl (fun _ => rfl) (fun c h => by rcases List.mem_cons.1 h with rfl | h; rfl; cases h) (show (1 : Nat) < 200 by decide) rfl (by show renBs [([0], bl), ([1], bf), ([2], b3)] _ = _; simp only [renBs, renB, renVs, renV, Xt]; rfl) ?_
 refine Z6 rfl fun T hT' hA => ?_
 have a0 := hA 0 _ rfl
 have a1 := hA 1 _ rfl
 have hT : T.length = 19 := hT'
 clear hA hT'
 have hz : zipB (namesFrom [] 0 [bl, bf, b3].length) [Blk.cells [.lst (l.map pipV)] true 0, Blk.cells [.func 107 [.ptr [2] 0]] true 0, Blk.cells [.int .i64 N] true 0] = [([0], .cells [.lst (l.map pipV)] true 0), ([1], .cells [.func 107 [.ptr [2] 0]] true 0), ([2], .cells [.int .i64 N] true 0)] := rfl
 have hl3 : [bl, bf, b3].length = 3 := rfl
 rw [hz, hl3]
 simp -implicitDefEqProofs only [go_sem, a0, hT]
 simp only [Z1]
 refine Zf (fun k T s' => T.length = 19 /\ nth T 1 = some (.ptr [1] 0) /\ nth T 6 = some (.lst (l.map pipV)) /\ nth T 7 = some (.int .i64 l.length) /\ ∃ (i n : Nat) (H : Heap), nth T 8 = some (.int .i64 i) /\ i <= l.length /\ k = l.length - i /\ s' = ⟨H, n + 3, [], false, []⟩ /\ hget H [0] = some (.cells [.lst (l.map pipV)] true 0) /\ hget H [1] = some (.cells [.func 107 [.ptr [2] 0]] true 0) /\ hget H [2] = some (.cells [.int .i64 N] true 0) /\ firstE (pipE N) l = firstE (pipE N) (l.drop i)) (k := l.length) (by omega) ?_ ?_
 ·exact ⟨by simp -implicitDefEqProofs only [go_sem, hT], by simp -implicitDefEqProofs only [go_sem, a1], by simp -implicitDefEqProofs only [go_sem, hT], by simp -implicitDefEqProofs only [go_sem, hT], 0, 0, _, by simp -implicitDefEqProofs only [go_sem, hT] <;> rfl, by omega, rfl, rfl, rfl, rfl, rfl, rfl⟩
 clear a0 a1 hT T
 rintro k T s' ⟨hT, a1, a6, a7, i, n, H, a8, hi, rfl, rfl, g0, g1, g2, he⟩
 have hy : getAll H (namesFrom [] 0 3) = some [.cells [.lst (l.map pipV)] true 0, .cells [.func 107 [.ptr [2] 0]] true 0, .cells [.int .i64 N] true 0] := by show getAll H [[0], [1], [2]] = _; simp only [getAll, g0, g1, g2]
 simp -implicitDefEqProofs only [go_sem, a7, a8, hT]
 by_cases hil : (i : Int) < (l.length : Int)
 ·have hi' : i < l.length := by omega
  have e1 := Z9 (f := pipV) (l := l) (i := i) (z := 6) hi' rfl
  have hkk : l.length - (i + 1) < l.length - i := by omega
  rw [List.drop_eq_getElem_cons hi'] at he
  have hw1 : wrapF .i64 ((i : Int) + 1) = ((i + 1 : Nat) : Int) := Z5 (by omega) (by omega)
  generalize l[i] = x at *
  simp only [firstE] at he
  have k0 : ∀ X, hget (([n + 3], X) :: H) [0] = _ := fun X => (Z4 _ _ (Zu (by omega))).trans g0
  have k1 : ∀ X, hget (([n + 3], X) :: H) [1] = _ := fun X => (Z4 _ _ (Zu (by omega))).trans g1
  have k2 : ∀ X, hget (([n + 3], X) :: H) [2] = _ := fun X => (Z4 _ _ (Zu (by omega))).trans g2
  have hy2 : ∀ X, getAll (([n + 3], X) :: H) (namesFrom [] 0 3) = some [.cells [.lst (l.map pipV)] true 0, .cells [.func 107 [.ptr [2] 0]] true 0, .cells [.int .i64 N] true 0] := fun X => by show getAll _ [[0], [1], [2]] = _; simp only [getAll, k0 X, k1 X, k2 X]
  have hc := fun X => Zeb x N [2] (K + 1) (([n + 3], X) :: H) (n + 3 + 1) [] false [] (k2 X) h1 h2
  simp only [pipV, Yp] at hc
  by_cases c1 : pipE N x = 0
  ·rw [if_pos c1] at he
   simp -implicitDefEqProofs only [go_sem, a1, a6, a7, a8, hT, hil, e1, hc, c1, hw1, k1]
   exact ⟨l.length - (i + 1), hkk, trivial, trivial, trivial, trivial, i + 1, n + 1, _, rfl, hi', rfl, rfl, k0 _, k1 _, k2 _, he⟩
  ·rw [if_neg c1] at he
   simp -implicitDefEqProofs only [go_sem, a1, a6, a8, hT, hil, e1, hc, c1, k1, he, Try.results154]
   exact ⟨trivial, hy2 _⟩
 ·have hie : i = l.length := by omega
  subst hie
  rw [List.drop_length] at he
  simp only [firstE] at he
  simp -implicitDefEqProofs only [go_sem, hT, hil, he, Try.results154]
  exact ⟨trivial, hy⟩
theorem Zg8 (l : List Pmp) (N : Int) (bl bf b4 b3 : Nm) (nblbf : bl ≠ bf) (nblb4 : bl ≠ b4) (nblb3 : bl ≠ b3) (nbfb4 : bf ≠ b4) (nbfb3 : bf ≠ b3) (nb4b3 : b4 ≠ b3) (K : Nat) (H : Heap) (n : Nat) (p : Nm) (jr : Bool) (j : Delta) (hbl : hget H bl = some (.cells [.lst (l.map pmpV)] true 0)) (hbf : hget H bf = some (.cells [.func 108 [.ptr b4 0]] true 0)) (hb4 : hget H b4 = some (.cells [.func 104 [.ptr b3 0]] true 0)) (hb3 : hget H b3 = some (.cells [.int .i64 N] true 0)) (h1 : 0 <= N) (h2 : N <= 9223372036854775807) (hK : 20 < K) (hl : l.length < K) (hl2 : l.length <= 9223372036854775807) :
  acall cfg (K + 4) 155 [.ptr bl 0, .ptr bf 0] ⟨H, n, p, jr, j⟩ = .ret (.int .i64 (firstE (fun q : Pmp => atE N q.at' q.part 1000000) l), ⟨H, n, p, jr, backJ jr [bl, bf, b4, b3] [.cells [.lst (l.map pmpV)] true 0, .cells [.func 108 [.ptr b4 0]] true 0, .cells [.func 104 [.ptr b3 0]] true 0, .cells [.int .i64 N] true 0] j⟩) := by
 have eblbf := Zg nblbf
 have ebfbl := Zg (Ne.symm nblbf)
 have eblb4 := Zg nblb4
 have eb4bl := Zg (Ne.symm nblb4)
 have eblb3 := Zg nblb3
 have eb3bl := Zg (Ne.symm nblb3)
 have ebfb4 := Zg nbfb4
 have eb4bf := Zg (Ne.symm nbfb4)
 have ebfb3 := Zg nbfb3
 have eb3bf := Zg (Ne.symm nbfb3)
 have eb4b3 := Zg nb4b3
 have eb3b4 := Zg (Ne.symm nb4b3)
 refine Yx (bs := [bl, bf, b4, b3]) (xs := [.cells [.lst (l.map pmpV)] true 0, .cells [.func 108 [.ptr b4 0]] true 0, .cells [.func 104 [.ptr b3 0]] true 0, .cells [.int .i64 N] true 0]) (args' := [.ptr [0] 0, .ptr [1] 0]) (xs' := [.cells [.lst (l.map pmpV)] true 0, .cells [.func 108 [.ptr [2] 0]] true 0, .cells [.func 104 [.ptr [3] 0]] true 0, .cells [.int .i64 N] true 0]) Zk1 Zk0 (by show lendM (199 + 1) [bl, bf] [] [] _ = _; rw [Y6 199 rfl hbl]; show lendM (198 + 1) [bf] [bl] [_] _ = _; rw [Y6 198 (by simp only [memNm, ebfbl]) hbf]; show lendM (197 + 1) [b4] [bl, bf] _ _ = _; rw [Y6 197 (by simp only [memNm, eb4bl, eb4bf]) hb4]; show lendM (196 + 1) [b3] [bl, bf, b4] _ _ = _; rw [Y6 196 (by simp only [memNm, eb3bl, eb3bf, eb3b4]) hb3]; exact Zn 195 _ _ _) (by simp only [getAll, hbl, hbf, hb4, hb3]) (by simp only [nodupN, memNm, eblbf, eblb4, eblb3, ebfb4, ebfb3, eb4b3]) rfl (by show renVs [(bl, [0]), (bf, [1]), (b4, [2]), (b3, [3])] _ = _; simp only [renVs, renV, lookN, Zi, ebfbl])
  (by show renBs [(bl, [0]), (bf, [1]), (b4, [2]), (b3, [3])] _ = _; simp only [renBs, renB, renVs, renV, lookN, Xu, Zi, eb4bl, eb3bl, eb4bf, eb3bf, eb3b4]) rfl (fun _ => rfl) (fun c h => by rcases List.mem_cons.1 h with rfl | h; rfl; rcases List.mem_cons.1 h with rfl | h; rfl; cases h) (show (2 : Nat) < 200 by decide) rfl (by show renBs [([0], bl), ([1], bf), ([2], b4), ([3], b3)] _ = _; simp only [renBs, renB, renVs, renV, Xu]; rfl) ?_
 refine Z6 rfl fun T hT' hA => ?_
 have a0 := hA 0 _ rfl
 have a1 := hA 1 _ rfl
 have hT : T.length = 19 := hT'
 clear hA hT'
 have hz : zipB (namesFrom [] 0 [bl, bf, b4, b3].length) [Blk.cells [.lst (l.map pmpV)] true 0, Blk.cells [.func 108 [.ptr [2] 0]] true 0, Blk.cells [.func 104 [.ptr [3] 0]] true 0, Blk.cells [.int .i64 N] true 0] = [([0], .cells [.lst (l.map pmpV)] true 0), ([1], .cells [.func 108 [.ptr [2] 0]] true 0), ([2], .cells [.func 104 [.ptr [3] 0]] true 0), ([3], .cells [.int .i64 N] true 0)] := rfl
 have hl3 : [bl, bf, b4, b3].length = 4 := rfl
 rw [hz, hl3]
 simp -implicitDefEqProofs only [go_sem, a0, hT]
 simp only [Z1]
 refine Zf (fun k T s' => T.length = 19 /\ nth T 1 = some (.ptr [1] 0) /\ nth T 6 = some (.lst (l.map pmpV)) /\ nth T 7 = some (.int .i64 l.length) /\ ∃ (i n : Nat) (H : Heap), nth T 8 = some (.int .i64 i) /\ i <= l.length /\ k = l.length - i /\ s' = ⟨H, n + 4, [], false, []⟩ /\ hget H [0] = some (.cells [.lst (l.map pmpV)] true 0) /\ hget H [1] = some (.cells [.func 108 [.ptr [2] 0]] true 0) /\ hget H [2] = some (.cells [.func 104 [.ptr [3] 0]] true 0) /\ hget H [3] = some (.cells [.int .i64 N] true 0) /\ firstE (fun q : Pmp => atE N q.at' q.part 1000000) l = firstE (fun q : Pmp => atE N q.at' q.part 1000000) (l.drop i)) (k := l.length) (by omega) ?_ ?_
 ·exact ⟨by simp -implicitDefEqProofs only [go_sem, hT], by simp -implicitDefEqProofs only [go_sem, a1], by simp -implicitDefEqProofs only [go_sem, hT], by simp -implicitDefEqProofs only [go_sem, hT], 0, 0, _, by simp -implicitDefEqProofs only [go_sem, hT] <;> rfl, by omega, rfl, rfl, rfl, rfl, rfl, rfl, rfl⟩
 clear a0 a1 hT T
 rintro k T s' ⟨hT, a1, a6, a7, i, n, H, a8, hi, rfl, rfl, g0, g1, g2, g3, he⟩
 have hy : getAll H (namesFrom [] 0 4) = some [.cells [.lst (l.map pmpV)] true 0, .cells [.func 108 [.ptr [2] 0]] true 0, .cells [.func 104 [.ptr [3] 0]] true 0, .cells [.int .i64 N] true 0] := by show getAll H [[0], [1], [2], [3]] = _; simp only [getAll, g0, g1, g2, g3]
 simp -implicitDefEqProofs only [go_sem, a7, a8, hT]
 by_cases hil : (i : Int) < (l.length : Int)
 ·have hi' : i < l.length := by omega
  have e1 := Z9 (f := pmpV) (l := l) (i := i) (z := 3) hi' rfl
  have hkk : l.length - (i + 1) < l.length - i := by omega
  rw [List.drop_eq_getElem_cons hi'] at he
  have hw1 : wrapF .i64 ((i : Int) + 1) = ((i + 1 : Nat) : Int) := Z5 (by omega) (by omega)
  generalize l[i] = x at *
  simp only [firstE] at he
  have k0 : ∀ X, hget (([n + 4], X) :: H) [0] = _ := fun X => (Z4 _ _ (Zu (by omega))).trans g0
  have k1 : ∀ X, hget (([n + 4], X) :: H) [1] = _ := fun X => (Z4 _ _ (Zu (by omega))).trans g1
  have k2 : ∀ X, hget (([n + 4], X) :: H) [2] = _ := fun X => (Z4 _ _ (Zu (by omega))).trans g2
  have k3 : ∀ X, hget (([n + 4], X) :: H) [3] = _ := fun X => (Z4 _ _ (Zu (by omega))).trans g3
  have hy2 : ∀ X, getAll (([n + 4], X) :: H) (namesFrom [] 0 4) = some [.cells [.lst (l.map pmpV)] true 0, .cells [.func 108 [.ptr [2] 0]] true 0, .cells [.func 104 [.ptr [3] 0]] true 0, .cells [.int .i64 N] true 0] := fun X => by show getAll _ [[0], [1], [2], [3]] = _; simp only [getAll, k0 X, k1 X, k2 X, k3 X]
  have hc := fun X => Zc7 x N [2] [3] (by decide) K (([n + 4], X) :: H) (n + 4 + 1) [] false [] (k2 X) (k3 X) h1 h2
  simp only [pmpV, Yp] at hc
  by_cases c1 : atE N x.at' x.part 1000000 = 0
  ·rw [if_pos c1] at he
   simp -implicitDefEqProofs only [go_sem, a1, a6, a7, a8, hT, hil, e1, hc, c1, hw1, k1]
   exact ⟨l.length - (i + 1), hkk, trivial, trivial, trivial, trivial, i + 1, n + 1, _, rfl, hi', rfl, rfl, k0 _, k1 _, k2 _, k3 _, he⟩
  ·rw [if_neg c1] at he
   simp -implicitDefEqProofs only [go_sem, a1, a6, a8, hT, hil, e1, hc, c1, k1, he, Try.results155]
   exact ⟨trivial, hy2 _⟩
 ·have hie : i = l.length := by omega
  subst hie
  rw [List.drop_length] at he
  simp only [firstE] at he
  simp -implicitDefEqProofs only [go_sem, hT, hil, he, Try.results155]
  exact ⟨trivial, hy⟩
theorem Zg9 (l : List Inl) (N : Int) (bl bf b4 b3 : Nm) (nblbf : bl ≠ bf) (nblb4 : bl ≠ b4) (nblb3 : bl ≠ b3) (nbfb4 : bf ≠ b4) (nbfb3 : bf ≠ b3) (nb4b3 : b4 ≠ b3) (K : Nat) (H : Heap) (n : Nat) (p : Nm) (jr : Bool) (j : Delta) (hbl : hget H bl = some (.cells [.lst (l.map inlV)] true 0)) (hbf : hget H bf = some (.cells [.func 109 [.ptr b4 0]] true 0)) (hb4 : hget H b4 = some (.cells [.func 104 [.ptr b3 0]] true 0)) (hb3 : hget H b3 = some (.cells [.int .i64 N] true 0)) (h1 : 0 <= N) (h2 : N <= 9223372036854775807) (hK : 20 < K) (hl : l.length < K) (hl2 : l.length <= 9223372036854775807) :
  acall cfg (K + 4) 156 [.ptr bl 0, .ptr bf 0] ⟨H, n, p, jr, j⟩ = .ret (.int .i64 (firstE (fun l : Inl => atE N l.at' l.gas 100000) l), ⟨H, n, p, jr, backJ jr [bl, bf, b4, b3] [.cells [.lst (l.map inlV)] true 0, .cells [.func 109 [.ptr b4 0]] true 0, .cells [.func 104 [.ptr b3 0]] true 0, .cells [.int .i64 N] true 0] j⟩) := by
 have eblbf := Zg nblbf
 have ebfbl := Zg (Ne.symm nblbf)
 have eblb4 := Zg nblb4
 have eb4bl := Zg (Ne.symm nblb4)
 have eblb3 := Zg nblb3
 have eb3bl := Zg (Ne.symm nblb3)
 have ebfb4 := Zg nbfb4
 have eb4bf := Zg (Ne.symm nbfb4)
 have ebfb3 := Zg nbfb3
 have eb3bf := Zg (Ne.symm nbfb3)
 have eb4b3 := Zg nb4b3
 have eb3b4 := Zg (Ne.symm nb4b3)
 refine Yx (bs := [bl, bf, b4, b3]) (xs := [.cells [.lst (l.map inlV)] true 0, .cells [.func 109 [.ptr b4 0]] true 0, .cells [.func 104 [.ptr b3 0]] true 0, .cells [.int .i64 N] true 0]) (args' := [.ptr [0] 0, .ptr [1] 0]) (xs' := [.cells [.lst (l.map inlV)] true 0, .cells [.func 109 [.ptr [2] 0]] true 0, .cells [.func 104 [.ptr [3] 0]] true 0, .cells [.int .i64 N] true 0]) Zk3 Zk2 (by show lendM (199 + 1) [bl, bf] [] [] _ = _; rw [Y6 199 rfl hbl]; show lendM (198 + 1) [bf] [bl] [_] _ = _; rw [Y6 198 (by simp only [memNm, ebfbl]) hbf]; show lendM (197 + 1) [b4] [bl, bf] _ _ = _; rw [Y6 197 (by simp only [memNm, eb4bl, eb4bf]) hb4]; show lendM (196 + 1) [b3] [bl, bf, b4] _ _ = _; rw [Y6 196 (by simp only [memNm, eb3bl, eb3bf, eb3b4]) hb3]; exact Zn 195 _ _ _) (by simp only [getAll, hbl, hbf, hb4, hb3]) (by simp only [nodupN, memNm, eblbf, eblb4, eblb3, ebfb4, ebfb3, eb4b3]) rfl (by show renVs [(bl, [0]), (bf, [1]), (b4, [2]), (b3, [3])] _ = _; simp only [renVs, renV, lookN, Zi, ebfbl])
  (by show renBs [(bl, [0]), (bf, [1]), (b4, [2]), (b3, [3])] _ = _; simp only [renBs, renB, renVs, renV, lookN, Xv, Zi, eb4bl, eb3bl, eb4bf, eb3bf, eb3b4]) rfl (fun _ => rfl) (fun c h => by rcases List.mem_cons.1 h with rfl | h; rfl; rcases List.mem_cons.1 h with rfl | h; rfl; cases h) (show (2 : Nat) < 200 by decide) rfl (by show renBs [([0], bl), ([1], bf), ([2], b4), ([3], b3)] _ = _; simp only [renBs, renB, renVs, renV, Xv]; rfl) ?_
 refine Z6 rfl fun T hT' hA => ?_
 have a0 := hA 0 _ rfl
 have a1 := hA 1 _ rfl
 have hT : T.length = 19 := hT'
 clear hA hT'
 have hz : zipB (namesFrom [] 0 [bl, bf, b4, b3].length) [Blk.cells [.lst (l.map inlV)] true 0, Blk.cells [.func 109 [.ptr [2] 0]] true 0, Blk.cells [.func 104 [.ptr [3] 0]] true 0, Blk.cells [.int .i64 N] true 0] = [([0], .cells [.lst (l.map inlV)] true 0), ([1], .cells [.func 109 [.ptr [2] 0]] true 0), ([2], .cells [.func 104 [.ptr [3] 0]] true 0), ([3], .cells [.int .i64 N] true 0)] := rfl
 have hl3 : [bl, bf, b4, b3].length = 4 := rfl
 rw [hz, hl3]
 simp -implicitDefEqProofs only [go_sem, a0, hT]
 simp only [Z1]
 refine Zf (fun k T s' => T.length = 19 /\ nth T 1 = some (.ptr [1] 0) /\ nth T 6 = some (.lst (l.map inlV)) /\ nth T 7 = some (.int .i64 l.length) /\ ∃ (i n : Nat) (H : Heap), nth T 8 = some (.int .i64 i) /\ i <= l.length /\ k = l.length - i /\ s' = ⟨H, n + 4, [], false, []⟩ /\ hget H [0] = some (.cells [.lst (l.map inlV)] true 0) /\ hget H [1] = some (.cells [.func 109 [.ptr [2] 0]] true 0) /\ hget H [2] = some (.cells [.func 104 [.ptr [3] 0]] true 0) /\ hget H [3] = some (.cells [.int .i64 N] true 0) /\ firstE (fun l : Inl => atE N l.at' l.gas 100000) l = firstE (fun l : Inl => atE N l.at' l.gas 100000) (l.drop i)) (k := l.length) (by omega) ?_ ?_
 ·exact ⟨by simp -implicitDefEqProofs only [go_sem, hT], by simp -implicitDefEqProofs only [go_sem, a1], by simp -implicitDefEqProofs only [go_sem, hT], by simp -implicitDefEqProofs only [go_sem, hT], 0, 0, _, by simp -implicitDefEqProofs only [go_sem, hT] <;> rfl, by omega, rfl, rfl, rfl, rfl, rfl, rfl, rfl⟩
 clear a0 a1 hT T
 rintro k T s' ⟨hT, a1, a6, a7, i, n, H, a8, hi, rfl, rfl, g0, g1, g2, g3, he⟩
 have hy : getAll H (namesFrom [] 0 4) = some [.cells [.lst (l.map inlV)] true 0, .cells [.func 109 [.ptr [2] 0]] true 0, .cells [.func 104 [.ptr [3] 0]] true 0, .cells [.int .i64 N] true 0] := by show getAll H [[0], [1], [2], [3]] = _; simp only [getAll, g0, g1, g2, g3]
 simp -implicitDefEqProofs only [go_sem, a7, a8, hT]
 by_cases hil : (i : Int) < (l.length : Int)
 ·have hi' : i < l.length := by omega
  have e1 := Z9 (f := inlV) (l := l) (i := i) (z := 3) hi' rfl
  have hkk : l.length - (i + 1) < l.length - i := by omega
  rw [List.drop_eq_getElem_cons hi'] at he
  have hw1 : wrapF .i64 ((i : Int) + 1) = ((i + 1 : Nat) : Int) := Z5 (by omega) (by omega)
  generalize l[i] = x at *
  simp only [firstE] at he
  have k0 : ∀ X, hget (([n + 4], X) :: H) [0] = _ := fun X => (Z4 _ _ (Zu (by omega))).trans g0
  have k1 : ∀ X, hget (([n + 4], X) :: H) [1] = _ := fun X => (Z4 _ _ (Zu (by omega))).trans g1
  have k2 : ∀ X, hget (([n + 4], X) :: H) [2] = _ := fun X => (Z4 _ _ (Zu (by omega))).trans g2
  have k3 : ∀ X, hget (([n + 4], X) :: H) [3] = _ := fun X => (Z4 _ _ (Zu (by omega))).trans g3
  have hy2 : ∀ X, getAll (([n + 4], X) :: H) (namesFrom [] 0 4) = some [.cells [.lst (l.map inlV)] true 0, .cells [.func 109 [.ptr [2] 0]] true 0, .cells [.func 104 [.ptr [3] 0]] true 0, .cells [.int .i64 N] true 0] := fun X => by show getAll _ [[0], [1], [2], [3]] = _; simp only [getAll, k0 X, k1 X, k2 X, k3 X]
  have hc := fun X => Zc8 x N [2] [3] (by decide) K (([n + 4], X) :: H) (n + 4 + 1) [] false [] (k2 X) (k3 X) h1 h2
  simp only [inlV, Yp] at hc
  by_cases c1 : atE N x.at' x.gas 100000 = 0
  ·rw [if_pos c1] at he
   simp -implicitDefEqProofs only [go_sem, a1, a6, a7, a8, hT, hil, e1, hc, c1, hw1, k1]
   exact ⟨l.length - (i + 1), hkk, trivial, trivial, trivial, trivial, i + 1, n + 1, _, rfl, hi', rfl, rfl, k0 _, k1 _, k2 _, k3 _, he⟩
  ·rw [if_neg c1] at he
   simp -implicitDefEqProofs only [go_sem, a1, a6, a8, hT, hil, e1, hc, c1, k1, he, Try.results156]
   exact ⟨trivial, hy2 _⟩
 ·have hie : i = l.length := by omega
  subst hie
  rw [List.drop_length] at he
  simp only [firstE] at he
  simp -implicitDefEqProofs only [go_sem, hT, hil, he, Try.results156]
  exact ⟨trivial, hy⟩
theorem Zga (l : List Gtr) (N : Int) (bl bf b4 b3 : Nm) (nblbf : bl ≠ bf) (nblb4 : bl ≠ b4) (nblb3 : bl ≠ b3) (nbfb4 : bf ≠ b4) (nbfb3 : bf ≠ b3) (nb4b3 : b4 ≠ b3) (K : Nat) (H : Heap) (n : Nat) (p : Nm) (jr : Bool) (j : Delta) (hbl : hget H bl = some (.cells [.lst (l.map gtrV)] true 0)) (hbf : hget H bf = some (.cells [.func 110 [.ptr b4 0]] true 0)) (hb4 : hget H b4 = some (.cells [.func 104 [.ptr b3 0]] true 0)) (hb3 : hget H b3 = some (.cells [.int .i64 N] true 0)) (h1 : 0 <= N) (h2 : N <= 9223372036854775807) (hK : 20 < K) (hl : l.length < K) (hl2 : l.length <= 9223372036854775807) :
  acall cfg (K + 4) 157 [.ptr bl 0, .ptr bf 0] ⟨H, n, p, jr, j⟩ = .ret (.int .i64 (firstE (getE N) l), ⟨H, n, p, jr, backJ jr [bl, bf, b4, b3] [.cells [.lst (l.map gtrV)] true 0, .cells [.func 110 [.ptr b4 0]] true 0, .cells [.func 104 [.ptr b3 0]] true 0, .cells [.int .i64 N] true 0] j⟩) := by
 have eblbf := Zg nblbf
 have ebfbl := Zg (Ne.symm nblbf)
 have eblb4 := Zg nblb4
 have eb4bl := Zg (Ne.symm nblb4)
 have eblb3 := Zg nblb3
 have eb3bl := Zg (Ne.symm nblb3)
 have ebfb4 := Zg nbfb4
 have eb4bf := Zg (Ne.symm nbfb4)
 have ebfb3 := Zg nbfb3
 have eb3bf := Zg (Ne.symm nbfb3)
 have eb4b3 := Zg nb4b3
 have eb3b4 := Zg (Ne.symm nb4b3)
 refine Yx (bs := [bl, bf, b4, b3]) (xs := [.cells [.lst (l.map gtrV)] true 0, .cells [.func 110 [.ptr b4 0]] true 0, .cells [.func 104 [.ptr b3 0]] true 0, .cells [.int .i64 N] true 0]) (args' := [.ptr [0] 0, .ptr [1] 0]) (xs' := [.cells [.lst (l.map gtrV)] true 0, .cells [.func 110 [.ptr [2] 0]] true 0, .cells [.func 104 [.ptr [3] 0]] true 0, .cells [.int .i64 N] true 0]) Zk5 Zk4 (by show lendM (199 + 1) [bl, bf] [] [] _ = _; rw [Y6 199 rfl hbl]; show lendM (198 + 1) [bf] [bl] [_] _ = _; rw [Y6 198 (by simp only [memNm, ebfbl]) hbf]; show lendM (197 + 1) [b4] [bl, bf] _ _ = _; rw [Y6 197 (by simp only [memNm, eb4bl, eb4bf]) hb4]; show lendM (196 + 1) [b3] [bl, bf, b4] _ _ = _; rw [Y6 196 (by simp only [memNm, eb3bl, eb3bf, eb3b4]) hb3]; exact Zn 195 _ _ _) (by simp only [getAll, hbl, hbf, hb4, hb3]) (by simp only [nodupN, memNm, eblbf, eblb4, eblb3, ebfb4, ebfb3, eb4b3]) rfl (by show renVs [(bl, [0]), (bf, [1]), (b4, [2]), (b3, [3])] _ = _; simp only [renVs, renV, lookN, Zi, ebfbl])
  (by show renBs [(bl, [0]), (bf, [1]), (b4, [2]), (b3, [3])] _ = _; simp only [renBs, renB, renVs, renV, lookN, Xw, Zi, eb4bl, eb3bl, eb4bf, eb3bf, eb3b4]) rfl (fun _ => rfl) (fun c h => by rcases List.mem_cons.1 h with rfl | h; rfl; rcases List.mem_cons.1 h with rfl | h; rfl; cases h) (show (2 : Nat) < 200 by decide) rfl (by show renBs [([0], bl), ([1], bf), ([2], b4), ([3], b3)] _ = _; simp only [renBs, renB, renVs, renV, Xw]; rfl) ?_
 refine Z6 rfl fun T hT' hA => ?_
 have a0 := hA 0 _ rfl
 have a1 := hA 1 _ rfl
 have hT : T.length = 19 := hT'
 clear hA hT'
 have hz : zipB (namesFrom [] 0 [bl, bf, b4, b3].length) [Blk.cells [.lst (l.map gtrV)] true 0, Blk.cells [.func 110 [.ptr [2] 0]] true 0, Blk.cells [.func 104 [.ptr [3] 0]] true 0, Blk.cells [.int .i64 N] true 0] = [([0], .cells [.lst (l.map gtrV)] true 0), ([1], .cells [.func 110 [.ptr [2] 0]] true 0), ([2], .cells [.func 104 [.ptr [3] 0]] true 0), ([3], .cells [.int .i64 N] true 0)] := rfl
 have hl3 : [bl, bf, b4, b3].length = 4 := rfl
 rw [hz, hl3]
 simp -implicitDefEqProofs only [go_sem, a0, hT]
 simp only [Z1]
 refine Zf (fun k T s' => T.length = 19 /\ nth T 1 = some (.ptr [1] 0) /\ nth T 6 = some (.lst (l.map gtrV)) /\ nth T 7 = some (.int .i64 l.length) /\ ∃ (i n : Nat) (H : Heap), nth T 8 = some (.int .i64 i) /\ i <= l.length /\ k = l.length - i /\ s' = ⟨H, n + 4, [], false, []⟩ /\ hget H [0] = some (.cells [.lst (l.map gtrV)] true 0) /\ hget H [1] = some (.cells [.func 110 [.ptr [2] 0]] true 0) /\ hget H [2] = some (.cells [.func 104 [.ptr [3] 0]] true 0) /\ hget H [3] = some (.cells [.int .i64 N] true 0) /\ firstE (getE N) l = firstE (getE N) (l.drop i)) (k := l.length) (by omega) ?_ ?_
 ·exact ⟨by simp -implicitDefEqProofs only [go_sem, hT], by simp -implicitDefEqProofs only [go_sem, a1], by simp -implicitDefEqProofs only [go_sem, hT], by simp -implicitDefEqProofs only [go_sem, hT], 0, 0, _, by simp -implicitDefEqProofs only [go_sem, hT] <;> rfl, by omega, rfl, rfl, rfl, rfl, rfl, rfl, rfl⟩
 clear a0 a1 hT T
 rintro k T s' ⟨hT, a1, a6, a7, i, n, H, a8, hi, rfl, rfl, g0, g1, g2, g3, he⟩
 have hy : getAll H (namesFrom [] 0 4) = some [.cells [.lst (l.map gtrV)] true 0, .cells [.func 110 [.ptr [2] 0]] true 0, .cells [.func 104 [.ptr [3] 0]] true 0, .cells [.int .i64 N] true 0] := by show getAll H [[0], [1], [2], [3]] = _; simp only [getAll, g0, g1, g2, g3]
 simp -implicitDefEqProofs only [go_sem, a7, a8, hT]
 by_cases hil : (i : Int) < (l.length : Int)
 ·have hi' : i < l.length := by omega
  have e1 := Z9 (f := gtrV) (l := l) (i := i) (z := 5) hi' rfl
  have hkk : l.length - (i + 1) < l.length - i := by omega
  rw [List.drop_eq_getElem_cons hi'] at he
  have hw1 : wrapF .i64 ((i : Int) + 1) = ((i + 1 : Nat) : Int) := Z5 (by omega) (by omega)
  generalize l[i] = x at *
  simp only [firstE] at he
  have k0 : ∀ X, hget (([n + 4], X) :: H) [0] = _ := fun X => (Z4 _ _ (Zu (by omega))).trans g0
  have k1 : ∀ X, hget (([n + 4], X) :: H) [1] = _ := fun X => (Z4 _ _ (Zu (by omega))).trans g1
  have k2 : ∀ X, hget (([n + 4], X) :: H) [2] = _ := fun X => (Z4 _ _ (Zu (by omega))).trans g2
  have k3 : ∀ X, hget (([n + 4], X) :: H) [3] = _ := fun X => (Z4 _ _ (Zu (by omega))).trans g3
  have hy2 : ∀ X, getAll (([n + 4], X) :: H) (namesFrom [] 0 4) = some [.cells [.lst (l.map gtrV)] true 0, .cells [.func 110 [.ptr [2] 0]] true 0, .cells [.func 104 [.ptr [3] 0]] true 0, .cells [.int .i64 N] true 0] := fun X => by show getAll _ [[0], [1], [2], [3]] = _; simp only [getAll, k0 X, k1 X, k2 X, k3 X]
  have hc := fun X => Zec x N [2] [3] (by decide) K (([n + 4], X) :: H) (n + 4 + 1) [] false [] (k2 X) (k3 X) h1 h2
  simp only [gtrV, Yp] at hc
  by_cases c1 : getE N x = 0
  ·rw [if_pos c1] at he
   simp -implicitDefEqProofs only [go_sem, a1, a6, a7, a8, hT, hil, e1, hc, c1, hw1, k1]
   exact ⟨l.length - (i + 1), hkk, trivial, trivial, trivial, trivial, i + 1, n + 1, _, rfl, hi', rfl, rfl, k0 _, k1 _, k2 _, k3 _, he⟩
  ·rw [if_neg c1] at he
   simp -implicitDefEqProofs only [go_sem, a1, a6, a8, hT, hil, e1, hc, c1, k1, he, Try.results157]
   exact ⟨trivial, hy2 _⟩
 ·have hie : i = l.length := by omega
  subst hie
  rw [List.drop_length] at he
  simp only [firstE] at he
  simp -implicitDefEqProofs only [go_sem, hT, hil, he, Try.results157]
  exact ⟨trivial, hy⟩
end Go.Proofs.Ytgnpnfkncbnjnaa
namespace Go.Proofs.Ytgnpnfkncbnjnaa
attribute [local go_sem_proc] Int.reduceEq Int.reduceNeg Nat.reduceEqDiff Nat.reduceLT Nat.reduceAdd Nat.reduceSub Nat.reduceMul Int.reduceLE Int.reduceLT Int.reduceToNat Nat.reduceLeDiff
attribute [local go_sem] Int.toNat_natCast Bool.not_true Bool.not_false
open Go Go.Am
attribute [local congr] Ze Zb Zc
attribute [local go_sem] Go.Am.buildSliceA Go.Am.frozen Go.Am.freezeG Go.Am.freezeGs Go.Am.minmax
@[go_sem] theorem Zui : ofConst .nilFunc = some .nilf := rfl
theorem Zgb (l : List AV) (g : FuncId) (c : List AV) (K : Nat) (s : St) : acall cfg (K + 1) 112 [.lst l, .func g c] s = .ret (.func 153 [.ptr s.name 0, .ptr (s.new (.cells [.lst l] true 0)).name 0], (s.new (.cells [.lst l] true 0)).new (.cells [.func g c] true 0)) := by
 suffices h : (acall cfg (K + 1) 112 [.lst l, .func g c] s).Does fun x => x = (.func 153 [.ptr s.name 0, .ptr (s.new (.cells [.lst l] true 0)).name 0], (s.new (.cells [.lst l] true 0)).new (.cells [.func g c] true 0)) by
  obtain ⟨a, e, rfl⟩ := h; exact e
 rw [Z6z Zip Zio]
 refine Z6 rfl fun T hT' hA => ?_
 have a0 := hA 0 _ rfl
 have a1 := hA 1 _ rfl
 have hT : T.length = 6 := hT'
 clear hA hT'
 obtain ⟨H, n, p, jr, j⟩ := s
 simp -implicitDefEqProofs only [go_sem, a0, a1, hT, Try.results112]
theorem Zgc (l : List AV) (g : FuncId) (c : List AV) (K : Nat) (s : St) : acall cfg (K + 1) 114 [.lst l, .func g c] s = .ret (.func 154 [.ptr s.name 0, .ptr (s.new (.cells [.lst l] true 0)).name 0], (s.new (.cells [.lst l] true 0)).new (.cells [.func g c] true 0)) := by
 suffices h : (acall cfg (K + 1) 114 [.lst l, .func g c] s).Does fun x => x = (.func 154 [.ptr s.name 0, .ptr (s.new (.cells [.lst l] true 0)).name 0], (s.new (.cells [.lst l] true 0)).new (.cells [.func g c] true 0)) by
  obtain ⟨a, e, rfl⟩ := h; exact e
 rw [Z6z Zit Zis]
 refine Z6 rfl fun T hT' hA => ?_
 have a0 := hA 0 _ rfl
 have a1 := hA 1 _ rfl
 have hT : T.length = 6 := hT'
 clear hA hT'
 obtain ⟨H, n, p, jr, j⟩ := s
 simp -implicitDefEqProofs only [go_sem, a0, a1, hT, Try.results114]
theorem Zgd (l : List AV) (g : FuncId) (c : List AV) (K : Nat) (s : St) : acall cfg (K + 1) 115 [.lst l, .func g c] s = .ret (.func 155 [.ptr s.name 0, .ptr (s.new (.cells [.lst l] true 0)).name 0], (s.new (.cells [.lst l] true 0)).new (.cells [.func g c] true 0)) := by
 suffices h : (acall cfg (K + 1) 115 [.lst l, .func g c] s).Does fun x => x = (.func 155 [.ptr s.name 0, .ptr (s.new (.cells [.lst l] true 0)).name 0], (s.new (.cells [.lst l] true 0)).new (.cells [.func g c] true 0)) by
  obtain ⟨a, e, rfl⟩ := h; exact e
 rw [Z6z Ziv Ziu]
 refine Z6 rfl fun T hT' hA => ?_
 have a0 := hA 0 _ rfl
 have a1 := hA 1 _ rfl
 have hT : T.length = 6 := hT'
 clear hA hT'
 obtain ⟨H, n, p, jr, j⟩ := s
 simp -implicitDefEqProofs only [go_sem, a0, a1, hT, Try.results115]
theorem Zge (l : List AV) (g : FuncId) (c : List AV) (K : Nat) (s : St) : acall cfg (K + 1) 116 [.lst l, .func g c] s = .ret (.func 156 [.ptr s.name 0, .ptr (s.new (.cells [.lst l] true 0)).name 0], (s.new (.cells [.lst l] true 0)).new (.cells [.func g c] true 0)) := by
 suffices h : (acall cfg (K + 1) 116 [.lst l, .func g c] s).Does fun x => x = (.func 156 [.ptr s.name 0, .ptr (s.new (.cells [.lst l] true 0)).name 0], (s.new (.cells [.lst l] true 0)).new (.cells [.func g c] true 0)) by
  obtain ⟨a, e, rfl⟩ := h; exact e
 rw [Z6z Zix Ziw]
 refine Z6 rfl fun T hT' hA => ?_
 have a0 := hA 0 _ rfl
 have a1 := hA 1 _ rfl
 have hT : T.length = 6 := hT'
 clear hA hT'
 obtain ⟨H, n, p, jr, j⟩ := s
 simp -implicitDefEqProofs only [go_sem, a0, a1, hT, Try.results116]
theorem Zgf (l : List AV) (g : FuncId) (c : List AV) (K : Nat) (s : St) : acall cfg (K + 1) 117 [.lst l, .func g c] s = .ret (.func 157 [.ptr s.name 0, .ptr (s.new (.cells [.lst l] true 0)).name 0], (s.new (.cells [.lst l] true 0)).new (.cells [.func g c] true 0)) := by
 suffices h : (acall cfg (K + 1) 117 [.lst l, .func g c] s).Does fun x => x = (.func 157 [.ptr s.name 0, .ptr (s.new (.cells [.lst l] true 0)).name 0], (s.new (.cells [.lst l] true 0)).new (.cells [.func g c] true 0)) by
  obtain ⟨a, e, rfl⟩ := h; exact e
 rw [Z6z Ziz Ziy]
 refine Z6 rfl fun T hT' hA => ?_
 have a0 := hA 0 _ rfl
 have a1 := hA 1 _ rfl
 have hT : T.length = 6 := hT'
 clear hA hT'
 obtain ⟨H, n, p, jr, j⟩ := s
 simp -implicitDefEqProofs only [go_sem, a0, a1, hT, Try.results117]
structure Chk' where
 f : FuncId
 c : List AV
 e : Int
 J : Delta -> Delta
def Chk'.av (x : Chk') : AV := .func x.f x.c
def firstJ : List Chk' -> Delta -> Delta
 | [], j => j
 | x :: r, j => if x.e = 0 then firstJ r (x.J j) else x.J j
theorem Z9v (cs : List Chk') (K : Nat) (H : Heap) (n : Nat) (p : Nm) (jr : Bool) (j : Delta) (hc : ∀ x ∈ cs, ∀ j, acall cfg K x.f x.c ⟨H, n, p, jr, j⟩ = .ret (.int .i64 x.e, ⟨H, n, p, jr, x.J j⟩))
  (hl : cs.length < K) (hl2 : cs.length <= 9223372036854775807) :
  acall cfg (K + 1) 111 [.lst (cs.map Chk'.av)] ⟨H, n, p, jr, j⟩ = .ret (.int .i64 (firstE Chk'.e cs), ⟨H, n, p, jr, firstJ cs j⟩) := by
 suffices h : (acall cfg (K + 1) 111 [.lst (cs.map Chk'.av)] ⟨H, n, p, jr, j⟩).Does fun x => x = (.int .i64 (firstE Chk'.e cs), ⟨H, n, p, jr, firstJ cs j⟩) by
  obtain ⟨a, e, rfl⟩ := h; exact e
 rw [Z6z Zin Zim]
 refine Z6 rfl fun T hT' hA => ?_
 have a0 := hA 0 _ rfl
 have hT : T.length = 18 := hT'
 clear hA hT'
 simp -implicitDefEqProofs only [go_sem, a0, hT]
 simp only [Z1]
 refine Zf (fun k T s' => T.length = 18 /\ nth T 6 = some (.lst (cs.map Chk'.av)) /\ nth T 7 = some (.int .i64 cs.length) /\ ∃ (i : Nat) (j2 : Delta), nth T 8 = some (.int .i64 i) /\ i <= cs.length /\ k = cs.length - i /\ s' = ⟨H, n, p, jr, j2⟩ /\ firstE Chk'.e cs = firstE Chk'.e (cs.drop i) /\ firstJ cs j = firstJ (cs.drop i) j2) (k := cs.length) (by omega) ?_ ?_
 ·exact ⟨by simp -implicitDefEqProofs only [go_sem, hT], by simp -implicitDefEqProofs only [go_sem, hT], by simp -implicitDefEqProofs only [go_sem, hT], 0, j, by simp -implicitDefEqProofs only [go_sem, hT] <;> rfl, by omega, rfl, rfl, rfl, rfl⟩
 clear a0 hT T
 rintro k T s' ⟨hT, a6, a7, i, j2, a8, hi, rfl, rfl, he, hj⟩
 simp -implicitDefEqProofs only [go_sem, a7, a8, hT]
 by_cases hil : (i : Int) < (cs.length : Int)
 ·have hi' : i < cs.length := by omega
  have e1 := Z9 (f := Chk'.av) (l := cs) (i := i) (z := 1) hi' rfl
  have hkk : cs.length - (i + 1) < cs.length - i := by omega
  have hc1 := hc _ (List.getElem_mem hi')
  rw [List.drop_eq_getElem_cons hi'] at he hj
  have hw1 : wrapF .i64 ((i : Int) + 1) = ((i + 1 : Nat) : Int) := Z5 (by omega) (by omega)
  generalize cs[i] = x at *
  simp only [firstE] at he
  simp only [firstJ] at hj
  simp only [Chk'.av] at e1
  by_cases c1 : x.e = 0
  ·rw [if_pos c1] at he hj
   simp -implicitDefEqProofs only [go_sem, a6, a7, a8, hT, hil, e1, hc1, c1, hw1]
   exact ⟨cs.length - (i + 1), hkk, trivial, trivial, trivial, i + 1, _, rfl, hi', rfl, rfl, he, hj⟩
  ·rw [if_neg c1] at he hj
   simp -implicitDefEqProofs only [go_sem, a6, a8, hT, hil, e1, hc1, c1, he, hj, Try.results111]
 ·have hie : i = cs.length := by omega
  subst hie
  rw [List.drop_length] at he hj
  simp only [firstE] at he
  simp only [firstJ] at hj
  simp -implicitDefEqProofs only [go_sem, hT, hil, he, hj, Try.results111]
end Go.Proofs.Ytgnpnfkncbnjnaa
namespace Go.Am
open Go
theorem Zed {C : Cfg} {t kt vt : TypeId} (hd : C.desc t = some (.map kt vt)) {m : Nm} {es : List (AV × AV)} {fz : Bool} {s : St} (hm : hget s.H m = some (.map es fz)) :
  rangeA C t (.map m) s = .ret (.ptr (s.put m (.map es true)).name 0, (s.put m (.map es true)).new (.mapIter m es none)) := by
 unfold rangeA
 rw [hd]
 simp only [Zd, Ym, hm, Tr.bind_ret, Ya, J1, Yc]
theorem Zgg {r m : Nm} {es left : List (AV × AV)} {cur : Option (AV × AV)} {s : St} {Q : AV × St -> Prop} (hr : hget s.H r = some (.mapIter m left cur)) (hm : hget s.H m = some (.map es true))
  (h0 : left = [] -> Q (.tuple [.bool false], s)) (h1 : ∀ (i : Nat) (h : i < left.length), Q (.tuple [.bool true, left[i].1, left[i].2], s.put r (.mapIter m (dropAt left i) (some left[i])))) :
  (nextA (.ptr r 0) false s).All Q := by
 unfold nextA
 simp only [Zd, Ym, hr, hm, Tr.bind_ret]
 match left, h0, h1, hr with
 | [], h0, _, _ => exact h0 rfl
 | [e], _, h1, hr =>
  simp only [Zd, Ya, hr, Tr.bind_ret, Yc]
  exact h1 0 (by simp)
 | x :: y :: l, _, h1, hr =>
  show ((askM (x :: y :: l).length s).bind _).All Q
  intro i hi
  show Tr.All Q ((match nth (x :: y :: l) i with
    | some e => (putM r (.mapIter m (dropAt (x :: y :: l) i) (some e))).bind fun _ => M.ret (AV.tuple [.bool true, e.1, e.2])
    | none => M.fail) s)
  rw [Zq, List.getElem?_eq_getElem hi]
  simp only [Zd, Ya, hr, Tr.bind_ret, Yc]
  exact h1 i hi
theorem Zl8 {r m : Nm} {es left : List (AV × AV)} {e : AV × AV} {s : St} (hr : hget s.H r = some (.mapIter m left (some e))) (hm : hget s.H m = some (.map es true)) :
  entryA (.ptr r 0) s = .ret (.tuple [e.1, e.2], s) := by
 unfold entryA
 simp only [Zd, Ym, hr, hm, Tr.bind_ret, Yc]
theorem Zb1 {α : Type} : ∀ (l : List α) (i : Nat) (h : i < l.length) (x : α), x ∈ l ↔ x = l[i] \/ x ∈ dropAt l i
 | a :: r, 0, h, x => by simp [dropAt]
 | a :: r, i + 1, h, x => by
  simp only [dropAt, List.mem_cons, List.getElem_cons_succ]
  rw [Zb1 r i (by simpa using h) x]
  constructor
  ·rintro (h | h | h)
   ·exact .inr (.inl h)
   ·exact .inl h
   ·exact .inr (.inr h)
  ·rintro (h | h | h)
   ·exact .inr (.inl h)
   ·exact .inl h
   ·exact .inr (.inr h)
theorem Zb2 {α : Type} : ∀ (l : List α) (i : Nat), i < l.length -> (dropAt l i).length = l.length - 1
 | a :: r, 0, h => by simp [dropAt]
 | a :: r, i + 1, h => by
  simp only [dropAt, List.length_cons]
  rw [Zb2 r i (by simpa using h)]
  simp at h; omega
theorem Zb3 {α β : Type} (f : α -> β) : ∀ (l : List α) (i : Nat), dropAt (l.map f) i = (dropAt l i).map f
 | [], 0 => rfl
 | [], _ + 1 => rfl
 | a :: r, 0 => rfl
 | a :: r, i + 1 => by simp only [List.map_cons, dropAt, Zb3 f r i]
end Go.Am
namespace Go.Proofs.Ytgnpnfkncbnjnaa
open Go Go.Am
def keysIn (P : Int -> Prop) (es : List (Int × Rg)) : Prop := ∀ e ∈ es, P e.1
def KeyND : List (Int × Rg) -> Prop
 | [] => True
 | e :: r => (∀ x ∈ r, x.1 ≠ e.1) /\ KeyND r
theorem Z2a {P : Int -> Prop} {k : Int} {x : Rg} (hk : P k) : ∀ {es : List (Int × Rg)}, keysIn P es -> keysIn P (setS es k x)
 | [], _ => fun e he => by
  simp only [setS, List.mem_singleton] at he
  subst he; exact hk
 | a :: r, h => fun e he => by
  unfold setS at he
  split at he
  ·rcases List.mem_cons.1 he with rfl | he
   ·exact hk
   ·exact h e (List.mem_cons_of_mem _ he)
  ·rcases List.mem_cons.1 he with rfl | he
   ·exact h _ List.mem_cons_self
   ·exact Z2a hk (fun e he => h e (List.mem_cons_of_mem _ he)) e he
theorem Zb4 {k : Int} {x : Rg} : ∀ {es : List (Int × Rg)}, KeyND es -> KeyND (setS es k x)
 | [], _ => ⟨fun _ h => (by cases h), trivial⟩
 | a :: r, h => by
  unfold setS
  split
  ·rename_i hk
   refine ⟨fun y hy => ?_, h.2⟩
   show y.1 ≠ k
   rw [hk]; exact h.1 y hy
  ·rename_i hk
   refine ⟨?_, Zb4 h.2⟩
   exact Z2a (P := fun q => q ≠ a.1) hk h.1
theorem Zee : ∀ {es : List (Int × Rg)}, KeyND es -> ∀ e ∈ es, getS es e.1 = e.2
 | [], _, _, h => by cases h
 | a :: r, hn, e, h => by
  unfold getS
  rcases List.mem_cons.1 h with rfl | h
  ·rw [if_pos rfl]
  ·rw [if_neg (hn.1 e h)]
   exact Zee hn.2 e h
theorem Zef : ∀ (es : List (Int × Rg)) (k : Int), (k, getS es k) ∈ es \/ getS es k = ⟨0, 0⟩
 | [], _ => .inr rfl
 | a :: r, k => by
  unfold getS
  split
  ·rename_i h; subst h; exact .inl List.mem_cons_self
  ·rcases Zef r k with h | h
   ·exact .inl (List.mem_cons_of_mem _ h)
   ·exact .inr h
theorem Z4t {P : Int -> Prop} (shut : List Int) : ∀ (l : List Pip) (i : Nat) (es : List (Int × Rg)), (∀ p ∈ l, P p.a /\ P p.b) -> keysIn P es -> KeyND es -> keysIn P (leaveP shut i es l) /\ KeyND (leaveP shut i es l)
 | [], _, _, _, h1, h2 => ⟨h1, h2⟩
 | p :: r, i, es, h, h1, h2 => by
  unfold leaveP
  have hp := h p List.mem_cons_self
  have hr := fun q hq => h q (List.mem_cons_of_mem _ hq)
  split
  ·exact Z4t shut r _ _ hr h1 h2
  ·exact Z4t shut r _ _ hr (Z2a hp.2 (Z2a hp.1 h1)) (Zb4 (Zb4 h2))
theorem Z8j {P : Int -> Prop} : ∀ (l : List Pmp) (es : List (Int × Rg)), (∀ q ∈ l, P q.at') -> keysIn P es -> KeyND es -> keysIn P (leaveM es l) /\ KeyND (leaveM es l)
 | [], _, _, h1, h2 => ⟨h1, h2⟩
 | q :: r, es, h, h1, h2 => by
  unfold leaveM
  exact Z8j r _ (fun x hx => h x (List.mem_cons_of_mem _ hx)) (Z2a (h q List.mem_cons_self) h1) (Zb4 h2)
theorem Yt {α : Type} {f : α -> Int} : ∀ {l : List α}, firstE f l = 0 -> ∀ a ∈ l, f a = 0
 | [], _, _, h => by cases h
 | x :: r, he, a, h => by
  unfold firstE at he
  split at he
  ·rename_i hx
   rcases List.mem_cons.1 h with rfl | h
   ·exact hx
   ·exact Yt he a h
  ·contradiction
theorem Z9w {n a most : Int} {r : Rg} (h : atE n a r most = 0) : 0 <= a /\ a < n := by
 unfold atE at h
 split at h
 ·rename_i hc; unfold fromB at hc; simp only [decide_eq_true_eq] at hc; omega
 ·exact absurd h (by decide)
theorem Z73 {n : Int} {p : Pip} (h : pipE n p = 0) : (0 <= p.a /\ p.a < n) /\ (0 <= p.b /\ p.b < n) /\ p.a ≠ p.b /\ spansE p.out 1000000 = 0 /\ spansE p.back 1000000 = 0 := by
 unfold pipE at h
 split at h
 ·rename_i hc
  unfold fromB at hc; simp only [decide_eq_true_eq] at hc
  split at h
  ·exact absurd h (by decide)
  ·rename_i hne
   split at h
   ·rename_i h0; exact ⟨⟨by omega, by omega⟩, ⟨by omega, by omega⟩, hne, h0, h⟩
   ·contradiction
 ·exact absurd h (by decide)
theorem Zgh (v : Vac) (shut : List Int) (h : partsE v = 0) : keysIn (fun k => 0 <= k /\ k < v.vessels.length) (leaveL v shut) /\ KeyND (leaveL v shut) := by
 unfold partsE at h
 split at h
 ·rename_i h1
  split at h
  ·rename_i h2
   have a := Z4t (P := fun k => 0 <= k /\ k < (v.vessels.length : Int)) shut v.pipes 0 [] (fun p hp => ⟨(Z73 (Yt h1 p hp)).1, (Z73 (Yt h1 p hp)).2.1⟩) (fun _ h => by cases h) trivial
   exact Z8j v.pumps _ (fun q hq => Z9w (Yt h2 q hq)) a.1 a.2
  ·contradiction
 ·contradiction
theorem Z74 (k : Int) (x : Rg) : ∀ es : List (Int × Rg), (setS es k x).length <= es.length + 1
 | [] => by simp [setS]
 | a :: r => by
  unfold setS
  split
  ·simp
  ·simp only [List.length_cons]; have := Z74 k x r; omega
theorem Z2w (shut : List Int) : ∀ (l : List Pip) (i : Nat) (es : List (Int × Rg)), (leaveP shut i es l).length <= es.length + 2 * l.length
 | [], _, es => by simp [leaveP]
 | p :: r, i, es => by
  unfold leaveP
  split
  ·have := Z2w shut r (i + 1) es; simp only [List.length_cons]; omega
  ·refine Nat.le_trans (Z2w shut r _ _) ?_
   have h1 := Z74 p.a (plusR (getS es p.a) p.out) es
   have h2 := Z74 p.b (plusR (getS (setS es p.a (plusR (getS es p.a) p.out)) p.b) p.back) (setS es p.a (plusR (getS es p.a) p.out))
   simp only [List.length_cons]; omega
theorem Z69 : ∀ (l : List Pmp) (es : List (Int × Rg)), (leaveM es l).length <= es.length + l.length
 | [], es => by simp [leaveM]
 | q :: r, es => by
  unfold leaveM
  refine Nat.le_trans (Z69 r _) ?_
  have h1 := Z74 q.at' (plusR (getS es q.at') q.part) es
  simp only [List.length_cons]; omega
theorem Zeg (v : Vac) (shut : List Int) : (leaveL v shut).length <= 2 * v.pipes.length + v.pumps.length := by
 unfold leaveL
 refine Nat.le_trans (Z69 _ _) ?_
 have := Z2w shut v.pipes 0 []
 simp only [List.length_nil] at this
 omega
theorem Z75 (v : Vac) : ∀ (k i : Nat), outB v i k = true ↔ ∃ m, i <= m /\ m < i + k /\ 1000000 < (outR v m []).hi
 | 0, i => by
  constructor
  ·intro h; cases h
  ·rintro ⟨m, h1, h2, _⟩; omega
 | k + 1, i => by
  unfold outB
  rw [Bool.or_eq_true, decide_eq_true_eq, Z75 v k (i + 1)]
  constructor
  ·rintro (h | ⟨m, h1, h2, h3⟩)
   ·exact ⟨i, by omega, by omega, h⟩
   ·exact ⟨m, by omega, by omega, h3⟩
  ·rintro ⟨m, h1, h2, h3⟩
   by_cases h : m = i
   ·subst h; exact .inl h3
   ·exact .inr ⟨m, by omega, by omega, h3⟩
theorem Zgi (v : Vac) (h : partsE v = 0) (e : Int × Rg) (he : e ∈ leaveL v []) (hi : 1000000 < e.2.hi) : outB v 0 v.vessels.length = true := by
 obtain ⟨h1, h2⟩ := Zgh v [] h
 rw [Z75]
 have hk := h1 e he
 refine ⟨e.1.toNat, by omega, by omega, ?_⟩
 rw [show ((e.1.toNat : Nat) : Int) = e.1 by omega, <- Z4s, Zee h2 e he]
 exact hi
theorem Zeh (v : Vac) (h : ∀ e ∈ leaveL v [], ¬ 1000000 < e.2.hi) : ¬ outB v 0 v.vessels.length = true := by
 rw [Z75]
 rintro ⟨m, _, _, hm⟩
 rw [<- Z4s] at hm
 rcases Zef (leaveL v []) m with h1 | h1
 ·exact h _ h1 hm
 ·rw [h1] at hm; exact absurd hm (by decide)
end Go.Proofs.Ytgnpnfkncbnjnaa
namespace Go.Proofs.Ytgnpnfkncbnjnaa
attribute [local go_sem_proc] Int.reduceEq Int.reduceNeg Nat.reduceEqDiff Nat.reduceLT Nat.reduceAdd Nat.reduceSub Nat.reduceMul Int.reduceLE Int.reduceLT Int.reduceToNat Nat.reduceLeDiff
attribute [local go_sem] Int.toNat_natCast Bool.not_true Bool.not_false
open Go Go.Am
attribute [local congr] Ze Zb Zc
attribute [local go_sem] Go.Am.buildSliceA Go.Am.frozen Go.Am.freezeG Go.Am.freezeGs
def max3 (a b c : Int) : Int := if (if a < b then b else a) < c then c else if a < b then b else a
theorem mm3 (a b c : Int) : minmax true (.int .i64 a) [.int .i64 b, .int .i64 c] = some (.int .i64 (max3 a b c)) := by
 unfold max3
 by_cases h : a < b
 ·rw [if_pos h]
  by_cases h2 : b < c
  ·rw [if_pos h2]; simp [minmax, h, h2]
  ·rw [if_neg h2]; simp [minmax, h, h2]
 ·rw [if_neg h]
  by_cases h2 : a < c
  ·rw [if_pos h2]; simp [minmax, h, h2]
  ·rw [if_neg h2]; simp [minmax, h, h2]
theorem Zei (a b c : Int) : (decide (8 < a) || decide (8 < b) || decide (8 < c)) = decide (8 < max3 a b c) := by
 rw [Bool.eq_iff_iff]; simp only [Bool.or_eq_true, decide_eq_true_eq]
 unfold max3
 split <;> split <;> omega
theorem Zc9 (v : Vac) (K : Nat) (s : St) (hK : 50 < K) (hv : v.Lens K) : acall cfg (K + 9) 49 [vacV v] s = .ret (.int .i64 (checkE v), s) := by
 refine Z85 Zn5 Zn4 (by first | rfl | simp -implicitDefEqProofs only [redoH, redo1, go_sem]) (by first | rfl | simp -implicitDefEqProofs only [go_sem]) (by first | rfl | simp -implicitDefEqProofs only [redoH, redo1, go_sem]) ?_
 refine Zfw rfl fun T hT' hA => ?_
 have a0 := hA 0 _ rfl
 have hT : T.length = 77 := hT'
 clear hA hT'
 have hlc := fun s => Z3a v [] (K + 5) s ⟨⟨by have := hv.ves.1; omega, hv.ves.2⟩, ⟨by have := hv.pip.1; omega, hv.pip.2⟩, ⟨by have := hv.pmp.1; omega, hv.pmp.2⟩, ⟨by have := hv.inl.1; omega, hv.inl.2⟩, ⟨by have := hv.gtr.1; omega, hv.gtr.2⟩, hv.bands⟩ (by simp) (by simp)
 obtain ⟨⟨hv1, hv2⟩, ⟨hp1, hp2⟩, ⟨hm1, hm2⟩, ⟨hi1, hi2⟩, ⟨hg1, hg2⟩, hbd⟩ := hv
 simp only [vacV, List.map_nil] at hlc
 have q1 : (8 : Int) < (v.vessels.length : Int) ↔ 8 < v.vessels.length := by omega
 have q2 : (16 : Int) < (v.pipes.length : Int) ↔ 16 < v.pipes.length := by omega
 have q3 : (8 : Int) < (v.pumps.length : Int) ↔ 8 < v.pumps.length := by omega
 have q4 : (8 : Int) < (v.leaks.length : Int) ↔ 8 < v.leaks.length := by omega
 have q5 : (8 : Int) < (v.getters.length : Int) ↔ 8 < v.getters.length := by omega
 unfold checkE
 simp -implicitDefEqProofs only [go_sem, a0, hT]
 by_cases c1 : v.vessels.length = 0
 ·have c1' : (v.vessels.length : Int) = 0 := by omega
  rw [if_pos c1]
  simp -implicitDefEqProofs only [go_sem, hT, c1', Try.results49]
 ·have c1' : ¬ (v.vessels.length : Int) = 0 := by omega
  rw [if_neg c1]
  simp -implicitDefEqProofs only [go_sem, hT, c1']
  have hov : overB v = (decide ((8 : Int) < (v.vessels.length : Int)) || decide ((16 : Int) < (v.pipes.length : Int)) || decide ((8 : Int) < (v.pumps.length : Int)) || decide ((8 : Int) < (v.leaks.length : Int)) || decide ((8 : Int) < (v.getters.length : Int))) := by
   unfold overB
   simp only [q1, q2, q3, q4, q5]
  rw [hov]
  by_cases o1 : (8 : Int) < (v.vessels.length : Int)
  ·simp -implicitDefEqProofs only [go_sem, hT, o1, Bool.true_or, Try.results49]
  ·by_cases o2 : (16 : Int) < (v.pipes.length : Int)
   ·simp -implicitDefEqProofs only [go_sem, hT, o1, o2, Bool.true_or, Bool.or_true, Try.results49]
   ·rw [show ((decide ((8 : Int) < (v.vessels.length : Int)) || decide ((16 : Int) < (v.pipes.length : Int)) || decide ((8 : Int) < (v.pumps.length : Int)) || decide ((8 : Int) < (v.leaks.length : Int)) || decide ((8 : Int) < (v.getters.length : Int)))) = decide (8 < max3 v.pumps.length v.leaks.length v.getters.length) by rw [<- Zei, decide_eq_false o1, decide_eq_false o2]; rfl]
    simp -implicitDefEqProofs only [go_sem, hT, o1, o2, mm3]
    by_cases o3 : 8 < max3 v.pumps.length v.leaks.length v.getters.length
    ·simp -implicitDefEqProofs only [go_sem, hT, o3, Try.results49]
    ·clear q1 q2 q3 q4 q5 hov
     simp -implicitDefEqProofs only [go_sem, hT, o3, Bool.false_eq_true, if_false]
     have hne1 : (0 : Int) <= v.vessels.length := by omega
     have hN : (v.vessels.length : Int) <= 9223372036854775807 := by omega
     let cs : List Chk' := [⟨153, [.ptr [3, 2, 0] 0, .ptr [3, 2, 1] 0], firstE vesE v.vessels, backJ true [[3, 2, 0], [3, 2, 1]] [.cells [.lst (v.vessels.map vesV)] true 0, .cells [.func 113 []] true 0]⟩,
      ⟨154, [.ptr [3, 6, 0] 0, .ptr [3, 6, 1] 0], firstE (pipE v.vessels.length) v.pipes, backJ true [[3, 6, 0], [3, 6, 1], [1]] [.cells [.lst (v.pipes.map pipV)] true 0, .cells [.func 107 [.ptr [1] 0]] true 0, .cells [.int .i64 v.vessels.length] true 0]⟩,
      ⟨155, [.ptr [3, 10, 0] 0, .ptr [3, 10, 1] 0], firstE (fun q : Pmp => atE v.vessels.length q.at' q.part 1000000) v.pumps, backJ true [[3, 10, 0], [3, 10, 1], [2], [1]] [.cells [.lst (v.pumps.map pmpV)] true 0, .cells [.func 108 [.ptr [2] 0]] true 0, .cells [.func 104 [.ptr [1] 0]] true 0, .cells [.int .i64 v.vessels.length] true 0]⟩,
      ⟨156, [.ptr [3, 14, 0] 0, .ptr [3, 14, 1] 0], firstE (fun l : Inl => atE v.vessels.length l.at' l.gas 100000) v.leaks, backJ true [[3, 14, 0], [3, 14, 1], [2], [1]] [.cells [.lst (v.leaks.map inlV)] true 0, .cells [.func 109 [.ptr [2] 0]] true 0, .cells [.func 104 [.ptr [1] 0]] true 0, .cells [.int .i64 v.vessels.length] true 0]⟩,
      ⟨157, [.ptr [3, 18, 0] 0, .ptr [3, 18, 1] 0], firstE (getE v.vessels.length) v.getters, backJ true [[3, 18, 0], [3, 18, 1], [2], [1]] [.cells [.lst (v.getters.map gtrV)] true 0, .cells [.func 110 [.ptr [2] 0]] true 0, .cells [.func 104 [.ptr [1] 0]] true 0, .cells [.int .i64 v.vessels.length] true 0]⟩]
     have hfc : ∀ H n p, hget H [1] = some (.cells [.int .i64 v.vessels.length] true 0) -> hget H [2] = some (.cells [.func 104 [.ptr [1] 0]] true 0) -> hget H [3, 2, 0] = some (.cells [.lst (v.vessels.map vesV)] true 0) -> hget H [3, 2, 1] = some (.cells [.func 113 []] true 0) ->
       hget H [3, 6, 0] = some (.cells [.lst (v.pipes.map pipV)] true 0) -> hget H [3, 6, 1] = some (.cells [.func 107 [.ptr [1] 0]] true 0) -> hget H [3, 10, 0] = some (.cells [.lst (v.pumps.map pmpV)] true 0) -> hget H [3, 10, 1] = some (.cells [.func 108 [.ptr [2] 0]] true 0) ->
       hget H [3, 14, 0] = some (.cells [.lst (v.leaks.map inlV)] true 0) -> hget H [3, 14, 1] = some (.cells [.func 109 [.ptr [2] 0]] true 0) -> hget H [3, 18, 0] = some (.cells [.lst (v.getters.map gtrV)] true 0) -> hget H [3, 18, 1] = some (.cells [.func 110 [.ptr [2] 0]] true 0) ->
       acall cfg (K + 8) 111 [.lst (cs.map Chk'.av)] ⟨H, n, p, true, []⟩ = .ret (.int .i64 (firstE Chk'.e cs), ⟨H, n, p, true, firstJ cs []⟩) := by
      intro H n p k1 k2 v0 v1 p0 p1 m0 m1 i0 i1 q0 q1
      refine Z9v cs (K + 7) H n p true [] (fun x hx j => ?_) (show 5 < K + 7 by omega) (show 5 <= 9223372036854775807 by decide)
      rcases List.mem_cons.1 hx with rfl | hx
      ·exact Zg6 v.vessels [3, 2, 0] [3, 2, 1] (by decide) (K + 3) H n p true j v0 v1 (by omega) (by omega) (by omega) hbd
      rcases List.mem_cons.1 hx with rfl | hx
      ·exact Zg7 v.pipes v.vessels.length [3, 6, 0] [3, 6, 1] [1] (by decide) (by decide) (by decide) (K + 3) H n p true j p0 p1 k1 hne1 hN (by omega) (by omega) (by omega)
      rcases List.mem_cons.1 hx with rfl | hx
      ·exact Zg8 v.pumps v.vessels.length [3, 10, 0] [3, 10, 1] [2] [1] (by decide) (by decide) (by decide) (by decide) (by decide) (by decide) (K + 3) H n p true j m0 m1 k2 k1 hne1 hN (by omega) (by omega) (by omega)
      rcases List.mem_cons.1 hx with rfl | hx
      ·exact Zg9 v.leaks v.vessels.length [3, 14, 0] [3, 14, 1] [2] [1] (by decide) (by decide) (by decide) (by decide) (by decide) (by decide) (K + 3) H n p true j i0 i1 k2 k1 hne1 hN (by omega) (by omega) (by omega)
      rcases List.mem_cons.1 hx with rfl | hx
      ·exact Zga v.getters v.vessels.length [3, 18, 0] [3, 18, 1] [2] [1] (by decide) (by decide) (by decide) (by decide) (by decide) (by decide) (K + 3) H n p true j q0 q1 k2 k1 hne1 hN (by omega) (by omega) (by omega)
      cases hx
     have hE : firstE Chk'.e cs = if firstE vesE v.vessels = 0 then partsE v else firstE vesE v.vessels := by
      simp only [cs, firstE, partsE]
      split
      ·split
       ·split
        ·split
         ·split
          ·rename_i h; exact h.symm
          ·rfl
         ·rfl
        ·rfl
       ·rfl
      ·rfl
     have hJ : firstE Chk'.e cs = 0 -> firstJ cs [] = backJ true [[3, 18, 0], [3, 18, 1], [2], [1]] [.cells [.lst (v.getters.map gtrV)] true 0, .cells [.func 110 [.ptr [2] 0]] true 0, .cells [.func 104 [.ptr [1] 0]] true 0, .cells [.int .i64 v.vessels.length] true 0]
       (backJ true [[3, 14, 0], [3, 14, 1], [2], [1]] [.cells [.lst (v.leaks.map inlV)] true 0, .cells [.func 109 [.ptr [2] 0]] true 0, .cells [.func 104 [.ptr [1] 0]] true 0, .cells [.int .i64 v.vessels.length] true 0]
       (backJ true [[3, 10, 0], [3, 10, 1], [2], [1]] [.cells [.lst (v.pumps.map pmpV)] true 0, .cells [.func 108 [.ptr [2] 0]] true 0, .cells [.func 104 [.ptr [1] 0]] true 0, .cells [.int .i64 v.vessels.length] true 0]
       (backJ true [[3, 6, 0], [3, 6, 1], [1]] [.cells [.lst (v.pipes.map pipV)] true 0, .cells [.func 107 [.ptr [1] 0]] true 0, .cells [.int .i64 v.vessels.length] true 0]
       (backJ true [[3, 2, 0], [3, 2, 1]] [.cells [.lst (v.vessels.map vesV)] true 0, .cells [.func 113 []] true 0] [])))) := by
      simp only [cs, firstE, firstJ]
      intro h
      split at h
      ·rename_i h1; rw [if_pos h1]
       split at h
       ·rename_i h1; rw [if_pos h1]
        split at h
        ·rename_i h1; rw [if_pos h1]
         split at h
         ·rename_i h1; rw [if_pos h1]
          split at h
          ·rename_i h1; rw [if_pos h1]
          ·contradiction
         ·contradiction
        ·contradiction
       ·contradiction
      ·contradiction
     generalize firstE Chk'.e cs = E0 at *
     generalize firstJ cs [] = J0 at *
     simp only [cs, List.map_cons, List.map_nil, Chk'.av] at hfc
     clear_value cs
     simp only [Tr.all_bind]
     refine Tr.Does.all ?_
     refine Z65 [[], [0], [1, 0], [], [3], [], [4, 3, 5, 2, 1, 0], [], [7], [], [8, 7, 9, 6, 4, 3, 5, 2, 1, 0], [], [11], [], [12, 11, 13, 10, 8, 7, 9, 6, 4, 3, 5, 2, 1, 0], [], [15], [], [16, 15, 17, 14, 12, 11, 13, 10, 8, 7, 9, 6, 4, 3, 5, 2, 1, 0], [18, 16, 15, 17, 14, 12, 11, 13, 10, 8, 7, 9, 6, 4, 3, 5, 2, 1, 0], [19, 18, 16, 15, 17, 14, 12, 11, 13, 10, 8, 7, 9, 6, 4, 3, 5, 2, 1, 0], [20, 19, 18, 16, 15, 17, 14, 12, 11, 13, 10, 8, 7, 9, 6, 4, 3, 5, 2, 1, 0]] [20] (by kernel_rfl) (by kernel_rfl) ?_
     simp -implicitDefEqProofs only [redoH, redo1, go_sem, hT, Zgb, Zgc, Zgd, Zge, Zgf, hfc]
     by_cases e0 : E0 = 0
     ·have hF : firstE vesE v.vessels = 0 /\ partsE v = 0 := by
       rw [e0] at hE
       split at hE
       ·rename_i h; exact ⟨h, hE.symm⟩
       ·rename_i h; exact absurd hE.symm h
      rw [if_pos hF.1, if_pos hF.2]
      rw [hJ e0]
      have hrg := fun (H : Heap) (n : Nat) (hm : hget H [4] = some (.map (encE (leaveL v [])) false)) => Zed (C := cfg.at 49) (t := 181) (m := [4]) (s := ⟨H, n, [], false, []⟩) Z9t hm
      have hln := Zeg v []
      have hx3 : v.pumps.length <= 8 := by
       have h := Zei v.pumps.length v.leaks.length v.getters.length
       rw [decide_eq_false o3, Bool.or_eq_false_iff, Bool.or_eq_false_iff] at h
       have := h.1.1
       simp only [decide_eq_false_iff_not] at this
       omega
      have hx2 : v.pipes.length <= 16 := by omega
      clear hfc hJ hE
      generalize hes : leaveL v [] = es at *
      simp -implicitDefEqProofs only [redoH, redo1, go_sem, hT, e0, backJ, hlc, hrg]
      simp only [Tr.all_bind]
      refine Zmc (fun k T s' => T.length = 77 /\ nth T 69 = some (.ptr [5] 0) /\ ∃ (left : List (Int × Rg)) (cur : Option (AV × AV)) (n : Nat) (H : Heap), k = left.length /\ s' = ⟨H, n + 6, [], false, []⟩ /\ hget H [5] = some (.mapIter [4] (encE left) cur) /\ hget H [4] = some (.map (encE es) true) /\
       (∀ e ∈ es, e ∈ left \/ ¬ 1000000 < e.2.hi) /\ (∀ e ∈ left, e ∈ es)) (k := es.length) (by omega) ?_ ?_
      ·exact ⟨by simp -implicitDefEqProofs only [go_sem, hT], by simp -implicitDefEqProofs only [go_sem, hT], es, none, 0, _, rfl, rfl, rfl, rfl, fun e h => .inl h, fun e h => h⟩
      clear a0 hT T
      rintro k T s' ⟨hT, a69, left, cur, n, H, rfl, rfl, g5, g4, hL, hS⟩
      simp -implicitDefEqProofs only [go_sem, a69]
      simp only [Tr.all_bind]
      refine Zgg g5 g4 (fun h0 => ?_) (fun i hi => ?_)
      ·have hn := Zeh v (fun e he => by
        rw [hes] at he
        rcases hL e he with h | h
        ·have h0' : left = [] := List.map_eq_nil_iff.1 h0
         rw [h0'] at h; cases h
        ·exact h)
       rw [if_neg hn]
       simp -implicitDefEqProofs only [go_sem, hT, Try.results49]
      ·have hi' : i < left.length := by rw [show (encE left).length = left.length from List.length_map _] at hi; exact hi
       have hge : (encE left)[i] = (iV left[i].1, rgV left[i].2) := List.getElem_map _
       have hgd : dropAt (encE left) i = encE (dropAt left i) := Zb3 _ left i
       have hdl := Zb2 left i hi'
       have hdm := Zb1 left i hi'
       have hhit := Zgi v hF.2 left[i] (by rw [hes]; exact hS _ (List.getElem_mem hi'))
       rw [hge, hgd]
       generalize left[i] = e at *
       have u5 : ∀ X, hget (hset H [5] X) [5] = some X := fun X => Zh X g5
       have u4 : ∀ X, hget (hset H [5] X) [4] = some (.map (encE es) true) := fun X => (Z2 H X (by decide)).trans g4
       have w5 : ∀ X Y, hget (([n + 6], Y) :: hset H [5] X) [5] = some X := fun X Y => (Z4 _ _ (Zu (by omega))).trans (u5 X)
       have w4 : ∀ X Y, hget (([n + 6], Y) :: hset H [5] X) [4] = some (.map (encE es) true) := fun X Y => (Z4 _ _ (Zu (by omega))).trans (u4 X)
       have hent := Zl8 (s := ⟨hset H [5] (.mapIter [4] (encE (dropAt left i)) (some (iV e.1, rgV e.2))), n + 6, [], false, []⟩) (u5 _) (u4 _)
       simp only [rgV, iV] at hent
       by_cases ov : 1000000 < e.2.hi
       ·rw [if_pos (hhit ov)]
        simp -implicitDefEqProofs only [go_sem, a69, hT, hent, ov, Try.results49]
       ·simp -implicitDefEqProofs only [go_sem, a69, hT, hent, ov]
        refine ⟨(dropAt left i).length, by omega, trivial, trivial, dropAt left i, _, n + 1, _, rfl, rfl, w5 _ _, w4 _ _, fun x hx => ?_, fun x hx => hS x ((hdm x).2 (.inr hx))⟩
        rcases hL x hx with h | h
        ·rcases (hdm x).1 h with rfl | h
         ·exact .inr ov
         ·exact .inl h
        ·exact .inr h
     ·have hF : (if firstE vesE v.vessels = 0 then if partsE v = 0 then if outB v 0 v.vessels.length = true then 14 else 0 else partsE v else firstE vesE v.vessels) = E0 := by
       rw [hE]
       split
       ·rename_i h
        rw [if_pos h] at hE
        rw [if_neg (by rw [<- hE]; exact e0)]
       ·rfl
      rw [hF]
      simp -implicitDefEqProofs only [go_sem, hT, e0, Try.results49]
end Go.Proofs.Ytgnpnfkncbnjnaa
namespace Go.Am
open Go
section
variable {H : Heap} {X Y : Blk} {a b k c k' c' : Nat}
theorem n11 (h : a ≠ b) : ([a] : Nm) ≠ [b] := fun e => h (by injection e)
theorem n13 : ([a] : Nm) ≠ [b, k, c] := fun e => by injection e with _ e; cases e
theorem n31 : ([a, k, c] : Nm) ≠ [b] := fun e => by injection e with _ e; cases e
theorem n33 (h : a ≠ b) : ([a, k, c] : Nm) ≠ [b, k', c'] := fun e => h (by injection e)
theorem hc11 (h : a ≠ b) : hget (([a], X) :: H) [b] = hget H [b] := Z4 X H (n11 h)
theorem hc13 : hget (([a], X) :: H) [b, k, c] = hget H [b, k, c] := Z4 X H n13
theorem hc31 : hget (([a, k, c], X) :: H) [b] = hget H [b] := Z4 X H n31
theorem hs11 (h : a ≠ b) : hget (hset H [a] X) [b] = hget H [b] := Z2 H X (n11 h)
theorem hs13 : hget (hset H [a] X) [b, k, c] = hget H [b, k, c] := Z2 H X n13
theorem hs31 : hget (hset H [a, k, c] X) [b] = hget H [b] := Z2 H X n31
theorem hd11 (h : a ≠ b) : hget (hdel H [a]) [b] = hget H [b] := Zl H (n11 h)
theorem hd31 : hget (hdel H [a, k, c]) [b] = hget H [b] := Zl H n31
theorem Z9x {i j : Nm} (h : i ≠ j) : hset ((i, Y) :: H) j X = (i, Y) :: hset H j X := by
 show (match eqb i j with | true => (i, X) :: H | false => (i, Y) :: hset H j X) = _
 rw [Zg h]
theorem Z8k (b : Nm) : hset (hset H b X) b Y = hset H b Y := by
 induction H with
 | nil => rfl
 | cons e t ih =>
  obtain ⟨i, y⟩ := e
  by_cases he : i = b
  ·subst he
   show hset (match eqb i i with | true => (i, X) :: t | false => (i, y) :: hset t i X) i Y = (match eqb i i with | true => (i, Y) :: t | false => (i, y) :: hset t i Y)
   rw [Zi]; simp only
   show (match eqb i i with | true => (i, Y) :: t | false => (i, X) :: hset t i Y) = _
   rw [Zi]
  ·rw [Z9x he, Z9x he, Z9x he, ih]
end
theorem hss {H : Heap} {b : Nm} {X Y : Blk} (h : hget H b = some Y) : hget (hset H b X) b = some X := Zh X h
section
variable {x : Option Blk} {r : Delta} {a b k c k' c' : Nat}
theorem lkn (q : Nm) : lkD [] q = none := rfl
theorem Z0c {i q : Nm} (h : i ≠ q) : lkD ((i, x) :: r) q = lkD r q := by show (if i = q then some x else lkD r q) = _; rw [if_neg h]
theorem Za (i : Nm) : lkD ((i, x) :: r) i = some x := by show (if i = i then some x else lkD r i) = _; rw [if_pos rfl]
theorem lk11 (h : a ≠ b) : lkD (([a], x) :: r) [b] = lkD r [b] := Z0c (n11 h)
theorem lk13 : lkD (([a], x) :: r) [b, k, c] = lkD r [b, k, c] := Z0c n13
theorem lk31 : lkD (([a, k, c], x) :: r) [b] = lkD r [b] := Z0c n31
theorem lk33 (h : a ≠ b) : lkD (([a, k, c], x) :: r) [b, k', c'] = lkD r [b, k', c'] := Z0c (n33 h)
theorem Jm (h : k ≠ k') : lkD (([a, k, c], x) :: r) [b, k', c'] = lkD r [b, k', c'] := Z0c fun e => h (by injection e with _ e; injection e)
end
def mutV (b : Nm) : Nat -> AV
 | 0 => .nils
 | n + 1 => .slice b 0 (n + 1) (n + 1) false
theorem Zej (b : Nm) (n : Nat) : mutV b (n + 1) = .slice b 0 (n + 1) (n + 1) false := rfl
noncomputable def dropRow (n : Nat) (b : Nm) (H : Heap) : Heap := match n with | 0 => H | _ + 1 => hdel H b
def rowJ (n : Nat) (b : Nm) (j : Delta) : Delta := match n with | 0 => j | _ + 1 => (b, none) :: j
theorem Z0p (n : Nat) {b c : Nm} (H : Heap) (h : b ≠ c) : hget (dropRow n b H) c = hget H c := by
 cases n with
 | zero => rfl
 | succ n => exact Zl H h
section
variable {C : Cfg} {sT e : TypeId} {i : TI} {zv : AV}
theorem Zca (l : List AV) (n : Nat) (h : l.length = n) : readN l 0 n = some l := by
 subst h
 have e := Z71 [] l []
 simpa using e
theorem Z2x (hd : C.desc sT = some (.slice e)) (hi : C.ty.get e = some i) (hz : i.zero = some zv) (hzl : Nat.beq zv.cells.length i.size = true) (h1 : Nat.ble 1 i.size = true) (hb : Nat.ble 1 i.bytes = true)
  {b : Nm} {cs : List AV} {x : AV} {H : Heap} {m n z : Nat} {p : Nm} {jr : Bool} {j : Delta} (hzz : i.size = z) (hx : Nat.beq x.cells.length i.size = true) (hroom : (m + 1) * i.bytes <= 140737488355328) (hcs : cs.length = m * z) (ht : m ≠ 0 -> hget H b = some (.cells cs true z)) :
  appendA C false sT sT (mutV b m) (.lst [x]) ⟨H, n, p, jr, j⟩ = .ret (mutV (p ++ [n]) (m + 1), ⟨(p ++ [n], .cells (cs ++ x.cells) true z) :: dropRow m b H, n + 1, p, jr, match jr with | true => (p ++ [n], some (.cells (cs ++ x.cells) true z)) :: rowJ m b j | false => j⟩) := by
 subst hzz
 unfold appendA
 have hsrc : srcA i zv (.slice e) (.lst [x]) = M.ret (1, x.cells) := by
  show (match okZ i.size [x] with | true => M.ret (([x] : List AV).length, flatA [x]) | false => M.fail) = _
  simp only [okZ, hx, flatA, List.append_nil]; rfl
 rw [hd]; simp only
 rw [hi]; simp only
 rw [hz]; simp only
 rw [hzl]; simp only
 rw [hsrc, Zd, Yc, Tr.bind_ret]
 have hr : roomy m 1 i.bytes = true := by
  unfold roomy
  rw [hb, Nat.ble_eq_true_of_le hroom]
 cases m with
 | zero =>
  have hc0 : cs = [] := by cases cs with | nil => rfl | cons a r => simp at hcs
  subst hc0
  show appendTo i .nils 1 x.cells _ = _
  unfold appendTo
  simp only [hr]
  unfold grow
  rw [Zd, J1, Tr.bind_ret]
  cases jr <;> rfl
 | succ m =>
  have hg := ht (by omega)
  show appendTo i (.slice b 0 (m + 1) (m + 1) false) 1 x.cells _ = _
  unfold appendTo
  have ho : oldA cs 0 (m + 1) i.size = some cs := Zca cs _ hcs
  simp only [Zd, Ym, hg, hr, Tr.bind_ret, ho, Nat.beq_refl, h1, Zau]
  unfold grow
  rw [Zd, J1, Tr.bind_ret]
  cases jr <;> rfl
end
end Go.Am
namespace Go.Am
open Go
structure Bare (cs : List AV) : Prop where
 nm : ∀ op r, namesVs op cs r = r
 rn : ∀ mp, renVs mp cs = some cs
theorem Zgj : Bare [] := ⟨fun _ _ => rfl, fun _ => rfl⟩
theorem Z1a (op : Bool) : ∀ (a b : List AV) (r : List Nm), namesVs op (a ++ b) r = namesVs op a (namesVs op b r)
 | [], b, r => rfl
 | x :: a, b, r => by
  show namesV op x (namesVs op (a ++ b) r) = namesV op x (namesVs op a (namesVs op b r))
  rw [Z1a op a b r]
theorem Z3b (mp : List (Nm × Nm)) : ∀ (a b a' b' : List AV), renVs mp a = some a' -> renVs mp b = some b' -> renVs mp (a ++ b) = some (a' ++ b')
 | [], b, a', b', h1, h2 => by injection h1 with h1; subst h1; exact h2
 | x :: a, b, a', b', h1, h2 => by
  unfold renVs at h1
  cases hx : renV mp x with
  | none => rw [hx] at h1; cases h1
  | some y =>
   rw [hx] at h1; simp only at h1
   cases ha : renVs mp a with
   | none => rw [ha] at h1; cases h1
   | some a1 =>
    rw [ha] at h1
    injection h1 with h1; subst h1
    show renVs mp (x :: (a ++ b)) = _
    unfold renVs
    rw [hx]; simp only
    rw [Z3b mp a b a1 b' ha h2]; rfl
theorem Bare.append {a b : List AV} (ha : Bare a) (hb : Bare b) : Bare (a ++ b) :=
 ⟨fun op r => by rw [Z1a, hb.nm, ha.nm], fun mp => Z3b mp a b a b (ha.rn mp) (hb.rn mp)⟩
theorem Z3c {α : Type} {g : α -> List AV} (h : ∀ a, Bare (g a)) : ∀ l : List α, Bare (l.flatMap g)
 | [] => Zgj
 | a :: l => by rw [List.flatMap_cons]; exact (h a).append (Z3c h l)
section
variable {C : Cfg} {K : Nat}
theorem Ja {f : FuncId} {fn : Func} {args args' : List AV} {bs : List Nm} {xs xs0 ys' zs' : List Blk} {v' : AV} {H : Heap} {n : Nat} {p : Nm} {jr : Bool} {j : Delta} {s2 s3 : St}
  (hm : C.mode.get f = some 3) (hf : C.fn.get f = some fn)
  (hl : lendM 200 (namesVs false args []) [] [] ⟨H, n, p, jr, j⟩ = .ret ((bs, xs), ⟨H, n, p, jr, j⟩)) (hnd : nodupN bs = true) (hcalm : calm xs = true)
  (hra : renVs (zipN bs (namesFrom [] 0 bs.length)) args = some args') (hrx : renBs (zipN bs (namesFrom [] 0 bs.length)) xs = some xs0)
  (hd : (bodyA (C.at f) (acall C K) (around C K) (K + 1) fn args' ⟨zipB (namesFrom [] 0 bs.length) xs0, bs.length, [], false, []⟩).Does fun x => ∃ ys ns zs, getAll x.2.H (namesFrom [] 0 bs.length) = some ys /\
   reachL x.2.H 200 (namesV true x.1 (namesBs true ys [])) (namesFrom [] 0 bs.length) [] = some (ns, zs) /\ nodupN ns = true /\ renV (zipN ns (bs ++ namesFrom p n zs.length)) x.1 = some v' /\ renBs (zipN ns (bs ++ namesFrom p n zs.length)) ys = some ys' /\ renBs (zipN ns (bs ++ namesFrom p n zs.length)) zs = some zs')
  (hput : putAll bs ys' ⟨H, n, p, jr, j⟩ = .ret ((), s2)) (hnew : newAll zs' s2 = .ret ((), s3)) :
  acall C (K + 1) f args ⟨H, n, p, jr, j⟩ = .ret (v', s3) := by
 obtain ⟨⟨v1, s1⟩, e1, ys, ns, zs, e2, e3, e4, e5, e6, e7⟩ := hd
 simp only at e2 e3 e5
 rw [Yb]
 unfold enterA
 rw [hf]; simp only
 rw [hm]; simp only
 unfold handA
 rw [Zd, hl]
 simp only [Tr.bind_ret, hnd, hcalm, hra, hrx]
 rw [e1]
 have ho : oneR false (.ret (v1, s1)) = some (v1, s1.H) := rfl
 rw [ho]; simp only
 rw [e2]; simp only
 rw [e3]; simp only
 rw [e4]; simp only
 rw [Zd]
 show (Tr.ret ((p, n), (⟨H, n, p, jr, j⟩ : St))).bind _ = _
 rw [Tr.bind_ret]
 simp only [e5, e6, e7]
 rw [Zd, hput, Tr.bind_ret, Zd, hnew, Tr.bind_ret]
 rfl
theorem Jn {H : Heap} {k : Nat} {b : Nm} {r bs : List Nm} {xs : List Blk} {cs : List AV} {w : Bool} {u : Nat} (hm : memNm b bs = false) (hg : hget H b = some (.cells cs w u)) (hb : Bare cs) : reachL H (k + 1) (b :: r) bs xs = reachL H k r (bs ++ [b]) (xs ++ [.cells cs w u]) := by
 rw [Xi, hm]
 simp only [hg]
 show reachL H k (namesVs true cs r) _ _ = _
 rw [hb.nm]
theorem Jo {mp : List (Nm × Nm)} {cs : List AV} {u : Nat} (hb : Bare cs) : renB mp (.cells cs true u) = some (.cells cs true u) := by
 unfold renB; simp only [hb.rn]
theorem Z9y {f : FuncId} {fn : Func} {args : List AV} {n1 n2 n3 : Nat} {c1 c2 c3 tl : List AV} {H : Heap} {n : Nat} {p : Nm} {jr : Bool} {j : Delta}
  (hm : C.mode.get f = some 3) (hf : C.fn.get f = some fn) (hn : namesVs false args [] = []) (hr : renVs [] args = some args) (h1 : Bare c1) (h2 : Bare c2) (h3 : Bare c3) (ht : Bare tl)
  (hd : (bodyA (C.at f) (acall C K) (around C K) (K + 1) fn args s0).Does fun x => ∃ b1 b2 b3, x.1 = .agg (.slice b1 0 n1 n1 false :: .slice b2 0 n2 n2 false :: .slice b3 0 n3 n3 false :: tl) /\ eqb b1 b2 = false /\ eqb b1 b3 = false /\ eqb b2 b1 = false /\ eqb b2 b3 = false /\ eqb b3 b1 = false /\ eqb b3 b2 = false /\
   hget x.2.H b1 = some (.cells c1 true 2) /\ hget x.2.H b2 = some (.cells c2 true 2) /\ hget x.2.H b3 = some (.cells c3 true 2)) :
  acall C (K + 1) f args ⟨H, n, p, jr, j⟩ = .ret (.agg (.slice (p ++ [n]) 0 n1 n1 false :: .slice (p ++ [n + 1]) 0 n2 n2 false :: .slice (p ++ [n + 2]) 0 n3 n3 false :: tl),
   ((St.new ⟨H, n, p, jr, j⟩ (.cells c1 true 2)).new (.cells c2 true 2)).new (.cells c3 true 2)) := by
 refine Ja (bs := []) (xs := []) (xs0 := []) (ys' := []) (zs' := [.cells c1 true 2, .cells c2 true 2, .cells c3 true 2]) hm hf (by rw [hn]; rfl) rfl rfl hr rfl ?_ rfl rfl
 refine hd.mono ?_
 rintro ⟨v, s⟩ ⟨b1, b2, b3, rfl, n12, n13, n21, n23, n31, n32, g1, g2, g3⟩
 refine ⟨[], [b1, b2, b3], [.cells c1 true 2, .cells c2 true 2, .cells c3 true 2], rfl, ?_, by simp only [nodupN, memNm, n12, n13, n23], ?_, rfl, by simp only [renBs, Jo h1, Jo h2, Jo h3]⟩
 ·show reachL s.H (199 + 1) (b1 :: b2 :: b3 :: namesVs true tl []) [] [] = _
  rw [ht.nm, Jn rfl g1 h1]
  show reachL s.H (198 + 1) [b2, b3] [b1] _ = _
  rw [Jn (by simp only [memNm, n21]) g2 h2]
  show reachL s.H (197 + 1) [b3] [b1, b2] _ = _
  rw [Jn (by simp only [memNm, n31, n32]) g3 h3]
  rfl
 ·show renV [(b1, p ++ [n]), (b2, p ++ [n + 1]), (b3, p ++ [n + 1 + 1])] _ = _
  simp only [renV, renVs, lookN, Zi, n21, n31, n32, ht.rn]
theorem Z9z {f : FuncId} {fn : Func} {args : List AV} {n1 n2 : Nat} {c1 c2 tl : List AV} {H : Heap} {n : Nat} {p : Nm} {jr : Bool} {j : Delta}
  (hm : C.mode.get f = some 3) (hf : C.fn.get f = some fn) (hn : namesVs false args [] = []) (hr : renVs [] args = some args) (h1 : Bare c1) (h2 : Bare c2) (ht : Bare tl)
  (hd : (bodyA (C.at f) (acall C K) (around C K) (K + 1) fn args s0).Does fun x => ∃ b1 b2, x.1 = .agg (.slice b1 0 n1 n1 false :: .slice b2 0 n2 n2 false :: tl) /\ eqb b1 b2 = false /\ eqb b2 b1 = false /\
   hget x.2.H b1 = some (.cells c1 true 2) /\ hget x.2.H b2 = some (.cells c2 true 2)) :
  acall C (K + 1) f args ⟨H, n, p, jr, j⟩ = .ret (.agg (.slice (p ++ [n]) 0 n1 n1 false :: .slice (p ++ [n + 1]) 0 n2 n2 false :: tl),
   (St.new ⟨H, n, p, jr, j⟩ (.cells c1 true 2)).new (.cells c2 true 2)) := by
 refine Ja (bs := []) (xs := []) (xs0 := []) (ys' := []) (zs' := [.cells c1 true 2, .cells c2 true 2]) hm hf (by rw [hn]; rfl) rfl rfl hr rfl ?_ rfl rfl
 refine hd.mono ?_
 rintro ⟨v, s⟩ ⟨b1, b2, rfl, n12, n21, g1, g2⟩
 refine ⟨[], [b1, b2], [.cells c1 true 2, .cells c2 true 2], rfl, ?_, by simp only [nodupN, memNm, n12], ?_, rfl, by simp only [renBs, Jo h1, Jo h2]⟩
 ·show reachL s.H (199 + 1) (b1 :: b2 :: namesVs true tl []) [] [] = _
  rw [ht.nm, Jn rfl g1 h1]
  show reachL s.H (198 + 1) [b2] [b1] _ = _
  rw [Jn (by simp only [memNm, n21]) g2 h2]
  rfl
 ·show renV [(b1, p ++ [n]), (b2, p ++ [n + 1])] _ = _
  simp only [renV, renVs, lookN, Zi, n21, ht.rn]
end
end Go.Am
namespace Go.Am
open Go
theorem Zgk (x : Int) : wrapF .i64 x % 18446744073709551616 = x % 18446744073709551616 := by
 show wrapS 18446744073709551616 9223372036854775808 x % _ = _
 unfold wrapS
 split <;> omega
theorem Zcb {x y : Int} (h : x % 18446744073709551616 = y % 18446744073709551616) : wrapF .i64 x = wrapF .i64 y := by
 show wrapS 18446744073709551616 9223372036854775808 x = wrapS 18446744073709551616 9223372036854775808 y
 unfold wrapS
 split <;> split <;> omega
theorem Z4u (m a : Int) : wrapF .i64 (m + wrapF .i64 a) = wrapF .i64 (m + a) := by
 apply Zcb
 have h := Zgk a
 generalize wrapF .i64 a = w at *
 omega
theorem Z8l (m a : Int) : wrapF .i64 (wrapF .i64 m + a) = wrapF .i64 (m + a) := by
 rw [Int.add_comm, Z4u, Int.add_comm]
end Go.Am
namespace Go.Proofs.Ytgnpnfkncbnjnaa
attribute [local go_sem_proc] Int.reduceEq Int.reduceNeg Nat.reduceEqDiff Nat.reduceLT Nat.reduceAdd Nat.reduceSub Nat.reduceMul Int.reduceLE Int.reduceLT Int.reduceToNat Nat.reduceLeDiff
attribute [local go_sem] Int.toNat_natCast Bool.not_true Bool.not_false
open Go Go.Am
attribute [local congr] Ze Zb Zc
attribute [local go_sem] Go.Am.buildSliceA Go.Am.frozen Go.Am.freezeG Go.Am.freezeGs Go.Am.minmax
def rgC (r : Rg) : List AV := [.int .i64 r.lo, .int .i64 r.hi]
theorem Z1p (r : Rg) : (rgC r).length = 2 := rfl
theorem Zgl (r : Rg) : Bare (rgC r) := ⟨fun _ _ => rfl, fun _ => rfl⟩
theorem Yi (l : List Rg) : Bare (l.flatMap rgC) := Z3c Zgl l
theorem Z3o (l : List Rg) : (l.flatMap rgC).length = l.length * 2 := Z0o Z1p l
theorem Jp (l : List Rg) (r : Rg) : (l ++ [r]).flatMap rgC = l.flatMap rgC ++ (rgV r).cells := by rw [List.flatMap_append]; rfl
def mostF : Int -> List Ves -> Int
 | m, [] => m
 | m, x :: r => mostF (wrapF .i64 (m + (x.free.hi + x.bound.hi))) r
def beginG (v : Vac) : Gs := ⟨v.vessels.map Ves.free, v.vessels.map Ves.bound, v.getters.map Gtr.room, mostF 0 v.vessels, false⟩
theorem Z6a : cfg.desc 50 = some (.slice 26) := by kernel_rfl
def gasM (b1 b2 b3 : Nm) (g : Gs) : AV := .agg [mutV b1 g.free.length, mutV b2 g.bound.length, mutV b3 g.room.length, .int .i64 g.most, .bool g.flashed]
theorem Zcc (v : Vac) (K : Nat) (hv : v.Lens K) (h8 : v.vessels.length <= 1000000) (hg8 : v.getters.length <= 1000000) :
  (bodyA (cfg.at 94) (acall cfg K) (around cfg K) (K + 1) Try.f94 [vacV v] s0).Does fun x => ∃ (a d : Nat), x.1 = gasM [a, 5, 0] [a, 11, 0] [d] (beginG v) /\
   (v.vessels ≠ [] -> hget x.2.H [a, 5, 0] = some (.cells ((v.vessels.map Ves.free).flatMap rgC) true 2) /\ hget x.2.H [a, 11, 0] = some (.cells ((v.vessels.map Ves.bound).flatMap rgC) true 2)) /\
   (v.getters ≠ [] -> hget x.2.H [d] = some (.cells ((v.getters.map Gtr.room).flatMap rgC) true 2)) := by
 refine Z6 rfl fun T hT' hA => ?_
 have a0 := hA 0 _ rfl
 have hT : T.length = 57 := hT'
 clear hA hT'
 obtain ⟨⟨hv1, hv2⟩, ⟨hp1, hp2⟩, ⟨hm1, hm2⟩, ⟨hi1, hi2⟩, ⟨hg1, hg2⟩, hbd⟩ := hv
 simp -implicitDefEqProofs only [go_sem, a0, hT]
 simp only [Z1]
 refine Zf (fun k T s' => T.length = 57 /\ nth T 1 = some (.ptr [0] 0) /\ nth T 2 = some (.ptr [1] 0) /\ nth T 3 = some (.ptr [2] 0) /\ nth T 9 = some (.lst (v.vessels.map vesV)) /\ nth T 10 = some (.int .i64 v.vessels.length) /\ ∃ (i n c : Nat) (H : Heap) (m : Int), nth T 11 = some (.int .i64 i) /\ i <= v.vessels.length /\ k = v.vessels.length - i /\ s' = ⟨H, n + 3, [], false, []⟩ /\ c < n + 3 /\ hget H [0] = some (.cells [.lst (v.vessels.map vesV), .lst (v.pipes.map pipV), .lst (v.pumps.map pmpV), .lst (v.leaks.map inlV), .lst (v.getters.map gtrV)] true 0) /\
   hget H [1] = some (.cells [.nils, .nils, .nils, .int .i64 0, .bool false] true 0) /\ hget H [2] = some (.cells [mutV [c, 5, 0] i, mutV [c, 11, 0] i, .nils, .int .i64 m, .bool false] true 0) /\ (i ≠ 0 -> hget H [c, 5, 0] = some (.cells (((v.vessels.take i).map Ves.free).flatMap rgC) true 2) /\ hget H [c, 11, 0] = some (.cells (((v.vessels.take i).map Ves.bound).flatMap rgC) true 2)) /\
   mostF 0 v.vessels = mostF m (v.vessels.drop i)) (k := v.vessels.length) (by omega) ?_ ?_
 ·exact ⟨by simp -implicitDefEqProofs only [go_sem, hT], by simp -implicitDefEqProofs only [go_sem, hT], by simp -implicitDefEqProofs only [go_sem, hT], by simp -implicitDefEqProofs only [go_sem, hT], by simp -implicitDefEqProofs only [go_sem, hT], by simp -implicitDefEqProofs only [go_sem, hT], 0, 0, 0, _, 0, by simp -implicitDefEqProofs only [go_sem, hT] <;> rfl, by omega, rfl, rfl, by omega, rfl, rfl, rfl, fun h => absurd rfl h, rfl⟩
 clear a0 hT T
 rintro k T s' ⟨hT, a1, a2, a3, a9, a10, i, n, c, H, m, a11, hi, rfl, rfl, hc, g0, g1, g2, gr, hm⟩
 simp -implicitDefEqProofs only [go_sem, a10, a11, hT]
 by_cases hil : (i : Int) < (v.vessels.length : Int)
 ·have hi' : i < v.vessels.length := by omega
  have e1 := Z9 (f := vesV) (l := v.vessels) (i := i) (z := 6) hi' rfl
  have hkk : v.vessels.length - (i + 1) < v.vessels.length - i := by omega
  have htk : v.vessels.take (i + 1) = v.vessels.take i ++ [v.vessels[i]] := List.take_succ_eq_append_getElem hi'
  have hln : ((v.vessels.take i).map Ves.free).length = i := by simp; omega
  have hln2 : ((v.vessels.take i).map Ves.bound).length = i := by simp; omega
  rw [List.drop_eq_getElem_cons hi'] at hm
  have hi1 : i + 1 <= v.vessels.length := hi'
  have hn4 : n + 4 < n + 2 + 3 := by omega
  generalize v.vessels[i] = x at *
  simp only [mostF] at hm
  have hap := fun (cs : List AV) (m n : Nat) (b p : Nm) (H : Heap) (r : Rg) (hr : (m + 1) * 16 <= 140737488355328) (hcs : cs.length = m * 2) (hg : m ≠ 0 -> hget H b = some (.cells cs true 2)) => Z2x (C := cfg.at 94) (sT := 50) (b := b) (cs := cs) (x := rgV r) (H := H) (m := m) (n := n) (p := p) (jr := true) (j := []) (z := 2) Z6a Z36 rfl rfl rfl rfl rfl rfl hr hcs hg
  by_cases i0 : i = 0
  ·subst i0
   have hap0 := fun (n : Nat) (p : Nm) (H : Heap) (r : Rg) => hap [] 0 n [] p H r (by omega) rfl (fun h => absurd rfl h)
   simp only [mutV, dropRow, rowJ, rgV, AV.cells, List.nil_append] at hap0 g2
   have hw1 : wrapF .i64 (((0 : Nat) : Int) + 1) = ((0 + 1 : Nat) : Int) := rfl
   simp -implicitDefEqProofs only [go_sem, a9, a11, hT, hil, e1]
   try simp only [Z1]
   refine Z7 [[], [0], [], [2], [3, 2], [1, 0, 4, 3, 2], [], [6], [], [8], [9, 8], [7, 6, 10, 9, 8, 5, 1, 0, 4, 3, 2], [5, 1, 0, 4, 3, 2, 7, 6], [12, 11, 10, 9, 8, 5, 1, 0, 4, 3, 2, 7, 6], [13, 12, 11, 10, 9, 8, 5, 1, 0, 4, 3, 2, 7, 6], [14, 13, 12, 11, 10, 9, 8, 5, 1, 0, 4, 3, 2, 7, 6]] [[], [], [], [], [], [], [], [], [], [], [], [], [], [[2]], [], [[2]]] (by kernel_rfl) rfl rfl ?_
   simp -implicitDefEqProofs only [go_sem, Z0, lkn, Za, lk11, lk31, Option.getD_some, Option.getD_none, a1, a2, a3, a9, a10, a11, hT, g2, hap0 _ _ _ ⟨x.free.lo, x.free.hi⟩, hap0 _ _ _ ⟨x.bound.lo, x.bound.hi⟩]
   refine ⟨v.vessels.length - (0 + 1), hkk, trivial, trivial, trivial, trivial, trivial, trivial, 0 + 1, n + 2, n + 4, _, wrapF .i64 (m + wrapF .i64 (x.free.hi + x.bound.hi)), by rw [hw1], hi1, rfl, rfl, hn4, ?_, ?_, ?_, fun _ => ⟨?_, ?_⟩, ?_⟩
   all_goals clear hw1
   ·simp (disch := omega) only [hc11, hs11, Z0, lkn, lk11, lk31, Option.getD_none, g0]
   ·simp (disch := omega) only [hc11, hs11, Z0, lkn, lk11, lk31, Option.getD_none, g1]
   ·exact hss (Y := .cells _ true 0) (by simp (disch := omega) only [hc11, Z0, Za, Option.getD_some, g2]; rfl)
   ·rw [htk, List.map_append, List.map_cons, List.map_nil, Jp]
    simp (disch := omega) only [hc13, hs13, Z0, Za, lk13, Jm, Option.getD_some]
    rfl
   ·rw [htk, List.map_append, List.map_cons, List.map_nil, Jp]
    simp (disch := omega) only [hc13, hs13, Z0, Za, lk13, Option.getD_some]
    rfl
   ·rw [hm, Z4u]
  ·obtain ⟨i, rfl⟩ : ∃ q, i = q + 1 := ⟨i - 1, by omega⟩
   obtain ⟨r1, r2⟩ := gr (by omega)
   have hapF := fun (n : Nat) (p : Nm) (H : Heap) (r : Rg) (hg : hget H [c, 5, 0] = some (.cells (((v.vessels.take (i + 1)).map Ves.free).flatMap rgC) true 2)) => hap _ (i + 1) n [c, 5, 0] p H r (by omega) (by rw [Z3o, hln]) (fun _ => hg)
   have hapB := fun (n : Nat) (p : Nm) (H : Heap) (r : Rg) (hg : hget H [c, 11, 0] = some (.cells (((v.vessels.take (i + 1)).map Ves.bound).flatMap rgC) true 2)) => hap _ (i + 1) n [c, 11, 0] p H r (by omega) (by rw [Z3o, hln2]) (fun _ => hg)
   simp only [mutV, dropRow, rowJ, rgV, AV.cells] at hapF hapB g2
   have d1 : ∀ X, hget (hdel (([n + 3], X) :: H) [c, 5, 0]) [2] = hget H [2] := fun X => by simp (disch := omega) only [hc11, hd31]
   have d2 : ∀ X, hget (hdel (([n + 3], X) :: H) [c, 5, 0]) [n + 3] = some X := fun X => by simp (disch := omega) only [Z3, hd31]
   have e11 : ∀ X, hget (([n + 3], X) :: H) [c, 11, 0] = hget H [c, 11, 0] := fun X => hc13
   have e5 : ∀ X, hget (([n + 3], X) :: H) [c, 5, 0] = hget H [c, 5, 0] := fun X => hc13
   have nc : (n + 3 + 1 = c) = False := by simp; omega
   have nc' : (c = n + 3 + 1) = False := by simp; omega
   have hw1 : wrapF .i64 (((i + 1 : Nat) : Int) + 1) = ((i + 1 + 1 : Nat) : Int) := Z5 (by omega) (by omega)
   have d3 : hget (hdel H [c, 5, 0]) [2] = hget H [2] := hd31
   simp -implicitDefEqProofs only [go_sem, a9, a11, hT, hil, e1]
   try simp only [Z1]
   refine Z7 [[], [0], [], [2], [3, 2], [1, 0, 4, 3, 2], [], [6], [], [8], [9, 8], [7, 6, 10, 9, 8, 5, 1, 0, 4, 3, 2], [5, 1, 0, 4, 3, 2, 7, 6], [12, 11, 10, 9, 8, 5, 1, 0, 4, 3, 2, 7, 6], [13, 12, 11, 10, 9, 8, 5, 1, 0, 4, 3, 2, 7, 6], [14, 13, 12, 11, 10, 9, 8, 5, 1, 0, 4, 3, 2, 7, 6]] [[], [], [], [], [], [[c, 5, 0]], [], [], [], [], [], [[c, 11, 0]], [], [[2]], [], [[2]]] (by kernel_rfl) rfl rfl ?_
   simp -implicitDefEqProofs only [go_sem, Z0, lkn, Za, lk11, lk31, lk33, Jm, Option.getD_some, Option.getD_none, a1, a2, a3, a9, a10, a11, hT, g2, r1, r2, e5, e11, nc, d3, Z8, hapF _ _ _ ⟨x.free.lo, x.free.hi⟩, hapB _ _ _ ⟨x.bound.lo, x.bound.hi⟩]
   refine ⟨v.vessels.length - (i + 1 + 1), hkk, trivial, trivial, trivial, trivial, trivial, trivial, i + 1 + 1, n + 2, n + 4, _, wrapF .i64 (m + wrapF .i64 (x.free.hi + x.bound.hi)), by rw [hw1], hi1, rfl, rfl, hn4, ?_, ?_, ?_, fun _ => ⟨?_, ?_⟩, ?_⟩
   all_goals clear hw1
   ·simp (disch := omega) only [hc11, hs11, Z0, lkn, lk11, lk31, Option.getD_none, g0]
   ·simp (disch := omega) only [hc11, hs11, Z0, lkn, lk11, lk31, Option.getD_none, g1]
   ·exact hss (Y := .cells _ true 0) (by simp (disch := omega) only [hc11, Z0, Za, Option.getD_some, g2]; rfl)
   ·rw [htk, List.map_append, List.map_cons, List.map_nil, Jp]
    simp (disch := omega) only [hc13, hs13, Z0, Za, lk13, lk33, Jm, Option.getD_some]
    rfl
   ·rw [htk, List.map_append, List.map_cons, List.map_nil, Jp]
    simp (disch := omega) only [hc13, hs13, Z0, Za, lk13, Option.getD_some]
    rfl
   ·rw [hm, Z4u]
 ·have hie : i = v.vessels.length := by omega
  subst hie
  rw [List.drop_length] at hm
  rw [List.take_length] at gr
  simp only [mostF] at hm
  have hN : v.vessels ≠ [] -> hget H [c, 5, 0] = some (.cells ((v.vessels.map Ves.free).flatMap rgC) true 2) /\ hget H [c, 11, 0] = some (.cells ((v.vessels.map Ves.bound).flatMap rgC) true 2) := fun h => gr (fun e => h (List.length_eq_zero_iff.1 e))
  clear gr
  simp -implicitDefEqProofs only [go_sem, a1, hT, hil, g0]
  simp only [Z1]
  refine Zf (fun k T s' => T.length = 57 /\ nth T 2 = some (.ptr [1] 0) /\ nth T 3 = some (.ptr [2] 0) /\ nth T 42 = some (.lst (v.getters.map gtrV)) /\ nth T 43 = some (.int .i64 v.getters.length) /\ ∃ (i n d : Nat) (H : Heap), nth T 44 = some (.int .i64 i) /\ i <= v.getters.length /\ k = v.getters.length - i /\ s' = ⟨H, n + 3, [], false, []⟩ /\
   hget H [1] = some (.cells [.nils, .nils, .nils, .int .i64 0, .bool false] true 0) /\ hget H [2] = some (.cells [mutV [c, 5, 0] v.vessels.length, mutV [c, 11, 0] v.vessels.length, mutV [d + 3] i, .int .i64 m, .bool false] true 0) /\ (i ≠ 0 -> d < n /\ hget H [d + 3] = some (.cells (((v.getters.take i).map Gtr.room).flatMap rgC) true 2)) /\
   (v.vessels ≠ [] -> hget H [c, 5, 0] = some (.cells ((v.vessels.map Ves.free).flatMap rgC) true 2) /\ hget H [c, 11, 0] = some (.cells ((v.vessels.map Ves.bound).flatMap rgC) true 2))) (k := v.getters.length) (by omega) ?_ ?_
  ·exact ⟨by simp -implicitDefEqProofs only [go_sem, hT], by simp -implicitDefEqProofs only [go_sem, a2], by simp -implicitDefEqProofs only [go_sem, a3], by simp -implicitDefEqProofs only [go_sem, hT], by simp -implicitDefEqProofs only [go_sem, hT], 0, n, 0, H, by simp -implicitDefEqProofs only [go_sem, hT] <;> rfl, by omega, rfl, rfl, g1, g2, fun h => absurd rfl h, hN⟩
  clear a1 a2 a3 a9 a10 a11 hT T g0 g1 g2 hN H
  rintro k T s' ⟨hT, a2, a3, a42, a43, i, n, d, H, a44, hi, rfl, rfl, g1, g2, gr, hN⟩
  simp -implicitDefEqProofs only [go_sem, a43, a44, hT]
  by_cases hil2 : (i : Int) < (v.getters.length : Int)
  ·have hi' : i < v.getters.length := by omega
   have e1 := Z9 (f := gtrV) (l := v.getters) (i := i) (z := 5) hi' rfl
   have hkk : v.getters.length - (i + 1) < v.getters.length - i := by omega
   have htk : v.getters.take (i + 1) = v.getters.take i ++ [v.getters[i]] := List.take_succ_eq_append_getElem hi'
   have hln : ((v.getters.take i).map Gtr.room).length = i := by simp; omega
   have hi1 : i + 1 <= v.getters.length := hi'
   have hn4 : n + 1 < n + 2 := by omega
   generalize v.getters[i] = x at *
   have hap := fun (cs : List AV) (m n : Nat) (b p : Nm) (H : Heap) (r : Rg) (hr : (m + 1) * 16 <= 140737488355328) (hcs : cs.length = m * 2) (hg : m ≠ 0 -> hget H b = some (.cells cs true 2)) => Z2x (C := cfg.at 94) (sT := 50) (b := b) (cs := cs) (x := rgV r) (H := H) (m := m) (n := n) (p := p) (jr := false) (j := []) (z := 2) Z6a Z36 rfl rfl rfl rfl rfl rfl hr hcs hg
   have hapG := hap _ i (n + 4) [d + 3] [] (([n + 3], .cells [.int .i64 x.at', .int .i64 x.part.lo, .int .i64 x.part.hi, .int .i64 x.room.lo, .int .i64 x.room.hi] true 0) :: H) x.room (by omega) (by rw [Z3o, hln]) (fun h => (hc11 (by have := (gr h).1; omega)).trans (gr h).2)
   simp only [rgV, AV.cells] at hapG
   have f2 : ∀ X, hget (([n + 3], X) :: H) [2] = hget H [2] := fun X => hc11 (by omega)
   have dr1 : ∀ G q, (i ≠ 0 -> q ≠ d + 3) -> hget (dropRow i [d + 3] G) [q] = hget G [q] := fun G q h => by
    cases i with
    | zero => rfl
    | succ i => exact Zl G (n11 (Ne.symm (h (by omega))))
   have dr3 : ∀ G q a b, hget (dropRow i [d + 3] G) [q, a, b] = hget G [q, a, b] := fun G q a b => Z0p i G n13
   have f3 : ∀ X Y, hget (([n + 3 + 1], Y) :: dropRow i [d + 3] (([n + 3], X) :: H)) [2] = hget H [2] := fun X Y => by rw [hc11 (by omega), dr1 _ _ (by omega), f2]
   have hw1 : wrapF .i64 ((i : Int) + 1) = ((i + 1 : Nat) : Int) := Z5 (by omega) (by omega)
   simp -implicitDefEqProofs only [go_sem, a2, a3, a42, a43, a44, hT, hil2, e1, f2, f3, g2, hapG, hw1, Zej]
   clear hw1
   refine ⟨v.getters.length - (i + 1), hkk, trivial, trivial, trivial, trivial, trivial, i + 1, n + 2, n + 1, _, rfl, hi1, rfl, rfl, ?_, ?_, fun _ => ⟨hn4, ?_⟩, fun h => ⟨?_, ?_⟩⟩
   ·rw [hc11 (by omega), hs11 (by omega), dr1 _ _ (by omega), hc11 (by omega)]; exact g1
   ·rw [hc11 (by omega)]
    exact hss ((dr1 _ _ (by omega)).trans ((f2 _).trans g2))
   ·rw [htk, List.map_append, List.map_cons, List.map_nil, Jp]
    exact Z3 ..
   ·rw [hc13, hs13, dr3, hc13]; exact (hN h).1
   ·rw [hc13, hs13, dr3, hc13]; exact (hN h).2
  ·have hie : i = v.getters.length := by omega
   subst hie
   rw [List.take_length] at gr
   have z1 : ∀ X, hget (hset H [1] X) [1] = some X := fun X => Zh X g1
   simp -implicitDefEqProofs only [go_sem, a2, a3, hT, hil2, g1, g2, z1, Try.results94]
   refine ⟨c, d + 3, ?_, fun h => ?_, fun h => ?_⟩
   ·unfold gasM beginG
    simp only [List.length_map, hm]
   ·rw [hs13, hs13]; exact hN h
   ·rw [hs11 (by omega)]
    exact (gr (fun e => h (List.length_eq_zero_iff.1 e))).2
theorem Zl9 (m : Int) (f : Bool) : Bare [.int .i64 m, .bool f] := ⟨fun _ _ => rfl, fun _ => rfl⟩
def gasS (s : St) (g : Gs) : St := match g.room with
 | [] => (s.new (.cells (g.free.flatMap rgC) true 2)).new (.cells (g.bound.flatMap rgC) true 2)
 | _ :: _ => ((s.new (.cells (g.free.flatMap rgC) true 2)).new (.cells (g.bound.flatMap rgC) true 2)).new (.cells (g.room.flatMap rgC) true 2)
theorem Zek (v : Vac) : renVs [] [vacV v] = some [vacV v] := by simp only [renVs, renV, vacV, Xs, Xt, Xu, Xv, Xw]
theorem Zcd (v : Vac) (K : Nat) (H : Heap) (n : Nat) (p : Nm) (jr : Bool) (j : Delta) (hv : v.Lens K) (h8 : v.vessels.length <= 1000000) (hg8 : v.getters.length <= 1000000) (h1 : v.vessels ≠ []) :
  acall cfg (K + 1) 94 [vacV v] ⟨H, n, p, jr, j⟩ = .ret (gasM (p ++ [n]) (p ++ [n + 1]) (p ++ [n + 2]) (beginG v), gasS ⟨H, n, p, jr, j⟩ (beginG v)) := by
 have hb := Zcc v K hv h8 hg8
 obtain ⟨q, hq⟩ : ∃ q, v.vessels.length = q + 1 := ⟨v.vessels.length - 1, by
  have : v.vessels.length ≠ 0 := fun e => h1 (List.length_eq_zero_iff.1 e)
  omega⟩
 by_cases h2 : v.getters = []
 ·have e0 : gasS ⟨H, n, p, jr, j⟩ (beginG v) = (St.new ⟨H, n, p, jr, j⟩ (.cells ((v.vessels.map Ves.free).flatMap rgC) true 2)).new (.cells ((v.vessels.map Ves.bound).flatMap rgC) true 2) := by
   unfold gasS beginG; rw [h2]; rfl
  have e1 : ∀ b1 b2 b3, gasM b1 b2 b3 (beginG v) = .agg (.slice b1 0 (q + 1) (q + 1) false :: .slice b2 0 (q + 1) (q + 1) false :: [.nils, .int .i64 (mostF 0 v.vessels), .bool false]) := fun b1 b2 b3 => by
   unfold gasM beginG; simp only [List.length_map, hq, h2, List.map_nil, List.length_nil]; rfl
  rw [e0, e1]
  refine Z9z Zhj Zhi rfl (Zek v) (Yi _) (Yi _) ⟨fun _ _ => rfl, fun _ => rfl⟩ ?_
  refine hb.mono ?_
  rintro x ⟨a, d, hx, hf, _⟩
  exact ⟨[a, 5, 0], [a, 11, 0], by rw [hx, e1], Zg (by simp), Zg (by simp), (hf h1).1, (hf h1).2⟩
 ·obtain ⟨r, hr⟩ : ∃ r, v.getters.length = r + 1 := ⟨v.getters.length - 1, by
   have : v.getters.length ≠ 0 := fun e => h2 (List.length_eq_zero_iff.1 e)
   omega⟩
  have e0 : gasS ⟨H, n, p, jr, j⟩ (beginG v) = ((St.new ⟨H, n, p, jr, j⟩ (.cells ((v.vessels.map Ves.free).flatMap rgC) true 2)).new (.cells ((v.vessels.map Ves.bound).flatMap rgC) true 2)).new (.cells ((v.getters.map Gtr.room).flatMap rgC) true 2) := by
   unfold gasS beginG
   cases hg : v.getters with
   | nil => exact absurd hg h2
   | cons a l => rfl
  have e1 : ∀ b1 b2 b3, gasM b1 b2 b3 (beginG v) = .agg (.slice b1 0 (q + 1) (q + 1) false :: .slice b2 0 (q + 1) (q + 1) false :: .slice b3 0 (r + 1) (r + 1) false :: [.int .i64 (mostF 0 v.vessels), .bool false]) := fun b1 b2 b3 => by
   unfold gasM beginG; simp only [List.length_map, hq, hr]; rfl
  rw [e0, e1]
  refine Z9y Zhj Zhi rfl (Zek v) (Yi _) (Yi _) (Yi _) (Zl9 _ _) ?_
  refine hb.mono ?_
  rintro x ⟨a, d, hx, hf, hg⟩
  exact ⟨[a, 5, 0], [a, 11, 0], [d], by rw [hx, e1], Zg (by simp), Zg (by simp), Zg (by simp), Zg (by simp), Zg (by simp), Zg (by simp), (hf h1).1, (hf h1).2, hg h2⟩
end Go.Proofs.Ytgnpnfkncbnjnaa
namespace Go.Proofs.Ytgnpnfkncbnjnaa
open Go Go.Am
attribute [local congr] Ze Zb Zc
attribute [local go_sem] Go.Am.buildSliceA Go.Am.minmax
theorem Zel {H : Heap} {d : Nat} (l : List Rg) : freezeD H (d + 1) (l.flatMap rgC) = some (l.flatMap rgC) := by
 show freezeGs (freezeD H d) H _ = _
 refine Z19 (g := rgC) (fun a r t h => ?_) l
 show freezeGs (freezeD H d) H (.int .i64 a.lo :: .int .i64 a.hi :: r) = _
 simp only [freezeGs, freezeG, h]; rfl
theorem Zem {H : Heap} {d : Nat} {b : Nm} (l : List Rg) (hb : l ≠ [] -> hget H b = some (.cells (l.flatMap rgC) true 2)) : freezeG (freezeD H (d + 1)) H (mutV b l.length) = some (.lst (l.map rgV)) := by
 cases l with
 | nil => rfl
 | cons a r =>
  have := Z2t (g := rgC) (z := 2) Z1p (by decide) (f := rgV) (fun _ => rfl) (row := freezeD H (d + 1)) (H := H) (a :: r) (Zel _) (hb (by simp)) (a :: r).length false
  exact this
structure GasAt (H : Heap) (b1 b2 b3 : Nm) (g : Gs) : Prop where
 f : g.free ≠ [] -> hget H b1 = some (.cells (g.free.flatMap rgC) true 2)
 b : g.bound ≠ [] -> hget H b2 = some (.cells (g.bound.flatMap rgC) true 2)
 r : g.room ≠ [] -> hget H b3 = some (.cells (g.room.flatMap rgC) true 2)
theorem Zo7 {H : Heap} {d : Nat} {b1 b2 b3 : Nm} {g : Gs} (h : GasAt H b1 b2 b3 g) : freezeG (freezeD H (d + 1)) H (gasM b1 b2 b3 g) = some (gsV g) := by
 show (match freezeGs (freezeD H (d + 1)) H [mutV b1 g.free.length, mutV b2 g.bound.length, mutV b3 g.room.length, .int .i64 g.most, .bool g.flashed] with | some l => some (AV.agg l) | none => none) = _
 simp only [freezeGs, Zem g.free h.f, Zem g.bound h.b, Zem g.room h.r]
 rfl
def zeroG : Gs := ⟨[], [], [], 0, false⟩
def gasE (e : Int) (g : Gs) : AV := .tuple [gsV (if e = 0 then g else zeroG), .int .i64 e]
@[go_sem] theorem Zo8 (e : Int) (g : Gs) : (gasE e g).flat = true := by
 unfold gasE; simp only [gsV, AV.flat, flats, Z86]
end Go.Proofs.Ytgnpnfkncbnjnaa
namespace Go.Proofs.Ytgnpnfkncbnjnaa
attribute [local go_sem_proc] Int.reduceEq Int.reduceNeg Nat.reduceEqDiff Nat.reduceLT Nat.reduceAdd Nat.reduceSub Nat.reduceMul Int.reduceLE Int.reduceLT Int.reduceToNat Nat.reduceLeDiff
attribute [local go_sem] Int.toNat_natCast Bool.not_true Bool.not_false
open Go Go.Am
attribute [local congr] Ze Zb Zc
attribute [local go_sem] Go.Am.buildSliceA Go.Am.minmax
def gasO (b1 b2 b3 : Nm) (g : Gs) : AV := .agg [ownV b1 (g.free.map rgV), ownV b2 (g.bound.map rgV), ownV b3 (g.room.map rgV), .int .i64 g.most, .bool g.flashed]
theorem Zce {H : Heap} {b1 b2 b3 : Nm} {g : Gs} {e : Int} : Go.Am.frozen H (.tuple [gasO b1 b2 b3 g, .int .i64 e]) = some (.tuple [gsV g, .int .i64 e]) := by
 have ho : ∀ row b (l : List AV), freezeG row H (ownV b l) = some (.lst l) := fun row b l => by cases l <;> rfl
 have h1 : freezeG (freezeD H 6) H (.tuple [gasO b1 b2 b3 g, .int .i64 e]) = some (.tuple [gsV g, .int .i64 e]) := by
  show (match freezeGs (freezeD H 6) H [gasO b1 b2 b3 g, .int .i64 e] with | some l => some (AV.tuple l) | none => none) = _
  have h2 : freezeG (freezeD H 6) H (gasO b1 b2 b3 g) = some (gsV g) := by
   show (match freezeGs (freezeD H 6) H [ownV b1 (g.free.map rgV), ownV b2 (g.bound.map rgV), ownV b3 (g.room.map rgV), .int .i64 g.most, .bool g.flashed] with | some l => some (AV.agg l) | none => none) = _
   simp only [freezeGs, ho]
   rfl
  simp only [freezeGs, h2]
  rfl
 unfold Go.Am.frozen
 rw [h1]
 have h2 : (AV.tuple [gsV g, .int .i64 e]).flat = true := by simp only [gsV, AV.flat, flats, Z86]
 simp only [h2]
theorem Zx (b : Nm) (l : List AV) (x : AV) : ownV b (l ++ [x]) = .own b (l ++ [x]) := by cases l <;> rfl
theorem Z4v (v : Vac) (K : Nat) (s : St) (hK : 50 < K) (hv : v.Lens K) : acall cfg (K + 6) 48 [vacV v] s = .ret (gasE (checkE v) (beginG v), s) := by
 refine Yh Zn3 Zn2 (by first | rfl | simp -implicitDefEqProofs only [redoH, redo1, go_sem]) (by first | rfl | simp -implicitDefEqProofs only [go_sem]) (by first | rfl | simp -implicitDefEqProofs only [go_sem]) ?_
 refine Z6 rfl fun T hT' hA => ?_
 have a0 := hA 0 _ rfl
 have hT : T.length = 71 := hT'
 clear hA hT'
 have hc := fun s => Z4r v (K + 1) s (by omega) ⟨⟨by have := hv.ves.1; omega, hv.ves.2⟩, ⟨by have := hv.pip.1; omega, hv.pip.2⟩, ⟨by have := hv.pmp.1; omega, hv.pmp.2⟩, ⟨by have := hv.inl.1; omega, hv.inl.2⟩, ⟨by have := hv.gtr.1; omega, hv.gtr.2⟩, hv.bands⟩
 simp only [vacV] at hc
 obtain ⟨⟨hv1, hv2⟩, ⟨hp1, hp2⟩, ⟨hm1, hm2⟩, ⟨hi1, hi2⟩, ⟨hg1, hg2⟩, hbd⟩ := hv
 simp -implicitDefEqProofs only [go_sem, a0, hT, hc]
 by_cases c0 : checkE v = 0
 ·have hle : v.vessels.length <= 1000000 /\ v.getters.length <= 1000000 := by
   unfold checkE at c0
   split at c0
   ·exact absurd c0 (by decide)
   ·split at c0
    ·exact absurd c0 (by decide)
    ·rename_i h
     unfold overB at h
     simp only [Bool.or_eq_true, decide_eq_true_eq] at h
     omega
  obtain ⟨h8, hg8⟩ := hle
  simp -implicitDefEqProofs only [go_sem, c0]
  simp only [Z1]
  refine Zf (fun k T s' => T.length = 71 /\ nth T 1 = some (.ptr [0] 0) /\ nth T 2 = some (.ptr [1] 0) /\ nth T 5 = some (.ptr [2] 0) /\ ∃ (i n c : Nat) (H : Heap) (m : Int), nth T 6 = some (.int .i64 i) /\ i <= v.vessels.length /\ k = v.vessels.length - i /\ s' = ⟨H, n + 3, [], false, []⟩ /\ c < n + 3 /\ hget H [0] = some (.cells [.lst (v.vessels.map vesV), .lst (v.pipes.map pipV), .lst (v.pumps.map pmpV), .lst (v.leaks.map inlV), .lst (v.getters.map gtrV)] true 0) /\
   hget H [1] = some (.cells [.nils, .nils, .nils, .int .i64 0, .bool false] true 0) /\ hget H [2] = some (.cells [ownV [c, 5, 0] ((v.vessels.take i).map fun x => rgV x.free), ownV [c, 11, 0] ((v.vessels.take i).map fun x => rgV x.bound), .nils, .int .i64 m, .bool false] true 0) /\ (i ≠ 0 -> hget H [c, 5, 0] = some (.tok i 2) /\ hget H [c, 11, 0] = some (.tok i 2)) /\
   mostF 0 v.vessels = mostF m (v.vessels.drop i)) (k := v.vessels.length) (by omega) ?_ ?_
  ·exact ⟨by simp -implicitDefEqProofs only [go_sem, hT], by simp -implicitDefEqProofs only [go_sem, hT], by simp -implicitDefEqProofs only [go_sem, hT], by simp -implicitDefEqProofs only [go_sem, hT], 0, 0, 0, _, 0, by simp -implicitDefEqProofs only [go_sem, hT] <;> rfl, by omega, rfl, rfl, by omega, rfl, rfl, rfl, fun h => absurd rfl h, rfl⟩
  clear a0 hT T
  rintro k T s' ⟨hT, a1, a2, a5, i, n, c, H, m, a6, hi, rfl, rfl, hc', g0, g1, g2, gr, hm⟩
  simp -implicitDefEqProofs only [go_sem, a1, a6, hT, g0]
  by_cases hil : (i : Int) < (v.vessels.length : Int)
  ·have hi' : i < v.vessels.length := by omega
   have e1 := Z9 (f := vesV) (l := v.vessels) (i := i) (z := 6) hi' rfl
   have hkk : v.vessels.length - (i + 1) < v.vessels.length - i := by omega
   have htk : v.vessels.take (i + 1) = v.vessels.take i ++ [v.vessels[i]] := List.take_succ_eq_append_getElem hi'
   have hln : ((v.vessels.take i).map fun x => rgV x.free).length = i := by simp; omega
   have hln2 : ((v.vessels.take i).map fun x => rgV x.bound).length = i := by simp; omega
   rw [List.drop_eq_getElem_cons hi'] at hm
   have hi1 : i + 1 <= v.vessels.length := hi'
   have hn4 : n + 4 < n + 2 + 3 := by omega
   generalize v.vessels[i] = x at *
   simp only [mostF] at hm
   have hap := fun (l : List AV) (n : Nat) (b p : Nm) (H : Heap) (r : Rg) (hr : (l.length + 1) * 16 <= 140737488355328) (hg : l ≠ [] -> hget H b = some (.tok l.length 2)) => Yl (C := cfg.at 48) (sT := 50) (b := b) (l := l) (x := rgV r) (H := H) (n := n) (p := p) (jr := true) (j := []) (z := 2) Z6a Z36 rfl rfl rfl rfl rfl rfl hr hg
   by_cases i0 : i = 0
   ·subst i0
    have hap0 := fun (n : Nat) (p : Nm) (H : Heap) (r : Rg) => hap [] n [] p H r (by simp) (fun h => absurd rfl h)
    simp only [ownV, dropTok, tokJ, rgV, List.nil_append, List.length_nil, List.take_zero, List.map_nil] at hap0 g2
    have hw1 : wrapF .i64 (((0 : Nat) : Int) + 1) = ((0 + 1 : Nat) : Int) := rfl
    simp -implicitDefEqProofs only [go_sem, a1, a6, hT, hil, e1, g0]
    try simp only [Z1]
    refine Z7 [[], [0], [], [2], [3, 2], [1, 0, 4, 3, 2], [], [6], [], [8], [9, 8], [7, 6, 10, 9, 8, 5, 1, 0, 4, 3, 2], [5, 1, 0, 4, 3, 2, 7, 6], [12, 11, 10, 9, 8, 5, 1, 0, 4, 3, 2, 7, 6], [13, 12, 11, 10, 9, 8, 5, 1, 0, 4, 3, 2, 7, 6], [14, 13, 12, 11, 10, 9, 8, 5, 1, 0, 4, 3, 2, 7, 6]] [[], [], [], [], [], [], [], [], [], [], [], [], [], [[2]], [], [[2]]] (by kernel_rfl) rfl rfl ?_
    simp -implicitDefEqProofs only [go_sem, Z0, lkn, Za, lk11, lk31, Option.getD_some, Option.getD_none, a1, a2, a5, a6, hT, g2, hap0 _ _ _ ⟨x.free.lo, x.free.hi⟩, hap0 _ _ _ ⟨x.bound.lo, x.bound.hi⟩]
    refine ⟨v.vessels.length - (0 + 1), hkk, trivial, trivial, trivial, trivial, 0 + 1, n + 2, n + 4, _, wrapF .i64 (wrapF .i64 (m + x.free.hi) + x.bound.hi), by rw [hw1], hi1, rfl, rfl, hn4, ?_, ?_, ?_, fun _ => ⟨?_, ?_⟩, ?_⟩
    all_goals clear hw1
    ·simp (disch := omega) only [hc11, hs11, Z0, lkn, lk11, lk31, Option.getD_none, g0]
    ·simp (disch := omega) only [hc11, hs11, Z0, lkn, lk11, lk31, Option.getD_none, g1]
    ·rw [htk, List.map_append, List.map_append]
     exact hss (Y := .cells _ true 0) (by simp (disch := omega) only [hc11, Z0, Za, Option.getD_some, g2]; rfl)
    ·simp (disch := omega) only [hc13, hs13, Z0, Za, lk13, Jm, Option.getD_some]
    ·simp (disch := omega) only [hc13, hs13, Z0, Za, lk13, Option.getD_some]
    ·rw [hm, Z8l, Int.add_assoc]
   ·obtain ⟨r1, r2⟩ := gr i0
    have n1 : ((v.vessels.take i).map fun x => rgV x.free) ≠ [] := fun e => i0 (by rw [<- hln, e]; rfl)
    have n2 : ((v.vessels.take i).map fun x => rgV x.bound) ≠ [] := fun e => i0 (by rw [<- hln2, e]; rfl)
    have htk1 : ((v.vessels.take (i + 1)).map fun x => rgV x.free) = ((v.vessels.take i).map fun x => rgV x.free) ++ [.agg [.int .i64 x.free.lo, .int .i64 x.free.hi]] := by rw [htk, List.map_append]; rfl
    have htk2 : ((v.vessels.take (i + 1)).map fun x => rgV x.bound) = ((v.vessels.take i).map fun x => rgV x.bound) ++ [.agg [.int .i64 x.bound.lo, .int .i64 x.bound.hi]] := by rw [htk, List.map_append]; rfl
    have hapF := fun (n : Nat) (p : Nm) (H : Heap) (r : Rg) (hg : hget H [c, 5, 0] = some (.tok i 2)) => hap _ n [c, 5, 0] p H r (by rw [hln]; omega) (fun _ => by rw [hln]; exact hg)
    have hapB := fun (n : Nat) (p : Nm) (H : Heap) (r : Rg) (hg : hget H [c, 11, 0] = some (.tok i 2)) => hap _ n [c, 11, 0] p H r (by rw [hln2]; omega) (fun _ => by rw [hln2]; exact hg)
    generalize ((v.vessels.take i).map fun x => rgV x.free) = RF at *
    generalize ((v.vessels.take i).map fun x => rgV x.bound) = RB at *
    have o1 : ∀ b, ownV b RF = .own b RF := fun b => by cases RF with | nil => exact absurd rfl n1 | cons a r => rfl
    have o2 : ∀ b, ownV b RB = .own b RB := fun b => by cases RB with | nil => exact absurd rfl n2 | cons a r => rfl
    have o3 : ∀ b j, tokJ RF b j = (b, none) :: j := fun b j => by cases RF with | nil => exact absurd rfl n1 | cons a r => rfl
    have o4 : ∀ b j, tokJ RB b j = (b, none) :: j := fun b j => by cases RB with | nil => exact absurd rfl n2 | cons a r => rfl
    have o5 : ∀ b H, dropTok RF b H = hdel H b := fun b H => by cases RF with | nil => exact absurd rfl n1 | cons a r => rfl
    have o6 : ∀ b H, dropTok RB b H = hdel H b := fun b H => by cases RB with | nil => exact absurd rfl n2 | cons a r => rfl
    simp only [rgV, o1, o2, o3, o4, o5, o6, Zx, hln, hln2] at hapF hapB g2
    have d1 : ∀ X, hget (hdel (([n + 3], X) :: H) [c, 5, 0]) [2] = hget H [2] := fun X => by simp (disch := omega) only [hc11, hd31]
    have d2 : ∀ X, hget (hdel (([n + 3], X) :: H) [c, 5, 0]) [n + 3] = some X := fun X => by simp (disch := omega) only [Z3, hd31]
    have e11 : ∀ X, hget (([n + 3], X) :: H) [c, 11, 0] = hget H [c, 11, 0] := fun X => hc13
    have e5 : ∀ X, hget (([n + 3], X) :: H) [c, 5, 0] = hget H [c, 5, 0] := fun X => hc13
    have nc : (n + 3 + 1 = c) = False := by simp; omega
    have nc' : (c = n + 3 + 1) = False := by simp; omega
    have d3 : hget (hdel H [c, 5, 0]) [2] = hget H [2] := hd31
    have hw1 : wrapF .i64 ((i : Int) + 1) = ((i + 1 : Nat) : Int) := Z5 (by omega) (by omega)
    simp -implicitDefEqProofs only [go_sem, a1, a6, hT, hil, e1, g0]
    try simp only [Z1]
    refine Z7 [[], [0], [], [2], [3, 2], [1, 0, 4, 3, 2], [], [6], [], [8], [9, 8], [7, 6, 10, 9, 8, 5, 1, 0, 4, 3, 2], [5, 1, 0, 4, 3, 2, 7, 6], [12, 11, 10, 9, 8, 5, 1, 0, 4, 3, 2, 7, 6], [13, 12, 11, 10, 9, 8, 5, 1, 0, 4, 3, 2, 7, 6], [14, 13, 12, 11, 10, 9, 8, 5, 1, 0, 4, 3, 2, 7, 6]] [[], [], [], [], [], [[c, 5, 0]], [], [], [], [], [], [[c, 11, 0]], [], [[2]], [], [[2]]] (by kernel_rfl) rfl rfl ?_
    simp -implicitDefEqProofs only [go_sem, Z0, lkn, Za, lk11, lk31, lk33, Jm, Option.getD_some, Option.getD_none, a1, a2, a5, a6, hT, g2, r1, r2, e5, e11, nc, d3, Z8, hapF _ _ _ ⟨x.free.lo, x.free.hi⟩, hapB _ _ _ ⟨x.bound.lo, x.bound.hi⟩]
    refine ⟨v.vessels.length - (i + 1), hkk, trivial, trivial, trivial, trivial, i + 1, n + 2, n + 4, _, wrapF .i64 (wrapF .i64 (m + x.free.hi) + x.bound.hi), by rw [hw1], hi1, rfl, rfl, hn4, ?_, ?_, ?_, fun _ => ⟨?_, ?_⟩, ?_⟩
    all_goals clear hw1
    ·simp (disch := omega) only [hc11, hs11, Z0, lkn, lk11, lk31, Option.getD_none, g0]
    ·simp (disch := omega) only [hc11, hs11, Z0, lkn, lk11, lk31, Option.getD_none, g1]
    ·rw [show (List.map (fun x : Ves => AV.agg [.int .i64 x.free.lo, .int .i64 x.free.hi]) (v.vessels.take (i + 1))) = _ from htk1, show (List.map (fun x : Ves => AV.agg [.int .i64 x.bound.lo, .int .i64 x.bound.hi]) (v.vessels.take (i + 1))) = _ from htk2, Zx, Zx]
     exact hss (Y := .cells _ true 0) (by simp (disch := omega) only [hc11, Z0, Za, Option.getD_some, g2]; rfl)
    ·simp (disch := omega) only [hc13, hs13, Z0, Za, lk13, lk33, Jm, Option.getD_some]
    ·simp (disch := omega) only [hc13, hs13, Z0, Za, lk13, Option.getD_some]
    ·rw [hm, Z8l, Int.add_assoc]
  ·have hie : i = v.vessels.length := by omega
   subst hie
   rw [List.drop_length] at hm
   rw [List.take_length] at g2
   simp only [mostF] at hm
   clear gr
   simp -implicitDefEqProofs only [go_sem, hil]
   simp only [Z1]
   refine Zf (fun k T s' => T.length = 71 /\ nth T 1 = some (.ptr [0] 0) /\ nth T 2 = some (.ptr [1] 0) /\ nth T 5 = some (.ptr [2] 0) /\ ∃ (i n d : Nat) (H : Heap), nth T 8 = some (.int .i64 i) /\ i <= v.getters.length /\ k = v.getters.length - i /\ s' = ⟨H, n + 3, [], false, []⟩ /\ hget H [0] = some (.cells [.lst (v.vessels.map vesV), .lst (v.pipes.map pipV), .lst (v.pumps.map pmpV), .lst (v.leaks.map inlV), .lst (v.getters.map gtrV)] true 0) /\
    hget H [1] = some (.cells [.nils, .nils, .nils, .int .i64 0, .bool false] true 0) /\ hget H [2] = some (.cells [ownV [c, 5, 0] (v.vessels.map fun x => rgV x.free), ownV [c, 11, 0] (v.vessels.map fun x => rgV x.bound), ownV [d, 9, 0] ((v.getters.take i).map fun x => rgV x.room), .int .i64 m, .bool false] true 0) /\ (i ≠ 0 -> d < n + 3 /\ hget H [d, 9, 0] = some (.tok i 2))) (k := v.getters.length) (by omega) ?_ ?_
   ·exact ⟨by simp -implicitDefEqProofs only [go_sem, hT], by simp -implicitDefEqProofs only [go_sem, a1], by simp -implicitDefEqProofs only [go_sem, a2], by simp -implicitDefEqProofs only [go_sem, a5], 0, n, 0, H, by simp -implicitDefEqProofs only [go_sem, hT] <;> rfl, by omega, rfl, rfl, g0, g1, g2, fun h => absurd rfl h⟩
   clear a1 a2 a5 a6 hT T g0 g1 g2 H
   rintro k T s' ⟨hT, a1, a2, a5, i, n, d, H, a8, hi, rfl, rfl, g0, g1, g2, gr⟩
   simp -implicitDefEqProofs only [go_sem, a1, a8, hT, g0]
   by_cases hil2 : (i : Int) < (v.getters.length : Int)
   ·have hi' : i < v.getters.length := by omega
    have e1 := Z9 (f := gtrV) (l := v.getters) (i := i) (z := 5) hi' rfl
    have hkk : v.getters.length - (i + 1) < v.getters.length - i := by omega
    have htk : v.getters.take (i + 1) = v.getters.take i ++ [v.getters[i]] := List.take_succ_eq_append_getElem hi'
    have hln : ((v.getters.take i).map fun x => rgV x.room).length = i := by simp; omega
    have hi1 : i + 1 <= v.getters.length := hi'
    have hn4 : n + 3 < n + 1 + 3 := by omega
    generalize v.getters[i] = x at *
    have hap := fun (l : List AV) (n : Nat) (b p : Nm) (H : Heap) (r : Rg) (hr : (l.length + 1) * 16 <= 140737488355328) (hg : l ≠ [] -> hget H b = some (.tok l.length 2)) => Yl (C := cfg.at 48) (sT := 50) (b := b) (l := l) (x := rgV r) (H := H) (n := n) (p := p) (jr := true) (j := []) (z := 2) Z6a Z36 rfl rfl rfl rfl rfl rfl hr hg
    by_cases i0 : i = 0
    ·subst i0
     have hap0 := fun (n : Nat) (p : Nm) (H : Heap) (r : Rg) => hap [] n [] p H r (by simp) (fun h => absurd rfl h)
     simp only [ownV, dropTok, tokJ, rgV, List.nil_append, List.length_nil] at hap0
     rw [List.take_zero, List.map_nil] at g2
     have on : ∀ b, ownV b [] = .nils := fun _ => rfl
     rw [on [d, 9, 0]] at g2
     have hw1 : wrapF .i64 (((0 : Nat) : Int) + 1) = ((0 + 1 : Nat) : Int) := rfl
     simp -implicitDefEqProofs only [go_sem, hil2]
     simp only [Z1]
     refine Y9 [9, 11] [9, 11] (by kernel_rfl) ?_
     simp -implicitDefEqProofs only [go_sem, a1, a2, a5, a8, hT, e1, g0, g2, hap0 _ _ _ ⟨x.room.lo, x.room.hi⟩, hw1, hc31]
     clear hw1
     refine ⟨v.getters.length - (0 + 1), hkk, trivial, trivial, trivial, trivial, 0 + 1, n + 1, n + 3, _, rfl, hi1, rfl, rfl, ?_, ?_, ?_, fun _ => ⟨hn4, ?_⟩⟩
     ·simp (disch := omega) only [Z0, lkn, lk11, lk31, Option.getD_none, g0]
     ·simp (disch := omega) only [Z0, lkn, lk11, lk31, Option.getD_none, g1]
     ·rw [htk, List.map_append]
      simp (disch := omega) only [Z0, Za, Option.getD_some, g2]
      rfl
     ·simp (disch := omega) only [Z0, Za, lk13, Option.getD_some]
    ·obtain ⟨dn, r1⟩ := gr i0
     have n1 : ((v.getters.take i).map fun x => rgV x.room) ≠ [] := fun e => i0 (by rw [<- hln, e]; rfl)
     have htk1 : ((v.getters.take (i + 1)).map fun x => rgV x.room) = ((v.getters.take i).map fun x => rgV x.room) ++ [.agg [.int .i64 x.room.lo, .int .i64 x.room.hi]] := by rw [htk, List.map_append]; rfl
     have hapG := fun (n : Nat) (p : Nm) (H : Heap) (r : Rg) (hg : hget H [d, 9, 0] = some (.tok i 2)) => hap _ n [d, 9, 0] p H r (by rw [hln]; omega) (fun _ => by rw [hln]; exact hg)
     generalize ((v.getters.take i).map fun x => rgV x.room) = RG at *
     have o1 : ∀ b, ownV b RG = .own b RG := fun b => by cases RG with | nil => exact absurd rfl n1 | cons a r => rfl
     have o3 : ∀ b j, tokJ RG b j = (b, none) :: j := fun b j => by cases RG with | nil => exact absurd rfl n1 | cons a r => rfl
     have o5 : ∀ b H, dropTok RG b H = hdel H b := fun b H => by cases RG with | nil => exact absurd rfl n1 | cons a r => rfl
     simp only [rgV, o3, o5, Zx, hln] at hapG
     rw [o1] at g2
     simp only [o1] at hapG
     have nc : (n + 3 = d) = False := by simp; omega
     have d1 : hget (hdel H [d, 9, 0]) [2] = _ := hd31.trans g2
     have hw1 : wrapF .i64 ((i : Int) + 1) = ((i + 1 : Nat) : Int) := Z5 (by omega) (by omega)
     simp -implicitDefEqProofs only [go_sem, hil2]
     simp only [Z1]
     refine Y9 [9, 11] [9, 11] (by kernel_rfl) ?_
     simp -implicitDefEqProofs only [go_sem, a1, a2, a5, a8, hT, e1, g0, g2, r1, d1, hapG _ _ _ ⟨x.room.lo, x.room.hi⟩, hw1, hc31]
     clear hw1
     refine ⟨v.getters.length - (i + 1), hkk, trivial, trivial, trivial, trivial, i + 1, n + 1, n + 3, _, rfl, hi1, rfl, rfl, ?_, ?_, ?_, fun _ => ⟨hn4, ?_⟩⟩
     ·simp (disch := omega) only [Z0, lkn, lk11, lk31, Option.getD_none, g0]
     ·simp (disch := omega) only [Z0, lkn, lk11, lk31, Option.getD_none, g1]
     ·rw [show (List.map (fun x : Gtr => AV.agg [.int .i64 x.room.lo, .int .i64 x.room.hi]) (v.getters.take (i + 1))) = _ from htk1]
      simp (disch := omega) only [Z0, Za, Option.getD_some, g2, Zx]
     ·simp (disch := omega) only [Z0, Za, lk13, Option.getD_some]
   ·have hie : i = v.getters.length := by omega
    subst hie
    rw [List.take_length] at g2
    have z1 : ∀ X, hget (hset H [1] X) [1] = some X := fun X => Zh X g1
    simp -implicitDefEqProofs only [go_sem, a2, a5, hT, hil2, g1, g2, z1, Try.results48]
    unfold gasE
    rw [if_pos rfl]
    have hfin := Zce (H := hset H [1] (.cells [ownV [c, 5, 0] (v.vessels.map fun x => rgV x.free), ownV [c, 11, 0] (v.vessels.map fun x => rgV x.bound), ownV [d, 9, 0] (v.getters.map fun x => rgV x.room), .int .i64 m, .bool false] true 0)) (b1 := [c, 5, 0]) (b2 := [c, 11, 0]) (b3 := [d, 9, 0]) (g := beginG v) (e := 0)
    unfold gasO beginG at hfin
    simp only [List.map_map, hm] at hfin
    unfold beginG
    simp only [hm]
    exact hfin
 ·simp -implicitDefEqProofs only [go_sem, hT, c0, Try.results48]
  unfold gasE
  rw [if_neg c0]
  rfl
end Go.Proofs.Ytgnpnfkncbnjnaa
namespace Go.Proofs.Ytgnpnfkncbnjnaa
attribute [local go_sem_proc] Int.reduceEq Int.reduceNeg Nat.reduceEqDiff Nat.reduceLT Nat.reduceAdd Nat.reduceSub Nat.reduceMul Int.reduceLE Int.reduceLT Int.reduceToNat Nat.reduceLeDiff
attribute [local go_sem] Int.toNat_natCast Bool.not_true Bool.not_false
open Go Go.Am
attribute [local congr] Ze Zb Zc
attribute [local go_sem] Go.Am.buildSliceA Go.Am.frozen Go.Am.freezeG Go.Am.freezeGs Go.Am.minmax
theorem Vac.Lens.more {v : Vac} {K : Nat} (hv : v.Lens K) (q : Nat) : v.Lens (K + q) := ⟨⟨by have := hv.ves.1; omega, hv.ves.2⟩, ⟨by have := hv.pip.1; omega, hv.pip.2⟩, ⟨by have := hv.pmp.1; omega, hv.pmp.2⟩, ⟨by have := hv.inl.1; omega, hv.inl.2⟩, ⟨by have := hv.gtr.1; omega, hv.gtr.2⟩, hv.bands⟩
theorem Zcf (v : Vac) (K : Nat) (s : St) (hv : v.Lens K) : acall cfg (K + 1) 47 [vacV v] s = .ret (.bool (largeB v), s) := by
 refine Yh Zn1 Zn0 (by first | rfl | simp -implicitDefEqProofs only [redoH, redo1, go_sem]) (by first | rfl | simp -implicitDefEqProofs only [go_sem]) (by first | rfl | simp -implicitDefEqProofs only [redoH, redo1, go_sem]) ?_
 refine Z6 rfl fun T hT' hA => ?_
 have a0 := hA 0 _ rfl
 have hT : T.length = 47 := hT'
 clear hA hT'
 obtain ⟨⟨hv1, hv2⟩, _, _, _, _, hbd⟩ := hv
 have q1 : (20 : Int) < (v.vessels.length : Int) ↔ 20 < v.vessels.length := by omega
 have q2 : (30 : Int) < (v.pipes.length : Int) ↔ 30 < v.pipes.length := by omega
 have q3 : (20 : Int) < (v.pumps.length : Int) ↔ 20 < v.pumps.length := by omega
 have q4 : (20 : Int) < (v.leaks.length : Int) ↔ 20 < v.leaks.length := by omega
 have q5 : (20 : Int) < (v.getters.length : Int) ↔ 20 < v.getters.length := by omega
 have hov : largeB v = (decide ((20 : Int) < (v.vessels.length : Int)) || decide ((30 : Int) < (v.pipes.length : Int)) || decide ((20 : Int) < (v.pumps.length : Int)) || decide ((20 : Int) < (v.leaks.length : Int)) || decide ((20 : Int) < (v.getters.length : Int)) || v.vessels.any fun x => decide (20 < x.bands.length)) := by
  unfold largeB
  simp only [q1, q2, q3, q4, q5]
 rw [hov]
 clear q1 q2 q3 q4 q5 hov
 simp -implicitDefEqProofs only [go_sem, a0, hT]
 by_cases o1 : (20 : Int) < (v.vessels.length : Int)
 ·simp -implicitDefEqProofs only [go_sem, hT, o1, Bool.true_or, Try.results47]
 ·by_cases o2 : (30 : Int) < (v.pipes.length : Int)
  ·simp -implicitDefEqProofs only [go_sem, hT, o1, o2, Bool.true_or, Bool.or_true, Try.results47]
  ·by_cases o3 : (20 : Int) < (v.pumps.length : Int)
   ·simp -implicitDefEqProofs only [go_sem, hT, o1, o2, o3, Bool.true_or, Bool.or_true, Try.results47]
   ·by_cases o4 : (20 : Int) < (v.leaks.length : Int)
    ·simp -implicitDefEqProofs only [go_sem, hT, o1, o2, o3, o4, Bool.true_or, Bool.or_true, Try.results47]
    ·by_cases o5 : (20 : Int) < (v.getters.length : Int)
     ·simp -implicitDefEqProofs only [go_sem, hT, o1, o2, o3, o4, o5, Bool.true_or, Bool.or_true, Try.results47]
     ·simp -implicitDefEqProofs only [go_sem, hT, o1, o2, o3, o4, o5, Bool.false_or]
      simp only [Z1]
      refine Zf (fun k T s' => T.length = 47 /\ nth T 1 = some (.ptr [0] 0) /\ s' = ⟨[([0], .cells [.lst (v.vessels.map vesV), .lst (v.pipes.map pipV), .lst (v.pumps.map pmpV), .lst (v.leaks.map inlV), .lst (v.getters.map gtrV)] true 0)], 1, [], false, []⟩ /\ ∃ i : Nat, nth T 3 = some (.int .i64 i) /\ i <= v.vessels.length /\ k = v.vessels.length - i /\ (v.vessels.any fun t => decide (20 < t.bands.length)) = ((v.vessels.drop i).any fun t => decide (20 < t.bands.length))) (k := v.vessels.length) (by omega) ?_ ?_
      ·exact ⟨by simp -implicitDefEqProofs only [go_sem, hT], by simp -implicitDefEqProofs only [go_sem, hT], rfl, 0, by simp -implicitDefEqProofs only [go_sem, hT]; rfl, by omega, rfl, rfl⟩
      clear a0 hT
      rintro k T s' ⟨hT, a1, rfl, i, a3, hi, rfl, hany⟩
      simp -implicitDefEqProofs only [go_sem, a1, a3, hT]
      by_cases hlo : (i : Int) < (v.vessels.length : Int)
      ·have hi' : i < v.vessels.length := by omega
       have hk2 : v.vessels.length - (i + 1) < v.vessels.length - i := by omega
       have hel := Z9 (f := vesV) (l := v.vessels) (i := i) (z := 6) hi' rfl
       rw [List.drop_eq_getElem_cons hi', List.any_cons] at hany
       generalize v.vessels[i] = x at *
       by_cases c2 : 20 < x.bands.length
       ·have c2' : (20 : Int) < (x.bands.length : Int) := by omega
        rw [decide_eq_true c2, Bool.true_or] at hany
        simp -implicitDefEqProofs only [go_sem, a1, a3, hT, hlo, hel, c2', hany, Try.results47]
       ·have c2' : ¬ (20 : Int) < (x.bands.length : Int) := by omega
        have hw1 : wrapF .i64 ((i : Int) + 1) = ((i + 1 : Nat) : Int) := Z5 (by omega) (by omega)
        rw [decide_eq_false c2, Bool.false_or] at hany
        simp -implicitDefEqProofs only [go_sem, a1, a3, hT, hlo, hel, c2', hw1]
        exact ⟨v.vessels.length - (i + 1), hk2, trivial, trivial, trivial, i + 1, rfl, hi', rfl, hany⟩
      ·have hie : i = v.vessels.length := by omega
       subst hie
       rw [List.drop_length] at hany
       simp only [List.any_nil] at hany
       simp -implicitDefEqProofs only [go_sem, hT, hlo, hany, Try.results47]
end Go.Proofs.Ytgnpnfkncbnjnaa
namespace Go.Am
open Go
def isD (u : Nat) (H : Heap) : Prop := ∃ w, hget H [0] = some (.cells [.int .u64 w] true u)
def wordB : Option Blk -> Int
 | some (.cells [.int _ w] _ _) => w
 | _ => 0
noncomputable def dW (H : Heap) : Int := wordB (hget H [0])
section
variable {u a k c : Nat} {w : Int} {H H' : Heap} {X : Blk} {x : Option Blk} {d : Delta}
theorem Z07 (h : isD u H) : hget H [0] = some (.cells [.int .u64 (dW H)] true u) := by
 obtain ⟨w, h⟩ := h
 have e : dW H = w := by unfold dW; rw [h]; rfl
 rw [e, h]
theorem Zla (h : hget H [0] = some (.cells [.int .u64 w] true u)) : dW H = w := by unfold dW; rw [h]; rfl
theorem Zb5 (e : hget H [0] = hget H' [0]) : isD u H = isD u H' := by unfold isD; rw [e]
theorem Zuj (e : hget H [0] = hget H' [0]) : dW H = dW H' := by unfold dW; rw [e]
theorem Zen (h : isD u H) : hget (hset H [0] X) [0] = some X := hss (Z07 h)
theorem Yy (h : isD u H) : isD u (hset H [0] (.cells [.int .u64 w] true u)) := ⟨w, Zen h⟩
theorem Zeo (h : isD u H) : dW (hset H [0] (.cells [.int .u64 w] true u)) = w := Zla (u := u) (Zen h)
theorem Zep : isD u (([0], .cells [.int .u64 w] true u) :: H) = True := eq_true ⟨w, Z3 ..⟩
theorem Z76 : dW (([0], .cells [.int .u64 w] true u) :: H) = w := Zla (u := u) (Z3 ..)
theorem Jb : isD u (([a + 1], X) :: H) = isD u H := Zb5 (hc11 (by omega))
theorem Z2b : dW (([a + 1], X) :: H) = dW H := Zuj (hc11 (by omega))
theorem Zgm : isD u (hset H [a + 1] X) = isD u H := Zb5 (hs11 (by omega))
theorem Y2 : isD u (redoH H (([0], some (.cells [.int .u64 w] true u)) :: d)) = True := eq_true ⟨w, by rw [Z0, Za]; rfl⟩
theorem Z14 : dW (redoH H (([0], some (.cells [.int .u64 w] true u)) :: d)) = w := Zla (u := u) (by rw [Z0, Za]; rfl)
theorem Yu : isD u (redoH H (([a + 1], x) :: d)) = isD u (redoH H d) := Zb5 (by rw [Z0, Z0, lk11 (by omega)])
theorem Yv : isD u (redoH H (([a, k, c], x) :: d)) = isD u (redoH H d) := Zb5 (by rw [Z0, Z0, lk31])
end
end Go.Am
namespace Go.Proofs.Ytgnpnfkncbnjnaa
open Go Go.Am
attribute [local congr] Ze Zb Zc
attribute [local go_sem] Go.Am.buildSliceA Go.Am.frozen Go.Am.freezeG Go.Am.freezeGs Go.Am.minmax
structure RgG (m : Int) (r : Rg) : Prop where
 lo : 0 <= r.lo
 le : r.lo <= r.hi
 hi : r.hi <= m
def BandsG (k : Int) : List Rel -> Prop
 | [] => True
 | b :: l => 0 <= b.frm /\ b.frm < k /\ (∀ m ∈ l, b.frm < m.frm) /\ RgG 400000 b.rate /\ BandsG k l
theorem Z4w {k k' : Int} {r : Rg} (h0 : 0 <= k) (h1 : k < k') (hr : RgG 400000 r) : ∀ {l : List Rel}, BandsG k l -> BandsG k' (l ++ [⟨k, r⟩])
 | [], _ => ⟨h0, h1, (fun _ h => by cases h), hr, trivial⟩
 | b :: l, ⟨g1, g2, g3, g4, g5⟩ => ⟨g1, by omega, fun m hm => by
   rcases List.mem_append.1 hm with hm | hm
   ·exact g3 m hm
   ·simp only [List.mem_singleton] at hm; subst hm; exact g2, g4, Z4w h0 h1 hr g5⟩
theorem Z4x {k k' : Int} (h : k <= k') : ∀ {l : List Rel}, BandsG k l -> BandsG k' l
 | [], _ => trivial
 | b :: l, ⟨g1, g2, g3, g4, g5⟩ => ⟨g1, by omega, g3, g4, Z4x h g5⟩
structure VesG (v : Ves) : Prop where
 vol : 1 <= v.vol /\ v.vol <= 50
 free : RgG 20000 v.free
 bound : RgG 50000 v.bound
 len : v.bands.length <= 2
 bands : BandsG 1100 v.bands
structure PipG (n : Int) (p : Pip) : Prop where
 a : 0 <= p.a /\ p.a < n
 b : 0 <= p.b /\ p.b < n
 ab : p.a ≠ p.b
 out : RgG 120000 p.out
 back : RgG 120000 p.back
structure PmpG (n : Int) (p : Pmp) : Prop where
 at' : 0 <= p.at' /\ p.at' < n
 part : RgG 200000 p.part
structure InlG (n : Int) (p : Inl) : Prop where
 at' : 0 <= p.at' /\ p.at' < n
 gas : RgG 30 p.gas
structure GtrG (n : Int) (p : Gtr) : Prop where
 at' : 0 <= p.at' /\ p.at' < n
 part : RgG 300000 p.part
 room : RgG 9000 p.room
structure VacG (v : Vac) : Prop where
 n1 : 1 <= v.vessels.length
 n4 : v.vessels.length <= 4
 ves : ∀ x ∈ v.vessels, VesG x
 np : v.pipes.length <= 4
 pip : ∀ x ∈ v.pipes, PipG v.vessels.length x
 nm : v.pumps.length <= 2
 pmp : ∀ x ∈ v.pumps, PmpG v.vessels.length x
 nl : v.leaks.length <= 2
 inl : ∀ x ∈ v.leaks, InlG v.vessels.length x
 ng : v.getters.length <= 2
 gtr : ∀ x ∈ v.getters, GtrG v.vessels.length x
theorem Z2c (w m : Int) (h : 0 <= m) : RgG m (rangeR w 0 m) := by
 have := Z9r w 0 m h
 exact ⟨this.1, this.2.1, this.2.2⟩
theorem Zgn (m : Int) (h : 0 <= m) : RgG m ⟨0, 0⟩ := ⟨Int.le_refl _, Int.le_refl _, h⟩
section
variable {H : Heap} {m u : Nat} {p : Nm} {jr : Bool} {j : Delta}
def jD (jr : Bool) (w : Int) (u : Nat) (j : Delta) : Delta := match jr with | true => ([0], some (.cells [.int .u64 w] true u)) :: j | false => j
@[go_sem] theorem Zuk (w : Int) (u : Nat) (j : Delta) : jD true w u j = ([0], some (.cells [.int .u64 w] true u)) :: j := rfl
@[go_sem] theorem Zrh (w : Int) (u : Nat) (j : Delta) : jD false w u j = j := rfl
theorem Z0b (n : Int) (K : Nat) (hd : isD u H) (hn : n <= 9223372036854775807) : acall cfg (K + 2) 25 [.ptr [0] 0, .int .i64 n] ⟨H, m, p, jr, j⟩ = .ret (.int .i64 (uptoN (dW H) n), ⟨hset H [0] (.cells [.int .u64 (nextW (dW H))] true u), m, p, jr, jD jr (nextW (dW H)) u j⟩) :=
 Z25 (dW H) n [0] u K ⟨H, m, p, jr, j⟩ (Z07 hd) hn
theorem Zlb (n : Int) (K : Nat) (hd : isD u H) (hn : n <= 9223372036854775807) : acall cfg (K + 3) 44 [.ptr [0] 0, .int .i64 n] ⟨H, m, p, jr, j⟩ = .ret (.bool (oneB (dW H) n), ⟨hset H [0] (.cells [.int .u64 (nextW (dW H))] true u), m, p, jr, jD jr (nextW (dW H)) u j⟩) :=
 Zg0 (dW H) n [0] u K ⟨H, m, p, jr, j⟩ (Z07 hd) hn
theorem Z2d (lo hi : Int) (K : Nat) (h1 : -1000000000000 <= lo) (h2 : lo <= hi) (h3 : hi <= 1000000000000) (hd : isD u H) : acall cfg (K + 3) 85 [.ptr [0] 0, .int .i64 lo, .int .i64 hi] ⟨H, m, p, jr, j⟩ = .ret (.int .i64 (betweenN (dW H) lo hi), ⟨hset H [0] (.cells [.int .u64 (nextW (dW H))] true u), m, p, jr, jD jr (nextW (dW H)) u j⟩) :=
 Z37 (dW H) lo hi [0] u K ⟨H, m, p, jr, j⟩ (Z07 hd) h1 h2 h3
theorem Z77 (lo hi : Int) (K : Nat) (h1 : -1000000000000 <= lo) (h2 : lo <= hi) (h3 : hi <= 1000000000000) (hd : isD u H) : acall cfg (K + 4) 87 [.ptr [0] 0, .int .i64 lo, .int .i64 hi] ⟨H, m, p, jr, j⟩ = .ret (rgV (rangeR (dW H) lo hi), ⟨hset H [0] (.cells [.int .u64 (nextW (nextW (dW H)))] true u), m, p, jr, jD jr (nextW (nextW (dW H))) u j⟩) :=
 Z62 (dW H) lo hi [0] u K ⟨H, m, p, jr, j⟩ (Z07 hd) h1 h2 h3
theorem Z8m (most : Int) (K : Nat) (h2 : 0 <= most) (h3 : most <= 1000000000000) (hd : isD u H) : acall cfg (K + 5) 88 [.ptr [0] 0, .int .i64 most] ⟨H, m, p, jr, j⟩ = .ret (rgV (rangeR (dW H) 0 most), ⟨hset H [0] (.cells [.int .u64 (nextW (nextW (dW H)))] true u), m, p, jr, jD jr (nextW (nextW (dW H))) u j⟩) :=
 Ze7 (dW H) most [0] u K ⟨H, m, p, jr, j⟩ (Z07 hd) h2 h3
end
end Go.Proofs.Ytgnpnfkncbnjnaa
