/- The statement PumpStays holds for every input, without further conditions: a part of its proof (an abstract machine for the loaded code, its soundness, and what the functions answer in it). -/
import Derived.Test.YtgnpnfkncbnjnaaP2
set_option linter.unusedSimpArgs false
set_option linter.unusedVariables false
set_option maxRecDepth 100000
namespace Go.Proofs.Ytgnpnfkncbnjnaa
attribute [local go_sem_proc] Int.reduceEq Int.reduceNeg Nat.reduceEqDiff Nat.reduceLT Nat.reduceAdd Nat.reduceSub Nat.reduceMul Int.reduceLE Int.reduceLT Int.reduceToNat Nat.reduceLeDiff
attribute [local go_sem] Int.toNat_natCast Bool.not_true Bool.not_false
open Go Go.Am
attribute [local congr] Zf Z9 Zc
attribute [local go_sem] Go.Am.buildSliceA Go.Am.frozen Go.Am.freezeG Go.Am.freezeGs Go.Am.minmax
def atE (n : Int) (at' : Int) (r : Rg) (most : Int) : Int := if fromB at' 0 (n - 1) = true then spansE r most else 7
def pipE (n : Int) (p : Pip) : Int :=
 if fromB p.a 0 (n - 1) = true /\ fromB p.b 0 (n - 1) = true then if p.a = p.b then 9 else if spansE p.out 1000000 = 0 then spansE p.back 1000000 else spansE p.out 1000000 else 7
def indexI (x : Int) : Nat -> List Int -> Int
 | _, [] => -1
 | i, y :: l => if x = y then i else indexI x (i + 1) l
theorem Z2q (x : Int) : ∀ (l : List Int) (i : Nat), decide (0 <= indexI x i l) = decide (x ∈ l)
 | [], i => by simp [indexI]
 | y :: l, i => by
  unfold indexI
  by_cases h : x = y
  ·rw [if_pos h]; simp [h]
  ·rw [if_neg h, Z2q x l (i + 1)]
   congr 1
   apply propext
   simp [h]
theorem Zan (l : List Int) (x : Int) (K : Nat) (s : St) (hK : l.length < K) (hl : l.length <= 9223372036854775807) : acall cfg (K + 1) 181 [.lst (l.map iV), .int .i64 x] s = .ret (.int .i64 (indexI x 0 l), s) := by
 refine Z2y Zhl Zhk (by first | rfl | simp -implicitDefEqProofs only [redoH, redo1, go_sem]) (by first | rfl | simp -implicitDefEqProofs only [redoH, redo1, go_sem]) (by first | rfl | simp -implicitDefEqProofs only [redoH, redo1, go_sem]) ?_
 refine Za rfl fun T hT' hA => ?_
 have a0 := hA 0 _ rfl
 have a1 := hA 1 _ rfl
 have hT : T.length = 19 := hT'
 clear hA hT'
 simp -implicitDefEqProofs only [redoH, redo1, go_sem, a0, a1, hT]
 simp only [Z5]
 refine Zu (fun k T s' => T.length = 19 /\ nth T 0 = some (.lst (l.map iV)) /\ nth T 1 = some (.int .i64 x) /\ nth T 7 = some (.int .i64 l.length) /\ s' = ⟨[], 0, [], false, []⟩ /\ ∃ i : Nat, nth T 8 = some (.int .i64 i) /\ i <= l.length /\ k = l.length - i /\ indexI x 0 l = indexI x i (l.drop i)) (k := l.length) (by omega) ?_ ?_
 ·exact ⟨by simp -implicitDefEqProofs only [redoH, redo1, go_sem, hT], by simp -implicitDefEqProofs only [redoH, redo1, go_sem, a0], by simp -implicitDefEqProofs only [redoH, redo1, go_sem, a1], by simp -implicitDefEqProofs only [redoH, redo1, go_sem, hT], rfl, 0, by simp -implicitDefEqProofs only [redoH, redo1, go_sem, hT] <;> rfl, by omega, rfl, rfl⟩
 clear a0 a1 hT
 rintro k T s' ⟨hT, a0, a1, a7, rfl, i, a8, hi, rfl, hm⟩
 simp -implicitDefEqProofs only [redoH, redo1, go_sem, a0, a1, a7, a8, hT]
 by_cases hil : (i : Int) < (l.length : Int)
 ·have hi' : i < l.length := by omega
  have e1 := Zj (f := iV) (l := l) (i := i) (z := 1) hi' rfl
  have hkk : l.length - (i + 1) < l.length - i := by omega
  rw [List.drop_eq_getElem_cons hi'] at hm
  simp only [indexI] at hm
  have hw1 : wrapF .i64 ((i : Int) + 1) = ((i + 1 : Nat) : Int) := Z8 (by omega) (by omega)
  generalize l[i] = y at *
  by_cases c1 : x = y
  ·rw [if_pos c1] at hm
   simp -implicitDefEqProofs only [redoH, redo1, go_sem, a0, a1, a7, a8, hT, hil, e1, c1, Try.results181]
   rw [<- c1, hm]
  ·rw [if_neg c1] at hm
   simp -implicitDefEqProofs only [redoH, redo1, go_sem, a0, a1, a7, a8, hT, hil, e1, c1, hw1]
   exact ⟨l.length - (i + 1), hkk, trivial, trivial, trivial, trivial, trivial, i + 1, rfl, hi', rfl, hm⟩
 ·have hie : i = l.length := by omega
  subst hie
  rw [List.drop_length] at hm
  simp only [indexI] at hm
  simp -implicitDefEqProofs only [redoH, redo1, go_sem, a0, a1, a7, a8, hT, hil, hm, Try.results181]
theorem Z1y (l : List Int) (x : Int) (K : Nat) (s : St) (hK : l.length < K) (hl : l.length <= 9223372036854775807) : acall cfg (K + 2) 158 [.lst (l.map iV), .int .i64 x] s = .ret (.bool (decide (x ∈ l)), s) := by
 refine Z2y Zh9 Zh8 (by first | rfl | simp -implicitDefEqProofs only [redoH, redo1, go_sem]) (by first | rfl | simp -implicitDefEqProofs only [redoH, redo1, go_sem]) (by first | rfl | simp -implicitDefEqProofs only [redoH, redo1, go_sem]) ?_
 refine Za rfl fun T hT' hA => ?_
 have a0 := hA 0 _ rfl
 have a1 := hA 1 _ rfl
 have hT : T.length = 9 := hT'
 clear hA hT'
 have hc := fun s => Zan l x K s hK hl
 have hn := Z2q x l 0
 simp -implicitDefEqProofs only [redoH, redo1, go_sem, a0, a1, hT, hc, hn, Try.results158]
end Go.Proofs.Ytgnpnfkncbnjnaa
namespace Go.Proofs.Ytgnpnfkncbnjnaa
attribute [local go_sem_proc] Int.reduceEq Int.reduceNeg Nat.reduceEqDiff Nat.reduceLT Nat.reduceAdd Nat.reduceSub Nat.reduceMul Int.reduceLE Int.reduceLT Int.reduceToNat Nat.reduceLeDiff
attribute [local go_sem] Int.toNat_natCast Bool.not_true Bool.not_false
open Go Go.Am
attribute [local congr] Zf Z9 Zc
attribute [local go_sem] Go.Am.buildSliceA Go.Am.frozen Go.Am.freezeG Go.Am.freezeGs Go.Am.minmax
def shutE (np : Int) : Int -> List Int -> Int
 | _, [] => 0
 | last, p :: l => if fromB p 0 (np - 1) = true then if p <= last then 11 else shutE np p l else 7
def stageE (v : Vac) (s : Bk) : Int := if fromB s.ticks 0 2000 = true /\ fromB s.heat 0 2000 = true then shutE v.pipes.length (-1) s.shut else 2
theorem Zao (v : Vac) (b : Bk) (K : Nat) (s : St) (hK : b.shut.length < K) (hl : b.shut.length <= 9223372036854775807) (hp : v.pipes.length <= 9223372036854775807) : acall cfg (K + 2) 95 [vacV v, bkV b] s = .ret (.int .i64 (stageE v b), s) := by
 refine Z2y Zjk Zjj (by first | rfl | simp -implicitDefEqProofs only [redoH, redo1, go_sem]) (by first | rfl | simp -implicitDefEqProofs only [redoH, redo1, go_sem]) (by first | rfl | simp -implicitDefEqProofs only [redoH, redo1, go_sem]) ?_
 refine Za rfl fun T hT' hA => ?_
 have a0 := hA 0 _ rfl
 have a1 := hA 1 _ rfl
 have hT : T.length = 39 := hT'
 clear hA hT'
 have hc := fun n lo hi s => Jm n lo hi K s
 have hw : wrapF .i64 ((v.pipes.length : Int) - 1) = (v.pipes.length : Int) - 1 := Z8 (by omega) (by omega)
 unfold stageE
 simp -implicitDefEqProofs only [redoH, redo1, go_sem, a0, a1, hT, hc]
 by_cases c1 : fromB b.ticks 0 2000 = true
 ·by_cases c2 : fromB b.heat 0 2000 = true
  ·rw [if_pos ⟨c1, c2⟩]
   simp -implicitDefEqProofs only [redoH, redo1, go_sem, a0, a1, hT, hc, c1, c2]
   simp only [Z5]
   refine Zu (fun k T s' => T.length = 39 /\ nth T 2 = some (.ptr [0] 0) /\ nth T 19 = some (.lst (b.shut.map iV)) /\ nth T 20 = some (.int .i64 b.shut.length) /\ s' = ⟨[([1], .cells [.int .i64 b.ticks, .int .i64 b.heat, .lst (b.shut.map iV), .bool b.flash] true 0), ([0], .cells [.lst (v.vessels.map vesV), .lst (v.pipes.map pipV), .lst (v.pumps.map pmpV), .lst (v.leaks.map inlV), .lst (v.getters.map gtrV)] true 0)], 2, [], false, []⟩ /\
    ∃ (i : Nat) (last : Int), nth T 21 = some (.int .i64 i) /\ nth T 5 = some (.int .i64 last) /\ i <= b.shut.length /\ k = b.shut.length - i /\ shutE v.pipes.length (-1) b.shut = shutE v.pipes.length last (b.shut.drop i)) (k := b.shut.length) (by omega) ?_ ?_
   ·exact ⟨by simp -implicitDefEqProofs only [redoH, redo1, go_sem, hT], by simp -implicitDefEqProofs only [redoH, redo1, go_sem, hT], by simp -implicitDefEqProofs only [redoH, redo1, go_sem, hT], by simp -implicitDefEqProofs only [redoH, redo1, go_sem, hT], rfl, 0, -1, by simp -implicitDefEqProofs only [redoH, redo1, go_sem, hT] <;> rfl, by simp -implicitDefEqProofs only [redoH, redo1, go_sem, hT] <;> rfl, by omega, rfl, rfl⟩
   clear a0 a1 hT T
   rintro k T s' ⟨hT, a2, a19, a20, rfl, i, last, a21, a5, hi, rfl, he⟩
   simp -implicitDefEqProofs only [redoH, redo1, go_sem, a2, a5, a19, a20, a21, hT]
   by_cases hil : (i : Int) < (b.shut.length : Int)
   ·have hi' : i < b.shut.length := by omega
    have e1 := Zj (f := iV) (l := b.shut) (i := i) (z := 1) hi' rfl
    have hkk : b.shut.length - (i + 1) < b.shut.length - i := by omega
    rw [List.drop_eq_getElem_cons hi'] at he
    have hw1 : wrapF .i64 ((i : Int) + 1) = ((i + 1 : Nat) : Int) := Z8 (by omega) (by omega)
    generalize b.shut[i] = x at *
    simp only [shutE] at he
    simp -implicitDefEqProofs only [redoH, redo1, go_sem, a2, a5, a19, a20, a21, hT, hil, e1, hw, hc]
    by_cases d1 : fromB x 0 (v.pipes.length - 1) = true
    ·rw [if_pos d1] at he
     by_cases d2 : x <= last
     ·rw [if_pos d2] at he
      simp -implicitDefEqProofs only [redoH, redo1, go_sem, a2, a5, a19, a20, a21, hT, d1, d2, he, Try.results95]
     ·rw [if_neg d2] at he
      simp -implicitDefEqProofs only [redoH, redo1, go_sem, a2, a5, a19, a20, a21, hT, d1, d2, hw1]
      exact ⟨b.shut.length - (i + 1), hkk, trivial, trivial, trivial, trivial, trivial, i + 1, x, rfl, rfl, hi', rfl, he⟩
    ·rw [if_neg d1] at he
     simp -implicitDefEqProofs only [redoH, redo1, go_sem, a2, a5, a19, a20, a21, hT, d1, he, Try.results95]
   ·have hie : i = b.shut.length := by omega
    subst hie
    rw [List.drop_length] at he
    simp only [shutE] at he
    simp -implicitDefEqProofs only [redoH, redo1, go_sem, a2, a5, a19, a20, a21, hT, hil, he, Try.results95]
  ·rw [if_neg (fun h => c2 h.2)]
   simp -implicitDefEqProofs only [redoH, redo1, go_sem, a0, a1, hT, hc, c1, c2, Try.results95]
 ·rw [if_neg (fun h => c1 h.1)]
  simp -implicitDefEqProofs only [redoH, redo1, go_sem, a0, a1, hT, hc, c1, Try.results95]
end Go.Proofs.Ytgnpnfkncbnjnaa
namespace Go.Proofs.Ytgnpnfkncbnjnaa
open Go Go.Am
attribute [local congr] Zf Z9 Zc
attribute [local go_sem] Go.Am.buildSliceA Go.Am.frozen Go.Am.freezeG Go.Am.freezeGs Go.Am.minmax
def outP (x : Int) (shut : List Int) : Nat -> Rg -> List Pip -> Rg
 | _, acc, [] => acc
 | i, acc, p :: r => if (i : Int) ∈ shut then outP x shut (i + 1) acc r else
  outP x shut (i + 1) (if p.b = x then plusR (if p.a = x then plusR acc p.out else acc) p.back else (if p.a = x then plusR acc p.out else acc)) r
def outM (x : Int) : Rg -> List Pmp -> Rg
 | acc, [] => acc
 | acc, q :: r => outM x (if q.at' = x then plusR acc q.part else acc) r
def outR (v : Vac) (x : Int) (shut : List Int) : Rg := outM x (outP x shut 0 ⟨0, 0⟩ v.pipes) v.pumps
structure Vac.Lens (v : Vac) (K : Nat) : Prop where
 ves : v.vessels.length < K /\ v.vessels.length <= 9223372036854775807
 pip : v.pipes.length < K /\ v.pipes.length <= 9223372036854775807
 pmp : v.pumps.length < K /\ v.pumps.length <= 9223372036854775807
 inl : v.leaks.length < K /\ v.leaks.length <= 9223372036854775807
 gtr : v.getters.length < K /\ v.getters.length <= 9223372036854775807
 bands : ∀ x ∈ v.vessels, x.bands.length <= 9223372036854775807
end Go.Proofs.Ytgnpnfkncbnjnaa
namespace Go.Proofs.Ytgnpnfkncbnjnaa
open Go Go.Am
attribute [local congr] Zf Z9 Zc
attribute [local go_sem] Go.Am.buildSliceA Go.Am.frozen Go.Am.freezeG Go.Am.freezeGs Go.Am.minmax
def firstE {α : Type} (f : α -> Int) : List α -> Int
 | [] => 0
 | a :: r => if f a = 0 then firstE f r else f a
def getE (n : Int) (g : Gtr) : Int := if atE n g.at' g.part 1000000 = 0 then spansE g.room 1000000000 else atE n g.at' g.part 1000000
def partsE (v : Vac) : Int :=
 if firstE (pipE v.vessels.length) v.pipes = 0 then
  if firstE (fun q : Pmp => atE v.vessels.length q.at' q.part 1000000) v.pumps = 0 then
   if firstE (fun l : Inl => atE v.vessels.length l.at' l.gas 100000) v.leaks = 0 then firstE (getE v.vessels.length) v.getters
   else firstE (fun l : Inl => atE v.vessels.length l.at' l.gas 100000) v.leaks
  else firstE (fun q : Pmp => atE v.vessels.length q.at' q.part 1000000) v.pumps
 else firstE (pipE v.vessels.length) v.pipes
def overB (v : Vac) : Bool := decide (8 < v.vessels.length) || decide (16 < v.pipes.length) || decide (8 < v.pumps.length) || decide (8 < v.leaks.length) || decide (8 < v.getters.length)
def outB (v : Vac) : Nat -> Nat -> Bool
 | _, 0 => false
 | i, k + 1 => decide (1000000 < (outR v i []).hi) || outB v (i + 1) k
def checkE (v : Vac) : Int :=
 if v.vessels.length = 0 then 6 else if overB v = true then 8 else
 if firstE vesE v.vessels = 0 then if partsE v = 0 then if outB v 0 v.vessels.length = true then 14 else 0 else partsE v else firstE vesE v.vessels
end Go.Proofs.Ytgnpnfkncbnjnaa
namespace Go.Am
open Go
section
variable {C : Cfg} {K : Nat}
theorem Z7f {f : FuncId} {fn : Func} {args : List AV} {s : St} {es : List (AV × AV)} (hm : C.mode.get f = some 3) (hf : C.fn.get f = some fn) (hn : namesVs false args [] = []) (hr : renVs [] args = some args)
  (hes : flatE es = true)
  (hd : (bodyA (C.at f) (acall C K) (around C K) (K + 1) fn args s0).Does fun x => ∃ mm, x.1 = .map mm /\ hget x.2.H mm = some (.map es false)) :
  acall C (K + 1) f args s = .ret (.map (s.pre ++ [s.n]), s.new (.map es false)) := by
 rw [X1]
 unfold enterA
 rw [hf]; simp only
 rw [hm]; simp only
 obtain ⟨⟨v1, s1⟩, e1, mm, rfl, e2⟩ := hd
 simp only at e2
 unfold handA
 have hl : lendM 200 (namesVs false args []) [] [] s = .ret (([], []), s) := by rw [hn]; exact Yr 199 _ _ _
 rw [Zg, hl]
 have hnd : nodupN [] = true := rfl
 have hz : zipN [] (namesFrom [] 0 ([] : List Nm).length) = [] := rfl
 have hrb : renBs [] [] = some [] := rfl
 have hcalm : calm [] = true := rfl
 simp only [Tr.bind_ret, hnd, hz, hr, hrb, hcalm]
 have hst : (⟨zipB (namesFrom [] 0 ([] : List Nm).length) [], ([] : List Nm).length, [], false, []⟩ : St) = s0 := rfl
 rw [hst, e1]
 have ho : oneR false (.ret (.map mm, s1)) = some (.map mm, s1.H) := rfl
 have hy : getAll s1.H (namesFrom [] 0 ([] : List Nm).length) = some [] := rfl
 rw [ho]; simp only
 rw [hy]; simp only
 have hnv : namesV true (.map mm) (namesBs true [] []) = [mm] := rfl
 rw [hnv]
 have hre0 : ∀ k, reachL s1.H (k + 2) [mm] [] [] = some ([mm], [.map es false]) := fun k => by
  rw [Z00]
  have m0 : memNm mm [] = false := rfl
  rw [m0]; simp only
  rw [e2]; simp only
  show reachL s1.H (k + 1) [] [mm] [_] = _
  rw [Z5b]
 have hre : reachL s1.H 200 [mm] (namesFrom [] 0 ([] : List Nm).length) [] = some ([mm], [.map es false]) := hre0 198
 rw [hre]; simp only
 have hn0 : nodupN [mm] = true := rfl
 rw [hn0]; simp only
 rw [Zg]
 show (Tr.ret ((s.pre, s.n), s)).bind _ = _
 rw [Tr.bind_ret]
 have hz2 : zipN [mm] ([] ++ namesFrom s.pre s.n ([.map es false] : List Blk).length) = [(mm, s.pre ++ [s.n])] := rfl
 simp only
 rw [hz2]
 have hz0 : ∀ mp, renBs mp [] = some [] := fun _ => rfl
 have hv2 : renV [(mm, s.pre ++ [s.n])] (.map mm) = some (.map (s.pre ++ [s.n])) := by simp only [renV, lookN, Zh]
 have hb2 : renBs [(mm, s.pre ++ [s.n])] [.map es false] = some [.map es false] := by simp only [renBs, renB, hes]
 simp only [hv2, hz0, hb2, putAll, newAll, Zg, Xz, Tr.bind_ret, Xi]
end
end Go.Am
namespace Go.Proofs.Ytgnpnfkncbnjnaa
open Go Go.Am
attribute [local congr] Zf Z9 Zc
attribute [local go_sem] Go.Am.buildSliceA Go.Am.frozen Go.Am.freezeG Go.Am.freezeGs Go.Am.minmax
def getS : List (Int × Rg) -> Int -> Rg
 | [], _ => ⟨0, 0⟩
 | a :: r, k => if k = a.1 then a.2 else getS r k
def setS : List (Int × Rg) -> Int -> Rg -> List (Int × Rg)
 | [], k, x => [(k, x)]
 | a :: r, k, x => if k = a.1 then (k, x) :: r else a :: setS r k x
theorem Z01 (k : Int) (x : Rg) : ∀ (es : List (Int × Rg)) (q : Int), getS (setS es k x) q = if q = k then x else getS es q
 | [], q => by simp only [setS, getS]
 | a :: r, q => by
  unfold setS
  by_cases h : k = a.1
  ·rw [if_pos h]
   simp only [getS]
   by_cases hq : q = k
   ·rw [if_pos hq, if_pos hq]
   ·rw [if_neg hq, if_neg hq, if_neg (by rw [<- h]; exact hq)]
  ·rw [if_neg h]
   simp only [getS]
   by_cases hq : q = a.1
   ·rw [if_pos hq, if_neg (by rw [hq]; exact Ne.symm h), if_pos hq]
   ·rw [if_neg hq, Z01 k x r q, if_neg hq]
def encE (es : List (Int × Rg)) : List (AV × AV) := es.map fun e => (iV e.1, rgV e.2)
theorem Z7g : ∀ es, flatE (encE es) = true
 | [] => rfl
 | a :: r => Z7g r
theorem Z6a (k : Int) : ∀ (es : List (Int × Rg)) (i : Nat), (findA (.int .i64 k) (encE es) i = some none /\ getS es k = ⟨0, 0⟩ /\ ∀ x, encE (setS es k x) = encE es ++ [(iV k, rgV x)]) ∨
  ∃ j, findA (.int .i64 k) (encE es) i = some (some (i + j, rgV (getS es k))) /\ ∀ x, encE (setS es k x) = setNth (encE es) j (iV k, rgV x)
 | [], i => .inl ⟨rfl, rfl, fun _ => rfl⟩
 | a :: r, i => by
  have he : eqSame (.int .i64 k) (iV a.1) = some (decide (k = a.1)) := rfl
  have hu : findA (.int .i64 k) (encE (a :: r)) i = (match eqSame (.int .i64 k) (iV a.1) with
   | some true => some (some (i, rgV a.2))
   | some false => findA (.int .i64 k) (encE r) (i + 1)
   | none => none) := rfl
  by_cases h : k = a.1
  ·refine .inr ⟨0, ?_, fun x => ?_⟩
   ·rw [hu, he, decide_eq_true h]
    simp only [getS, if_pos h, Nat.add_zero]
   ·simp only [setS, if_pos h]; rfl
  ·have hd : decide (k = a.1) = false := decide_eq_false h
   rcases Z6a k r (i + 1) with ⟨h1, h2, h3⟩ | ⟨j, h1, h2⟩
   ·refine .inl ⟨?_, ?_, fun x => ?_⟩
    ·rw [hu, he, hd]; exact h1
    ·simp only [getS, if_neg h]; exact h2
    ·simp only [setS, if_neg h]
     show (iV a.1, rgV a.2) :: encE (setS r k x) = _
     rw [h3]; rfl
   ·refine .inr ⟨j + 1, ?_, fun x => ?_⟩
    ·rw [hu, he, hd]
     simp only [getS, if_neg h]
     rw [h1, show i + 1 + j = i + (j + 1) by omega]
    ·simp only [setS, if_neg h]
     show (iV a.1, rgV a.2) :: encE (setS r k x) = _
     rw [h2]; rfl
theorem Z8p : cfg.desc 181 = some (.map 3 26) := by kernel_rfl
theorem Zf3 : cfg.desc 3 = some (.int .i64) := by kernel_rfl
theorem Z9p {C : Cfg} (hC : C.ty = cfg.ty) {es : List (Int × Rg)} {k : Int} {b : Nm} {s : St} {fz : Bool} (hg : hget s.H b = some (.map (encE es) fz)) :
  lookupA C 181 (.map b) (.int .i64 k) false s = .ret (rgV (getS es k), s) := by
 have d1 : C.desc 181 = some (.map 3 26) := by unfold Cfg.desc; rw [hC]; exact Z8p
 have d3 : C.desc 3 = some (.int .i64) := by unfold Cfg.desc; rw [hC]; exact Zf3
 unfold lookupA
 rw [d1]
 simp only [Zg, entriesA, Xn, hg, Tr.bind_ret, Xi]
 rw [d3, hC, Z5a]
 rcases Z6a k es 0 with ⟨h1, h2, _⟩ | ⟨j, h1, _⟩
 ·simp only [h1, keyKind, decide_true]
  rw [h2]; rfl
 ·simp only [h1, keyKind, decide_true]
  rfl
theorem Zhn {C : Cfg} (hC : C.ty = cfg.ty) {es : List (Int × Rg)} {k : Int} {x : Rg} {b : Nm} {s : St} (hg : hget s.H b = some (.map (encE es) false)) :
  updateA C 181 (.map b) (.int .i64 k) (rgV x) s = .ret ((), s.put b (.map (encE (setS es k x)) false)) := by
 have d1 : C.desc 181 = some (.map 3 26) := by unfold Cfg.desc; rw [hC]; exact Z8p
 have d3 : C.desc 3 = some (.int .i64) := by unfold Cfg.desc; rw [hC]; exact Zf3
 unfold updateA
 rw [d1]
 simp only [Zg, Xn, hg, Tr.bind_ret]
 rw [d3]
 rcases Z6a k es 0 with ⟨h1, _, h2⟩ | ⟨j, h1, h2⟩
 ·have ho : (rgV x).okc = true := rfl
  simp only [h1, keyKind, decide_true, ho]
  rw [Xy, hg]
  simp only
  rw [h2]; rfl
 ·have ho : (rgV x).okc = true := rfl
  simp only [h1, keyKind, decide_true, ho]
  rw [Xy, hg]
  simp only
  rw [h2, Nat.zero_add]; rfl
def leaveP (shut : List Int) : Nat -> List (Int × Rg) -> List Pip -> List (Int × Rg)
 | _, es, [] => es
 | i, es, p :: r => if (i : Int) ∈ shut then leaveP shut (i + 1) es r else
  leaveP shut (i + 1) (setS (setS es p.a (plusR (getS es p.a) p.out)) p.b (plusR (getS (setS es p.a (plusR (getS es p.a) p.out)) p.b) p.back)) r
def leaveM : List (Int × Rg) -> List Pmp -> List (Int × Rg)
 | es, [] => es
 | es, q :: r => leaveM (setS es q.at' (plusR (getS es q.at') q.part)) r
def leaveL (v : Vac) (shut : List Int) : List (Int × Rg) := leaveM (leaveP shut 0 [] v.pipes) v.pumps
theorem Z2f (shut : List Int) (x : Int) : ∀ (l : List Pip) (i : Nat) (es : List (Int × Rg)), getS (leaveP shut i es l) x = outP x shut i (getS es x) l
 | [], _, _ => rfl
 | p :: r, i, es => by
  simp only [leaveP, outP]
  split
  ·exact Z2f shut x r _ _
  ·rw [Z2f shut x r _ _]
   congr 1
   rw [Z01]
   by_cases h1 : x = p.b
   ·subst h1
    rw [if_pos rfl, if_pos rfl, Z01]
    by_cases h2 : p.b = p.a
    ·rw [if_pos h2, if_pos h2.symm, <- h2]
    ·rw [if_neg h2, if_neg (Ne.symm h2)]
   ·rw [if_neg h1, if_neg (fun h => h1 h.symm), Z01]
    by_cases h2 : x = p.a
    ·subst h2
     simp
    ·rw [if_neg h2, if_neg (fun h => h2 h.symm)]
theorem Z5g (x : Int) : ∀ (l : List Pmp) (es : List (Int × Rg)), getS (leaveM es l) x = outM x (getS es x) l
 | [], _ => rfl
 | q :: r, es => by
  simp only [leaveM, outM]
  rw [Z5g x r, Z01]
  by_cases h : q.at' = x
  ·rw [if_pos h.symm, if_pos h, h]
  ·rw [if_neg (Ne.symm h), if_neg h]
theorem Z45 (v : Vac) (shut : List Int) (x : Int) : getS (leaveL v shut) x = outR v x shut := by
 unfold leaveL outR
 rw [Z5g, Z2f shut x v.pipes 0 []]; rfl
end Go.Proofs.Ytgnpnfkncbnjnaa
namespace Go.Proofs.Ytgnpnfkncbnjnaa
attribute [local go_sem_proc] Int.reduceEq Int.reduceNeg Nat.reduceEqDiff Nat.reduceLT Nat.reduceAdd Nat.reduceSub Nat.reduceMul Int.reduceLE Int.reduceLT Int.reduceToNat Nat.reduceLeDiff
attribute [local go_sem] Int.toNat_natCast Bool.not_true Bool.not_false
open Go Go.Am
attribute [local congr] Zf Z9 Zc
attribute [local go_sem] Go.Am.buildSliceA Go.Am.frozen Go.Am.freezeG Go.Am.freezeGs Go.Am.minmax
theorem Z2r (v : Vac) (shut : List Int) (K : Nat) (s : St) (hv : v.Lens K) (hs : shut.length < K) (hs2 : shut.length <= 9223372036854775807) :
  acall cfg (K + 3) 118 [vacV v, .lst (shut.map iV)] s = .ret (.map (s.pre ++ [s.n]), s.new (.map (encE (leaveL v shut)) false)) := by
 refine Z7f Zgj Zgi rfl (by simp only [renVs, renV, vacV, Z0j, Z0k, Z0l, Z0m, Z0n, fl_i]) (Z7g _) ?_
 refine Za rfl fun T hT' hA => ?_
 have a0 := hA 0 _ rfl
 have a1 := hA 1 _ rfl
 have hT : T.length = 63 := hT'
 clear hA hT'
 obtain ⟨⟨_, _⟩, ⟨hp1, hp2⟩, ⟨hm1, hm2⟩, _, _, _⟩ := hv
 have hh := fun n s => Z1y shut n K s hs hs2
 have had := fun a b s => Z1v a b (K + 1) s
 have hlk := fun (es : List (Int × Rg)) (k : Int) (s : St) (hg : hget s.H [1] = some (.map (encE es) false)) => Z9p (C := cfg.at 118) rfl (k := k) hg
 have hup := fun (es : List (Int × Rg)) (k : Int) (x : Rg) (s : St) (hg : hget s.H [1] = some (.map (encE es) false)) => Zhn (C := cfg.at 118) rfl (k := k) (x := x) hg
 simp only [rgV] at had hlk hup
 simp -implicitDefEqProofs only [redoH, redo1, go_sem, a0, a1, hT]
 simp only [Z5]
 refine Zu (fun k T s' => T.length = 63 /\ nth T 1 = some (.lst (shut.map iV)) /\ nth T 2 = some (.ptr [0] 0) /\ nth T 5 = some (.map [1]) /\ nth T 12 = some (.lst (v.pipes.map pipV)) /\ nth T 13 = some (.int .i64 v.pipes.length) /\ ∃ (i n : Nat) (es : List (Int × Rg)) (H : Heap), nth T 14 = some (.int .i64 i) /\ i <= v.pipes.length /\ k = v.pipes.length - i /\ s' = ⟨H, n + 2, [], false, []⟩ /\ hget H [0] = some (.cells [.lst (v.vessels.map vesV), .lst (v.pipes.map pipV), .lst (v.pumps.map pmpV), .lst (v.leaks.map inlV), .lst (v.getters.map gtrV)] true 0) /\
  hget H [1] = some (.map (encE es) false) /\ leaveP shut 0 [] v.pipes = leaveP shut i es (v.pipes.drop i)) (k := v.pipes.length) (by omega) ?_ ?_
 ·exact ⟨by simp -implicitDefEqProofs only [redoH, redo1, go_sem, hT], by simp -implicitDefEqProofs only [redoH, redo1, go_sem, a1], by simp -implicitDefEqProofs only [redoH, redo1, go_sem, hT], by simp -implicitDefEqProofs only [redoH, redo1, go_sem, hT], by simp -implicitDefEqProofs only [redoH, redo1, go_sem, hT], by simp -implicitDefEqProofs only [redoH, redo1, go_sem, hT], 0, 0, [], _, by simp -implicitDefEqProofs only [redoH, redo1, go_sem, hT] <;> rfl, by omega, rfl, rfl, rfl, rfl, rfl⟩
 clear a0 a1 hT T
 rintro k T s' ⟨hT, a1, a2, a5, a12, a13, i, n, es, H, a14, hi, rfl, rfl, g0, g1, he⟩
 simp -implicitDefEqProofs only [redoH, redo1, go_sem, a1, a2, a5, a12, a13, a14, hT]
 by_cases hil : (i : Int) < (v.pipes.length : Int)
 ·have hi' : i < v.pipes.length := by omega
  have e1 := Zj (f := pipV) (l := v.pipes) (i := i) (z := 6) hi' rfl
  have hkk : v.pipes.length - (i + 1) < v.pipes.length - i := by omega
  rw [List.drop_eq_getElem_cons hi'] at he
  generalize v.pipes[i] = p at *
  simp only [leaveP] at he
  have k0 : ∀ X, hget (([n + 2], X) :: H) [0] = _ := fun X => (Z6 _ _ (Ys (by omega))).trans g0
  have k1 : ∀ X, hget (([n + 2], X) :: H) [1] = _ := fun X => (Z6 _ _ (Ys (by omega))).trans g1
  have j1 : ∀ X Z, hget (([n + 2], X) :: hset H [1] Z) [1] = _ := fun X Z => (Z6 _ _ (Ys (by omega))).trans (Zv Z g1)
  have w1 : ∀ Z, hget (hset H [1] Z) [1] = some Z := fun Z => Zv Z g1
  have w2 : ∀ Z Y, hget (hset (hset H [1] Z) [1] Y) [1] = some Y := fun Z Y => Zv Y (w1 Z)
  have d0 : ∀ X Z Y, hget (([n + 2], X) :: hset (hset H [1] Z) [1] Y) [0] = _ := fun X Z Y => (Z6 _ _ (Ys (by omega))).trans ((Z7 _ Y (by decide)).trans ((Z7 H Z (by decide)).trans g0))
  have d1 : ∀ X Z Y, hget (([n + 2], X) :: hset (hset H [1] Z) [1] Y) [1] = _ := fun X Z Y => (Z6 _ _ (Ys (by omega))).trans (w2 Z Y)
  have hw1 : wrapF .i64 ((i : Int) + 1) = ((i + 1 : Nat) : Int) := Z8 (by omega) (by omega)
  simp -implicitDefEqProofs only [redoH, redo1, go_sem, a1, a2, a5, a12, a13, a14, hT, hil, e1, hh]
  by_cases c1 : (i : Int) ∈ shut
  ·rw [if_pos c1] at he
   simp -implicitDefEqProofs only [redoH, redo1, go_sem, a1, a2, a5, a12, a13, a14, hT, c1, hw1]
   exact ⟨v.pipes.length - (i + 1), hkk, trivial, trivial, trivial, trivial, trivial, trivial, i + 1, n + 1, es, _, rfl, hi', rfl, rfl, k0 _, k1 _, he⟩
  ·rw [if_neg c1] at he
   simp -implicitDefEqProofs only [redoH, redo1, go_sem, a1, a2, a5, a12, a13, a14, hT, c1]
   simp only [Z5]
   refine Z0i [10] [10] (by kernel_rfl) ?_
   simp -implicitDefEqProofs only [redoH, redo1, go_sem, a1, a2, a5, a12, a13, a14, hT, k1, hlk es p.a, had (getS es p.a) ⟨p.out.lo, p.out.hi⟩, hup es p.a (plusR (getS es p.a) p.out)]
   generalize hes : setS es p.a (plusR (getS es p.a) p.out) = es1 at *
   simp only [Z5]
   refine Z0i [10] [10] (by kernel_rfl) ?_
   simp -implicitDefEqProofs only [redoH, redo1, go_sem, a1, a2, a5, a12, a13, a14, hT, j1, w1, hlk es1 p.b, had (getS es1 p.b) ⟨p.back.lo, p.back.hi⟩, hup es1 p.b (plusR (getS es1 p.b) p.back), hw1]
   exact ⟨v.pipes.length - (i + 1), hkk, trivial, trivial, trivial, trivial, trivial, trivial, i + 1, n + 3, setS es1 p.b (plusR (getS es1 p.b) p.back), _, rfl, hi', rfl, rfl, d0 _ _ _, d1 _ _ _, he⟩
 ·have hie : i = v.pipes.length := by omega
  subst hie
  rw [List.drop_length] at he
  simp only [leaveP] at he
  have hL : leaveL v shut = leaveM es v.pumps := by unfold leaveL; rw [he]
  rw [hL]
  simp -implicitDefEqProofs only [redoH, redo1, go_sem, a1, a2, a5, a12, a13, a14, hT, hil, g0]
  simp only [Z5]
  refine Zu (fun k T s' => T.length = 63 /\ nth T 5 = some (.map [1]) /\ nth T 45 = some (.lst (v.pumps.map pmpV)) /\ nth T 46 = some (.int .i64 v.pumps.length) /\ ∃ (i n : Nat) (es2 : List (Int × Rg)) (H : Heap), nth T 47 = some (.int .i64 i) /\ i <= v.pumps.length /\ k = v.pumps.length - i /\ s' = ⟨H, n + 2, [], false, []⟩ /\
   hget H [1] = some (.map (encE es2) false) /\ leaveM es v.pumps = leaveM es2 (v.pumps.drop i)) (k := v.pumps.length) (by omega) ?_ ?_
  ·exact ⟨by simp -implicitDefEqProofs only [redoH, redo1, go_sem, hT], by simp -implicitDefEqProofs only [redoH, redo1, go_sem, a5], by simp -implicitDefEqProofs only [redoH, redo1, go_sem, hT], by simp -implicitDefEqProofs only [redoH, redo1, go_sem, hT], 0, n, es, H, by simp -implicitDefEqProofs only [redoH, redo1, go_sem, hT] <;> rfl, by omega, rfl, rfl, g1, rfl⟩
  clear a1 a2 a5 a12 a13 a14 hT T g0 g1 H n
  rintro k T s' ⟨hT, a5, a45, a46, i, n, es2, H, a47, hi, rfl, rfl, g1, he2⟩
  simp -implicitDefEqProofs only [redoH, redo1, go_sem, a5, a45, a46, a47, hT]
  by_cases hil2 : (i : Int) < (v.pumps.length : Int)
  ·have hi' : i < v.pumps.length := by omega
   have e1 := Zj (f := pmpV) (l := v.pumps) (i := i) (z := 3) hi' rfl
   have hkk : v.pumps.length - (i + 1) < v.pumps.length - i := by omega
   rw [List.drop_eq_getElem_cons hi'] at he2
   generalize v.pumps[i] = q at *
   simp only [leaveM] at he2
   have k1 : ∀ X, hget (([n + 2], X) :: H) [1] = _ := fun X => (Z6 _ _ (Ys (by omega))).trans g1
   have j1 : ∀ X Z, hget (([n + 2], X) :: hset H [1] Z) [1] = _ := fun X Z => (Z6 _ _ (Ys (by omega))).trans (Zv Z g1)
   have hw1 : wrapF .i64 ((i : Int) + 1) = ((i + 1 : Nat) : Int) := Z8 (by omega) (by omega)
   simp -implicitDefEqProofs only [redoH, redo1, go_sem, a5, a45, a46, a47, hT, hil2, e1]
   simp only [Z5]
   refine Z0i [10] [10] (by kernel_rfl) ?_
   simp -implicitDefEqProofs only [redoH, redo1, go_sem, a5, a45, a46, a47, hT, k1, hlk es2 q.at', had (getS es2 q.at') ⟨q.part.lo, q.part.hi⟩, hup es2 q.at' (plusR (getS es2 q.at') q.part), hw1]
   exact ⟨v.pumps.length - (i + 1), hkk, trivial, trivial, trivial, trivial, i + 1, n + 2, setS es2 q.at' (plusR (getS es2 q.at') q.part), _, rfl, hi', rfl, rfl, j1 _ _, he2⟩
  ·have hie : i = v.pumps.length := by omega
   subst hie
   rw [List.drop_length] at he2
   simp only [leaveM] at he2
   rw [he2]
   simp -implicitDefEqProofs only [redoH, redo1, go_sem, a5, a45, a46, a47, hT, hil2, Try.results118]
   exact ⟨_, rfl, g1⟩
end Go.Proofs.Ytgnpnfkncbnjnaa
namespace Go.Am
open Go
theorem X8 {b : Nm} {r bs : List Nm} {xs : List Blk} {H : Heap} {n : Nat} {p : Nm} {jr : Bool} {j : Delta} {x : Blk} (k : Nat) (hm : memNm b bs = false) (hb : hget H b = some x) : lendM (k + 1) (b :: r) bs xs ⟨H, n, p, jr, j⟩ = lendM k (namesB false x r) (bs ++ [b]) (xs ++ [x]) ⟨H, n, p, jr, j⟩ := by
 rw [Zak, hm]
 simp only
 rw [Zg, Xn, hb]
 rfl
end Go.Am
namespace Go.Proofs.Ytgnpnfkncbnjnaa
attribute [local go_sem_proc] Int.reduceEq Int.reduceNeg Nat.reduceEqDiff Nat.reduceLT Nat.reduceAdd Nat.reduceSub Nat.reduceMul Int.reduceLE Int.reduceLT Int.reduceToNat Nat.reduceLeDiff
attribute [local go_sem] Int.toNat_natCast Bool.not_true Bool.not_false
open Go Go.Am
attribute [local congr] Zf Z9 Zc
attribute [local go_sem] Go.Am.buildSliceA Go.Am.frozen Go.Am.freezeG Go.Am.freezeGs Go.Am.minmax
theorem Z8q (at' : Int) (r : Rg) (most N : Int) (b : Nm) (K : Nat) (H : Heap) (n : Nat) (p : Nm) (jr : Bool) (j : Delta) (hb : hget H b = some (.cells [.int .i64 N] true 0)) (h1 : 0 <= N) (h2 : N <= 9223372036854775807) :
  acall cfg (K + 2) 104 [.int .i64 at', rgV r, .int .i64 most, .ptr b 0] ⟨H, n, p, jr, j⟩ = .ret (.int .i64 (atE N at' r most), ⟨H, n, p, jr, backJ jr [b] [.cells [.int .i64 N] true 0] j⟩) := by
 refine Xo (bs := [b]) (xs := [.cells [.int .i64 N] true 0]) (args' := [.int .i64 at', rgV r, .int .i64 most, .ptr [0] 0]) (xs' := [.cells [.int .i64 N] true 0]) Zfr Zfq (by show lendM (199 + 1) [b] [] [] _ = _; rw [X8 199 rfl hb]; exact Yr 198 _ _ _) (by simp only [getAll, hb]) rfl rfl (by show renVs [(b, [0])] _ = _; simp only [renVs, renV, rgV, lookN, Zh]) rfl rfl (fun _ => rfl) (fun _ h => by cases h) (show (0 : Nat) < 200 by decide) rfl rfl ?_
 refine Za rfl fun T hT' hA => ?_
 have a0 := hA 0 _ rfl
 have a1 := hA 1 _ rfl
 have a2 := hA 2 _ rfl
 have a3 := hA 3 _ rfl
 have hT : T.length = 16 := hT'
 clear hA hT'
 have hg : hget (zipB (namesFrom [] 0 [b].length) [.cells [.int .i64 N] true 0]) [0] = some (.cells [.int .i64 N] true 0) := rfl
 have hz : zipB (namesFrom [] 0 [b].length) [Blk.cells [.int .i64 N] true 0] = [([0], .cells [.int .i64 N] true 0)] := rfl
 have hy : getAll [([1], Blk.cells [.int .i64 r.lo, .int .i64 r.hi] true 0), ([0], .cells [.int .i64 N] true 0)] (namesFrom [] 0 [b].length) = some [.cells [.int .i64 N] true 0] := rfl
 rw [hz]
 have hc := fun s => Jm at' 0 (N - 1) K s
 have hsp := fun s => J4 r most K s
 have hw : wrapF .i64 (N - 1) = N - 1 := Z8 (by omega) (by omega)
 simp only [rgV] at hsp
 unfold atE
 by_cases c1 : fromB at' 0 (N - 1) = true
 ·rw [if_pos c1]
  simp -implicitDefEqProofs only [redoH, redo1, go_sem, a0, a1, a2, a3, hT, hw, hc, c1, hsp, Try.results104]
  exact ⟨trivial, hy⟩
 ·rw [if_neg c1]
  simp -implicitDefEqProofs only [redoH, redo1, go_sem, a0, a1, a2, a3, hT, hw, hc, c1, Try.results104]
  exact ⟨trivial, hy⟩
theorem Zcf (x : Pip) (N : Int) (b : Nm) (K : Nat) (H : Heap) (n : Nat) (p : Nm) (jr : Bool) (j : Delta) (hb : hget H b = some (.cells [.int .i64 N] true 0)) (h1 : 0 <= N) (h2 : N <= 9223372036854775807) :
  acall cfg (K + 2) 107 [pipV x, .ptr b 0] ⟨H, n, p, jr, j⟩ = .ret (.int .i64 (pipE N x), ⟨H, n, p, jr, backJ jr [b] [.cells [.int .i64 N] true 0] j⟩) := by
 refine Xo (bs := [b]) (xs := [.cells [.int .i64 N] true 0]) (args' := [pipV x, .ptr [0] 0]) (xs' := [.cells [.int .i64 N] true 0]) Zfx Zfw (by show lendM (199 + 1) [b] [] [] _ = _; rw [X8 199 rfl hb]; exact Yr 198 _ _ _) (by simp only [getAll, hb]) rfl rfl (by show renVs [(b, [0])] _ = _; simp only [renVs, renV, pipV, lookN, Zh]) rfl rfl (fun _ => rfl) (fun _ h => by cases h) (show (0 : Nat) < 200 by decide) rfl rfl ?_
 refine Za rfl fun T hT' hA => ?_
 have a0 := hA 0 _ rfl
 have a1 := hA 1 _ rfl
 have hT : T.length = 35 := hT'
 clear hA hT'
 have hz : zipB (namesFrom [] 0 [b].length) [Blk.cells [.int .i64 N] true 0] = [([0], .cells [.int .i64 N] true 0)] := rfl
 have hy : ∀ X, getAll [([1], X), ([0], .cells [.int .i64 N] true 0)] (namesFrom [] 0 [b].length) = some [.cells [.int .i64 N] true 0] := fun _ => rfl
 rw [hz]
 have hc := fun m s => Jm m 0 (N - 1) K s
 have hsp := fun r s => J4 r 1000000 K s
 have hw : wrapF .i64 (N - 1) = N - 1 := Z8 (by omega) (by omega)
 simp only [rgV] at hsp
 unfold pipE
 by_cases c1 : fromB x.a 0 (N - 1) = true
 ·by_cases c2 : fromB x.b 0 (N - 1) = true
  ·rw [if_pos ⟨c1, c2⟩]
   by_cases c3 : x.a = x.b
   ·rw [if_pos c3]
    simp -implicitDefEqProofs only [redoH, redo1, go_sem, a0, a1, hT, hw, hc, c1, c2, c3, Try.results107]
    exact ⟨trivial, hy _⟩
   ·rw [if_neg c3]
    by_cases c4 : spansE x.out 1000000 = 0
    ·rw [if_pos c4]
     simp -implicitDefEqProofs only [redoH, redo1, go_sem, a0, a1, hT, hw, hc, c1, c2, c3, hsp ⟨x.out.lo, x.out.hi⟩, hsp ⟨x.back.lo, x.back.hi⟩, c4, Try.results107]
     exact ⟨trivial, hy _⟩
    ·rw [if_neg c4]
     simp -implicitDefEqProofs only [redoH, redo1, go_sem, a0, a1, hT, hw, hc, c1, c2, c3, hsp ⟨x.out.lo, x.out.hi⟩, c4, Try.results107]
     exact ⟨trivial, hy _⟩
  ·rw [if_neg (fun h => c2 h.2)]
   simp -implicitDefEqProofs only [redoH, redo1, go_sem, a0, a1, hT, hw, hc, c1, c2, Try.results107]
   exact ⟨trivial, hy _⟩
 ·rw [if_neg (fun h => c1 h.1)]
  simp -implicitDefEqProofs only [redoH, redo1, go_sem, a0, a1, hT, hw, hc, c1, Try.results107]
  exact ⟨trivial, hy _⟩
theorem Zap (x : Pmp) (N : Int) (b4 b3 : Nm) (hne : b3 ≠ b4) (K : Nat) (H : Heap) (n : Nat) (p : Nm) (jr : Bool) (j : Delta) (hb4 : hget H b4 = some (.cells [.func 104 [.ptr b3 0]] true 0)) (hb3 : hget H b3 = some (.cells [.int .i64 N] true 0)) (h1 : 0 <= N) (h2 : N <= 9223372036854775807) :
  acall cfg (K + 3) 108 [pmpV x, .ptr b4 0] ⟨H, n, p, jr, j⟩ = .ret (.int .i64 (atE N x.at' x.part 1000000), ⟨H, n, p, jr, backJ jr [b4, b3] [.cells [.func 104 [.ptr b3 0]] true 0, .cells [.int .i64 N] true 0] j⟩) := by
 have e34 := Zi hne
 have e43 := Zi (Ne.symm hne)
 refine Xo (bs := [b4, b3]) (xs := [.cells [.func 104 [.ptr b3 0]] true 0, .cells [.int .i64 N] true 0]) (args' := [pmpV x, .ptr [0] 0]) (xs' := [.cells [.func 104 [.ptr [1] 0]] true 0, .cells [.int .i64 N] true 0]) Zfz Zfy (by show lendM (199 + 1) [b4] [] [] _ = _; rw [X8 199 rfl hb4]; show lendM (198 + 1) [b3] [b4] [_] _ = _; rw [X8 198 (by simp only [memNm, e34]) hb3]; exact Yr 197 _ _ _) (by simp only [getAll, hb4, hb3]) (by simp only [nodupN, memNm, e43]) rfl (by show renVs [(b4, [0]), (b3, [1])] _ = _; simp only [renVs, renV, pmpV, lookN, Zh])
  (by show renBs [(b4, [0]), (b3, [1])] _ = _; simp only [renBs, renB, renVs, renV, lookN, e34, Zh]) rfl (fun _ => rfl) (fun c h => by rcases List.mem_cons.1 h with rfl | h; rfl; cases h) (show (1 : Nat) < 200 by decide) rfl rfl ?_
 refine Za rfl fun T hT' hA => ?_
 have a0 := hA 0 _ rfl
 have a1 := hA 1 _ rfl
 have hT : T.length = 10 := hT'
 clear hA hT'
 have hz : zipB (namesFrom [] 0 [b4, b3].length) [Blk.cells [.func 104 [.ptr [1] 0]] true 0, .cells [.int .i64 N] true 0] = [([0], .cells [.func 104 [.ptr [1] 0]] true 0), ([1], .cells [.int .i64 N] true 0)] := rfl
 have hy : ∀ X, getAll [([2], X), ([0], .cells [.func 104 [.ptr [1] 0]] true 0), ([1], .cells [.int .i64 N] true 0)] (namesFrom [] 0 [b4, b3].length) = some [.cells [.func 104 [.ptr [1] 0]] true 0, .cells [.int .i64 N] true 0] := fun _ => rfl
 have hl2 : [b4, b3].length = 2 := rfl
 rw [hz, hl2]
 rw [hl2] at hy
 have hat := fun X at' r most j => Z8q at' r most N [1] K [([2], X), ([0], .cells [.func 104 [.ptr [1] 0]] true 0), ([1], .cells [.int .i64 N] true 0)] 3 [] false j rfl h1 h2
 simp only [rgV, Yy] at hat
 simp -implicitDefEqProofs only [redoH, redo1, go_sem, a0, a1, hT, hat _ x.at' ⟨x.part.lo, x.part.hi⟩, Try.results108]
 exact ⟨trivial, hy _⟩
theorem Zaq (x : Inl) (N : Int) (b4 b3 : Nm) (hne : b3 ≠ b4) (K : Nat) (H : Heap) (n : Nat) (p : Nm) (jr : Bool) (j : Delta) (hb4 : hget H b4 = some (.cells [.func 104 [.ptr b3 0]] true 0)) (hb3 : hget H b3 = some (.cells [.int .i64 N] true 0)) (h1 : 0 <= N) (h2 : N <= 9223372036854775807) :
  acall cfg (K + 3) 109 [inlV x, .ptr b4 0] ⟨H, n, p, jr, j⟩ = .ret (.int .i64 (atE N x.at' x.gas 100000), ⟨H, n, p, jr, backJ jr [b4, b3] [.cells [.func 104 [.ptr b3 0]] true 0, .cells [.int .i64 N] true 0] j⟩) := by
 have e34 := Zi hne
 have e43 := Zi (Ne.symm hne)
 refine Xo (bs := [b4, b3]) (xs := [.cells [.func 104 [.ptr b3 0]] true 0, .cells [.int .i64 N] true 0]) (args' := [inlV x, .ptr [0] 0]) (xs' := [.cells [.func 104 [.ptr [1] 0]] true 0, .cells [.int .i64 N] true 0]) Zg1 Zg0 (by show lendM (199 + 1) [b4] [] [] _ = _; rw [X8 199 rfl hb4]; show lendM (198 + 1) [b3] [b4] [_] _ = _; rw [X8 198 (by simp only [memNm, e34]) hb3]; exact Yr 197 _ _ _) (by simp only [getAll, hb4, hb3]) (by simp only [nodupN, memNm, e43]) rfl (by show renVs [(b4, [0]), (b3, [1])] _ = _; simp only [renVs, renV, inlV, lookN, Zh])
  (by show renBs [(b4, [0]), (b3, [1])] _ = _; simp only [renBs, renB, renVs, renV, lookN, e34, Zh]) rfl (fun _ => rfl) (fun c h => by rcases List.mem_cons.1 h with rfl | h; rfl; cases h) (show (1 : Nat) < 200 by decide) rfl rfl ?_
 refine Za rfl fun T hT' hA => ?_
 have a0 := hA 0 _ rfl
 have a1 := hA 1 _ rfl
 have hT : T.length = 10 := hT'
 clear hA hT'
 have hz : zipB (namesFrom [] 0 [b4, b3].length) [Blk.cells [.func 104 [.ptr [1] 0]] true 0, .cells [.int .i64 N] true 0] = [([0], .cells [.func 104 [.ptr [1] 0]] true 0), ([1], .cells [.int .i64 N] true 0)] := rfl
 have hy : ∀ X, getAll [([2], X), ([0], .cells [.func 104 [.ptr [1] 0]] true 0), ([1], .cells [.int .i64 N] true 0)] (namesFrom [] 0 [b4, b3].length) = some [.cells [.func 104 [.ptr [1] 0]] true 0, .cells [.int .i64 N] true 0] := fun _ => rfl
 have hl2 : [b4, b3].length = 2 := rfl
 rw [hz, hl2]
 rw [hl2] at hy
 have hat := fun X at' r most j => Z8q at' r most N [1] K [([2], X), ([0], .cells [.func 104 [.ptr [1] 0]] true 0), ([1], .cells [.int .i64 N] true 0)] 3 [] false j rfl h1 h2
 simp only [rgV, Yy] at hat
 simp -implicitDefEqProofs only [redoH, redo1, go_sem, a0, a1, hT, hat _ x.at' ⟨x.gas.lo, x.gas.hi⟩, Try.results109]
 exact ⟨trivial, hy _⟩
theorem Zcg (x : Gtr) (N : Int) (b4 b3 : Nm) (hne : b3 ≠ b4) (K : Nat) (H : Heap) (n : Nat) (p : Nm) (jr : Bool) (j : Delta) (hb4 : hget H b4 = some (.cells [.func 104 [.ptr b3 0]] true 0)) (hb3 : hget H b3 = some (.cells [.int .i64 N] true 0)) (h1 : 0 <= N) (h2 : N <= 9223372036854775807) :
  acall cfg (K + 3) 110 [gtrV x, .ptr b4 0] ⟨H, n, p, jr, j⟩ = .ret (.int .i64 (getE N x), ⟨H, n, p, jr, backJ jr [b4, b3] [.cells [.func 104 [.ptr b3 0]] true 0, .cells [.int .i64 N] true 0] j⟩) := by
 have e34 := Zi hne
 have e43 := Zi (Ne.symm hne)
 refine Xo (bs := [b4, b3]) (xs := [.cells [.func 104 [.ptr b3 0]] true 0, .cells [.int .i64 N] true 0]) (args' := [gtrV x, .ptr [0] 0]) (xs' := [.cells [.func 104 [.ptr [1] 0]] true 0, .cells [.int .i64 N] true 0]) Zg3 Zg2 (by show lendM (199 + 1) [b4] [] [] _ = _; rw [X8 199 rfl hb4]; show lendM (198 + 1) [b3] [b4] [_] _ = _; rw [X8 198 (by simp only [memNm, e34]) hb3]; exact Yr 197 _ _ _) (by simp only [getAll, hb4, hb3]) (by simp only [nodupN, memNm, e43]) rfl (by show renVs [(b4, [0]), (b3, [1])] _ = _; simp only [renVs, renV, gtrV, lookN, Zh])
  (by show renBs [(b4, [0]), (b3, [1])] _ = _; simp only [renBs, renB, renVs, renV, lookN, e34, Zh]) rfl (fun _ => rfl) (fun c h => by rcases List.mem_cons.1 h with rfl | h; rfl; cases h) (show (1 : Nat) < 200 by decide) rfl rfl ?_
 refine Za rfl fun T hT' hA => ?_
 have a0 := hA 0 _ rfl
 have a1 := hA 1 _ rfl
 have hT : T.length = 17 := hT'
 clear hA hT'
 have hz : zipB (namesFrom [] 0 [b4, b3].length) [Blk.cells [.func 104 [.ptr [1] 0]] true 0, .cells [.int .i64 N] true 0] = [([0], .cells [.func 104 [.ptr [1] 0]] true 0), ([1], .cells [.int .i64 N] true 0)] := rfl
 have hy : ∀ X, getAll [([2], X), ([0], .cells [.func 104 [.ptr [1] 0]] true 0), ([1], .cells [.int .i64 N] true 0)] (namesFrom [] 0 [b4, b3].length) = some [.cells [.func 104 [.ptr [1] 0]] true 0, .cells [.int .i64 N] true 0] := fun _ => rfl
 have hl2 : [b4, b3].length = 2 := rfl
 rw [hz, hl2]
 rw [hl2] at hy
 have hat := fun X at' r most j => Z8q at' r most N [1] K [([2], X), ([0], .cells [.func 104 [.ptr [1] 0]] true 0), ([1], .cells [.int .i64 N] true 0)] 3 [] false j rfl h1 h2
 simp only [rgV, Yy] at hat
 have hsp := fun r s => J4 r 1000000000 (K + 1) s
 simp only [rgV] at hsp
 unfold getE
 by_cases c1 : atE N x.at' x.part 1000000 = 0
 ·rw [if_pos c1]
  simp -implicitDefEqProofs only [redoH, redo1, go_sem, a0, a1, hT, hat _ x.at' ⟨x.part.lo, x.part.hi⟩, c1, hsp ⟨x.room.lo, x.room.hi⟩, Try.results110]
  exact ⟨trivial, hy _⟩
 ·rw [if_neg c1]
  simp -implicitDefEqProofs only [redoH, redo1, go_sem, a0, a1, hT, hat _ x.at' ⟨x.part.lo, x.part.hi⟩, c1, Try.results110]
  exact ⟨trivial, hy _⟩
end Go.Proofs.Ytgnpnfkncbnjnaa
namespace Go.Proofs.Ytgnpnfkncbnjnaa
attribute [local go_sem_proc] Int.reduceEq Int.reduceNeg Nat.reduceEqDiff Nat.reduceLT Nat.reduceAdd Nat.reduceSub Nat.reduceMul Int.reduceLE Int.reduceLT Int.reduceToNat Nat.reduceLeDiff
attribute [local go_sem] Int.toNat_natCast Bool.not_true Bool.not_false
open Go Go.Am
attribute [local congr] Zf Z9 Zc
attribute [local go_sem] Go.Am.buildSliceA Go.Am.frozen Go.Am.freezeG Go.Am.freezeGs Go.Am.minmax
theorem Zdy (l : List Ves) (bl bf : Nm) (nblbf : bl ≠ bf) (K : Nat) (H : Heap) (n : Nat) (p : Nm) (jr : Bool) (j : Delta) (hbl : hget H bl = some (.cells [.lst (l.map vesV)] true 0)) (hbf : hget H bf = some (.cells [.func 113 []] true 0)) (hK : 20 < K) (hl : l.length < K) (hl2 : l.length <= 9223372036854775807) (hb : ∀ v ∈ l, v.bands.length <= 9223372036854775807) :
  acall cfg (K + 4) 153 [.ptr bl 0, .ptr bf 0] ⟨H, n, p, jr, j⟩ = .ret (.int .i64 (firstE vesE l), ⟨H, n, p, jr, backJ jr [bl, bf] [.cells [.lst (l.map vesV)] true 0, .cells [.func 113 []] true 0] j⟩) := by
 have eblbf := Zi nblbf
 have ebfbl := Zi (Ne.symm nblbf)
 refine Xo (bs := [bl, bf]) (xs := [.cells [.lst (l.map vesV)] true 0, .cells [.func 113 []] true 0]) (args' := [.ptr [0] 0, .ptr [1] 0]) (xs' := [.cells [.lst (l.map vesV)] true 0, .cells [.func 113 []] true 0]) Zgz Zgy (by show lendM (199 + 1) [bl, bf] [] [] _ = _; rw [X8 199 rfl hbl]; show lendM (198 + 1) [bf] [bl] [_] _ = _; rw [X8 198 (by simp only [memNm, eblbf, ebfbl]) hbf]; exact Yr 197 _ _ _) (by simp only [getAll, hbl, hbf]) (by simp only [nodupN, memNm, eblbf, ebfbl]) rfl (by show renVs [(bl, [0]), (bf, [1])] _ = _; simp only [renVs, renV, lookN, Zh, eblbf, ebfbl])
  (by show renBs [(bl, [0]), (bf, [1])] _ = _; simp only [renBs, renB, renVs, renV, lookN, Z0j, Zh, eblbf, ebfbl]) rfl (fun _ => rfl) (fun c h => by cases h) (show (0 : Nat) < 200 by decide) rfl (by show renBs [([0], bl), ([1], bf)] _ = _; simp only [renBs, renB, renVs, renV, Z0j]) ?_
 refine Za rfl fun T hT' hA => ?_
 have a0 := hA 0 _ rfl
 have a1 := hA 1 _ rfl
 have hT : T.length = 19 := hT'
 clear hA hT'
 have hz : zipB (namesFrom [] 0 [bl, bf].length) [Blk.cells [.lst (l.map vesV)] true 0, Blk.cells [.func 113 []] true 0] = [([0], .cells [.lst (l.map vesV)] true 0), ([1], .cells [.func 113 []] true 0)] := rfl
 have hl3 : [bl, bf].length = 2 := rfl
 rw [hz, hl3]
 simp -implicitDefEqProofs only [redoH, redo1, go_sem, a0, a1, hT]
 simp only [Z5]
 refine Zu (fun k T s' => T.length = 19 /\ nth T 1 = some (.ptr [1] 0) /\ nth T 6 = some (.lst (l.map vesV)) /\ nth T 7 = some (.int .i64 l.length) /\ ∃ (i n : Nat) (H : Heap), nth T 8 = some (.int .i64 i) /\ i <= l.length /\ k = l.length - i /\ s' = ⟨H, n + 2, [], false, []⟩ /\ hget H [0] = some (.cells [.lst (l.map vesV)] true 0) /\ hget H [1] = some (.cells [.func 113 []] true 0) /\ firstE vesE l = firstE vesE (l.drop i)) (k := l.length) (by omega) ?_ ?_
 ·exact ⟨by simp -implicitDefEqProofs only [redoH, redo1, go_sem, hT], by simp -implicitDefEqProofs only [redoH, redo1, go_sem, a1], by simp -implicitDefEqProofs only [redoH, redo1, go_sem, hT], by simp -implicitDefEqProofs only [redoH, redo1, go_sem, hT], 0, 0, _, by simp -implicitDefEqProofs only [redoH, redo1, go_sem, hT] <;> rfl, by omega, rfl, rfl, rfl, rfl, rfl⟩
 clear a0 a1 hT T
 rintro k T s' ⟨hT, a1, a6, a7, i, n, H, a8, hi, rfl, rfl, g0, g1, he⟩
 have hy : getAll H (namesFrom [] 0 2) = some [.cells [.lst (l.map vesV)] true 0, .cells [.func 113 []] true 0] := by show getAll H [[0], [1]] = _; simp only [getAll, g0, g1]
 simp -implicitDefEqProofs only [redoH, redo1, go_sem, a1, a6, a7, a8, hT]
 by_cases hil : (i : Int) < (l.length : Int)
 ·have hi' : i < l.length := by omega
  have e1 := Zj (f := vesV) (l := l) (i := i) (z := 6) hi' rfl
  have hkk : l.length - (i + 1) < l.length - i := by omega
  have hbi := hb (l[i]) (List.getElem_mem hi')
  rw [List.drop_eq_getElem_cons hi'] at he
  have hw1 : wrapF .i64 ((i : Int) + 1) = ((i + 1 : Nat) : Int) := Z8 (by omega) (by omega)
  generalize l[i] = x at *
  simp only [firstE] at he
  have k0 : ∀ X, hget (([n + 2], X) :: H) [0] = _ := fun X => (Z6 _ _ (Ys (by omega))).trans g0
  have k1 : ∀ X, hget (([n + 2], X) :: H) [1] = _ := fun X => (Z6 _ _ (Ys (by omega))).trans g1
  have hy2 : ∀ X, getAll (([n + 2], X) :: H) (namesFrom [] 0 2) = some [.cells [.lst (l.map vesV)] true 0, .cells [.func 113 []] true 0] := fun X => by show getAll _ [[0], [1]] = _; simp only [getAll, k0 X, k1 X]
  have hc := fun s => Z8o x (K + 1) s (by omega) hbi
  simp only [vesV, Yy] at hc
  simp only [vesV] at e1
  by_cases c1 : vesE x = 0
  ·rw [if_pos c1] at he
   simp -implicitDefEqProofs only [redoH, redo1, go_sem, a1, a6, a7, a8, hT, hil, e1, hc, c1, hw1, k0, k1]
   exact ⟨l.length - (i + 1), hkk, trivial, trivial, trivial, trivial, i + 1, n + 1, _, rfl, hi', rfl, rfl, k0 _, k1 _, he⟩
  ·rw [if_neg c1] at he
   simp -implicitDefEqProofs only [redoH, redo1, go_sem, a1, a6, a7, a8, hT, hil, e1, hc, c1, k0, k1, he, Try.results153]
   exact ⟨trivial, hy2 _⟩
 ·have hie : i = l.length := by omega
  subst hie
  rw [List.drop_length] at he
  simp only [firstE] at he
  simp -implicitDefEqProofs only [redoH, redo1, go_sem, a1, a6, a7, a8, hT, hil, he, Try.results153]
  exact ⟨trivial, hy⟩
theorem Zdz (l : List Pip) (N : Int) (bl bf b3 : Nm) (nblbf : bl ≠ bf) (nblb3 : bl ≠ b3) (nbfb3 : bf ≠ b3) (K : Nat) (H : Heap) (n : Nat) (p : Nm) (jr : Bool) (j : Delta) (hbl : hget H bl = some (.cells [.lst (l.map pipV)] true 0)) (hbf : hget H bf = some (.cells [.func 107 [.ptr b3 0]] true 0)) (hb3 : hget H b3 = some (.cells [.int .i64 N] true 0)) (h1 : 0 <= N) (h2 : N <= 9223372036854775807) (hK : 20 < K) (hl : l.length < K) (hl2 : l.length <= 9223372036854775807) :
  acall cfg (K + 4) 154 [.ptr bl 0, .ptr bf 0] ⟨H, n, p, jr, j⟩ = .ret (.int .i64 (firstE (pipE N) l), ⟨H, n, p, jr, backJ jr [bl, bf, b3] [.cells [.lst (l.map pipV)] true 0, .cells [.func 107 [.ptr b3 0]] true 0, .cells [.int .i64 N] true 0] j⟩) := by
 have eblbf := Zi nblbf
 have ebfbl := Zi (Ne.symm nblbf)
 have eblb3 := Zi nblb3
 have eb3bl := Zi (Ne.symm nblb3)
 have ebfb3 := Zi nbfb3
 have eb3bf := Zi (Ne.symm nbfb3)
 refine Xo (bs := [bl, bf, b3]) (xs := [.cells [.lst (l.map pipV)] true 0, .cells [.func 107 [.ptr b3 0]] true 0, .cells [.int .i64 N] true 0]) (args' := [.ptr [0] 0, .ptr [1] 0]) (xs' := [.cells [.lst (l.map pipV)] true 0, .cells [.func 107 [.ptr [2] 0]] true 0, .cells [.int .i64 N] true 0]) Zh1 Zh0 (by show lendM (199 + 1) [bl, bf] [] [] _ = _; rw [X8 199 rfl hbl]; show lendM (198 + 1) [bf] [bl] [_] _ = _; rw [X8 198 (by simp only [memNm, eblbf, ebfbl, eblb3, eb3bl, ebfb3, eb3bf]) hbf]; show lendM (197 + 1) [b3] [bl, bf] _ _ = _; rw [X8 197 (by simp only [memNm, eblbf, ebfbl, eblb3, eb3bl, ebfb3, eb3bf]) hb3]; exact Yr 196 _ _ _) (by simp only [getAll, hbl, hbf, hb3]) (by simp only [nodupN, memNm, eblbf, ebfbl, eblb3, eb3bl, ebfb3, eb3bf]) rfl (by show renVs [(bl, [0]), (bf, [1]), (b3, [2])] _ = _; simp only [renVs, renV, lookN, Zh, eblbf, ebfbl, eblb3, eb3bl, ebfb3, eb3bf])
  (by show renBs [(bl, [0]), (bf, [1]), (b3, [2])] _ = _; simp only [renBs, renB, renVs, renV, lookN, Z0k, Zh, eblbf, ebfbl, eblb3, eb3bl, ebfb3, eb3bf]) rfl (fun _ => rfl) (fun c h => by rcases List.mem_cons.1 h with rfl | h; rfl; cases h) (show (1 : Nat) < 200 by decide) rfl (by show renBs [([0], bl), ([1], bf), ([2], b3)] _ = _; simp only [renBs, renB, renVs, renV, Z0k]; rfl) ?_
 refine Za rfl fun T hT' hA => ?_
 have a0 := hA 0 _ rfl
 have a1 := hA 1 _ rfl
 have hT : T.length = 19 := hT'
 clear hA hT'
 have hz : zipB (namesFrom [] 0 [bl, bf, b3].length) [Blk.cells [.lst (l.map pipV)] true 0, Blk.cells [.func 107 [.ptr [2] 0]] true 0, Blk.cells [.int .i64 N] true 0] = [([0], .cells [.lst (l.map pipV)] true 0), ([1], .cells [.func 107 [.ptr [2] 0]] true 0), ([2], .cells [.int .i64 N] true 0)] := rfl
 have hl3 : [bl, bf, b3].length = 3 := rfl
 rw [hz, hl3]
 simp -implicitDefEqProofs only [redoH, redo1, go_sem, a0, a1, hT]
 simp only [Z5]
 refine Zu (fun k T s' => T.length = 19 /\ nth T 1 = some (.ptr [1] 0) /\ nth T 6 = some (.lst (l.map pipV)) /\ nth T 7 = some (.int .i64 l.length) /\ ∃ (i n : Nat) (H : Heap), nth T 8 = some (.int .i64 i) /\ i <= l.length /\ k = l.length - i /\ s' = ⟨H, n + 3, [], false, []⟩ /\ hget H [0] = some (.cells [.lst (l.map pipV)] true 0) /\ hget H [1] = some (.cells [.func 107 [.ptr [2] 0]] true 0) /\ hget H [2] = some (.cells [.int .i64 N] true 0) /\ firstE (pipE N) l = firstE (pipE N) (l.drop i)) (k := l.length) (by omega) ?_ ?_
 ·exact ⟨by simp -implicitDefEqProofs only [redoH, redo1, go_sem, hT], by simp -implicitDefEqProofs only [redoH, redo1, go_sem, a1], by simp -implicitDefEqProofs only [redoH, redo1, go_sem, hT], by simp -implicitDefEqProofs only [redoH, redo1, go_sem, hT], 0, 0, _, by simp -implicitDefEqProofs only [redoH, redo1, go_sem, hT] <;> rfl, by omega, rfl, rfl, rfl, rfl, rfl, rfl⟩
 clear a0 a1 hT T
 rintro k T s' ⟨hT, a1, a6, a7, i, n, H, a8, hi, rfl, rfl, g0, g1, g2, he⟩
 have hy : getAll H (namesFrom [] 0 3) = some [.cells [.lst (l.map pipV)] true 0, .cells [.func 107 [.ptr [2] 0]] true 0, .cells [.int .i64 N] true 0] := by show getAll H [[0], [1], [2]] = _; simp only [getAll, g0, g1, g2]
 simp -implicitDefEqProofs only [redoH, redo1, go_sem, a1, a6, a7, a8, hT]
 by_cases hil : (i : Int) < (l.length : Int)
 ·have hi' : i < l.length := by omega
  have e1 := Zj (f := pipV) (l := l) (i := i) (z := 6) hi' rfl
  have hkk : l.length - (i + 1) < l.length - i := by omega
  rw [List.drop_eq_getElem_cons hi'] at he
  have hw1 : wrapF .i64 ((i : Int) + 1) = ((i + 1 : Nat) : Int) := Z8 (by omega) (by omega)
  generalize l[i] = x at *
  simp only [firstE] at he
  have k0 : ∀ X, hget (([n + 3], X) :: H) [0] = _ := fun X => (Z6 _ _ (Ys (by omega))).trans g0
  have k1 : ∀ X, hget (([n + 3], X) :: H) [1] = _ := fun X => (Z6 _ _ (Ys (by omega))).trans g1
  have k2 : ∀ X, hget (([n + 3], X) :: H) [2] = _ := fun X => (Z6 _ _ (Ys (by omega))).trans g2
  have hy2 : ∀ X, getAll (([n + 3], X) :: H) (namesFrom [] 0 3) = some [.cells [.lst (l.map pipV)] true 0, .cells [.func 107 [.ptr [2] 0]] true 0, .cells [.int .i64 N] true 0] := fun X => by show getAll _ [[0], [1], [2]] = _; simp only [getAll, k0 X, k1 X, k2 X]
  have hc := fun X => Zcf x N [2] (K + 1) (([n + 3], X) :: H) (n + 3 + 1) [] false [] (k2 X) h1 h2
  simp only [pipV, Yy] at hc
  by_cases c1 : pipE N x = 0
  ·rw [if_pos c1] at he
   simp -implicitDefEqProofs only [redoH, redo1, go_sem, a1, a6, a7, a8, hT, hil, e1, hc, c1, hw1, k0, k1, k2]
   exact ⟨l.length - (i + 1), hkk, trivial, trivial, trivial, trivial, i + 1, n + 1, _, rfl, hi', rfl, rfl, k0 _, k1 _, k2 _, he⟩
  ·rw [if_neg c1] at he
   simp -implicitDefEqProofs only [redoH, redo1, go_sem, a1, a6, a7, a8, hT, hil, e1, hc, c1, k0, k1, k2, he, Try.results154]
   exact ⟨trivial, hy2 _⟩
 ·have hie : i = l.length := by omega
  subst hie
  rw [List.drop_length] at he
  simp only [firstE] at he
  simp -implicitDefEqProofs only [redoH, redo1, go_sem, a1, a6, a7, a8, hT, hil, he, Try.results154]
  exact ⟨trivial, hy⟩
theorem Ze0 (l : List Pmp) (N : Int) (bl bf b4 b3 : Nm) (nblbf : bl ≠ bf) (nblb4 : bl ≠ b4) (nblb3 : bl ≠ b3) (nbfb4 : bf ≠ b4) (nbfb3 : bf ≠ b3) (nb4b3 : b4 ≠ b3) (K : Nat) (H : Heap) (n : Nat) (p : Nm) (jr : Bool) (j : Delta) (hbl : hget H bl = some (.cells [.lst (l.map pmpV)] true 0)) (hbf : hget H bf = some (.cells [.func 108 [.ptr b4 0]] true 0)) (hb4 : hget H b4 = some (.cells [.func 104 [.ptr b3 0]] true 0)) (hb3 : hget H b3 = some (.cells [.int .i64 N] true 0)) (h1 : 0 <= N) (h2 : N <= 9223372036854775807) (hK : 20 < K) (hl : l.length < K) (hl2 : l.length <= 9223372036854775807) :
  acall cfg (K + 4) 155 [.ptr bl 0, .ptr bf 0] ⟨H, n, p, jr, j⟩ = .ret (.int .i64 (firstE (fun q : Pmp => atE N q.at' q.part 1000000) l), ⟨H, n, p, jr, backJ jr [bl, bf, b4, b3] [.cells [.lst (l.map pmpV)] true 0, .cells [.func 108 [.ptr b4 0]] true 0, .cells [.func 104 [.ptr b3 0]] true 0, .cells [.int .i64 N] true 0] j⟩) := by
 have eblbf := Zi nblbf
 have ebfbl := Zi (Ne.symm nblbf)
 have eblb4 := Zi nblb4
 have eb4bl := Zi (Ne.symm nblb4)
 have eblb3 := Zi nblb3
 have eb3bl := Zi (Ne.symm nblb3)
 have ebfb4 := Zi nbfb4
 have eb4bf := Zi (Ne.symm nbfb4)
 have ebfb3 := Zi nbfb3
 have eb3bf := Zi (Ne.symm nbfb3)
 have eb4b3 := Zi nb4b3
 have eb3b4 := Zi (Ne.symm nb4b3)
 refine Xo (bs := [bl, bf, b4, b3]) (xs := [.cells [.lst (l.map pmpV)] true 0, .cells [.func 108 [.ptr b4 0]] true 0, .cells [.func 104 [.ptr b3 0]] true 0, .cells [.int .i64 N] true 0]) (args' := [.ptr [0] 0, .ptr [1] 0]) (xs' := [.cells [.lst (l.map pmpV)] true 0, .cells [.func 108 [.ptr [2] 0]] true 0, .cells [.func 104 [.ptr [3] 0]] true 0, .cells [.int .i64 N] true 0]) Zh3 Zh2 (by show lendM (199 + 1) [bl, bf] [] [] _ = _; rw [X8 199 rfl hbl]; show lendM (198 + 1) [bf] [bl] [_] _ = _; rw [X8 198 (by simp only [memNm, eblbf, ebfbl, eblb4, eb4bl, eblb3, eb3bl, ebfb4, eb4bf, ebfb3, eb3bf, eb4b3, eb3b4]) hbf]; show lendM (197 + 1) [b4] [bl, bf] _ _ = _; rw [X8 197 (by simp only [memNm, eblbf, ebfbl, eblb4, eb4bl, eblb3, eb3bl, ebfb4, eb4bf, ebfb3, eb3bf, eb4b3, eb3b4]) hb4]; show lendM (196 + 1) [b3] [bl, bf, b4] _ _ = _; rw [X8 196 (by simp only [memNm, eblbf, ebfbl, eblb4, eb4bl, eblb3, eb3bl, ebfb4, eb4bf, ebfb3, eb3bf, eb4b3, eb3b4]) hb3]; exact Yr 195 _ _ _) (by simp only [getAll, hbl, hbf, hb4, hb3]) (by simp only [nodupN, memNm, eblbf, ebfbl, eblb4, eb4bl, eblb3, eb3bl, ebfb4, eb4bf, ebfb3, eb3bf, eb4b3, eb3b4]) rfl (by show renVs [(bl, [0]), (bf, [1]), (b4, [2]), (b3, [3])] _ = _; simp only [renVs, renV, lookN, Zh, eblbf, ebfbl, eblb4, eb4bl, eblb3, eb3bl, ebfb4, eb4bf, ebfb3, eb3bf, eb4b3, eb3b4])
  (by show renBs [(bl, [0]), (bf, [1]), (b4, [2]), (b3, [3])] _ = _; simp only [renBs, renB, renVs, renV, lookN, Z0l, Zh, eblbf, ebfbl, eblb4, eb4bl, eblb3, eb3bl, ebfb4, eb4bf, ebfb3, eb3bf, eb4b3, eb3b4]) rfl (fun _ => rfl) (fun c h => by rcases List.mem_cons.1 h with rfl | h; rfl; rcases List.mem_cons.1 h with rfl | h; rfl; cases h) (show (2 : Nat) < 200 by decide) rfl (by show renBs [([0], bl), ([1], bf), ([2], b4), ([3], b3)] _ = _; simp only [renBs, renB, renVs, renV, Z0l]; rfl) ?_
 refine Za rfl fun T hT' hA => ?_
 have a0 := hA 0 _ rfl
 have a1 := hA 1 _ rfl
 have hT : T.length = 19 := hT'
 clear hA hT'
 have hz : zipB (namesFrom [] 0 [bl, bf, b4, b3].length) [Blk.cells [.lst (l.map pmpV)] true 0, Blk.cells [.func 108 [.ptr [2] 0]] true 0, Blk.cells [.func 104 [.ptr [3] 0]] true 0, Blk.cells [.int .i64 N] true 0] = [([0], .cells [.lst (l.map pmpV)] true 0), ([1], .cells [.func 108 [.ptr [2] 0]] true 0), ([2], .cells [.func 104 [.ptr [3] 0]] true 0), ([3], .cells [.int .i64 N] true 0)] := rfl
 have hl3 : [bl, bf, b4, b3].length = 4 := rfl
 rw [hz, hl3]
 simp -implicitDefEqProofs only [redoH, redo1, go_sem, a0, a1, hT]
 simp only [Z5]
 refine Zu (fun k T s' => T.length = 19 /\ nth T 1 = some (.ptr [1] 0) /\ nth T 6 = some (.lst (l.map pmpV)) /\ nth T 7 = some (.int .i64 l.length) /\ ∃ (i n : Nat) (H : Heap), nth T 8 = some (.int .i64 i) /\ i <= l.length /\ k = l.length - i /\ s' = ⟨H, n + 4, [], false, []⟩ /\ hget H [0] = some (.cells [.lst (l.map pmpV)] true 0) /\ hget H [1] = some (.cells [.func 108 [.ptr [2] 0]] true 0) /\ hget H [2] = some (.cells [.func 104 [.ptr [3] 0]] true 0) /\ hget H [3] = some (.cells [.int .i64 N] true 0) /\ firstE (fun q : Pmp => atE N q.at' q.part 1000000) l = firstE (fun q : Pmp => atE N q.at' q.part 1000000) (l.drop i)) (k := l.length) (by omega) ?_ ?_
 ·exact ⟨by simp -implicitDefEqProofs only [redoH, redo1, go_sem, hT], by simp -implicitDefEqProofs only [redoH, redo1, go_sem, a1], by simp -implicitDefEqProofs only [redoH, redo1, go_sem, hT], by simp -implicitDefEqProofs only [redoH, redo1, go_sem, hT], 0, 0, _, by simp -implicitDefEqProofs only [redoH, redo1, go_sem, hT] <;> rfl, by omega, rfl, rfl, rfl, rfl, rfl, rfl, rfl⟩
 clear a0 a1 hT T
 rintro k T s' ⟨hT, a1, a6, a7, i, n, H, a8, hi, rfl, rfl, g0, g1, g2, g3, he⟩
 have hy : getAll H (namesFrom [] 0 4) = some [.cells [.lst (l.map pmpV)] true 0, .cells [.func 108 [.ptr [2] 0]] true 0, .cells [.func 104 [.ptr [3] 0]] true 0, .cells [.int .i64 N] true 0] := by show getAll H [[0], [1], [2], [3]] = _; simp only [getAll, g0, g1, g2, g3]
 simp -implicitDefEqProofs only [redoH, redo1, go_sem, a1, a6, a7, a8, hT]
 by_cases hil : (i : Int) < (l.length : Int)
 ·have hi' : i < l.length := by omega
  have e1 := Zj (f := pmpV) (l := l) (i := i) (z := 3) hi' rfl
  have hkk : l.length - (i + 1) < l.length - i := by omega
  rw [List.drop_eq_getElem_cons hi'] at he
  have hw1 : wrapF .i64 ((i : Int) + 1) = ((i + 1 : Nat) : Int) := Z8 (by omega) (by omega)
  generalize l[i] = x at *
  simp only [firstE] at he
  have k0 : ∀ X, hget (([n + 4], X) :: H) [0] = _ := fun X => (Z6 _ _ (Ys (by omega))).trans g0
  have k1 : ∀ X, hget (([n + 4], X) :: H) [1] = _ := fun X => (Z6 _ _ (Ys (by omega))).trans g1
  have k2 : ∀ X, hget (([n + 4], X) :: H) [2] = _ := fun X => (Z6 _ _ (Ys (by omega))).trans g2
  have k3 : ∀ X, hget (([n + 4], X) :: H) [3] = _ := fun X => (Z6 _ _ (Ys (by omega))).trans g3
  have hy2 : ∀ X, getAll (([n + 4], X) :: H) (namesFrom [] 0 4) = some [.cells [.lst (l.map pmpV)] true 0, .cells [.func 108 [.ptr [2] 0]] true 0, .cells [.func 104 [.ptr [3] 0]] true 0, .cells [.int .i64 N] true 0] := fun X => by show getAll _ [[0], [1], [2], [3]] = _; simp only [getAll, k0 X, k1 X, k2 X, k3 X]
  have hc := fun X => Zap x N [2] [3] (by decide) K (([n + 4], X) :: H) (n + 4 + 1) [] false [] (k2 X) (k3 X) h1 h2
  simp only [pmpV, Yy] at hc
  by_cases c1 : atE N x.at' x.part 1000000 = 0
  ·rw [if_pos c1] at he
   simp -implicitDefEqProofs only [redoH, redo1, go_sem, a1, a6, a7, a8, hT, hil, e1, hc, c1, hw1, k0, k1, k2, k3]
   exact ⟨l.length - (i + 1), hkk, trivial, trivial, trivial, trivial, i + 1, n + 1, _, rfl, hi', rfl, rfl, k0 _, k1 _, k2 _, k3 _, he⟩
  ·rw [if_neg c1] at he
   simp -implicitDefEqProofs only [redoH, redo1, go_sem, a1, a6, a7, a8, hT, hil, e1, hc, c1, k0, k1, k2, k3, he, Try.results155]
   exact ⟨trivial, hy2 _⟩
 ·have hie : i = l.length := by omega
  subst hie
  rw [List.drop_length] at he
  simp only [firstE] at he
  simp -implicitDefEqProofs only [redoH, redo1, go_sem, a1, a6, a7, a8, hT, hil, he, Try.results155]
  exact ⟨trivial, hy⟩
theorem Ze1 (l : List Inl) (N : Int) (bl bf b4 b3 : Nm) (nblbf : bl ≠ bf) (nblb4 : bl ≠ b4) (nblb3 : bl ≠ b3) (nbfb4 : bf ≠ b4) (nbfb3 : bf ≠ b3) (nb4b3 : b4 ≠ b3) (K : Nat) (H : Heap) (n : Nat) (p : Nm) (jr : Bool) (j : Delta) (hbl : hget H bl = some (.cells [.lst (l.map inlV)] true 0)) (hbf : hget H bf = some (.cells [.func 109 [.ptr b4 0]] true 0)) (hb4 : hget H b4 = some (.cells [.func 104 [.ptr b3 0]] true 0)) (hb3 : hget H b3 = some (.cells [.int .i64 N] true 0)) (h1 : 0 <= N) (h2 : N <= 9223372036854775807) (hK : 20 < K) (hl : l.length < K) (hl2 : l.length <= 9223372036854775807) :
  acall cfg (K + 4) 156 [.ptr bl 0, .ptr bf 0] ⟨H, n, p, jr, j⟩ = .ret (.int .i64 (firstE (fun l : Inl => atE N l.at' l.gas 100000) l), ⟨H, n, p, jr, backJ jr [bl, bf, b4, b3] [.cells [.lst (l.map inlV)] true 0, .cells [.func 109 [.ptr b4 0]] true 0, .cells [.func 104 [.ptr b3 0]] true 0, .cells [.int .i64 N] true 0] j⟩) := by
 have eblbf := Zi nblbf
 have ebfbl := Zi (Ne.symm nblbf)
 have eblb4 := Zi nblb4
 have eb4bl := Zi (Ne.symm nblb4)
 have eblb3 := Zi nblb3
 have eb3bl := Zi (Ne.symm nblb3)
 have ebfb4 := Zi nbfb4
 have eb4bf := Zi (Ne.symm nbfb4)
 have ebfb3 := Zi nbfb3
 have eb3bf := Zi (Ne.symm nbfb3)
 have eb4b3 := Zi nb4b3
 have eb3b4 := Zi (Ne.symm nb4b3)
 refine Xo (bs := [bl, bf, b4, b3]) (xs := [.cells [.lst (l.map inlV)] true 0, .cells [.func 109 [.ptr b4 0]] true 0, .cells [.func 104 [.ptr b3 0]] true 0, .cells [.int .i64 N] true 0]) (args' := [.ptr [0] 0, .ptr [1] 0]) (xs' := [.cells [.lst (l.map inlV)] true 0, .cells [.func 109 [.ptr [2] 0]] true 0, .cells [.func 104 [.ptr [3] 0]] true 0, .cells [.int .i64 N] true 0]) Zh5 Zh4 (by show lendM (199 + 1) [bl, bf] [] [] _ = _; rw [X8 199 rfl hbl]; show lendM (198 + 1) [bf] [bl] [_] _ = _; rw [X8 198 (by simp only [memNm, eblbf, ebfbl, eblb4, eb4bl, eblb3, eb3bl, ebfb4, eb4bf, ebfb3, eb3bf, eb4b3, eb3b4]) hbf]; show lendM (197 + 1) [b4] [bl, bf] _ _ = _; rw [X8 197 (by simp only [memNm, eblbf, ebfbl, eblb4, eb4bl, eblb3, eb3bl, ebfb4, eb4bf, ebfb3, eb3bf, eb4b3, eb3b4]) hb4]; show lendM (196 + 1) [b3] [bl, bf, b4] _ _ = _; rw [X8 196 (by simp only [memNm, eblbf, ebfbl, eblb4, eb4bl, eblb3, eb3bl, ebfb4, eb4bf, ebfb3, eb3bf, eb4b3, eb3b4]) hb3]; exact Yr 195 _ _ _) (by simp only [getAll, hbl, hbf, hb4, hb3]) (by simp only [nodupN, memNm, eblbf, ebfbl, eblb4, eb4bl, eblb3, eb3bl, ebfb4, eb4bf, ebfb3, eb3bf, eb4b3, eb3b4]) rfl (by show renVs [(bl, [0]), (bf, [1]), (b4, [2]), (b3, [3])] _ = _; simp only [renVs, renV, lookN, Zh, eblbf, ebfbl, eblb4, eb4bl, eblb3, eb3bl, ebfb4, eb4bf, ebfb3, eb3bf, eb4b3, eb3b4])
  (by show renBs [(bl, [0]), (bf, [1]), (b4, [2]), (b3, [3])] _ = _; simp only [renBs, renB, renVs, renV, lookN, Z0m, Zh, eblbf, ebfbl, eblb4, eb4bl, eblb3, eb3bl, ebfb4, eb4bf, ebfb3, eb3bf, eb4b3, eb3b4]) rfl (fun _ => rfl) (fun c h => by rcases List.mem_cons.1 h with rfl | h; rfl; rcases List.mem_cons.1 h with rfl | h; rfl; cases h) (show (2 : Nat) < 200 by decide) rfl (by show renBs [([0], bl), ([1], bf), ([2], b4), ([3], b3)] _ = _; simp only [renBs, renB, renVs, renV, Z0m]; rfl) ?_
 refine Za rfl fun T hT' hA => ?_
 have a0 := hA 0 _ rfl
 have a1 := hA 1 _ rfl
 have hT : T.length = 19 := hT'
 clear hA hT'
 have hz : zipB (namesFrom [] 0 [bl, bf, b4, b3].length) [Blk.cells [.lst (l.map inlV)] true 0, Blk.cells [.func 109 [.ptr [2] 0]] true 0, Blk.cells [.func 104 [.ptr [3] 0]] true 0, Blk.cells [.int .i64 N] true 0] = [([0], .cells [.lst (l.map inlV)] true 0), ([1], .cells [.func 109 [.ptr [2] 0]] true 0), ([2], .cells [.func 104 [.ptr [3] 0]] true 0), ([3], .cells [.int .i64 N] true 0)] := rfl
 have hl3 : [bl, bf, b4, b3].length = 4 := rfl
 rw [hz, hl3]
 simp -implicitDefEqProofs only [redoH, redo1, go_sem, a0, a1, hT]
 simp only [Z5]
 refine Zu (fun k T s' => T.length = 19 /\ nth T 1 = some (.ptr [1] 0) /\ nth T 6 = some (.lst (l.map inlV)) /\ nth T 7 = some (.int .i64 l.length) /\ ∃ (i n : Nat) (H : Heap), nth T 8 = some (.int .i64 i) /\ i <= l.length /\ k = l.length - i /\ s' = ⟨H, n + 4, [], false, []⟩ /\ hget H [0] = some (.cells [.lst (l.map inlV)] true 0) /\ hget H [1] = some (.cells [.func 109 [.ptr [2] 0]] true 0) /\ hget H [2] = some (.cells [.func 104 [.ptr [3] 0]] true 0) /\ hget H [3] = some (.cells [.int .i64 N] true 0) /\ firstE (fun l : Inl => atE N l.at' l.gas 100000) l = firstE (fun l : Inl => atE N l.at' l.gas 100000) (l.drop i)) (k := l.length) (by omega) ?_ ?_
 ·exact ⟨by simp -implicitDefEqProofs only [redoH, redo1, go_sem, hT], by simp -implicitDefEqProofs only [redoH, redo1, go_sem, a1], by simp -implicitDefEqProofs only [redoH, redo1, go_sem, hT], by simp -implicitDefEqProofs only [redoH, redo1, go_sem, hT], 0, 0, _, by simp -implicitDefEqProofs only [redoH, redo1, go_sem, hT] <;> rfl, by omega, rfl, rfl, rfl, rfl, rfl, rfl, rfl⟩
 clear a0 a1 hT T
 rintro k T s' ⟨hT, a1, a6, a7, i, n, H, a8, hi, rfl, rfl, g0, g1, g2, g3, he⟩
 have hy : getAll H (namesFrom [] 0 4) = some [.cells [.lst (l.map inlV)] true 0, .cells [.func 109 [.ptr [2] 0]] true 0, .cells [.func 104 [.ptr [3] 0]] true 0, .cells [.int .i64 N] true 0] := by show getAll H [[0], [1], [2], [3]] = _; simp only [getAll, g0, g1, g2, g3]
 simp -implicitDefEqProofs only [redoH, redo1, go_sem, a1, a6, a7, a8, hT]
 by_cases hil : (i : Int) < (l.length : Int)
 ·have hi' : i < l.length := by omega
  have e1 := Zj (f := inlV) (l := l) (i := i) (z := 3) hi' rfl
  have hkk : l.length - (i + 1) < l.length - i := by omega
  rw [List.drop_eq_getElem_cons hi'] at he
  have hw1 : wrapF .i64 ((i : Int) + 1) = ((i + 1 : Nat) : Int) := Z8 (by omega) (by omega)
  generalize l[i] = x at *
  simp only [firstE] at he
  have k0 : ∀ X, hget (([n + 4], X) :: H) [0] = _ := fun X => (Z6 _ _ (Ys (by omega))).trans g0
  have k1 : ∀ X, hget (([n + 4], X) :: H) [1] = _ := fun X => (Z6 _ _ (Ys (by omega))).trans g1
  have k2 : ∀ X, hget (([n + 4], X) :: H) [2] = _ := fun X => (Z6 _ _ (Ys (by omega))).trans g2
  have k3 : ∀ X, hget (([n + 4], X) :: H) [3] = _ := fun X => (Z6 _ _ (Ys (by omega))).trans g3
  have hy2 : ∀ X, getAll (([n + 4], X) :: H) (namesFrom [] 0 4) = some [.cells [.lst (l.map inlV)] true 0, .cells [.func 109 [.ptr [2] 0]] true 0, .cells [.func 104 [.ptr [3] 0]] true 0, .cells [.int .i64 N] true 0] := fun X => by show getAll _ [[0], [1], [2], [3]] = _; simp only [getAll, k0 X, k1 X, k2 X, k3 X]
  have hc := fun X => Zaq x N [2] [3] (by decide) K (([n + 4], X) :: H) (n + 4 + 1) [] false [] (k2 X) (k3 X) h1 h2
  simp only [inlV, Yy] at hc
  by_cases c1 : atE N x.at' x.gas 100000 = 0
  ·rw [if_pos c1] at he
   simp -implicitDefEqProofs only [redoH, redo1, go_sem, a1, a6, a7, a8, hT, hil, e1, hc, c1, hw1, k0, k1, k2, k3]
   exact ⟨l.length - (i + 1), hkk, trivial, trivial, trivial, trivial, i + 1, n + 1, _, rfl, hi', rfl, rfl, k0 _, k1 _, k2 _, k3 _, he⟩
  ·rw [if_neg c1] at he
   simp -implicitDefEqProofs only [redoH, redo1, go_sem, a1, a6, a7, a8, hT, hil, e1, hc, c1, k0, k1, k2, k3, he, Try.results156]
   exact ⟨trivial, hy2 _⟩
 ·have hie : i = l.length := by omega
  subst hie
  rw [List.drop_length] at he
  simp only [firstE] at he
  simp -implicitDefEqProofs only [redoH, redo1, go_sem, a1, a6, a7, a8, hT, hil, he, Try.results156]
  exact ⟨trivial, hy⟩
theorem Ze2 (l : List Gtr) (N : Int) (bl bf b4 b3 : Nm) (nblbf : bl ≠ bf) (nblb4 : bl ≠ b4) (nblb3 : bl ≠ b3) (nbfb4 : bf ≠ b4) (nbfb3 : bf ≠ b3) (nb4b3 : b4 ≠ b3) (K : Nat) (H : Heap) (n : Nat) (p : Nm) (jr : Bool) (j : Delta) (hbl : hget H bl = some (.cells [.lst (l.map gtrV)] true 0)) (hbf : hget H bf = some (.cells [.func 110 [.ptr b4 0]] true 0)) (hb4 : hget H b4 = some (.cells [.func 104 [.ptr b3 0]] true 0)) (hb3 : hget H b3 = some (.cells [.int .i64 N] true 0)) (h1 : 0 <= N) (h2 : N <= 9223372036854775807) (hK : 20 < K) (hl : l.length < K) (hl2 : l.length <= 9223372036854775807) :
  acall cfg (K + 4) 157 [.ptr bl 0, .ptr bf 0] ⟨H, n, p, jr, j⟩ = .ret (.int .i64 (firstE (getE N) l), ⟨H, n, p, jr, backJ jr [bl, bf, b4, b3] [.cells [.lst (l.map gtrV)] true 0, .cells [.func 110 [.ptr b4 0]] true 0, .cells [.func 104 [.ptr b3 0]] true 0, .cells [.int .i64 N] true 0] j⟩) := by
 have eblbf := Zi nblbf
 have ebfbl := Zi (Ne.symm nblbf)
 have eblb4 := Zi nblb4
 have eb4bl := Zi (Ne.symm nblb4)
 have eblb3 := Zi nblb3
 have eb3bl := Zi (Ne.symm nblb3)
 have ebfb4 := Zi nbfb4
 have eb4bf := Zi (Ne.symm nbfb4)
 have ebfb3 := Zi nbfb3
 have eb3bf := Zi (Ne.symm nbfb3)
 have eb4b3 := Zi nb4b3
 have eb3b4 := Zi (Ne.symm nb4b3)
 refine Xo (bs := [bl, bf, b4, b3]) (xs := [.cells [.lst (l.map gtrV)] true 0, .cells [.func 110 [.ptr b4 0]] true 0, .cells [.func 104 [.ptr b3 0]] true 0, .cells [.int .i64 N] true 0]) (args' := [.ptr [0] 0, .ptr [1] 0]) (xs' := [.cells [.lst (l.map gtrV)] true 0, .cells [.func 110 [.ptr [2] 0]] true 0, .cells [.func 104 [.ptr [3] 0]] true 0, .cells [.int .i64 N] true 0]) Zh7 Zh6 (by show lendM (199 + 1) [bl, bf] [] [] _ = _; rw [X8 199 rfl hbl]; show lendM (198 + 1) [bf] [bl] [_] _ = _; rw [X8 198 (by simp only [memNm, eblbf, ebfbl, eblb4, eb4bl, eblb3, eb3bl, ebfb4, eb4bf, ebfb3, eb3bf, eb4b3, eb3b4]) hbf]; show lendM (197 + 1) [b4] [bl, bf] _ _ = _; rw [X8 197 (by simp only [memNm, eblbf, ebfbl, eblb4, eb4bl, eblb3, eb3bl, ebfb4, eb4bf, ebfb3, eb3bf, eb4b3, eb3b4]) hb4]; show lendM (196 + 1) [b3] [bl, bf, b4] _ _ = _; rw [X8 196 (by simp only [memNm, eblbf, ebfbl, eblb4, eb4bl, eblb3, eb3bl, ebfb4, eb4bf, ebfb3, eb3bf, eb4b3, eb3b4]) hb3]; exact Yr 195 _ _ _) (by simp only [getAll, hbl, hbf, hb4, hb3]) (by simp only [nodupN, memNm, eblbf, ebfbl, eblb4, eb4bl, eblb3, eb3bl, ebfb4, eb4bf, ebfb3, eb3bf, eb4b3, eb3b4]) rfl (by show renVs [(bl, [0]), (bf, [1]), (b4, [2]), (b3, [3])] _ = _; simp only [renVs, renV, lookN, Zh, eblbf, ebfbl, eblb4, eb4bl, eblb3, eb3bl, ebfb4, eb4bf, ebfb3, eb3bf, eb4b3, eb3b4])
  (by show renBs [(bl, [0]), (bf, [1]), (b4, [2]), (b3, [3])] _ = _; simp only [renBs, renB, renVs, renV, lookN, Z0n, Zh, eblbf, ebfbl, eblb4, eb4bl, eblb3, eb3bl, ebfb4, eb4bf, ebfb3, eb3bf, eb4b3, eb3b4]) rfl (fun _ => rfl) (fun c h => by rcases List.mem_cons.1 h with rfl | h; rfl; rcases List.mem_cons.1 h with rfl | h; rfl; cases h) (show (2 : Nat) < 200 by decide) rfl (by show renBs [([0], bl), ([1], bf), ([2], b4), ([3], b3)] _ = _; simp only [renBs, renB, renVs, renV, Z0n]; rfl) ?_
 refine Za rfl fun T hT' hA => ?_
 have a0 := hA 0 _ rfl
 have a1 := hA 1 _ rfl
 have hT : T.length = 19 := hT'
 clear hA hT'
 have hz : zipB (namesFrom [] 0 [bl, bf, b4, b3].length) [Blk.cells [.lst (l.map gtrV)] true 0, Blk.cells [.func 110 [.ptr [2] 0]] true 0, Blk.cells [.func 104 [.ptr [3] 0]] true 0, Blk.cells [.int .i64 N] true 0] = [([0], .cells [.lst (l.map gtrV)] true 0), ([1], .cells [.func 110 [.ptr [2] 0]] true 0), ([2], .cells [.func 104 [.ptr [3] 0]] true 0), ([3], .cells [.int .i64 N] true 0)] := rfl
 have hl3 : [bl, bf, b4, b3].length = 4 := rfl
 rw [hz, hl3]
 simp -implicitDefEqProofs only [redoH, redo1, go_sem, a0, a1, hT]
 simp only [Z5]
 refine Zu (fun k T s' => T.length = 19 /\ nth T 1 = some (.ptr [1] 0) /\ nth T 6 = some (.lst (l.map gtrV)) /\ nth T 7 = some (.int .i64 l.length) /\ ∃ (i n : Nat) (H : Heap), nth T 8 = some (.int .i64 i) /\ i <= l.length /\ k = l.length - i /\ s' = ⟨H, n + 4, [], false, []⟩ /\ hget H [0] = some (.cells [.lst (l.map gtrV)] true 0) /\ hget H [1] = some (.cells [.func 110 [.ptr [2] 0]] true 0) /\ hget H [2] = some (.cells [.func 104 [.ptr [3] 0]] true 0) /\ hget H [3] = some (.cells [.int .i64 N] true 0) /\ firstE (getE N) l = firstE (getE N) (l.drop i)) (k := l.length) (by omega) ?_ ?_
 ·exact ⟨by simp -implicitDefEqProofs only [redoH, redo1, go_sem, hT], by simp -implicitDefEqProofs only [redoH, redo1, go_sem, a1], by simp -implicitDefEqProofs only [redoH, redo1, go_sem, hT], by simp -implicitDefEqProofs only [redoH, redo1, go_sem, hT], 0, 0, _, by simp -implicitDefEqProofs only [redoH, redo1, go_sem, hT] <;> rfl, by omega, rfl, rfl, rfl, rfl, rfl, rfl, rfl⟩
 clear a0 a1 hT T
 rintro k T s' ⟨hT, a1, a6, a7, i, n, H, a8, hi, rfl, rfl, g0, g1, g2, g3, he⟩
 have hy : getAll H (namesFrom [] 0 4) = some [.cells [.lst (l.map gtrV)] true 0, .cells [.func 110 [.ptr [2] 0]] true 0, .cells [.func 104 [.ptr [3] 0]] true 0, .cells [.int .i64 N] true 0] := by show getAll H [[0], [1], [2], [3]] = _; simp only [getAll, g0, g1, g2, g3]
 simp -implicitDefEqProofs only [redoH, redo1, go_sem, a1, a6, a7, a8, hT]
 by_cases hil : (i : Int) < (l.length : Int)
 ·have hi' : i < l.length := by omega
  have e1 := Zj (f := gtrV) (l := l) (i := i) (z := 5) hi' rfl
  have hkk : l.length - (i + 1) < l.length - i := by omega
  rw [List.drop_eq_getElem_cons hi'] at he
  have hw1 : wrapF .i64 ((i : Int) + 1) = ((i + 1 : Nat) : Int) := Z8 (by omega) (by omega)
  generalize l[i] = x at *
  simp only [firstE] at he
  have k0 : ∀ X, hget (([n + 4], X) :: H) [0] = _ := fun X => (Z6 _ _ (Ys (by omega))).trans g0
  have k1 : ∀ X, hget (([n + 4], X) :: H) [1] = _ := fun X => (Z6 _ _ (Ys (by omega))).trans g1
  have k2 : ∀ X, hget (([n + 4], X) :: H) [2] = _ := fun X => (Z6 _ _ (Ys (by omega))).trans g2
  have k3 : ∀ X, hget (([n + 4], X) :: H) [3] = _ := fun X => (Z6 _ _ (Ys (by omega))).trans g3
  have hy2 : ∀ X, getAll (([n + 4], X) :: H) (namesFrom [] 0 4) = some [.cells [.lst (l.map gtrV)] true 0, .cells [.func 110 [.ptr [2] 0]] true 0, .cells [.func 104 [.ptr [3] 0]] true 0, .cells [.int .i64 N] true 0] := fun X => by show getAll _ [[0], [1], [2], [3]] = _; simp only [getAll, k0 X, k1 X, k2 X, k3 X]
  have hc := fun X => Zcg x N [2] [3] (by decide) K (([n + 4], X) :: H) (n + 4 + 1) [] false [] (k2 X) (k3 X) h1 h2
  simp only [gtrV, Yy] at hc
  by_cases c1 : getE N x = 0
  ·rw [if_pos c1] at he
   simp -implicitDefEqProofs only [redoH, redo1, go_sem, a1, a6, a7, a8, hT, hil, e1, hc, c1, hw1, k0, k1, k2, k3]
   exact ⟨l.length - (i + 1), hkk, trivial, trivial, trivial, trivial, i + 1, n + 1, _, rfl, hi', rfl, rfl, k0 _, k1 _, k2 _, k3 _, he⟩
  ·rw [if_neg c1] at he
   simp -implicitDefEqProofs only [redoH, redo1, go_sem, a1, a6, a7, a8, hT, hil, e1, hc, c1, k0, k1, k2, k3, he, Try.results157]
   exact ⟨trivial, hy2 _⟩
 ·have hie : i = l.length := by omega
  subst hie
  rw [List.drop_length] at he
  simp only [firstE] at he
  simp -implicitDefEqProofs only [redoH, redo1, go_sem, a1, a6, a7, a8, hT, hil, he, Try.results157]
  exact ⟨trivial, hy⟩
end Go.Proofs.Ytgnpnfkncbnjnaa
namespace Go.Proofs.Ytgnpnfkncbnjnaa
attribute [local go_sem_proc] Int.reduceEq Int.reduceNeg Nat.reduceEqDiff Nat.reduceLT Nat.reduceAdd Nat.reduceSub Nat.reduceMul Int.reduceLE Int.reduceLT Int.reduceToNat Nat.reduceLeDiff
attribute [local go_sem] Int.toNat_natCast Bool.not_true Bool.not_false
open Go Go.Am
attribute [local congr] Zf Z9 Zc
attribute [local go_sem] Go.Am.buildSliceA Go.Am.frozen Go.Am.freezeG Go.Am.freezeGs Go.Am.minmax
@[go_sem] theorem Zv2 : ofConst .nilFunc = some .nilf := rfl
theorem Ze3 (l : List AV) (g : FuncId) (c : List AV) (K : Nat) (s : St) : acall cfg (K + 1) 112 [.lst l, .func g c] s = .ret (.func 153 [.ptr s.name 0, .ptr (s.new (.cells [.lst l] true 0)).name 0], (s.new (.cells [.lst l] true 0)).new (.cells [.func g c] true 0)) := by
 suffices h : (acall cfg (K + 1) 112 [.lst l, .func g c] s).Does fun x => x = (.func 153 [.ptr s.name 0, .ptr (s.new (.cells [.lst l] true 0)).name 0], (s.new (.cells [.lst l] true 0)).new (.cells [.func g c] true 0)) by
  obtain ⟨a, e, rfl⟩ := h; exact e
 rw [Z68 Zg7 Zg6]
 refine Za rfl fun T hT' hA => ?_
 have a0 := hA 0 _ rfl
 have a1 := hA 1 _ rfl
 have hT : T.length = 6 := hT'
 clear hA hT'
 obtain ⟨H, n, p, jr, j⟩ := s
 simp -implicitDefEqProofs only [redoH, redo1, go_sem, a0, a1, hT, Try.results112]
theorem Ze4 (l : List AV) (g : FuncId) (c : List AV) (K : Nat) (s : St) : acall cfg (K + 1) 114 [.lst l, .func g c] s = .ret (.func 154 [.ptr s.name 0, .ptr (s.new (.cells [.lst l] true 0)).name 0], (s.new (.cells [.lst l] true 0)).new (.cells [.func g c] true 0)) := by
 suffices h : (acall cfg (K + 1) 114 [.lst l, .func g c] s).Does fun x => x = (.func 154 [.ptr s.name 0, .ptr (s.new (.cells [.lst l] true 0)).name 0], (s.new (.cells [.lst l] true 0)).new (.cells [.func g c] true 0)) by
  obtain ⟨a, e, rfl⟩ := h; exact e
 rw [Z68 Zgb Zga]
 refine Za rfl fun T hT' hA => ?_
 have a0 := hA 0 _ rfl
 have a1 := hA 1 _ rfl
 have hT : T.length = 6 := hT'
 clear hA hT'
 obtain ⟨H, n, p, jr, j⟩ := s
 simp -implicitDefEqProofs only [redoH, redo1, go_sem, a0, a1, hT, Try.results114]
theorem Ze5 (l : List AV) (g : FuncId) (c : List AV) (K : Nat) (s : St) : acall cfg (K + 1) 115 [.lst l, .func g c] s = .ret (.func 155 [.ptr s.name 0, .ptr (s.new (.cells [.lst l] true 0)).name 0], (s.new (.cells [.lst l] true 0)).new (.cells [.func g c] true 0)) := by
 suffices h : (acall cfg (K + 1) 115 [.lst l, .func g c] s).Does fun x => x = (.func 155 [.ptr s.name 0, .ptr (s.new (.cells [.lst l] true 0)).name 0], (s.new (.cells [.lst l] true 0)).new (.cells [.func g c] true 0)) by
  obtain ⟨a, e, rfl⟩ := h; exact e
 rw [Z68 Zgd Zgc]
 refine Za rfl fun T hT' hA => ?_
 have a0 := hA 0 _ rfl
 have a1 := hA 1 _ rfl
 have hT : T.length = 6 := hT'
 clear hA hT'
 obtain ⟨H, n, p, jr, j⟩ := s
 simp -implicitDefEqProofs only [redoH, redo1, go_sem, a0, a1, hT, Try.results115]
theorem Ze6 (l : List AV) (g : FuncId) (c : List AV) (K : Nat) (s : St) : acall cfg (K + 1) 116 [.lst l, .func g c] s = .ret (.func 156 [.ptr s.name 0, .ptr (s.new (.cells [.lst l] true 0)).name 0], (s.new (.cells [.lst l] true 0)).new (.cells [.func g c] true 0)) := by
 suffices h : (acall cfg (K + 1) 116 [.lst l, .func g c] s).Does fun x => x = (.func 156 [.ptr s.name 0, .ptr (s.new (.cells [.lst l] true 0)).name 0], (s.new (.cells [.lst l] true 0)).new (.cells [.func g c] true 0)) by
  obtain ⟨a, e, rfl⟩ := h; exact e
 rw [Z68 Zgf Zge]
 refine Za rfl fun T hT' hA => ?_
 have a0 := hA 0 _ rfl
 have a1 := hA 1 _ rfl
 have hT : T.length = 6 := hT'
 clear hA hT'
 obtain ⟨H, n, p, jr, j⟩ := s
 simp -implicitDefEqProofs only [redoH, redo1, go_sem, a0, a1, hT, Try.results116]
theorem Ze7 (l : List AV) (g : FuncId) (c : List AV) (K : Nat) (s : St) : acall cfg (K + 1) 117 [.lst l, .func g c] s = .ret (.func 157 [.ptr s.name 0, .ptr (s.new (.cells [.lst l] true 0)).name 0], (s.new (.cells [.lst l] true 0)).new (.cells [.func g c] true 0)) := by
 suffices h : (acall cfg (K + 1) 117 [.lst l, .func g c] s).Does fun x => x = (.func 157 [.ptr s.name 0, .ptr (s.new (.cells [.lst l] true 0)).name 0], (s.new (.cells [.lst l] true 0)).new (.cells [.func g c] true 0)) by
  obtain ⟨a, e, rfl⟩ := h; exact e
 rw [Z68 Zgh Zgg]
 refine Za rfl fun T hT' hA => ?_
 have a0 := hA 0 _ rfl
 have a1 := hA 1 _ rfl
 have hT : T.length = 6 := hT'
 clear hA hT'
 obtain ⟨H, n, p, jr, j⟩ := s
 simp -implicitDefEqProofs only [redoH, redo1, go_sem, a0, a1, hT, Try.results117]
structure Chk' where
 f : FuncId
 c : List AV
 e : Int
 J : Delta -> Delta
def Chk'.av (x : Chk') : AV := .func x.f x.c
def firstJ : List Chk' -> Delta -> Delta
 | [], j => j
 | x :: r, j => if x.e = 0 then firstJ r (x.J j) else x.J j
theorem Z8r (cs : List Chk') (K : Nat) (H : Heap) (n : Nat) (p : Nm) (jr : Bool) (j : Delta) (hc : ∀ x ∈ cs, ∀ j, acall cfg K x.f x.c ⟨H, n, p, jr, j⟩ = .ret (.int .i64 x.e, ⟨H, n, p, jr, x.J j⟩))
  (hl : cs.length < K) (hl2 : cs.length <= 9223372036854775807) :
  acall cfg (K + 1) 111 [.lst (cs.map Chk'.av)] ⟨H, n, p, jr, j⟩ = .ret (.int .i64 (firstE Chk'.e cs), ⟨H, n, p, jr, firstJ cs j⟩) := by
 suffices h : (acall cfg (K + 1) 111 [.lst (cs.map Chk'.av)] ⟨H, n, p, jr, j⟩).Does fun x => x = (.int .i64 (firstE Chk'.e cs), ⟨H, n, p, jr, firstJ cs j⟩) by
  obtain ⟨a, e, rfl⟩ := h; exact e
 rw [Z68 Zg5 Zg4]
 refine Za rfl fun T hT' hA => ?_
 have a0 := hA 0 _ rfl
 have hT : T.length = 18 := hT'
 clear hA hT'
 simp -implicitDefEqProofs only [redoH, redo1, go_sem, a0, hT]
 simp only [Z5]
 refine Zu (fun k T s' => T.length = 18 /\ nth T 6 = some (.lst (cs.map Chk'.av)) /\ nth T 7 = some (.int .i64 cs.length) /\ ∃ (i : Nat) (j2 : Delta), nth T 8 = some (.int .i64 i) /\ i <= cs.length /\ k = cs.length - i /\ s' = ⟨H, n, p, jr, j2⟩ /\ firstE Chk'.e cs = firstE Chk'.e (cs.drop i) /\ firstJ cs j = firstJ (cs.drop i) j2) (k := cs.length) (by omega) ?_ ?_
 ·exact ⟨by simp -implicitDefEqProofs only [redoH, redo1, go_sem, hT], by simp -implicitDefEqProofs only [redoH, redo1, go_sem, hT], by simp -implicitDefEqProofs only [redoH, redo1, go_sem, hT], 0, j, by simp -implicitDefEqProofs only [redoH, redo1, go_sem, hT] <;> rfl, by omega, rfl, rfl, rfl, rfl⟩
 clear a0 hT T
 rintro k T s' ⟨hT, a6, a7, i, j2, a8, hi, rfl, rfl, he, hj⟩
 simp -implicitDefEqProofs only [redoH, redo1, go_sem, a6, a7, a8, hT]
 by_cases hil : (i : Int) < (cs.length : Int)
 ·have hi' : i < cs.length := by omega
  have e1 := Zj (f := Chk'.av) (l := cs) (i := i) (z := 1) hi' rfl
  have hkk : cs.length - (i + 1) < cs.length - i := by omega
  have hc1 := hc _ (List.getElem_mem hi')
  rw [List.drop_eq_getElem_cons hi'] at he hj
  have hw1 : wrapF .i64 ((i : Int) + 1) = ((i + 1 : Nat) : Int) := Z8 (by omega) (by omega)
  generalize cs[i] = x at *
  simp only [firstE] at he
  simp only [firstJ] at hj
  simp only [Chk'.av] at e1
  by_cases c1 : x.e = 0
  ·rw [if_pos c1] at he hj
   simp -implicitDefEqProofs only [redoH, redo1, go_sem, a6, a7, a8, hT, hil, e1, hc1, c1, hw1]
   exact ⟨cs.length - (i + 1), hkk, trivial, trivial, trivial, i + 1, _, rfl, hi', rfl, rfl, he, hj⟩
  ·rw [if_neg c1] at he hj
   simp -implicitDefEqProofs only [redoH, redo1, go_sem, a6, a7, a8, hT, hil, e1, hc1, c1, he, hj, Try.results111]
 ·have hie : i = cs.length := by omega
  subst hie
  rw [List.drop_length] at he hj
  simp only [firstE] at he
  simp only [firstJ] at hj
  simp -implicitDefEqProofs only [redoH, redo1, go_sem, a6, a7, a8, hT, hil, he, hj, Try.results111]
end Go.Proofs.Ytgnpnfkncbnjnaa
namespace Go.Am
open Go
theorem Zch {C : Cfg} {t kt vt : TypeId} (hd : C.desc t = some (.map kt vt)) {m : Nm} {es : List (AV × AV)} {fz : Bool} {s : St} (hm : hget s.H m = some (.map es fz)) :
  rangeA C t (.map m) s = .ret (.ptr (s.put m (.map es true)).name 0, (s.put m (.map es true)).new (.mapIter m es none)) := by
 unfold rangeA
 rw [hd]
 simp only [Zg, Xn, hm, Tr.bind_ret, Xy, Xz, Xi]
theorem Ze8 {r m : Nm} {es left : List (AV × AV)} {cur : Option (AV × AV)} {s : St} {Q : AV × St -> Prop} (hr : hget s.H r = some (.mapIter m left cur)) (hm : hget s.H m = some (.map es true))
  (h0 : left = [] -> Q (.tuple [.bool false], s)) (h1 : ∀ (i : Nat) (h : i < left.length), Q (.tuple [.bool true, left[i].1, left[i].2], s.put r (.mapIter m (dropAt left i) (some left[i])))) :
  (nextA (.ptr r 0) false s).All Q := by
 unfold nextA
 simp only [Zg, Xn, hr, hm, Tr.bind_ret]
 match left, h0, h1, hr with
 | [], h0, _, _ => exact h0 rfl
 | [e], _, h1, hr =>
  simp only [Zg, Xy, hr, Tr.bind_ret, Xi]
  exact h1 0 (by simp)
 | x :: y :: l, _, h1, hr =>
  show ((askM (x :: y :: l).length s).bind _).All Q
  intro i hi
  show Tr.All Q ((match nth (x :: y :: l) i with
    | some e => (putM r (.mapIter m (dropAt (x :: y :: l) i) (some e))).bind fun _ => M.ret (AV.tuple [.bool true, e.1, e.2])
    | none => M.fail) s)
  rw [Y7, List.getElem?_eq_getElem hi]
  simp only [Zg, Xy, hr, Tr.bind_ret, Xi]
  exact h1 i hi
theorem Zho {r m : Nm} {es left : List (AV × AV)} {e : AV × AV} {s : St} (hr : hget s.H r = some (.mapIter m left (some e))) (hm : hget s.H m = some (.map es true)) :
  entryA (.ptr r 0) s = .ret (.tuple [e.1, e.2], s) := by
 unfold entryA
 simp only [Zg, Xn, hr, hm, Tr.bind_ret, Xi]
theorem Z9q {α : Type} : ∀ (l : List α) (i : Nat) (h : i < l.length) (x : α), x ∈ l ↔ x = l[i] \/ x ∈ dropAt l i
 | a :: r, 0, h, x => by simp [dropAt]
 | a :: r, i + 1, h, x => by
  simp only [dropAt, List.mem_cons, List.getElem_cons_succ]
  rw [Z9q r i (by simpa using h) x]
  constructor
  ·rintro (h | h | h)
   ·exact .inr (.inl h)
   ·exact .inl h
   ·exact .inr (.inr h)
  ·rintro (h | h | h)
   ·exact .inr (.inl h)
   ·exact .inl h
   ·exact .inr (.inr h)
theorem Z9r {α : Type} : ∀ (l : List α) (i : Nat), i < l.length -> (dropAt l i).length = l.length - 1
 | a :: r, 0, h => by simp [dropAt]
 | a :: r, i + 1, h => by
  simp only [dropAt, List.length_cons]
  rw [Z9r r i (by simpa using h)]
  simp at h; omega
theorem Z9s {α β : Type} (f : α -> β) : ∀ (l : List α) (i : Nat), dropAt (l.map f) i = (dropAt l i).map f
 | [], 0 => rfl
 | [], _ + 1 => rfl
 | a :: r, 0 => rfl
 | a :: r, i + 1 => by simp only [List.map_cons, dropAt, Z9s f r i]
end Go.Am
namespace Go.Proofs.Ytgnpnfkncbnjnaa
open Go Go.Am
def keysIn (P : Int -> Prop) (es : List (Int × Rg)) : Prop := ∀ e ∈ es, P e.1
def KeyND : List (Int × Rg) -> Prop
 | [] => True
 | e :: r => (∀ x ∈ r, x.1 ≠ e.1) /\ KeyND r
theorem Z1z {P : Int -> Prop} {k : Int} {x : Rg} (hk : P k) : ∀ {es : List (Int × Rg)}, keysIn P es -> keysIn P (setS es k x)
 | [], _ => fun e he => by
  simp only [setS, List.mem_singleton] at he
  subst he; exact hk
 | a :: r, h => fun e he => by
  unfold setS at he
  split at he
  ·rcases List.mem_cons.1 he with rfl | he
   ·exact hk
   ·exact h e (List.mem_cons_of_mem _ he)
  ·rcases List.mem_cons.1 he with rfl | he
   ·exact h _ List.mem_cons_self
   ·exact Z1z hk (fun e he => h e (List.mem_cons_of_mem _ he)) e he
theorem Z9t {k : Int} {x : Rg} : ∀ {es : List (Int × Rg)}, KeyND es -> KeyND (setS es k x)
 | [], _ => ⟨fun _ h => (by cases h), trivial⟩
 | a :: r, h => by
  unfold setS
  split
  ·rename_i hk
   refine ⟨fun y hy => ?_, h.2⟩
   show y.1 ≠ k
   rw [hk]; exact h.1 y hy
  ·rename_i hk
   refine ⟨?_, Z9t h.2⟩
   exact Z1z (P := fun q => q ≠ a.1) hk h.1
theorem Zci : ∀ {es : List (Int × Rg)}, KeyND es -> ∀ e ∈ es, getS es e.1 = e.2
 | [], _, _, h => by cases h
 | a :: r, hn, e, h => by
  unfold getS
  rcases List.mem_cons.1 h with rfl | h
  ·rw [if_pos rfl]
  ·rw [if_neg (hn.1 e h)]
   exact Zci hn.2 e h
theorem Zcj : ∀ (es : List (Int × Rg)) (k : Int), (k, getS es k) ∈ es \/ getS es k = ⟨0, 0⟩
 | [], _ => .inr rfl
 | a :: r, k => by
  unfold getS
  split
  ·rename_i h; subst h; exact .inl List.mem_cons_self
  ·rcases Zcj r k with h | h
   ·exact .inl (List.mem_cons_of_mem _ h)
   ·exact .inr h
theorem Z46 {P : Int -> Prop} (shut : List Int) : ∀ (l : List Pip) (i : Nat) (es : List (Int × Rg)), (∀ p ∈ l, P p.a /\ P p.b) -> keysIn P es -> KeyND es -> keysIn P (leaveP shut i es l) /\ KeyND (leaveP shut i es l)
 | [], _, _, _, h1, h2 => ⟨h1, h2⟩
 | p :: r, i, es, h, h1, h2 => by
  unfold leaveP
  have hp := h p List.mem_cons_self
  have hr := fun q hq => h q (List.mem_cons_of_mem _ hq)
  split
  ·exact Z46 shut r _ _ hr h1 h2
  ·exact Z46 shut r _ _ hr (Z1z hp.2 (Z1z hp.1 h1)) (Z9t (Z9t h2))
theorem Z7h {P : Int -> Prop} : ∀ (l : List Pmp) (es : List (Int × Rg)), (∀ q ∈ l, P q.at') -> keysIn P es -> KeyND es -> keysIn P (leaveM es l) /\ KeyND (leaveM es l)
 | [], _, _, h1, h2 => ⟨h1, h2⟩
 | q :: r, es, h, h1, h2 => by
  unfold leaveM
  exact Z7h r _ (fun x hx => h x (List.mem_cons_of_mem _ hx)) (Z1z (h q List.mem_cons_self) h1) (Z9t h2)
theorem X7 {α : Type} {f : α -> Int} : ∀ {l : List α}, firstE f l = 0 -> ∀ a ∈ l, f a = 0
 | [], _, _, h => by cases h
 | x :: r, he, a, h => by
  unfold firstE at he
  split at he
  ·rename_i hx
   rcases List.mem_cons.1 h with rfl | h
   ·exact hx
   ·exact X7 he a h
  ·contradiction
theorem Z8s {n a most : Int} {r : Rg} (h : atE n a r most = 0) : 0 <= a /\ a < n := by
 unfold atE at h
 split at h
 ·rename_i hc; unfold fromB at hc; simp only [Bool.and_eq_true, decide_eq_true_eq] at hc; omega
 ·exact absurd h (by decide)
theorem Z6b {n : Int} {p : Pip} (h : pipE n p = 0) : (0 <= p.a /\ p.a < n) /\ (0 <= p.b /\ p.b < n) /\ p.a ≠ p.b /\ spansE p.out 1000000 = 0 /\ spansE p.back 1000000 = 0 := by
 unfold pipE at h
 split at h
 ·rename_i hc
  unfold fromB at hc; simp only [Bool.and_eq_true, decide_eq_true_eq] at hc
  split at h
  ·exact absurd h (by decide)
  ·rename_i hne
   split at h
   ·rename_i h0; exact ⟨⟨by omega, by omega⟩, ⟨by omega, by omega⟩, hne, h0, h⟩
   ·contradiction
 ·exact absurd h (by decide)
theorem Ze9 (v : Vac) (shut : List Int) (h : partsE v = 0) : keysIn (fun k => 0 <= k /\ k < v.vessels.length) (leaveL v shut) /\ KeyND (leaveL v shut) := by
 unfold partsE at h
 split at h
 ·rename_i h1
  split at h
  ·rename_i h2
   have a := Z46 (P := fun k => 0 <= k /\ k < (v.vessels.length : Int)) shut v.pipes 0 [] (fun p hp => ⟨(Z6b (X7 h1 p hp)).1, (Z6b (X7 h1 p hp)).2.1⟩) (fun _ h => by cases h) trivial
   exact Z7h v.pumps _ (fun q hq => Z8s (X7 h2 q hq)) a.1 a.2
  ·contradiction
 ·contradiction
theorem Z6c (k : Int) (x : Rg) : ∀ es : List (Int × Rg), (setS es k x).length <= es.length + 1
 | [] => by simp [setS]
 | a :: r => by
  unfold setS
  split
  ·simp
  ·simp only [List.length_cons]; have := Z6c k x r; omega
theorem Z2g (shut : List Int) : ∀ (l : List Pip) (i : Nat) (es : List (Int × Rg)), (leaveP shut i es l).length <= es.length + 2 * l.length
 | [], _, es => by simp [leaveP]
 | p :: r, i, es => by
  unfold leaveP
  split
  ·have := Z2g shut r (i + 1) es; simp only [List.length_cons]; omega
  ·refine Nat.le_trans (Z2g shut r _ _) ?_
   have h1 := Z6c p.a (plusR (getS es p.a) p.out) es
   have h2 := Z6c p.b (plusR (getS (setS es p.a (plusR (getS es p.a) p.out)) p.b) p.back) (setS es p.a (plusR (getS es p.a) p.out))
   simp only [List.length_cons]; omega
theorem Z5h : ∀ (l : List Pmp) (es : List (Int × Rg)), (leaveM es l).length <= es.length + l.length
 | [], es => by simp [leaveM]
 | q :: r, es => by
  unfold leaveM
  refine Nat.le_trans (Z5h r _) ?_
  have h1 := Z6c q.at' (plusR (getS es q.at') q.part) es
  simp only [List.length_cons]; omega
theorem Zck (v : Vac) (shut : List Int) : (leaveL v shut).length <= 2 * v.pipes.length + v.pumps.length := by
 unfold leaveL
 refine Nat.le_trans (Z5h _ _) ?_
 have := Z2g shut v.pipes 0 []
 simp only [List.length_nil] at this
 omega
theorem Z6d (v : Vac) : ∀ (k i : Nat), outB v i k = true ↔ ∃ m, i <= m /\ m < i + k /\ 1000000 < (outR v m []).hi
 | 0, i => by
  constructor
  ·intro h; cases h
  ·rintro ⟨m, h1, h2, _⟩; omega
 | k + 1, i => by
  unfold outB
  rw [Bool.or_eq_true, decide_eq_true_eq, Z6d v k (i + 1)]
  constructor
  ·rintro (h | ⟨m, h1, h2, h3⟩)
   ·exact ⟨i, by omega, by omega, h⟩
   ·exact ⟨m, by omega, by omega, h3⟩
  ·rintro ⟨m, h1, h2, h3⟩
   by_cases h : m = i
   ·subst h; exact .inl h3
   ·exact .inr ⟨m, by omega, by omega, h3⟩
theorem Zea (v : Vac) (h : partsE v = 0) (e : Int × Rg) (he : e ∈ leaveL v []) (hi : 1000000 < e.2.hi) : outB v 0 v.vessels.length = true := by
 obtain ⟨h1, h2⟩ := Ze9 v [] h
 rw [Z6d]
 have hk := h1 e he
 refine ⟨e.1.toNat, by omega, by omega, ?_⟩
 rw [show ((e.1.toNat : Nat) : Int) = e.1 by omega, <- Z45, Zci h2 e he]
 exact hi
theorem Zcl (v : Vac) (h : ∀ e ∈ leaveL v [], ¬ 1000000 < e.2.hi) : ¬ outB v 0 v.vessels.length = true := by
 rw [Z6d]
 rintro ⟨m, _, _, hm⟩
 rw [<- Z45] at hm
 rcases Zcj (leaveL v []) m with h1 | h1
 ·exact h _ h1 hm
 ·rw [h1] at hm; exact absurd hm (by decide)
end Go.Proofs.Ytgnpnfkncbnjnaa
namespace Go.Proofs.Ytgnpnfkncbnjnaa
attribute [local go_sem_proc] Int.reduceEq Int.reduceNeg Nat.reduceEqDiff Nat.reduceLT Nat.reduceAdd Nat.reduceSub Nat.reduceMul Int.reduceLE Int.reduceLT Int.reduceToNat Nat.reduceLeDiff
attribute [local go_sem] Int.toNat_natCast Bool.not_true Bool.not_false
open Go Go.Am
attribute [local congr] Zf Z9 Zc
attribute [local go_sem] Go.Am.buildSliceA Go.Am.frozen Go.Am.freezeG Go.Am.freezeGs
def max3 (a b c : Int) : Int := if (if a < b then b else a) < c then c else if a < b then b else a
theorem mm3 (a b c : Int) : minmax true (.int .i64 a) [.int .i64 b, .int .i64 c] = some (.int .i64 (max3 a b c)) := by
 unfold max3
 by_cases h : a < b
 ·rw [if_pos h]
  by_cases h2 : b < c
  ·rw [if_pos h2]; simp [minmax, h, h2]
  ·rw [if_neg h2]; simp [minmax, h, h2]
 ·rw [if_neg h]
  by_cases h2 : a < c
  ·rw [if_pos h2]; simp [minmax, h, h2]
  ·rw [if_neg h2]; simp [minmax, h, h2]
theorem Zcm (a b c : Int) : (decide (8 < a) || decide (8 < b) || decide (8 < c)) = decide (8 < max3 a b c) := by
 rw [Bool.eq_iff_iff]; simp only [Bool.or_eq_true, decide_eq_true_eq]
 unfold max3
 split <;> split <;> omega
theorem Zar (v : Vac) (K : Nat) (s : St) (hK : 50 < K) (hv : v.Lens K) : acall cfg (K + 9) 49 [vacV v] s = .ret (.int .i64 (checkE v), s) := by
 refine Z78 Zj6 Zj5 (by first | rfl | simp -implicitDefEqProofs only [redoH, redo1, go_sem]) (by first | rfl | simp -implicitDefEqProofs only [redoH, redo1, go_sem]) (by first | rfl | simp -implicitDefEqProofs only [redoH, redo1, go_sem]) ?_
 refine Zdp rfl fun T hT' hA => ?_
 have a0 := hA 0 _ rfl
 have hT : T.length = 77 := hT'
 clear hA hT'
 have hlc := fun s => Z2r v [] (K + 5) s ⟨⟨by have := hv.ves.1; omega, hv.ves.2⟩, ⟨by have := hv.pip.1; omega, hv.pip.2⟩, ⟨by have := hv.pmp.1; omega, hv.pmp.2⟩, ⟨by have := hv.inl.1; omega, hv.inl.2⟩, ⟨by have := hv.gtr.1; omega, hv.gtr.2⟩, hv.bands⟩ (by simp) (by simp)
 obtain ⟨⟨hv1, hv2⟩, ⟨hp1, hp2⟩, ⟨hm1, hm2⟩, ⟨hi1, hi2⟩, ⟨hg1, hg2⟩, hbd⟩ := hv
 simp only [vacV, rgV, List.map_nil] at hlc
 have q1 : (8 : Int) < (v.vessels.length : Int) ↔ 8 < v.vessels.length := by omega
 have q2 : (16 : Int) < (v.pipes.length : Int) ↔ 16 < v.pipes.length := by omega
 have q3 : (8 : Int) < (v.pumps.length : Int) ↔ 8 < v.pumps.length := by omega
 have q4 : (8 : Int) < (v.leaks.length : Int) ↔ 8 < v.leaks.length := by omega
 have q5 : (8 : Int) < (v.getters.length : Int) ↔ 8 < v.getters.length := by omega
 unfold checkE
 simp -implicitDefEqProofs only [redoH, redo1, go_sem, a0, hT]
 by_cases c1 : v.vessels.length = 0
 ·have c1' : (v.vessels.length : Int) = 0 := by omega
  rw [if_pos c1]
  simp -implicitDefEqProofs only [redoH, redo1, go_sem, a0, hT, c1', Try.results49]
 ·have c1' : ¬ (v.vessels.length : Int) = 0 := by omega
  rw [if_neg c1]
  simp -implicitDefEqProofs only [redoH, redo1, go_sem, a0, hT, c1']
  have hov : overB v = (decide ((8 : Int) < (v.vessels.length : Int)) || decide ((16 : Int) < (v.pipes.length : Int)) || decide ((8 : Int) < (v.pumps.length : Int)) || decide ((8 : Int) < (v.leaks.length : Int)) || decide ((8 : Int) < (v.getters.length : Int))) := by
   unfold overB
   simp only [q1, q2, q3, q4, q5]
  rw [hov]
  by_cases o1 : (8 : Int) < (v.vessels.length : Int)
  ·simp -implicitDefEqProofs only [redoH, redo1, go_sem, a0, hT, c1', o1, Bool.true_or, Bool.or_true, Try.results49]
  ·by_cases o2 : (16 : Int) < (v.pipes.length : Int)
   ·simp -implicitDefEqProofs only [redoH, redo1, go_sem, a0, hT, c1', o1, o2, Bool.true_or, Bool.or_true, Try.results49]
   ·rw [show ((decide ((8 : Int) < (v.vessels.length : Int)) || decide ((16 : Int) < (v.pipes.length : Int)) || decide ((8 : Int) < (v.pumps.length : Int)) || decide ((8 : Int) < (v.leaks.length : Int)) || decide ((8 : Int) < (v.getters.length : Int)))) = decide (8 < max3 v.pumps.length v.leaks.length v.getters.length) by rw [<- Zcm, decide_eq_false o1, decide_eq_false o2]; rfl]
    simp -implicitDefEqProofs only [redoH, redo1, go_sem, a0, hT, c1', o1, o2, Bool.true_or, Bool.or_true, mm3]
    by_cases o3 : 8 < max3 v.pumps.length v.leaks.length v.getters.length
    ·simp -implicitDefEqProofs only [redoH, redo1, go_sem, a0, hT, c1', o3, Try.results49]
    ·clear q1 q2 q3 q4 q5 hov
     simp -implicitDefEqProofs only [redoH, redo1, go_sem, a0, hT, c1', o3, Bool.false_eq_true, if_false]
     have hne1 : (0 : Int) <= v.vessels.length := by omega
     have hN : (v.vessels.length : Int) <= 9223372036854775807 := by omega
     let cs : List Chk' := [⟨153, [.ptr [3, 2, 0] 0, .ptr [3, 2, 1] 0], firstE vesE v.vessels, backJ true [[3, 2, 0], [3, 2, 1]] [.cells [.lst (v.vessels.map vesV)] true 0, .cells [.func 113 []] true 0]⟩,
      ⟨154, [.ptr [3, 6, 0] 0, .ptr [3, 6, 1] 0], firstE (pipE v.vessels.length) v.pipes, backJ true [[3, 6, 0], [3, 6, 1], [1]] [.cells [.lst (v.pipes.map pipV)] true 0, .cells [.func 107 [.ptr [1] 0]] true 0, .cells [.int .i64 v.vessels.length] true 0]⟩,
      ⟨155, [.ptr [3, 10, 0] 0, .ptr [3, 10, 1] 0], firstE (fun q : Pmp => atE v.vessels.length q.at' q.part 1000000) v.pumps, backJ true [[3, 10, 0], [3, 10, 1], [2], [1]] [.cells [.lst (v.pumps.map pmpV)] true 0, .cells [.func 108 [.ptr [2] 0]] true 0, .cells [.func 104 [.ptr [1] 0]] true 0, .cells [.int .i64 v.vessels.length] true 0]⟩,
      ⟨156, [.ptr [3, 14, 0] 0, .ptr [3, 14, 1] 0], firstE (fun l : Inl => atE v.vessels.length l.at' l.gas 100000) v.leaks, backJ true [[3, 14, 0], [3, 14, 1], [2], [1]] [.cells [.lst (v.leaks.map inlV)] true 0, .cells [.func 109 [.ptr [2] 0]] true 0, .cells [.func 104 [.ptr [1] 0]] true 0, .cells [.int .i64 v.vessels.length] true 0]⟩,
      ⟨157, [.ptr [3, 18, 0] 0, .ptr [3, 18, 1] 0], firstE (getE v.vessels.length) v.getters, backJ true [[3, 18, 0], [3, 18, 1], [2], [1]] [.cells [.lst (v.getters.map gtrV)] true 0, .cells [.func 110 [.ptr [2] 0]] true 0, .cells [.func 104 [.ptr [1] 0]] true 0, .cells [.int .i64 v.vessels.length] true 0]⟩]
     have hfc : ∀ H n p, hget H [1] = some (.cells [.int .i64 v.vessels.length] true 0) -> hget H [2] = some (.cells [.func 104 [.ptr [1] 0]] true 0) -> hget H [3, 2, 0] = some (.cells [.lst (v.vessels.map vesV)] true 0) -> hget H [3, 2, 1] = some (.cells [.func 113 []] true 0) ->
       hget H [3, 6, 0] = some (.cells [.lst (v.pipes.map pipV)] true 0) -> hget H [3, 6, 1] = some (.cells [.func 107 [.ptr [1] 0]] true 0) -> hget H [3, 10, 0] = some (.cells [.lst (v.pumps.map pmpV)] true 0) -> hget H [3, 10, 1] = some (.cells [.func 108 [.ptr [2] 0]] true 0) ->
       hget H [3, 14, 0] = some (.cells [.lst (v.leaks.map inlV)] true 0) -> hget H [3, 14, 1] = some (.cells [.func 109 [.ptr [2] 0]] true 0) -> hget H [3, 18, 0] = some (.cells [.lst (v.getters.map gtrV)] true 0) -> hget H [3, 18, 1] = some (.cells [.func 110 [.ptr [2] 0]] true 0) ->
       acall cfg (K + 8) 111 [.lst (cs.map Chk'.av)] ⟨H, n, p, true, []⟩ = .ret (.int .i64 (firstE Chk'.e cs), ⟨H, n, p, true, firstJ cs []⟩) := by
      intro H n p k1 k2 v0 v1 p0 p1 m0 m1 i0 i1 q0 q1
      refine Z8r cs (K + 7) H n p true [] (fun x hx j => ?_) (show 5 < K + 7 by omega) (show 5 <= 9223372036854775807 by decide)
      rcases List.mem_cons.1 hx with rfl | hx
      ·exact Zdy v.vessels [3, 2, 0] [3, 2, 1] (by decide) (K + 3) H n p true j v0 v1 (by omega) (by omega) (by omega) hbd
      rcases List.mem_cons.1 hx with rfl | hx
      ·exact Zdz v.pipes v.vessels.length [3, 6, 0] [3, 6, 1] [1] (by decide) (by decide) (by decide) (K + 3) H n p true j p0 p1 k1 hne1 hN (by omega) (by omega) (by omega)
      rcases List.mem_cons.1 hx with rfl | hx
      ·exact Ze0 v.pumps v.vessels.length [3, 10, 0] [3, 10, 1] [2] [1] (by decide) (by decide) (by decide) (by decide) (by decide) (by decide) (K + 3) H n p true j m0 m1 k2 k1 hne1 hN (by omega) (by omega) (by omega)
      rcases List.mem_cons.1 hx with rfl | hx
      ·exact Ze1 v.leaks v.vessels.length [3, 14, 0] [3, 14, 1] [2] [1] (by decide) (by decide) (by decide) (by decide) (by decide) (by decide) (K + 3) H n p true j i0 i1 k2 k1 hne1 hN (by omega) (by omega) (by omega)
      rcases List.mem_cons.1 hx with rfl | hx
      ·exact Ze2 v.getters v.vessels.length [3, 18, 0] [3, 18, 1] [2] [1] (by decide) (by decide) (by decide) (by decide) (by decide) (by decide) (K + 3) H n p true j q0 q1 k2 k1 hne1 hN (by omega) (by omega) (by omega)
      cases hx
     have hE : firstE Chk'.e cs = if firstE vesE v.vessels = 0 then partsE v else firstE vesE v.vessels := by
      simp only [cs, firstE, partsE]
      split
      ·split
       ·split
        ·split
         ·split
          ·rename_i h; exact h.symm
          ·rfl
         ·rfl
        ·rfl
       ·rfl
      ·rfl
     have hJ : firstE Chk'.e cs = 0 -> firstJ cs [] = backJ true [[3, 18, 0], [3, 18, 1], [2], [1]] [.cells [.lst (v.getters.map gtrV)] true 0, .cells [.func 110 [.ptr [2] 0]] true 0, .cells [.func 104 [.ptr [1] 0]] true 0, .cells [.int .i64 v.vessels.length] true 0]
       (backJ true [[3, 14, 0], [3, 14, 1], [2], [1]] [.cells [.lst (v.leaks.map inlV)] true 0, .cells [.func 109 [.ptr [2] 0]] true 0, .cells [.func 104 [.ptr [1] 0]] true 0, .cells [.int .i64 v.vessels.length] true 0]
       (backJ true [[3, 10, 0], [3, 10, 1], [2], [1]] [.cells [.lst (v.pumps.map pmpV)] true 0, .cells [.func 108 [.ptr [2] 0]] true 0, .cells [.func 104 [.ptr [1] 0]] true 0, .cells [.int .i64 v.vessels.length] true 0]
       (backJ true [[3, 6, 0], [3, 6, 1], [1]] [.cells [.lst (v.pipes.map pipV)] true 0, .cells [.func 107 [.ptr [1] 0]] true 0, .cells [.int .i64 v.vessels.length] true 0]
       (backJ true [[3, 2, 0], [3, 2, 1]] [.cells [.lst (v.vessels.map vesV)] true 0, .cells [.func 113 []] true 0] [])))) := by
      simp only [cs, firstE, firstJ]
      intro h
      split at h
      ·rename_i h1; rw [if_pos h1]
       split at h
       ·rename_i h1; rw [if_pos h1]
        split at h
        ·rename_i h1; rw [if_pos h1]
         split at h
         ·rename_i h1; rw [if_pos h1]
          split at h
          ·rename_i h1; rw [if_pos h1]
          ·contradiction
         ·contradiction
        ·contradiction
       ·contradiction
      ·contradiction
     generalize firstE Chk'.e cs = E0 at *
     generalize firstJ cs [] = J0 at *
     simp only [cs, List.map_cons, List.map_nil, Chk'.av] at hfc
     clear_value cs
     simp only [Tr.all_bind]
     refine Tr.Does.all ?_
     refine Zal [[], [0], [1, 0], [], [3], [], [4, 3, 5, 2, 1, 0], [], [7], [], [8, 7, 9, 6, 4, 3, 5, 2, 1, 0], [], [11], [], [12, 11, 13, 10, 8, 7, 9, 6, 4, 3, 5, 2, 1, 0], [], [15], [], [16, 15, 17, 14, 12, 11, 13, 10, 8, 7, 9, 6, 4, 3, 5, 2, 1, 0], [18, 16, 15, 17, 14, 12, 11, 13, 10, 8, 7, 9, 6, 4, 3, 5, 2, 1, 0], [19, 18, 16, 15, 17, 14, 12, 11, 13, 10, 8, 7, 9, 6, 4, 3, 5, 2, 1, 0], [20, 19, 18, 16, 15, 17, 14, 12, 11, 13, 10, 8, 7, 9, 6, 4, 3, 5, 2, 1, 0]] [20] (by kernel_rfl) (by kernel_rfl) ?_
     simp -implicitDefEqProofs only [redoH, redo1, go_sem, a0, hT, Ze3, Ze4, Ze5, Ze6, Ze7, hfc]
     by_cases e0 : E0 = 0
     ·have hF : firstE vesE v.vessels = 0 /\ partsE v = 0 := by
       rw [e0] at hE
       split at hE
       ·rename_i h; exact ⟨h, hE.symm⟩
       ·rename_i h; exact absurd hE.symm h
      rw [if_pos hF.1, if_pos hF.2]
      rw [hJ e0]
      have hrg := fun (H : Heap) (n : Nat) (hm : hget H [4] = some (.map (encE (leaveL v [])) false)) => Zch (C := cfg.at 49) (t := 181) (m := [4]) (s := ⟨H, n, [], false, []⟩) Z8p hm
      have hln := Zck v []
      have hx3 : v.pumps.length <= 8 := by
       have h := Zcm v.pumps.length v.leaks.length v.getters.length
       rw [decide_eq_false o3, Bool.or_eq_false_iff, Bool.or_eq_false_iff] at h
       have := h.1.1
       simp only [decide_eq_false_iff_not] at this
       omega
      have hx2 : v.pipes.length <= 16 := by omega
      clear hfc hJ hE
      generalize hes : leaveL v [] = es at *
      simp -implicitDefEqProofs only [redoH, redo1, go_sem, a0, hT, e0, backJ, hlc, hrg]
      simp only [Tr.all_bind]
      refine Zij (fun k T s' => T.length = 77 /\ nth T 69 = some (.ptr [5] 0) /\ ∃ (left : List (Int × Rg)) (cur : Option (AV × AV)) (n : Nat) (H : Heap), k = left.length /\ s' = ⟨H, n + 6, [], false, []⟩ /\ hget H [5] = some (.mapIter [4] (encE left) cur) /\ hget H [4] = some (.map (encE es) true) /\
       (∀ e ∈ es, e ∈ left \/ ¬ 1000000 < e.2.hi) /\ (∀ e ∈ left, e ∈ es)) (k := es.length) (by omega) ?_ ?_
      ·exact ⟨by simp -implicitDefEqProofs only [redoH, redo1, go_sem, hT], by simp -implicitDefEqProofs only [redoH, redo1, go_sem, hT], es, none, 0, _, rfl, rfl, rfl, rfl, fun e h => .inl h, fun e h => h⟩
      clear a0 hT T
      rintro k T s' ⟨hT, a69, left, cur, n, H, rfl, rfl, g5, g4, hL, hS⟩
      simp -implicitDefEqProofs only [redoH, redo1, go_sem, a69, hT]
      simp only [Tr.all_bind]
      refine Ze8 g5 g4 (fun h0 => ?_) (fun i hi => ?_)
      ·have hn := Zcl v (fun e he => by
        rw [hes] at he
        rcases hL e he with h | h
        ·have h0' : left = [] := List.map_eq_nil_iff.1 h0
         rw [h0'] at h; cases h
        ·exact h)
       rw [if_neg hn]
       simp -implicitDefEqProofs only [redoH, redo1, go_sem, a69, hT, Try.results49]
      ·have hi' : i < left.length := by rw [show (encE left).length = left.length from List.length_map _] at hi; exact hi
       have hge : (encE left)[i] = (iV left[i].1, rgV left[i].2) := List.getElem_map _
       have hgd : dropAt (encE left) i = encE (dropAt left i) := Z9s _ left i
       have hdl := Z9r left i hi'
       have hdm := Z9q left i hi'
       have hhit := Zea v hF.2 left[i] (by rw [hes]; exact hS _ (List.getElem_mem hi'))
       rw [hge, hgd]
       generalize left[i] = e at *
       have u5 : ∀ X, hget (hset H [5] X) [5] = some X := fun X => Zv X g5
       have u4 : ∀ X, hget (hset H [5] X) [4] = some (.map (encE es) true) := fun X => (Z7 H X (by decide)).trans g4
       have w5 : ∀ X Y, hget (([n + 6], Y) :: hset H [5] X) [5] = some X := fun X Y => (Z6 _ _ (Ys (by omega))).trans (u5 X)
       have w4 : ∀ X Y, hget (([n + 6], Y) :: hset H [5] X) [4] = some (.map (encE es) true) := fun X Y => (Z6 _ _ (Ys (by omega))).trans (u4 X)
       have hent := Zho (s := ⟨hset H [5] (.mapIter [4] (encE (dropAt left i)) (some (iV e.1, rgV e.2))), n + 6, [], false, []⟩) (u5 _) (u4 _)
       simp only [rgV, iV] at hent
       by_cases ov : 1000000 < e.2.hi
       ·rw [if_pos (hhit ov)]
        simp -implicitDefEqProofs only [redoH, redo1, go_sem, a69, hT, hent, ov, Try.results49]
       ·simp -implicitDefEqProofs only [redoH, redo1, go_sem, a69, hT, hent, ov]
        refine ⟨(dropAt left i).length, by omega, trivial, trivial, dropAt left i, _, n + 1, _, rfl, rfl, w5 _ _, w4 _ _, fun x hx => ?_, fun x hx => hS x ((hdm x).2 (.inr hx))⟩
        rcases hL x hx with h | h
        ·rcases (hdm x).1 h with rfl | h
         ·exact .inr ov
         ·exact .inl h
        ·exact .inr h
     ·have hF : (if firstE vesE v.vessels = 0 then if partsE v = 0 then if outB v 0 v.vessels.length = true then 14 else 0 else partsE v else firstE vesE v.vessels) = E0 := by
       rw [hE]
       split
       ·rename_i h
        rw [if_pos h] at hE
        rw [if_neg (by rw [<- hE]; exact e0)]
       ·rfl
      rw [hF]
      simp -implicitDefEqProofs only [redoH, redo1, go_sem, a0, hT, e0, Try.results49]
end Go.Proofs.Ytgnpnfkncbnjnaa
namespace Go.Am
open Go
section
variable {H : Heap} {X Y : Blk} {a b k c k' c' : Nat}
theorem n11 (h : a ≠ b) : ([a] : Nm) ≠ [b] := fun e => h (by injection e)
theorem n13 : ([a] : Nm) ≠ [b, k, c] := fun e => by injection e with _ e; cases e
theorem n31 : ([a, k, c] : Nm) ≠ [b] := fun e => by injection e with _ e; cases e
theorem n33 (h : a ≠ b) : ([a, k, c] : Nm) ≠ [b, k', c'] := fun e => h (by injection e)
theorem hc11 (h : a ≠ b) : hget (([a], X) :: H) [b] = hget H [b] := Z6 X H (n11 h)
theorem hc13 : hget (([a], X) :: H) [b, k, c] = hget H [b, k, c] := Z6 X H n13
theorem hc31 : hget (([a, k, c], X) :: H) [b] = hget H [b] := Z6 X H n31
theorem hc33 (h : a ≠ b) : hget (([a, k, c], X) :: H) [b, k', c'] = hget H [b, k', c'] := Z6 X H (n33 h)
theorem hs11 (h : a ≠ b) : hget (hset H [a] X) [b] = hget H [b] := Z7 H X (n11 h)
theorem hs13 : hget (hset H [a] X) [b, k, c] = hget H [b, k, c] := Z7 H X n13
theorem hs31 : hget (hset H [a, k, c] X) [b] = hget H [b] := Z7 H X n31
theorem hs33 (h : a ≠ b) : hget (hset H [a, k, c] X) [b, k', c'] = hget H [b, k', c'] := Z7 H X (n33 h)
theorem hd11 (h : a ≠ b) : hget (hdel H [a]) [b] = hget H [b] := Zt H (n11 h)
theorem hd13 : hget (hdel H [a]) [b, k, c] = hget H [b, k, c] := Zt H n13
theorem hd31 : hget (hdel H [a, k, c]) [b] = hget H [b] := Zt H n31
theorem hd33 (h : a ≠ b) : hget (hdel H [a, k, c]) [b, k', c'] = hget H [b, k', c'] := Zt H (n33 h)
theorem Z47 {i j : Nm} (h : i ≠ j) : hset ((i, Y) :: H) j X = (i, Y) :: hset H j X := by
 show (match eqb i j with | true => (i, X) :: H | false => (i, Y) :: hset H j X) = _
 rw [Zi h]
theorem ht11 (h : a ≠ b) : hset (([a], Y) :: H) [b] X = ([a], Y) :: hset H [b] X := Z47 (n11 h)
theorem ht31 : hset (([a, k, c], Y) :: H) [b] X = ([a, k, c], Y) :: hset H [b] X := Z47 n31
theorem Z3 (b : Nm) : hset (hset H b X) b Y = hset H b Y := by
 induction H with
 | nil => rfl
 | cons e t ih =>
  obtain ⟨i, y⟩ := e
  by_cases he : i = b
  ·subst he
   show hset (match eqb i i with | true => (i, X) :: t | false => (i, y) :: hset t i X) i Y = (match eqb i i with | true => (i, Y) :: t | false => (i, y) :: hset t i Y)
   rw [Zh]; simp only
   show (match eqb i i with | true => (i, Y) :: t | false => (i, X) :: hset t i Y) = _
   rw [Zh]
  ·rw [Z47 he, Z47 he, Z47 he, ih]
end
theorem hss {H : Heap} {b : Nm} {X Y : Blk} (h : hget H b = some Y) : hget (hset H b X) b = some X := Zv X h
section
variable {x : Option Blk} {r : Delta} {a b k c k' c' : Nat}
theorem lkn (q : Nm) : lkD [] q = none := rfl
theorem Zcn {i q : Nm} (h : i ≠ q) : lkD ((i, x) :: r) q = lkD r q := by show (if i = q then some x else lkD r q) = _; rw [if_neg h]
theorem Z4 (i : Nm) : lkD ((i, x) :: r) i = some x := by show (if i = i then some x else lkD r i) = _; rw [if_pos rfl]
theorem lk11 (h : a ≠ b) : lkD (([a], x) :: r) [b] = lkD r [b] := Zcn (n11 h)
theorem lk13 : lkD (([a], x) :: r) [b, k, c] = lkD r [b, k, c] := Zcn n13
theorem lk31 : lkD (([a, k, c], x) :: r) [b] = lkD r [b] := Zcn n31
theorem lk33 (h : a ≠ b) : lkD (([a, k, c], x) :: r) [b, k', c'] = lkD r [b, k', c'] := Zcn (n33 h)
theorem Zb (h : k ≠ k') : lkD (([a, k, c], x) :: r) [b, k', c'] = lkD r [b, k', c'] := Zcn fun e => h (by injection e with _ e; injection e)
end
def mutV (b : Nm) : Nat -> AV
 | 0 => .nils
 | n + 1 => .slice b 0 (n + 1) (n + 1) false
section
variable {C : Cfg} {sT e : TypeId} {i : TI} {zv : AV}
theorem Zas (l : List AV) (n : Nat) (h : l.length = n) : readN l 0 n = some l := by
 subst h
 have e := Z69 [] l []
 simpa using e
end
end Go.Am
namespace Go.Am
open Go
structure Bare (cs : List AV) : Prop where
 nm : ∀ op r, namesVs op cs r = r
 rn : ∀ mp, renVs mp cs = some cs
theorem Zeb : Bare [] := ⟨fun _ _ => rfl, fun _ => rfl⟩
theorem Z17 (op : Bool) : ∀ (a b : List AV) (r : List Nm), namesVs op (a ++ b) r = namesVs op a (namesVs op b r)
 | [], b, r => rfl
 | x :: a, b, r => by
  show namesV op x (namesVs op (a ++ b) r) = namesV op x (namesVs op a (namesVs op b r))
  rw [Z17 op a b r]
theorem Z2s (mp : List (Nm × Nm)) : ∀ (a b a' b' : List AV), renVs mp a = some a' -> renVs mp b = some b' -> renVs mp (a ++ b) = some (a' ++ b')
 | [], b, a', b', h1, h2 => by injection h1 with h1; subst h1; exact h2
 | x :: a, b, a', b', h1, h2 => by
  unfold renVs at h1
  cases hx : renV mp x with
  | none => rw [hx] at h1; cases h1
  | some y =>
   rw [hx] at h1; simp only at h1
   cases ha : renVs mp a with
   | none => rw [ha] at h1; cases h1
   | some a1 =>
    rw [ha] at h1
    injection h1 with h1; subst h1
    show renVs mp (x :: (a ++ b)) = _
    unfold renVs
    rw [hx]; simp only
    rw [Z2s mp a b a1 b' ha h2]; rfl
theorem Bare.append {a b : List AV} (ha : Bare a) (hb : Bare b) : Bare (a ++ b) :=
 ⟨fun op r => by rw [Z17, hb.nm, ha.nm], fun mp => Z2s mp a b a b (ha.rn mp) (hb.rn mp)⟩
theorem Z2t {α : Type} {g : α -> List AV} (h : ∀ a, Bare (g a)) : ∀ l : List α, Bare (l.flatMap g)
 | [] => Zeb
 | a :: l => by rw [List.flatMap_cons]; exact (h a).append (Z2t h l)
section
variable {C : Cfg} {K : Nat}
theorem Z20 {f : FuncId} {fn : Func} {args args' : List AV} {bs : List Nm} {xs xs0 ys' zs' : List Blk} {v' : AV} {H : Heap} {n : Nat} {p : Nm} {jr : Bool} {j : Delta} {s2 s3 : St}
  (hm : C.mode.get f = some 3) (hf : C.fn.get f = some fn)
  (hl : lendM 200 (namesVs false args []) [] [] ⟨H, n, p, jr, j⟩ = .ret ((bs, xs), ⟨H, n, p, jr, j⟩)) (hnd : nodupN bs = true) (hcalm : calm xs = true)
  (hra : renVs (zipN bs (namesFrom [] 0 bs.length)) args = some args') (hrx : renBs (zipN bs (namesFrom [] 0 bs.length)) xs = some xs0)
  (hd : (bodyA (C.at f) (acall C K) (around C K) (K + 1) fn args' ⟨zipB (namesFrom [] 0 bs.length) xs0, bs.length, [], false, []⟩).Does fun x => ∃ ys ns zs, getAll x.2.H (namesFrom [] 0 bs.length) = some ys /\
   reachL x.2.H 200 (namesV true x.1 (namesBs true ys [])) (namesFrom [] 0 bs.length) [] = some (ns, zs) /\ nodupN ns = true /\ renV (zipN ns (bs ++ namesFrom p n zs.length)) x.1 = some v' /\ renBs (zipN ns (bs ++ namesFrom p n zs.length)) ys = some ys' /\ renBs (zipN ns (bs ++ namesFrom p n zs.length)) zs = some zs')
  (hput : putAll bs ys' ⟨H, n, p, jr, j⟩ = .ret ((), s2)) (hnew : newAll zs' s2 = .ret ((), s3)) :
  acall C (K + 1) f args ⟨H, n, p, jr, j⟩ = .ret (v', s3) := by
 obtain ⟨⟨v1, s1⟩, e1, ys, ns, zs, e2, e3, e4, e5, e6, e7⟩ := hd
 simp only at e2 e3 e5
 rw [X1]
 unfold enterA
 rw [hf]; simp only
 rw [hm]; simp only
 unfold handA
 rw [Zg, hl]
 simp only [Tr.bind_ret, hnd, hcalm, hra, hrx]
 rw [e1]
 have ho : oneR false (.ret (v1, s1)) = some (v1, s1.H) := rfl
 rw [ho]; simp only
 rw [e2]; simp only
 rw [e3]; simp only
 rw [e4]; simp only
 rw [Zg]
 show (Tr.ret ((p, n), (⟨H, n, p, jr, j⟩ : St))).bind _ = _
 rw [Tr.bind_ret]
 simp only [e5, e6, e7]
 rw [Zg, hput, Tr.bind_ret, Zg, hnew, Tr.bind_ret]
 rfl
theorem Jn {H : Heap} {k : Nat} {b : Nm} {r bs : List Nm} {xs : List Blk} {cs : List AV} {w : Bool} {u : Nat} (hm : memNm b bs = false) (hg : hget H b = some (.cells cs w u)) (hb : Bare cs) : reachL H (k + 1) (b :: r) bs xs = reachL H k r (bs ++ [b]) (xs ++ [.cells cs w u]) := by
 rw [Z00, hm]
 simp only [hg]
 show reachL H k (namesVs true cs r) _ _ = _
 rw [hb.nm]
theorem Jo {mp : List (Nm × Nm)} {cs : List AV} {u : Nat} (hb : Bare cs) : renB mp (.cells cs true u) = some (.cells cs true u) := by
 unfold renB; simp only [hb.rn]
theorem Z8t {f : FuncId} {fn : Func} {args : List AV} {n1 n2 n3 : Nat} {c1 c2 c3 tl : List AV} {H : Heap} {n : Nat} {p : Nm} {jr : Bool} {j : Delta}
  (hm : C.mode.get f = some 3) (hf : C.fn.get f = some fn) (hn : namesVs false args [] = []) (hr : renVs [] args = some args) (h1 : Bare c1) (h2 : Bare c2) (h3 : Bare c3) (ht : Bare tl)
  (hd : (bodyA (C.at f) (acall C K) (around C K) (K + 1) fn args s0).Does fun x => ∃ b1 b2 b3, x.1 = .agg (.slice b1 0 n1 n1 false :: .slice b2 0 n2 n2 false :: .slice b3 0 n3 n3 false :: tl) /\ eqb b1 b2 = false /\ eqb b1 b3 = false /\ eqb b2 b1 = false /\ eqb b2 b3 = false /\ eqb b3 b1 = false /\ eqb b3 b2 = false /\
   hget x.2.H b1 = some (.cells c1 true 2) /\ hget x.2.H b2 = some (.cells c2 true 2) /\ hget x.2.H b3 = some (.cells c3 true 2)) :
  acall C (K + 1) f args ⟨H, n, p, jr, j⟩ = .ret (.agg (.slice (p ++ [n]) 0 n1 n1 false :: .slice (p ++ [n + 1]) 0 n2 n2 false :: .slice (p ++ [n + 2]) 0 n3 n3 false :: tl),
   ((St.new ⟨H, n, p, jr, j⟩ (.cells c1 true 2)).new (.cells c2 true 2)).new (.cells c3 true 2)) := by
 refine Z20 (bs := []) (xs := []) (xs0 := []) (ys' := []) (zs' := [.cells c1 true 2, .cells c2 true 2, .cells c3 true 2]) hm hf (by rw [hn]; rfl) rfl rfl hr rfl ?_ rfl rfl
 refine hd.mono ?_
 rintro ⟨v, s⟩ ⟨b1, b2, b3, rfl, n12, n13, n21, n23, n31, n32, g1, g2, g3⟩
 refine ⟨[], [b1, b2, b3], [.cells c1 true 2, .cells c2 true 2, .cells c3 true 2], rfl, ?_, by simp only [nodupN, memNm, n12, n13, n23], ?_, rfl, by simp only [renBs, Jo h1, Jo h2, Jo h3]⟩
 ·show reachL s.H (199 + 1) (b1 :: b2 :: b3 :: namesVs true tl []) [] [] = _
  rw [ht.nm, Jn rfl g1 h1]
  show reachL s.H (198 + 1) [b2, b3] [b1] _ = _
  rw [Jn (by simp only [memNm, n21]) g2 h2]
  show reachL s.H (197 + 1) [b3] [b1, b2] _ = _
  rw [Jn (by simp only [memNm, n31, n32]) g3 h3]
  rfl
 ·show renV [(b1, p ++ [n]), (b2, p ++ [n + 1]), (b3, p ++ [n + 1 + 1])] _ = _
  simp only [renV, renVs, lookN, Zh, n21, n31, n32, ht.rn]
theorem Z8u {f : FuncId} {fn : Func} {args : List AV} {n1 n2 : Nat} {c1 c2 tl : List AV} {H : Heap} {n : Nat} {p : Nm} {jr : Bool} {j : Delta}
  (hm : C.mode.get f = some 3) (hf : C.fn.get f = some fn) (hn : namesVs false args [] = []) (hr : renVs [] args = some args) (h1 : Bare c1) (h2 : Bare c2) (ht : Bare tl)
  (hd : (bodyA (C.at f) (acall C K) (around C K) (K + 1) fn args s0).Does fun x => ∃ b1 b2, x.1 = .agg (.slice b1 0 n1 n1 false :: .slice b2 0 n2 n2 false :: tl) /\ eqb b1 b2 = false /\ eqb b2 b1 = false /\
   hget x.2.H b1 = some (.cells c1 true 2) /\ hget x.2.H b2 = some (.cells c2 true 2)) :
  acall C (K + 1) f args ⟨H, n, p, jr, j⟩ = .ret (.agg (.slice (p ++ [n]) 0 n1 n1 false :: .slice (p ++ [n + 1]) 0 n2 n2 false :: tl),
   (St.new ⟨H, n, p, jr, j⟩ (.cells c1 true 2)).new (.cells c2 true 2)) := by
 refine Z20 (bs := []) (xs := []) (xs0 := []) (ys' := []) (zs' := [.cells c1 true 2, .cells c2 true 2]) hm hf (by rw [hn]; rfl) rfl rfl hr rfl ?_ rfl rfl
 refine hd.mono ?_
 rintro ⟨v, s⟩ ⟨b1, b2, rfl, n12, n21, g1, g2⟩
 refine ⟨[], [b1, b2], [.cells c1 true 2, .cells c2 true 2], rfl, ?_, by simp only [nodupN, memNm, n12], ?_, rfl, by simp only [renBs, Jo h1, Jo h2]⟩
 ·show reachL s.H (199 + 1) (b1 :: b2 :: namesVs true tl []) [] [] = _
  rw [ht.nm, Jn rfl g1 h1]
  show reachL s.H (198 + 1) [b2] [b1] _ = _
  rw [Jn (by simp only [memNm, n21]) g2 h2]
  rfl
 ·show renV [(b1, p ++ [n]), (b2, p ++ [n + 1])] _ = _
  simp only [renV, renVs, lookN, Zh, n21, ht.rn]
end
end Go.Am
namespace Go.Am
open Go
end Go.Am
namespace Go.Proofs.Ytgnpnfkncbnjnaa
open Go Go.Am
attribute [local congr] Zf Z9 Zc
attribute [local go_sem] Go.Am.buildSliceA Go.Am.frozen Go.Am.freezeG Go.Am.freezeGs Go.Am.minmax
def rgC (r : Rg) : List AV := [.int .i64 r.lo, .int .i64 r.hi]
theorem Z1k (r : Rg) : (rgC r).length = 2 := rfl
theorem Zec (r : Rg) : Bare (rgC r) := ⟨fun _ _ => rfl, fun _ => rfl⟩
theorem Xs (l : List Rg) : Bare (l.flatMap rgC) := Z2t Zec l
theorem Zed (l : List Rg) : (l.flatMap rgC).length = l.length * 2 := Z0o Z1k l
theorem Z7i : cfg.desc 50 = some (.slice 26) := by kernel_rfl
end Go.Proofs.Ytgnpnfkncbnjnaa
namespace Go.Proofs.Ytgnpnfkncbnjnaa
open Go Go.Am
attribute [local congr] Zf Z9 Zc
attribute [local go_sem] Go.Am.buildSliceA Go.Am.minmax
theorem Zco {H : Heap} {d : Nat} (l : List Rg) : freezeD H (d + 1) (l.flatMap rgC) = some (l.flatMap rgC) := by
 show freezeGs (freezeD H d) H _ = _
 refine Z16 (g := rgC) (fun a r t h => ?_) l
 show freezeGs (freezeD H d) H (.int .i64 a.lo :: .int .i64 a.hi :: r) = _
 simp only [freezeGs, freezeG, h]; rfl
structure GasAt (H : Heap) (b1 b2 b3 : Nm) (g : Gs) : Prop where
 f : g.free ≠ [] -> hget H b1 = some (.cells (g.free.flatMap rgC) true 2)
 b : g.bound ≠ [] -> hget H b2 = some (.cells (g.bound.flatMap rgC) true 2)
 r : g.room ≠ [] -> hget H b3 = some (.cells (g.room.flatMap rgC) true 2)
def zeroG : Gs := ⟨[], [], [], 0, false⟩
def gasE (e : Int) (g : Gs) : AV := .tuple [gsV (if e = 0 then g else zeroG), .int .i64 e]
@[go_sem] theorem Zjs (e : Int) (g : Gs) : (gasE e g).flat = true := by
 unfold gasE; simp only [gsV, AV.flat, flats, Z4l]
end Go.Proofs.Ytgnpnfkncbnjnaa
namespace Go.Proofs.Ytgnpnfkncbnjnaa
open Go Go.Am
attribute [local congr] Zf Z9 Zc
attribute [local go_sem] Go.Am.buildSliceA Go.Am.minmax
theorem Yn (b : Nm) (l : List AV) (x : AV) : ownV b (l ++ [x]) = .own b (l ++ [x]) := by cases l <;> rfl
end Go.Proofs.Ytgnpnfkncbnjnaa
namespace Go.Proofs.Ytgnpnfkncbnjnaa
open Go Go.Am
attribute [local congr] Zf Z9 Zc
attribute [local go_sem] Go.Am.buildSliceA Go.Am.frozen Go.Am.freezeG Go.Am.freezeGs Go.Am.minmax
theorem Vac.Lens.more {v : Vac} {K : Nat} (hv : v.Lens K) (q : Nat) : v.Lens (K + q) := ⟨⟨by have := hv.ves.1; omega, hv.ves.2⟩, ⟨by have := hv.pip.1; omega, hv.pip.2⟩, ⟨by have := hv.pmp.1; omega, hv.pmp.2⟩, ⟨by have := hv.inl.1; omega, hv.inl.2⟩, ⟨by have := hv.gtr.1; omega, hv.gtr.2⟩, hv.bands⟩
end Go.Proofs.Ytgnpnfkncbnjnaa
namespace Go.Am
open Go
def isD (u : Nat) (H : Heap) : Prop := ∃ w, hget H [0] = some (.cells [.int .u64 w] true u)
def wordB : Option Blk -> Int
 | some (.cells [.int _ w] _ _) => w
 | _ => 0
noncomputable def dW (H : Heap) : Int := wordB (hget H [0])
section
variable {u a k c : Nat} {w : Int} {H H' : Heap} {X : Blk} {x : Option Blk} {d : Delta}
theorem Ja (h : isD u H) : hget H [0] = some (.cells [.int .u64 (dW H)] true u) := by
 obtain ⟨w, h⟩ := h
 have e : dW H = w := by unfold dW; rw [h]; rfl
 rw [e, h]
theorem Zhp (h : hget H [0] = some (.cells [.int .u64 w] true u)) : dW H = w := by unfold dW; rw [h]; rfl
theorem Z2u (e : hget H [0] = hget H' [0]) : isD u H = isD u H' := by unfold isD; rw [e]
theorem Z7j (e : hget H [0] = hget H' [0]) : dW H = dW H' := by unfold dW; rw [e]
theorem Zcp (h : isD u H) : hget (hset H [0] X) [0] = some X := hss (Ja h)
theorem Zl (h : isD u H) : isD u (hset H [0] (.cells [.int .u64 w] true u)) := ⟨w, Zcp h⟩
theorem Yb (h : isD u H) : dW (hset H [0] (.cells [.int .u64 w] true u)) = w := Zhp (u := u) (Zcp h)
theorem Zo : isD u (([0], .cells [.int .u64 w] true u) :: H) = True := eq_true ⟨w, Z0 ..⟩
theorem Zx : dW (([0], .cells [.int .u64 w] true u) :: H) = w := Zhp (u := u) (Z0 ..)
theorem Zp : isD u (([a + 1], X) :: H) = isD u H := Z2u (hc11 (by omega))
theorem Zy : dW (([a + 1], X) :: H) = dW H := Z7j (hc11 (by omega))
theorem Zq : isD u (([a, k, c], X) :: H) = isD u H := Z2u hc31
theorem Zz : dW (([a, k, c], X) :: H) = dW H := Z7j hc31
theorem Y0 : isD u (hset H [a + 1] X) = isD u H := Z2u (hs11 (by omega))
theorem Yc : dW (hset H [a + 1] X) = dW H := Z7j (hs11 (by omega))
theorem Y1 : isD u (hset H [a, k, c] X) = isD u H := Z2u hs31
theorem Yd : dW (hset H [a, k, c] X) = dW H := Z7j hs31
theorem Y2 : isD u (hdel H [a + 1]) = isD u H := Z2u (hd11 (by omega))
theorem Ye : dW (hdel H [a + 1]) = dW H := Z7j (hd11 (by omega))
theorem Y3 : isD u (hdel H [a, k, c]) = isD u H := Z2u hd31
theorem Yf : dW (hdel H [a, k, c]) = dW H := Z7j hd31
theorem Zk : isD u (redoH H (([0], some (.cells [.int .u64 w] true u)) :: d)) = True := eq_true ⟨w, by rw [Z1, Z4]; rfl⟩
theorem Zn : dW (redoH H (([0], some (.cells [.int .u64 w] true u)) :: d)) = w := Zhp (u := u) (by rw [Z1, Z4]; rfl)
theorem Zr : isD u (redoH H (([a + 1], x) :: d)) = isD u (redoH H d) := Z2u (by rw [Z1, Z1, lk11 (by omega)])
theorem Y4 : dW (redoH H (([a + 1], x) :: d)) = dW (redoH H d) := Z7j (by rw [Z1, Z1, lk11 (by omega)])
theorem Zs : isD u (redoH H (([a, k, c], x) :: d)) = isD u (redoH H d) := Z2u (by rw [Z1, Z1, lk31])
theorem Y5 : dW (redoH H (([a, k, c], x) :: d)) = dW (redoH H d) := Z7j (by rw [Z1, Z1, lk31])
theorem Yg : isD u (redoH H []) = isD u H := rfl
theorem Yv : dW (redoH H []) = dW H := rfl
end
end Go.Am
namespace Go.Proofs.Ytgnpnfkncbnjnaa
open Go Go.Am
attribute [local congr] Zf Z9 Zc
attribute [local go_sem] Go.Am.buildSliceA Go.Am.frozen Go.Am.freezeG Go.Am.freezeGs Go.Am.minmax
structure RgG (m : Int) (r : Rg) : Prop where
 lo : 0 <= r.lo
 le : r.lo <= r.hi
 hi : r.hi <= m
def BandsG (k : Int) : List Rel -> Prop
 | [] => True
 | b :: l => 0 <= b.frm /\ b.frm < k /\ (∀ m ∈ l, b.frm < m.frm) /\ RgG 400000 b.rate /\ BandsG k l
theorem Z48 {k k' : Int} {r : Rg} (h0 : 0 <= k) (h1 : k < k') (hr : RgG 400000 r) : ∀ {l : List Rel}, BandsG k l -> BandsG k' (l ++ [⟨k, r⟩])
 | [], _ => ⟨h0, h1, (fun _ h => by cases h), hr, trivial⟩
 | b :: l, ⟨g1, g2, g3, g4, g5⟩ => ⟨g1, by omega, fun m hm => by
   rcases List.mem_append.1 hm with hm | hm
   ·exact g3 m hm
   ·simp only [List.mem_singleton] at hm; subst hm; exact g2, g4, Z48 h0 h1 hr g5⟩
theorem Z49 {k k' : Int} (h : k <= k') : ∀ {l : List Rel}, BandsG k l -> BandsG k' l
 | [], _ => trivial
 | b :: l, ⟨g1, g2, g3, g4, g5⟩ => ⟨g1, by omega, g3, g4, Z49 h g5⟩
structure VesG (v : Ves) : Prop where
 vol : 1 <= v.vol /\ v.vol <= 50
 free : RgG 20000 v.free
 bound : RgG 50000 v.bound
 len : v.bands.length <= 2
 bands : BandsG 1100 v.bands
structure PipG (n : Int) (p : Pip) : Prop where
 a : 0 <= p.a /\ p.a < n
 b : 0 <= p.b /\ p.b < n
 ab : p.a ≠ p.b
 out : RgG 120000 p.out
 back : RgG 120000 p.back
structure PmpG (n : Int) (p : Pmp) : Prop where
 at' : 0 <= p.at' /\ p.at' < n
 part : RgG 200000 p.part
structure InlG (n : Int) (p : Inl) : Prop where
 at' : 0 <= p.at' /\ p.at' < n
 gas : RgG 30 p.gas
structure GtrG (n : Int) (p : Gtr) : Prop where
 at' : 0 <= p.at' /\ p.at' < n
 part : RgG 300000 p.part
 room : RgG 9000 p.room
structure VacG (v : Vac) : Prop where
 n1 : 1 <= v.vessels.length
 n4 : v.vessels.length <= 4
 ves : ∀ x ∈ v.vessels, VesG x
 np : v.pipes.length <= 4
 pip : ∀ x ∈ v.pipes, PipG v.vessels.length x
 nm : v.pumps.length <= 2
 pmp : ∀ x ∈ v.pumps, PmpG v.vessels.length x
 nl : v.leaks.length <= 2
 inl : ∀ x ∈ v.leaks, InlG v.vessels.length x
 ng : v.getters.length <= 2
 gtr : ∀ x ∈ v.getters, GtrG v.vessels.length x
theorem Z03 (w m : Int) (h : 0 <= m) : RgG m (rangeR w 0 m) := by
 have := Z8n w 0 m h
 exact ⟨this.1, this.2.1, this.2.2⟩
theorem Zee (m : Int) (h : 0 <= m) : RgG m ⟨0, 0⟩ := ⟨Int.le_refl _, Int.le_refl _, h⟩
section
variable {H : Heap} {m u : Nat} {p : Nm} {jr : Bool} {j : Delta}
def jD (jr : Bool) (w : Int) (u : Nat) (j : Delta) : Delta := match jr with | true => ([0], some (.cells [.int .u64 w] true u)) :: j | false => j
@[go_sem] theorem Zv3 (w : Int) (u : Nat) (j : Delta) : jD true w u j = ([0], some (.cells [.int .u64 w] true u)) :: j := rfl
@[go_sem] theorem Zpl (w : Int) (u : Nat) (j : Delta) : jD false w u j = j := rfl
theorem Z04 (n : Int) (K : Nat) (hd : isD u H) (hn : n <= 9223372036854775807) : acall cfg (K + 2) 25 [.ptr [0] 0, .int .i64 n] ⟨H, m, p, jr, j⟩ = .ret (.int .i64 (uptoN (dW H) n), ⟨hset H [0] (.cells [.int .u64 (nextW (dW H))] true u), m, p, jr, jD jr (nextW (dW H)) u j⟩) :=
 Z40 (dW H) n [0] u K ⟨H, m, p, jr, j⟩ (Ja hd) hn
theorem Zcq (n : Int) (K : Nat) (hd : isD u H) (hn : n <= 9223372036854775807) : acall cfg (K + 3) 44 [.ptr [0] 0, .int .i64 n] ⟨H, m, p, jr, j⟩ = .ret (.bool (oneB (dW H) n), ⟨hset H [0] (.cells [.int .u64 (nextW (dW H))] true u), m, p, jr, jD jr (nextW (dW H)) u j⟩) :=
 Zds (dW H) n [0] u K ⟨H, m, p, jr, j⟩ (Ja hd) hn
theorem Z21 (lo hi : Int) (K : Nat) (h1 : -1000000000000 <= lo) (h2 : lo <= hi) (h3 : hi <= 1000000000000) (hd : isD u H) : acall cfg (K + 3) 85 [.ptr [0] 0, .int .i64 lo, .int .i64 hi] ⟨H, m, p, jr, j⟩ = .ret (.int .i64 (betweenN (dW H) lo hi), ⟨hset H [0] (.cells [.int .u64 (nextW (dW H))] true u), m, p, jr, jD jr (nextW (dW H)) u j⟩) :=
 Z2o (dW H) lo hi [0] u K ⟨H, m, p, jr, j⟩ (Ja hd) h1 h2 h3
theorem Z1l (lo hi : Int) (K : Nat) (h1 : -1000000000000 <= lo) (h2 : lo <= hi) (h3 : hi <= 1000000000000) (hd : isD u H) : acall cfg (K + 4) 87 [.ptr [0] 0, .int .i64 lo, .int .i64 hi] ⟨H, m, p, jr, j⟩ = .ret (rgV (rangeR (dW H) lo hi), ⟨hset H [0] (.cells [.int .u64 (nextW (nextW (dW H)))] true u), m, p, jr, jD jr (nextW (nextW (dW H))) u j⟩) :=
 Z5c (dW H) lo hi [0] u K ⟨H, m, p, jr, j⟩ (Ja hd) h1 h2 h3
theorem Z7k (most : Int) (K : Nat) (h2 : 0 <= most) (h3 : most <= 1000000000000) (hd : isD u H) : acall cfg (K + 5) 88 [.ptr [0] 0, .int .i64 most] ⟨H, m, p, jr, j⟩ = .ret (rgV (rangeR (dW H) 0 most), ⟨hset H [0] (.cells [.int .u64 (nextW (nextW (dW H)))] true u), m, p, jr, jD jr (nextW (nextW (dW H))) u j⟩) :=
 Zcb (dW H) most [0] u K ⟨H, m, p, jr, j⟩ (Ja hd) h2 h3
end
end Go.Proofs.Ytgnpnfkncbnjnaa
namespace Go.Proofs.Ytgnpnfkncbnjnaa
attribute [local go_sem_proc] Int.reduceEq Int.reduceNeg Nat.reduceEqDiff Nat.reduceLT Nat.reduceAdd Nat.reduceSub Nat.reduceMul Int.reduceLE Int.reduceLT Int.reduceToNat Nat.reduceLeDiff
attribute [local go_sem] Int.toNat_natCast Bool.not_true Bool.not_false
open Go Go.Am
attribute [local congr] Zf Z9 Zc
attribute [local go_sem] Go.Am.frozen Go.Am.freezeG Go.Am.freezeGs Go.Am.minmax
theorem bs69 (fr a b : Int) (s : St) : buildSliceA (cfg.at 23) true 69 1 [(0, .agg [.int .i64 fr, .int .i64 a, .int .i64 b])] s = .ret (.lst [.agg [.int .i64 fr, .int .i64 a, .int .i64 b]], s) := by
 simp -implicitDefEqProofs only [redoH, redo1, go_sem, Go.Am.buildSliceA]
theorem bs33 (a b c d e : Int) (q : Nm) (l : List AV) (s : St) : buildSliceA (cfg.at 23) true 33 1 [(0, .agg [.int .i64 a, .int .i64 b, .int .i64 c, .int .i64 d, .int .i64 e, ownV q l])] s = .ret (.lst [.agg [.int .i64 a, .int .i64 b, .int .i64 c, .int .i64 d, .int .i64 e, .lst l]], s) := by
 have h : (ownV q l).shut = .lst l := X4 q l
 have h2 : shuts [.int .i64 a, .int .i64 b, .int .i64 c, .int .i64 d, .int .i64 e, ownV q l] = [.int .i64 a, .int .i64 b, .int .i64 c, .int .i64 d, .int .i64 e, .lst l] := by
  simp only [shuts, AV.shut, h]
 simp -implicitDefEqProofs only [redoH, redo1, go_sem, Go.Am.buildSliceA, h, h2]
theorem bs34 (a b c d e f : Int) (s : St) : buildSliceA (cfg.at 23) true 34 1 [(0, .agg [.int .i64 a, .int .i64 b, .int .i64 c, .int .i64 d, .int .i64 e, .int .i64 f])] s = .ret (.lst [.agg [.int .i64 a, .int .i64 b, .int .i64 c, .int .i64 d, .int .i64 e, .int .i64 f]], s) := by
 simp -implicitDefEqProofs only [redoH, redo1, go_sem, Go.Am.buildSliceA]
theorem bs35 (a b c : Int) (s : St) : buildSliceA (cfg.at 23) true 35 1 [(0, .agg [.int .i64 a, .int .i64 b, .int .i64 c])] s = .ret (.lst [.agg [.int .i64 a, .int .i64 b, .int .i64 c]], s) := by
 simp -implicitDefEqProofs only [redoH, redo1, go_sem, Go.Am.buildSliceA]
theorem bs36 (a b c : Int) (s : St) : buildSliceA (cfg.at 23) true 36 1 [(0, .agg [.int .i64 a, .int .i64 b, .int .i64 c])] s = .ret (.lst [.agg [.int .i64 a, .int .i64 b, .int .i64 c]], s) := by
 simp -implicitDefEqProofs only [redoH, redo1, go_sem, Go.Am.buildSliceA]
theorem bs37 (a b c d e : Int) (s : St) : buildSliceA (cfg.at 23) true 37 1 [(0, .agg [.int .i64 a, .int .i64 b, .int .i64 c, .int .i64 d, .int .i64 e])] s = .ret (.lst [.agg [.int .i64 a, .int .i64 b, .int .i64 c, .int .i64 d, .int .i64 e]], s) := by
 simp -implicitDefEqProofs only [redoH, redo1, go_sem, Go.Am.buildSliceA]
theorem Zhq {a bw : Int} {N : Int} (ha : 0 <= a /\ a < N) (hb : 1 <= bw /\ bw <= N - 1) : 0 <= (a + bw).tmod N /\ (a + bw).tmod N < N /\ a ≠ (a + bw).tmod N := by
 have e0 : (a + bw).tmod N = (a + bw) % N := Int.tmod_eq_emod_of_nonneg (by omega)
 rw [e0]
 by_cases h : a + bw < N
 ·rw [Int.emod_eq_of_lt (by omega) h]; omega
 ·have e : a + bw = (a + bw - N) + N := by omega
  have e2 : (a + bw) % N = (a + bw - N) % N := by
   conv => lhs; rw [e]
   rw [Int.add_emod_right]
  rw [e2, Int.emod_eq_of_lt (by omega) (by omega)]; omega
theorem Zjt : cfg.desc 69 = some (.slice 138) := by kernel_rfl
theorem Zju : cfg.desc 33 = some (.slice 71) := by kernel_rfl
theorem Zjv : cfg.desc 34 = some (.slice 140) := by kernel_rfl
theorem Zjw : cfg.desc 35 = some (.slice 128) := by kernel_rfl
theorem Zjx : cfg.desc 36 = some (.slice 61) := by kernel_rfl
theorem Zjy : cfg.desc 37 = some (.slice 142) := by kernel_rfl
theorem Xj {α : Type} (f : α -> AV) (b : Nm) (l : List α) (x : α) : ownV b ((l ++ [x]).map f) = .own b ((l ++ [x]).map f) := by
 rw [List.map_append]; exact Yn _ _ _
def nil5 : List AV := [.nils, .nils, .nils, .nils, .nils]
theorem Z6e (w : Int) (b : Nm) (u : Nat) (K : Nat) (st : St) (hb : hget st.H b = some (.cells [.int .u64 w] true u)) (hK : 100 < K) :
  ∃ v w', VacG v /\ acall cfg (K + 10) 23 [.ptr b 0] st = .ret (vacV v, st.put b (.cells [.int .u64 w'] true u)) := by
 have key : ∃ v w', VacG v /\ (bodyA (cfg.at 23) (acall cfg (K + 9)) (around cfg (K + 9)) (K + 9 + 1) Try.f23 [.ptr [0] 0] ⟨[([0], .cells [.int .u64 w] true u)], 1, [], false, []⟩).Does fun x => x.1.shut = vacV v /\ hget x.2.H [0] = some (.cells [.int .u64 w'] true u) := by
  suffices h : (bodyA (cfg.at 23) (acall cfg (K + 9)) (around cfg (K + 9)) (K + 9 + 1) Try.f23 [.ptr [0] 0] ⟨[([0], .cells [.int .u64 w] true u)], 1, [], false, []⟩).Does fun x => ∃ v w', VacG v /\ x.1.shut = vacV v /\ hget x.2.H [0] = some (.cells [.int .u64 w'] true u) by
   obtain ⟨x, e, v, w', h1, h2, h3⟩ := h
   exact ⟨v, w', h1, x, e, h2, h3⟩
  refine Za rfl fun T hT' hA => ?_
  have a0 := hA 0 _ rfl
  have hT : T.length = 144 := hT'
  clear hA hT'
  have bt := fun H m jr j hd => Z21 (H := H) (m := m) (u := u) (p := []) (jr := jr) (j := j) 1 4 (K + 6) (by decide) (by decide) (by decide) hd
  have d0 : isD u [([0], .cells [.int .u64 w] true u)] := ⟨w, rfl⟩
  simp -implicitDefEqProofs (maxDischargeDepth := 9) only [go_sem, Zl, Yb, Zo, Zx, Zp, Zy, Zq, Zz, Y0, Yc, Y1, Yd, Y2, Ye, Y3, Yf, Zk, Zn, Zr, Y4, Zs, Y5, Yg, Yv, a0, hT, bt, d0]
  have hb1 := Yx w 1 4 (by decide)
  generalize betweenN w 1 4 = N at *
  clear bt d0
  simp only [Z5]
  refine Zu (fun k T s' => T.length = 144 /\ nth T 0 = some (.ptr [0] 0) /\ nth T 2 = some (.ptr [1] 0) /\ nth T 3 = some (.ptr [2] 0) /\ nth T 4 = some (.int .i64 N) /\ ∃ (i n c : Nat) (H : Heap) (vs : List Ves), nth T 5 = some (.int .i64 i) /\ (i : Int) <= N /\ k = N.toNat - i /\ s' = ⟨H, n + 3, [], false, []⟩ /\ isD u H /\ hget H [1] = some (.cells nil5 true 0) /\ hget H [2] = some (.cells (ownV [c + 3] (vs.map vesV) :: [.nils, .nils, .nils, .nils]) true 0) /\ (vs.map vesV ≠ [] -> c < n /\ hget H [c + 3] = some (.tok vs.length 6)) /\ vs.length = i /\ ∀ x ∈ vs, VesG x) (k := N.toNat) (by omega) ?_ ?_
  ·exact ⟨by simp -implicitDefEqProofs only [redoH, redo1, go_sem, hT], by simp -implicitDefEqProofs only [redoH, redo1, go_sem, a0], by simp -implicitDefEqProofs only [redoH, redo1, go_sem, hT], by simp -implicitDefEqProofs only [redoH, redo1, go_sem, hT], by simp -implicitDefEqProofs only [redoH, redo1, go_sem, hT], 0, 0, 0, _, [], by simp -implicitDefEqProofs only [redoH, redo1, go_sem, hT] <;> rfl, by omega, rfl, rfl, ⟨_, rfl⟩, rfl, rfl, fun h => absurd rfl h, rfl, fun _ h => by cases h⟩
  clear a0 hT T
  rintro k T s' ⟨hT, a0, a2, a3, a4, i, n, c, H, vs, a5, hi, rfl, rfl, hd, g1, g2, gt, hvl, hvs⟩
  simp -implicitDefEqProofs (maxDischargeDepth := 9) only [go_sem, Zl, Yb, Zo, Zx, Zp, Zy, Zq, Zz, Y0, Yc, Y1, Yd, Y2, Ye, Y3, Yf, Zk, Zn, Zr, Y4, Zs, Y5, Yg, Yv, a0, a2, a3, a4, a5, hT]
  by_cases hlo : (i : Int) < N
  ·have bt := fun H m jr j hd => Z21 (H := H) (m := m) (u := u) (p := []) (jr := jr) (j := j) 1 50 (K + 6) (by decide) (by decide) (by decide) hd
   have rt := fun H m jr j hd => Z1l (H := H) (m := m) (u := u) (p := []) (jr := jr) (j := j) 0 20000 (K + 5) (by decide) (by decide) (by decide) hd
   have ot := fun H m jr j hd => Zcq (H := H) (m := m) (u := u) (p := []) (jr := jr) (j := j) 2 (K + 6) hd (by decide)
   simp -implicitDefEqProofs (maxDischargeDepth := 9) only [go_sem, Zl, Yb, Zo, Zx, Zp, Zy, Zq, Zz, Y0, Yc, Y1, Yd, Y2, Ye, Y3, Yf, Zk, Zn, Zr, Y4, Zs, Y5, Yg, Yv, Z3, a0, a2, a3, a4, a5, hT, hlo, bt, rt, ot, hd]
   have hvol := Yx (dW H) 1 50 (by decide)
   have hfree := Z03 (nextW (dW H)) 20000 (by decide)
   generalize betweenN (dW H) 1 50 = vol at *
   generalize rangeR (nextW (dW H)) 0 20000 = free at *
   generalize oneB (nextW (nextW (nextW (dW H)))) 2 = ob at *
   generalize nextW (nextW (nextW (nextW (dW H)))) = w1 at *
   clear bt rt ot
   obtain ⟨H1, hH1, d1, q1, q2, qt⟩ : ∃ H1, H1 = hset H [0] (.cells [.int .u64 w1] true u) /\ isD u H1 /\ hget H1 [1] = some (.cells nil5 true 0) /\ hget H1 [2] = some (.cells (ownV [c + 3] (vs.map vesV) :: [.nils, .nils, .nils, .nils]) true 0) /\ (vs.map vesV ≠ [] -> c < n /\ hget H1 [c + 3] = some (.tok vs.length 6)) :=
    ⟨_, rfl, Zl hd, by rw [hs11 (by decide)]; exact g1, by rw [hs11 (by decide)]; exact g2, fun h => ⟨(gt h).1, by rw [hs11 (by omega)]; exact (gt h).2⟩⟩
   rw [<- hH1]
   clear hH1 hd g1 g2 gt
   simp only [Z5]
   refine Tr.Does.mono (Q := fun x => ∃ bd T' H', x = ((AExit.normal, T'), (⟨H', n + 4, [], false, []⟩ : St)) /\ RgG 50000 bd /\ T'.length = 144 /\ nth T' 0 = some (.ptr [0] 0) /\ nth T' 2 = some (.ptr [1] 0) /\ nth T' 3 = some (.ptr [2] 0) /\ nth T' 4 = some (.int .i64 N) /\ nth T' 5 = some (.int .i64 i) /\ nth T' 6 = some (.ptr [n + 3] 0) /\
    isD u H' /\ hget H' [1] = some (.cells nil5 true 0) /\ hget H' [2] = some (.cells (ownV [c + 3] (vs.map vesV) :: [.nils, .nils, .nils, .nils]) true 0) /\ (vs.map vesV ≠ [] -> c < n /\ hget H' [c + 3] = some (.tok vs.length 6)) /\ hget H' [n + 3] = some (.cells [.int .i64 vol, .int .i64 free.lo, .int .i64 free.hi, .int .i64 bd.lo, .int .i64 bd.hi, .nils] true 0)) ?_ ?_
   ·cases ob with
    | true =>
     have rt := fun H m jr j hd => Z1l (H := H) (m := m) (u := u) (p := []) (jr := jr) (j := j) 0 50000 (K + 5) (by decide) (by decide) (by decide) hd
     simp -implicitDefEqProofs (maxDischargeDepth := 9) only [go_sem, Zl, Yb, Zo, Zx, Zp, Zy, Zq, Zz, Y0, Yc, Y1, Yd, Y2, Ye, Y3, Yf, Zk, Zn, Zr, Y4, Zs, Y5, Yg, Yv, Z3, a0, a2, a3, a4, a5, hT, rt, d1]
     have hz := Z03 (dW H1) 50000 (by decide)
     refine ⟨rangeR (dW H1) 0 50000, _, _, rfl, hz, by simp -implicitDefEqProofs only [redoH, redo1, go_sem, hT], by simp -implicitDefEqProofs only [redoH, redo1, go_sem, a0], by simp -implicitDefEqProofs only [redoH, redo1, go_sem, a2], by simp -implicitDefEqProofs only [redoH, redo1, go_sem, a3], by simp -implicitDefEqProofs only [redoH, redo1, go_sem, a4], by simp -implicitDefEqProofs only [redoH, redo1, go_sem, a5], by simp -implicitDefEqProofs only [redoH, redo1, go_sem, hT], by simp only [Zl, Yb, Zo, Zx, Zp, Zy, Zq, Zz, Y0, Yc, Y1, Yd, Y2, Ye, Y3, Yf, Zk, Zn, Zr, Y4, Zs, Y5, Yg, Yv, d1], ?_, ?_, fun h => ⟨(qt h).1, ?_⟩, Z0 ..⟩
     ·rw [hc11 (by omega), hs11 (by decide)]; exact q1
     ·rw [hc11 (by omega), hs11 (by decide)]; exact q2
     ·rw [hc11 (by have := (qt h).1; omega), hs11 (by omega)]; exact (qt h).2
    | false =>
     simp -implicitDefEqProofs (maxDischargeDepth := 9) only [go_sem, Zl, Yb, Zo, Zx, Zp, Zy, Zq, Zz, Y0, Yc, Y1, Yd, Y2, Ye, Y3, Yf, Zk, Zn, Zr, Y4, Zs, Y5, Yg, Yv, Z3, a0, a2, a3, a4, a5, hT, d1]
     refine ⟨⟨0, 0⟩, _, _, rfl, Zee _ (by decide), by simp -implicitDefEqProofs only [redoH, redo1, go_sem, hT], by simp -implicitDefEqProofs only [redoH, redo1, go_sem, a0], by simp -implicitDefEqProofs only [redoH, redo1, go_sem, a2], by simp -implicitDefEqProofs only [redoH, redo1, go_sem, a3], by simp -implicitDefEqProofs only [redoH, redo1, go_sem, a4], by simp -implicitDefEqProofs only [redoH, redo1, go_sem, a5], by simp -implicitDefEqProofs only [redoH, redo1, go_sem, hT], by simp only [Zl, Yb, Zo, Zx, Zp, Zy, Zq, Zz, Y0, Yc, Y1, Yd, Y2, Ye, Y3, Yf, Zk, Zn, Zr, Y4, Zs, Y5, Yg, Yv, d1], ?_, ?_, fun h => ⟨(qt h).1, ?_⟩, Z0 ..⟩
     ·rw [hc11 (by omega)]; exact q1
     ·rw [hc11 (by omega)]; exact q2
     ·rw [hc11 (by have := (qt h).1; omega)]; exact (qt h).2
   clear a0 a2 a3 a4 a5 hT T d1 q1 q2 qt H1
   rintro _ ⟨bd, T, H, rfl, hbd, hT, a0, a2, a3, a4, a5, a6, hd, g1, g2, gt, g3⟩
   have ut := fun n H m jr j hn hd => Z04 (H := H) (m := m) (u := u) (p := []) (jr := jr) (j := j) n (K + 7) hd hn
   have ut1 := fun H m jr j hd => ut 300 H m jr j (by decide) hd
   have ut2 := fun H m jr j hd => ut 3 H m jr j (by decide) hd
   simp -implicitDefEqProofs (maxDischargeDepth := 9) only [go_sem, Zl, Yb, Zo, Zx, Zp, Zy, Zq, Zz, Y0, Yc, Y1, Yd, Y2, Ye, Y3, Yf, Zk, Zn, Zr, Y4, Zs, Y5, Yg, Yv, Z3, a0, a2, a3, a4, a5, a6, hT, ut1, ut2, hd]
   have hfr := Yk (dW H) 300 (by decide)
   have hct := Yk (nextW (dW H)) 3 (by decide)
   generalize uptoN (dW H) 300 = fr0 at *
   generalize uptoN (nextW (dW H)) 3 = ct0 at *
   generalize nextW (nextW (dW H)) = w1 at *
   clear ut1 ut2
   obtain ⟨ct, rfl⟩ : ∃ q : Nat, ct0 = q := ⟨ct0.toNat, by omega⟩
   simp only [Z5]
   refine Zu (fun l T s' => T.length = 144 /\ nth T 0 = some (.ptr [0] 0) /\ nth T 2 = some (.ptr [1] 0) /\ nth T 3 = some (.ptr [2] 0) /\ nth T 4 = some (.int .i64 N) /\ nth T 5 = some (.int .i64 i) /\ nth T 6 = some (.ptr [n + 3] 0) /\ nth T 8 = some (.int .i64 l) /\ ∃ (fr : Int) (m cb : Nat) (H : Heap) (bs : List Rel), nth T 7 = some (.int .i64 fr) /\ s' = ⟨H, m + n + 4, [], false, []⟩ /\ isD u H /\ hget H [1] = some (.cells nil5 true 0) /\ hget H [2] = some (.cells (ownV [c + 3] (vs.map vesV) :: [.nils, .nils, .nils, .nils]) true 0) /\ (vs.map vesV ≠ [] -> c < n /\ hget H [c + 3] = some (.tok vs.length 6)) /\
    hget H [n + 3] = some (.cells [.int .i64 vol, .int .i64 free.lo, .int .i64 free.hi, .int .i64 bd.lo, .int .i64 bd.hi, ownV [cb, 7, 0] (bs.map relV)] true 0) /\ (bs ≠ [] -> cb < m + n + 4 /\ hget H [cb, 7, 0] = some (.tok bs.length 3)) /\ bs.length + l <= 2 /\ 0 <= fr /\ fr < 300 + 400 * (bs.length : Int) /\ BandsG fr bs) (k := ct) (by omega) ?_ ?_
   ·exact ⟨by simp -implicitDefEqProofs only [redoH, redo1, go_sem, hT], by simp -implicitDefEqProofs only [redoH, redo1, go_sem, a0], by simp -implicitDefEqProofs only [redoH, redo1, go_sem, a2], by simp -implicitDefEqProofs only [redoH, redo1, go_sem, a3], by simp -implicitDefEqProofs only [redoH, redo1, go_sem, a4], by simp -implicitDefEqProofs only [redoH, redo1, go_sem, a5], by simp -implicitDefEqProofs only [redoH, redo1, go_sem, a6], by simp -implicitDefEqProofs only [redoH, redo1, go_sem, hT], fr0, 0, 0, _, [], by simp -implicitDefEqProofs only [redoH, redo1, go_sem, hT], by rw [Nat.zero_add], Zl hd, by rw [hs11 (by decide)]; exact g1, by rw [hs11 (by decide)]; exact g2, fun h => ⟨(gt h).1, by rw [hs11 (by omega)]; exact (gt h).2⟩, by rw [hs11 (by omega)]; exact g3, fun h => absurd rfl h, by show 0 + ct <= 2; omega, hfr.1, by show fr0 < 300 + 400 * ((0 : Nat) : Int); omega, trivial⟩
   clear a0 a2 a3 a4 a5 a6 hT T hd g1 g2 gt g3 H w1 hfr hct fr0 ct ut
   rintro l T s' ⟨hT, a0, a2, a3, a4, a5, a6, a8, fr, m, cb, H, bs, a7, rfl, hd, g1, g2, gt, g3, gb, hbl, hf0, hf1, hbg⟩
   simp -implicitDefEqProofs only [go_sem, a0, a2, a3, a4, a5, a6, a7, a8, hT]
   by_cases hlo : (0 : Int) < (l : Int)
   ·have hl1 : l - 1 < l := by omega
    have pt := fun m p jr j => Z7k (H := H) (m := m) (u := u) (p := p) (jr := jr) (j := j) 400000 (K + 4) (by decide) (by decide) hd
    have hrg := Z03 (dW H) 400000 (by decide)
    generalize rangeR (dW H) 0 400000 = rg at *
    generalize nextW (nextW (dW H)) = w2 at *
    have pt' : ∀ m p, acall cfg (K + 9) 88 [.ptr [0] 0, .int .i64 400000] ⟨H, m, p, true, []⟩ = .ret (.agg [.int .i64 rg.lo, .int .i64 rg.hi], ⟨hset H [0] (.cells [.int .u64 w2] true u), m, p, true, [([0], some (.cells [.int .u64 w2] true u))]⟩) := fun m p => pt m p true []
    clear pt
    have gv : hget (hdel H [0]) [n + 3] = some (.cells [.int .i64 vol, .int .i64 free.lo, .int .i64 free.hi, .int .i64 bd.lo, .int .i64 bd.hi, ownV [cb, 7, 0] (bs.map relV)] true 0) := (hd11 (by omega)).trans g3
    have hap := fun (l : List AV) (n : Nat) (b p : Nm) (H : Heap) (r : Rg) (hr : (l.length + 1) * 24 <= 140737488355328) (hg : l ≠ [] -> hget H b = some (.tok l.length 3)) => X6 (C := cfg.at 23) (sT := 69) (b := b) (l := l) (x := .agg [.int .i64 fr, .int .i64 r.lo, .int .i64 r.hi]) (H := H) (n := n) (p := p) (jr := true) (j := []) (z := 3) Zjt Zfn rfl rfl rfl rfl rfl rfl hr hg
    simp -implicitDefEqProofs only [go_sem, a0, a2, a3, a4, a5, a6, a7, a8, hT, hlo]
    simp only [Z5]
    refine Tr.Does.mono (Q := fun x => ∃ T' H2, x = (T', (⟨H2, m + n + 5, [], false, []⟩ : St)) /\ T'.length = 144 /\ nth T' 0 = some (.ptr [0] 0) /\ nth T' 2 = some (.ptr [1] 0) /\ nth T' 3 = some (.ptr [2] 0) /\ nth T' 4 = some (.int .i64 N) /\ nth T' 5 = some (.int .i64 i) /\ nth T' 6 = some (.ptr [n + 3] 0) /\ nth T' 7 = some (.int .i64 fr) /\ nth T' 8 = some (.int .i64 l) /\
     isD u H2 /\ hget H2 [1] = some (.cells nil5 true 0) /\ hget H2 [2] = some (.cells (ownV [c + 3] (vs.map vesV) :: [.nils, .nils, .nils, .nils]) true 0) /\ (vs.map vesV ≠ [] -> c < n /\ hget H2 [c + 3] = some (.tok vs.length 6)) /\
     hget H2 [n + 3] = some (.cells [.int .i64 vol, .int .i64 free.lo, .int .i64 free.hi, .int .i64 bd.lo, .int .i64 bd.hi, ownV [m + n + 4, 7, 0] ((bs ++ [(⟨fr, rg⟩ : Rel)]).map relV)] true 0) /\ hget H2 [m + n + 4, 7, 0] = some (.tok (bs ++ [(⟨fr, rg⟩ : Rel)]).length 3)) ?_ ?_
    ·cases bs with
     | nil =>
      have hap0 := fun (n : Nat) (p : Nm) (H : Heap) (r : Rg) => hap [] n [] p H r (by simp) (fun h => absurd rfl h)
      simp only [ownV, dropTok, tokJ, List.nil_append, List.length_nil, List.map_nil] at hap0 g3 gv
      have ip : isPre [m + n + 4, 9] [n + 3] = false := Go.Am.Je _ _ (by omega)
      try simp only [Z5]
      refine Zd [[], [0], [], [], [3], [2, 4, 3], [5, 2, 4, 3], [1, 0, 6, 5, 2, 4, 3], [7, 1, 0, 6, 5, 2, 4, 3], [8, 7, 1, 0, 6, 5, 2, 4, 3]] [[], [], [], [], [[0]], [], [], [], [], [[n + 3]]] (by kernel_rfl) rfl rfl ?_
      simp -implicitDefEqProofs only [go_sem, Z1, lkn, Z4, lk11, lk13, lk31, lk33, Zb, Option.getD_some, Option.getD_none, a0, a2, a3, a4, a5, a6, a7, a8, hT, hlo, g3, gv, pt', bs69, hap0 _ _ _ ⟨rg.lo, rg.hi⟩, ip, Ze]
      refine ⟨_, _, rfl, by simp -implicitDefEqProofs only [redoH, redo1, go_sem, hT], by simp -implicitDefEqProofs only [redoH, redo1, go_sem, a0], by simp -implicitDefEqProofs only [redoH, redo1, go_sem, a2], by simp -implicitDefEqProofs only [redoH, redo1, go_sem, a3], by simp -implicitDefEqProofs only [redoH, redo1, go_sem, a4], by simp -implicitDefEqProofs only [redoH, redo1, go_sem, a5], by simp -implicitDefEqProofs only [redoH, redo1, go_sem, a6], by simp -implicitDefEqProofs only [redoH, redo1, go_sem, a7], by simp -implicitDefEqProofs only [redoH, redo1, go_sem, a8], by simp only [Zl, Yb, Zo, Zx, Zp, Zy, Zq, Zz, Y0, Yc, Y1, Yd, Y2, Ye, Y3, Yf, Zk, Zn, Zr, Y4, Zs, Y5, Yg, Yv], ?_, ?_, fun h => ⟨(gt h).1, ?_⟩, ?_, ?_⟩
      ·simp (disch := omega) only [Z0, hc11, hc13, hc31, hc33, hs11, hs13, hs31, hs33, hd11, hd13, hd31, hd33, Z3, ht11, ht31, ne_eq, not_false_eq_true, Nat.succ_ne_zero, Z1, lkn, Z4, lk11, lk13, lk31, lk33, Zb, Option.getD_some, Option.getD_none, g1]
      ·simp (disch := omega) only [Z0, hc11, hc13, hc31, hc33, hs11, hs13, hs31, hs33, hd11, hd13, hd31, hd33, Z3, ht11, ht31, ne_eq, not_false_eq_true, Nat.succ_ne_zero, Z1, lkn, Z4, lk11, lk13, lk31, lk33, Zb, Option.getD_some, Option.getD_none, g2]
      ·have := (gt h).1
       simp (disch := omega) only [Z0, hc11, hc13, hc31, hc33, hs11, hs13, hs31, hs33, hd11, hd13, hd31, hd33, Z3, ht11, ht31, ne_eq, not_false_eq_true, Nat.succ_ne_zero, Z1, lkn, Z4, lk11, lk13, lk31, lk33, Zb, Option.getD_some, Option.getD_none, (gt h).2]
      ·simp (disch := omega) only [Z0, hc11, hc13, hc31, hc33, hs11, hs13, hs31, hs33, hd11, hd13, hd31, hd33, Z3, ht11, ht31, ne_eq, not_false_eq_true, Nat.succ_ne_zero, Z1, lkn, Z4, lk11, lk13, lk31, lk33, Zb, Option.getD_some, Option.getD_none]; rfl
      ·simp (disch := omega) only [Z0, hc11, hc13, hc31, hc33, hs11, hs13, hs31, hs33, hd11, hd13, hd31, hd33, Z3, ht11, ht31, ne_eq, not_false_eq_true, Nat.succ_ne_zero, Z1, lkn, Z4, lk11, lk13, lk31, lk33, Zb, Option.getD_some, Option.getD_none] <;> rfl
     | cons b0 bs =>
      obtain ⟨hcb, r1⟩ := gb (by simp)
      have hapN := fun (n : Nat) (p : Nm) (H : Heap) (r : Rg) (hg : hget H [cb, 7, 0] = some (.tok (b0 :: bs).length 3)) => hap ((b0 :: bs).map relV) n [cb, 7, 0] p H r (by rw [List.length_map]; omega) (fun _ => by rw [List.length_map]; exact hg)
      have hrel : ((b0 :: bs) ++ [(⟨fr, rg⟩ : Rel)]).map relV = (b0 :: bs).map relV ++ [.agg [.int .i64 fr, .int .i64 rg.lo, .int .i64 rg.hi]] := by rw [List.map_append]; rfl
      have hrl : ((b0 :: bs) ++ [(⟨fr, rg⟩ : Rel)]).length = (b0 :: bs).length + 1 := by simp
      have n1 : (b0 :: bs).map relV ≠ [] := by simp
      have hlm : ((b0 :: bs).map relV).length = (b0 :: bs).length := List.length_map ..
      rw [hrel, hrl]
      generalize (b0 :: bs).map relV = R at *
      generalize (b0 :: bs).length = ln at *
      have o1 : ∀ b, ownV b R = .own b R := fun b => by cases R with | nil => exact absurd rfl n1 | cons a r => rfl
      have o3 : ∀ b j, tokJ R b j = (b, none) :: j := fun b j => by cases R with | nil => exact absurd rfl n1 | cons a r => rfl
      have o5 : ∀ b H, dropTok R b H = hdel H b := fun b H => by cases R with | nil => exact absurd rfl n1 | cons a r => rfl
      simp only [o1, o3, o5, Yn, hlm] at hapN g3 gv
      rw [Yn]
      have ip : isPre [m + n + 4, 9] [n + 3] = false := Go.Am.Je _ _ (by omega)
      have ip2 : isPre [m + n + 4, 7] [cb, 7, 0] = false := Go.Am.Je _ _ (by omega)
      try simp only [Z5]
      refine Zd [[], [0], [], [], [3], [2, 4, 3], [5, 2, 4, 3], [1, 0, 6, 5, 2, 4, 3], [7, 1, 0, 6, 5, 2, 4, 3], [8, 7, 1, 0, 6, 5, 2, 4, 3]] [[], [], [], [], [[0]], [], [], [[cb, 7, 0]], [], [[n + 3]]] (by kernel_rfl) rfl rfl ?_
      simp -implicitDefEqProofs only [go_sem, Z1, lkn, Z4, lk11, lk13, lk31, lk33, Zb, Option.getD_some, Option.getD_none, a0, a2, a3, a4, a5, a6, a7, a8, hT, hlo, g3, gv, r1, pt', bs69, hapN _ _ _ ⟨rg.lo, rg.hi⟩, ip, ip2, Ze]
      refine ⟨_, _, rfl, by simp -implicitDefEqProofs only [redoH, redo1, go_sem, hT], by simp -implicitDefEqProofs only [redoH, redo1, go_sem, a0], by simp -implicitDefEqProofs only [redoH, redo1, go_sem, a2], by simp -implicitDefEqProofs only [redoH, redo1, go_sem, a3], by simp -implicitDefEqProofs only [redoH, redo1, go_sem, a4], by simp -implicitDefEqProofs only [redoH, redo1, go_sem, a5], by simp -implicitDefEqProofs only [redoH, redo1, go_sem, a6], by simp -implicitDefEqProofs only [redoH, redo1, go_sem, a7], by simp -implicitDefEqProofs only [redoH, redo1, go_sem, a8], by simp only [Zl, Yb, Zo, Zx, Zp, Zy, Zq, Zz, Y0, Yc, Y1, Yd, Y2, Ye, Y3, Yf, Zk, Zn, Zr, Y4, Zs, Y5, Yg, Yv], ?_, ?_, fun h => ⟨(gt h).1, ?_⟩, ?_, ?_⟩
      ·simp (disch := omega) only [Z0, hc11, hc13, hc31, hc33, hs11, hs13, hs31, hs33, hd11, hd13, hd31, hd33, Z3, ht11, ht31, ne_eq, not_false_eq_true, Nat.succ_ne_zero, Z1, lkn, Z4, lk11, lk13, lk31, lk33, Zb, Option.getD_some, Option.getD_none, g1]
      ·simp (disch := omega) only [Z0, hc11, hc13, hc31, hc33, hs11, hs13, hs31, hs33, hd11, hd13, hd31, hd33, Z3, ht11, ht31, ne_eq, not_false_eq_true, Nat.succ_ne_zero, Z1, lkn, Z4, lk11, lk13, lk31, lk33, Zb, Option.getD_some, Option.getD_none, g2]
      ·have := (gt h).1
       simp (disch := omega) only [Z0, hc11, hc13, hc31, hc33, hs11, hs13, hs31, hs33, hd11, hd13, hd31, hd33, Z3, ht11, ht31, ne_eq, not_false_eq_true, Nat.succ_ne_zero, Z1, lkn, Z4, lk11, lk13, lk31, lk33, Zb, Option.getD_some, Option.getD_none, (gt h).2]
      ·simp (disch := omega) only [Z0, hc11, hc13, hc31, hc33, hs11, hs13, hs31, hs33, hd11, hd13, hd31, hd33, Z3, ht11, ht31, ne_eq, not_false_eq_true, Nat.succ_ne_zero, Z1, lkn, Z4, lk11, lk13, lk31, lk33, Zb, Option.getD_some, Option.getD_none] <;> rfl
      ·simp (disch := omega) only [Z0, hc11, hc13, hc31, hc33, hs11, hs13, hs31, hs33, hd11, hd13, hd31, hd33, Z3, ht11, ht31, ne_eq, not_false_eq_true, Nat.succ_ne_zero, Z1, lkn, Z4, lk11, lk13, lk31, lk33, Zb, Option.getD_some, Option.getD_none] <;> rfl
    clear a0 a2 a3 a4 a5 a6 a7 a8 hT T hd g1 g2 gt g3 gv gb H pt' hap cb
    rintro _ ⟨T, H, rfl, hT, a0, a2, a3, a4, a5, a6, a7, a8, hd, g1, g2, gt, g3, gb⟩
    have bt := fun H m jr j hd => Z21 (H := H) (m := m) (u := u) (p := []) (jr := jr) (j := j) 1 400 (K + 6) (by decide) (by decide) (by decide) hd
    have hbr := Yx (dW H) 1 400 (by decide)
    have hlen : (bs ++ [(⟨fr, rg⟩ : Rel)]).length + (l - 1) <= 2 := by rw [List.length_append, List.length_singleton]; omega
    have hbs2 := Z48 (k := fr) (k' := fr + betweenN (dW H) 1 400) hf0 (by omega) hrg hbg
    have hf2 : 0 <= fr + betweenN (dW H) 1 400 := by omega
    have hf3 : fr + betweenN (dW H) 1 400 < 300 + 400 * ((bs ++ [(⟨fr, rg⟩ : Rel)]).length : Int) := by rw [List.length_append, List.length_singleton]; omega
    have hlt : m + n + 4 < (m + 1) + n + 4 := by omega
    have heq : m + n + 5 = (m + 1) + n + 4 := by omega
    have hneb : bs ++ [(⟨fr, rg⟩ : Rel)] ≠ [] := by simp
    generalize bs ++ [(⟨fr, rg⟩ : Rel)] = bs2 at *
    have e1 : wrapF .i64 (fr + betweenN (dW H) 1 400) = fr + betweenN (dW H) 1 400 := Z8 (by omega) (by omega)
    have e2 : wrapF .i64 ((l : Int) - 1) = ((l - 1 : Nat) : Int) := by rw [Z8 (by omega) (by omega)]; omega
    have bt := fun m jr j => bt H m jr j hd
    generalize betweenN (dW H) 1 400 = bw at *
    generalize nextW (dW H) = w3 at *
    simp -implicitDefEqProofs only [go_sem, a0, a2, a3, a4, a5, a6, a7, a8, hT, bt, e1, e2]
    clear e1 e2
    exact ⟨l - 1, hl1, trivial, trivial, trivial, trivial, trivial, trivial, trivial, rfl, fr + bw, m + 1, m + n + 4, _, bs2, rfl, by rw [heq], Zl hd, by rw [hs11 (by decide)]; exact g1, by rw [hs11 (by decide)]; exact g2, fun h => ⟨(gt h).1, by rw [hs11 (by omega)]; exact (gt h).2⟩, by rw [hs11 (by omega)]; exact g3, fun _ => ⟨hlt, by rw [hs13]; exact gb⟩, hlen, hf2, hf3, hbs2⟩
   ·clear gb
    have hVes : VesG ⟨vol, free, bd, bs⟩ := ⟨hvol, hfree, hbd, by show bs.length <= 2; omega, Z49 (by omega) hbg⟩
    have hv1 : vesV ⟨vol, free, bd, bs⟩ = .agg [.int .i64 vol, .int .i64 free.lo, .int .i64 free.hi, .int .i64 bd.lo, .int .i64 bd.hi, .lst (bs.map relV)] := rfl
    have hap := X6 (C := cfg.at 23) (sT := 33) (b := [c + 3]) (l := vs.map vesV) (x := .agg [.int .i64 vol, .int .i64 free.lo, .int .i64 free.hi, .int .i64 bd.lo, .int .i64 bd.hi, .lst (bs.map relV)]) (H := H) (n := m + n + 4) (p := []) (jr := false) (j := []) (z := 6) Zju Ziq rfl rfl rfl rfl rfl rfl (by rw [List.length_map]; show (vs.length + 1) * 64 <= _; omega) (fun hx => by rw [List.length_map]; exact (gt hx).2)
    have hrm : (vs ++ [(⟨vol, free, bd, bs⟩ : Ves)]).map vesV = vs.map vesV ++ [.agg [.int .i64 vol, .int .i64 free.lo, .int .i64 free.hi, .int .i64 bd.lo, .int .i64 bd.hi, .lst (bs.map relV)]] := by rw [List.map_append, <- hv1]; rfl
    have hvs2 : ∀ x ∈ vs ++ [(⟨vol, free, bd, bs⟩ : Ves)], VesG x := by
     intro x hx
     rcases List.mem_append.1 hx with hx | hx
     ·exact hvs x hx
     ·rw [List.mem_singleton] at hx; rw [hx]; exact hVes
    have hvl2 : (vs ++ [(⟨vol, free, bd, bs⟩ : Ves)]).length = vs.length + 1 := by simp
    rw [Yn, <- hrm, List.length_map] at hap
    obtain ⟨H2, hH2, s0, s1, s2, s3⟩ : ∃ H2, H2 = dropTok (vs.map vesV) [c + 3] H /\ isD u H2 /\ hget H2 [1] = some (.cells nil5 true 0) /\ hget H2 [2] = some (.cells (ownV [c + 3] (vs.map vesV) :: [.nils, .nils, .nils, .nils]) true 0) /\ hget H2 [n + 3] = some (.cells [.int .i64 vol, .int .i64 free.lo, .int .i64 free.hi, .int .i64 bd.lo, .int .i64 bd.hi, ownV [cb, 7, 0] (bs.map relV)] true 0) :=
     ⟨_, rfl, ⟨_, (Yw _ _ (n11 (by omega))).trans (Ja hd)⟩, (Yw _ _ (n11 (by omega))).trans g1, (Yw _ _ (n11 (by omega))).trans g2, by
      cases hvv : vs.map vesV with
      | nil => exact g3
      | cons a r => rw [<- hvv]; exact (Yw _ _ (n11 (by have := (gt (by rw [hvv]; simp)).1; omega))).trans g3⟩
    rw [<- hH2] at hap
    clear hH2 hv1 hrm
    simp -implicitDefEqProofs only [go_sem, a0, a2, a3, a4, a5, a6, a7, a8, hT, hlo, g2, g3, bs33, hap, s2]
    have hkk : N.toNat - (i + 1) < N.toNat - i := by omega
    have hi2 : ((i + 1 : Nat) : Int) <= N := by omega
    have hc2 : m + n + 1 < m + n + 2 := by omega
    have hw1 : wrapF .i64 ((i : Int) + 1) = ((i + 1 : Nat) : Int) := Z8 (by omega) (by omega)
    refine ⟨N.toNat - (i + 1), hkk, trivial, trivial, trivial, trivial, trivial, i + 1, m + n + 2, m + n + 1, _, vs ++ [(⟨vol, free, bd, bs⟩ : Ves)], by rw [hw1], hi2, rfl, rfl, ?_, ?_, ?_, fun _ => ⟨hc2, ?_⟩, by rw [hvl2, hvl], hvs2⟩
    all_goals clear hw1
    ·simp only [Zl, Yb, Zo, Zx, Zp, Zy, Zq, Zz, Y0, Yc, Y1, Yd, Y2, Ye, Y3, Yf, Zk, Zn, Zr, Y4, Zs, Y5, Yg, Yv, s0]
    ·simp (disch := omega) only [Z0, hc11, hc13, hc31, hc33, hs11, hs13, hs31, hs33, hd11, hd13, hd31, hd33, Z3, ht11, ht31, ne_eq, not_false_eq_true, Nat.succ_ne_zero, Z1, lkn, Z4, lk11, lk13, lk31, lk33, Zb, Option.getD_some, Option.getD_none, s1]
    ·rw [show m + n + 1 + 3 = m + n + 4 from rfl, List.map_append, <- List.map_append, Xj]
     rw [hc11 (by omega)]
     exact hss s2
    ·rw [show m + n + 1 + 3 = m + n + 4 from rfl, hvl2]
     exact Z0 ..
  ·have hNv : N = (vs.length : Int) := by omega
   subst hNv
   clear hi hvl
   have hA0 : (ownV [c + 3] (vs.map vesV)).shut = .lst (vs.map vesV) := X4 _ _
   generalize ownV [c + 3] (vs.map vesV) = A0 at *
   clear gt
   have ut1 := fun m jr j => Z04 (H := H) (m := m) (u := u) (p := []) (jr := jr) (j := j) 5 (K + 7) hd (by decide)
   have hct := Yk (dW H) 5 (by decide)
   generalize uptoN (dW H) 5 = ct0 at *
   generalize nextW (dW H) = w1 at *
   obtain ⟨ct, rfl⟩ : ∃ q : Nat, ct0 = q := ⟨ct0.toNat, by omega⟩
   simp -implicitDefEqProofs only [go_sem, a0, a2, a3, a4, a5, hT, ut1, hlo]
   clear ut1
   simp only [Z5]
   refine Tr.Does.mono (Q := fun x => ∃ (T' : List AV) (m : Nat) (H : Heap) (ps : List Pip) (A1 : AV), x = ((AExit.exit 4, T'), (⟨H, m + 3, [], false, []⟩ : St)) /\ T'.length = 144 /\ nth T' 0 = some (.ptr [0] 0) /\ nth T' 2 = some (.ptr [1] 0) /\ nth T' 3 = some (.ptr [2] 0) /\ nth T' 4 = some (.int .i64 vs.length) /\ isD u H /\ hget H [1] = some (.cells nil5 true 0) /\ hget H [2] = some (.cells [A0, A1, .nils, .nils, .nils] true 0) /\ A1.shut = .lst (ps.map pipV) /\ ps.length <= 4 /\ ∀ x ∈ ps, PipG vs.length x) ?_ ?_
   ·refine Zu (fun k T s' => T.length = 144 /\ nth T 0 = some (.ptr [0] 0) /\ nth T 2 = some (.ptr [1] 0) /\ nth T 3 = some (.ptr [2] 0) /\ nth T 4 = some (.int .i64 vs.length) /\ nth T 9 = some (.int .i64 k) /\ ∃ (m cb : Nat) (H : Heap) (ps : List Pip), s' = ⟨H, m + 3, [], false, []⟩ /\ isD u H /\ hget H [1] = some (.cells nil5 true 0) /\ hget H [2] = some (.cells [A0, ownV [cb, 17, 0] (ps.map pipV), .nils, .nils, .nils] true 0) /\ (ps ≠ [] -> cb < m + 3 /\ hget H [cb, 17, 0] = some (.tok ps.length 6)) /\ ps.length + k <= 4 /\ ∀ x ∈ ps, PipG vs.length x) (k := ct) (by omega) ?_ ?_
    ·exact ⟨by simp -implicitDefEqProofs only [redoH, redo1, go_sem, hT], by simp -implicitDefEqProofs only [redoH, redo1, go_sem, a0], by simp -implicitDefEqProofs only [redoH, redo1, go_sem, a2], by simp -implicitDefEqProofs only [redoH, redo1, go_sem, a3], by simp -implicitDefEqProofs only [redoH, redo1, go_sem, a4], by simp -implicitDefEqProofs only [redoH, redo1, go_sem, hT], n, 0, _, [], rfl, Zl hd, by rw [hs11 (by decide)]; exact g1, by rw [hs11 (by decide)]; exact g2, fun h => absurd rfl h, by show 0 + ct <= 4; omega, fun _ h => by cases h⟩
    clear a0 a2 a3 a4 a5 hT T hd g1 g2 H hct
    rintro k T s' ⟨hT, a0, a2, a3, a4, a9, m, cb, H, ps, rfl, hd, g1, g2, gb, hpl, hps⟩
    simp -implicitDefEqProofs only [go_sem, a0, a2, a3, a4, a9, hT]
    by_cases hlo : (0 : Int) < (k : Int)
    ·by_cases hn : (1 : Int) < (vs.length : Int)
     ·have hl1 : k - 1 < k := by omega
      have ut := fun m jr j => Z04 (H := H) (m := m) (u := u) (p := []) (jr := jr) (j := j) vs.length (K + 7) hd (by omega)
      have har := Yk (dW H) vs.length (by omega)
      generalize uptoN (dW H) vs.length = a at *
      generalize nextW (dW H) = w1 at *
      simp -implicitDefEqProofs only [go_sem, a0, a2, a3, a4, a9, hT, hlo, hn, ut]
      clear ut
      obtain ⟨H1, hH1, d1, q1, q2, qb⟩ : ∃ H1, H1 = hset H [0] (.cells [.int .u64 w1] true u) /\ isD u H1 /\ hget H1 [1] = some (.cells nil5 true 0) /\ hget H1 [2] = some (.cells [A0, ownV [cb, 17, 0] (ps.map pipV), .nils, .nils, .nils] true 0) /\ (ps ≠ [] -> cb < m + 3 /\ hget H1 [cb, 17, 0] = some (.tok ps.length 6)) :=
       ⟨_, rfl, Zl hd, by rw [hs11 (by decide)]; exact g1, by rw [hs11 (by decide)]; exact g2, fun h => ⟨(gb h).1, by rw [hs13]; exact (gb h).2⟩⟩
      rw [<- hH1]
      clear hH1 hd g1 g2 gb H
      have p1 := fun m p => Z21 (H := H1) (m := m) (u := u) (p := p) (jr := true) (j := []) 1 ((vs.length : Int) - 1) (K + 6) (by decide) (by omega) (by omega) d1
      have hbw := Yx (dW H1) 1 ((vs.length : Int) - 1) (by omega)
      generalize betweenN (dW H1) 1 ((vs.length : Int) - 1) = bw at *
      generalize nextW (dW H1) = w2 at *
      have p2 := fun m p => Z7k (H := redoH H1 [([0], some (.cells [.int .u64 w2] true u))]) (m := m) (u := u) (p := p) (jr := true) (j := []) 120000 (K + 4) (by decide) (by decide) (Zk (u := u) (d := []) ▸ trivial)
      rw [Zn] at p2
      have hr1 := Z03 w2 120000 (by decide)
      generalize rangeR w2 0 120000 = r1 at *
      generalize nextW (nextW w2) = w3 at *
      have p3 := fun m p => Z7k (H := redoH (redoH H1 [([0], some (.cells [.int .u64 w2] true u))]) [([0], some (.cells [.int .u64 w3] true u))]) (m := m) (u := u) (p := p) (jr := true) (j := []) 120000 (K + 4) (by decide) (by decide) (Zk (u := u) (d := []) ▸ trivial)
      rw [Zn] at p3
      have hr2 := Z03 w3 120000 (by decide)
      generalize rangeR w3 0 120000 = r2 at *
      generalize nextW (nextW w3) = w4 at *
      obtain ⟨b2, hb2, hP⟩ : ∃ b2, (a + bw).tmod vs.length = b2 /\ PipG vs.length ⟨a, b2, r1, r2⟩ := by
       obtain ⟨x1, x2, x3⟩ := Zhq har hbw
       exact ⟨_, rfl, har, ⟨x1, x2⟩, x3, hr1, hr2⟩
      have hn0 : ¬ (vs.length : Int) = 0 := by omega
      have hw6 : (wrapF .i64 (a + bw)).tmod vs.length = b2 := by rw [Z8 (by omega) (by omega), hb2]
      have hw5 : wrapF .i64 ((vs.length : Int) - 1) = (vs.length : Int) - 1 := Z8 (by omega) (by omega)
      clear hb2
      simp only [Z5]
      refine Tr.Does.mono (Q := fun x => ∃ (T' : List AV) (H2 : Heap) (e : Pip), x = (T', (⟨H2, m + 4, [], false, []⟩ : St)) /\ PipG vs.length e /\ T'.length = 144 /\ nth T' 0 = some (.ptr [0] 0) /\ nth T' 2 = some (.ptr [1] 0) /\ nth T' 3 = some (.ptr [2] 0) /\ nth T' 4 = some (.int .i64 vs.length) /\ nth T' 9 = some (.int .i64 k) /\
       isD u H2 /\ hget H2 [1] = some (.cells nil5 true 0) /\ hget H2 [2] = some (.cells [A0, ownV [m + 3, 17, 0] ((ps ++ [e]).map pipV), .nils, .nils, .nils] true 0) /\ hget H2 [m + 3, 17, 0] = some (.tok (ps ++ [e]).length 6)) ?_ ?_
      ·have hap := fun (l : List AV) (n : Nat) (b p : Nm) (H : Heap) (hr : (l.length + 1) * 48 <= 140737488355328) (hg : l ≠ [] -> hget H b = some (.tok l.length 6)) => X6 (C := cfg.at 23) (sT := 34) (b := b) (l := l) (x := .agg [.int .i64 a, .int .i64 b2, .int .i64 r1.lo, .int .i64 r1.hi, .int .i64 r2.lo, .int .i64 r2.hi]) (H := H) (n := n) (p := p) (jr := true) (j := []) (z := 6) Zjv Zfo rfl rfl rfl rfl rfl rfl hr hg
       have gv : hget (hdel (hdel (hdel H1 [0]) [0]) [0]) [2] = some (.cells [A0, ownV [cb, 17, 0] (ps.map pipV), .nils, .nils, .nils] true 0) := by
        rw [hd11 (by decide), hd11 (by decide), hd11 (by decide)]; exact q2
       cases ps with
       | nil =>
        have hap0 := fun (n : Nat) (p : Nm) (H : Heap) => hap [] n [] p H (by simp) (fun h => absurd rfl h)
        simp only [ownV, dropTok, tokJ, List.nil_append, List.length_nil, List.map_nil] at hap0 q2 gv
        try simp only [Z5]
        refine Zd [[], [0], [], [], [], [], [5], [4, 6, 5], [3, 7, 4, 6, 5], [], [8, 3, 7, 4, 6, 5, 9], [], [11, 7, 4, 6, 5], [], [13, 12, 11, 7, 4, 6, 5], [2, 10, 8, 3, 9, 14, 13, 12, 11, 7, 4, 6, 5], [15, 2, 10, 8, 3, 9, 14, 13, 12, 11, 7, 4, 6, 5], [1, 0, 16, 15, 2, 10, 8, 3, 9, 14, 13, 12, 11, 7, 4, 6, 5], [17, 1, 0, 16, 15, 2, 10, 8, 3, 9, 14, 13, 12, 11, 7, 4, 6, 5], [18, 17, 1, 0, 16, 15, 2, 10, 8, 3, 9, 14, 13, 12, 11, 7, 4, 6, 5]] [[], [], [], [], [], [], [], [[0]], [], [], [], [], [[0]], [], [[0]], [], [], [], [], [[2]]] (by kernel_rfl) rfl rfl ?_
        simp -implicitDefEqProofs only [go_sem, Z1, lkn, Z4, lk11, lk13, lk31, lk33, Zb, Option.getD_some, Option.getD_none, a0, a2, a3, a4, a9, hT, q2, gv, p1, p2, p3, hw5, hw6, hn0, bs34, hap0, Ze]
        refine ⟨_, _, ⟨a, b2, r1, r2⟩, rfl, hP, by simp -implicitDefEqProofs only [redoH, redo1, go_sem, hT], by simp -implicitDefEqProofs only [redoH, redo1, go_sem, a0], by simp -implicitDefEqProofs only [redoH, redo1, go_sem, a2], by simp -implicitDefEqProofs only [redoH, redo1, go_sem, a3], by simp -implicitDefEqProofs only [redoH, redo1, go_sem, a4], by simp -implicitDefEqProofs only [redoH, redo1, go_sem, a9], by simp only [Zl, Yb, Zo, Zx, Zp, Zy, Zq, Zz, Y0, Yc, Y1, Yd, Y2, Ye, Y3, Yf, Zk, Zn, Zr, Y4, Zs, Y5, Yg, Yv], ?_, ?_, ?_⟩
        all_goals clear hw5 hw6
        ·simp (disch := omega) only [Z0, hc11, hc13, hc31, hc33, hs11, hs13, hs31, hs33, hd11, hd13, hd31, hd33, Z3, ht11, ht31, ne_eq, not_false_eq_true, Nat.succ_ne_zero, Z1, lkn, Z4, lk11, lk13, lk31, lk33, Zb, Option.getD_some, Option.getD_none, q1]
        ·simp (disch := omega) only [Z0, hc11, hc13, hc31, hc33, hs11, hs13, hs31, hs33, hd11, hd13, hd31, hd33, Z3, ht11, ht31, ne_eq, not_false_eq_true, Nat.succ_ne_zero, Z1, lkn, Z4, lk11, lk13, lk31, lk33, Zb, Option.getD_some, Option.getD_none] <;> rfl
        ·simp (disch := omega) only [Z0, hc11, hc13, hc31, hc33, hs11, hs13, hs31, hs33, hd11, hd13, hd31, hd33, Z3, ht11, ht31, ne_eq, not_false_eq_true, Nat.succ_ne_zero, Z1, lkn, Z4, lk11, lk13, lk31, lk33, Zb, Option.getD_some, Option.getD_none] <;> rfl
       | cons b0 ps =>
        obtain ⟨hcb, r0⟩ := qb (by simp)
        have hapN := fun (n : Nat) (p : Nm) (H : Heap) (hg : hget H [cb, 17, 0] = some (.tok (b0 :: ps).length 6)) => hap ((b0 :: ps).map pipV) n [cb, 17, 0] p H (by rw [List.length_map]; omega) (fun _ => by rw [List.length_map]; exact hg)
        have hrel : ∀ e : Pip, ((b0 :: ps) ++ [e]).map pipV = (b0 :: ps).map pipV ++ [pipV e] := fun e => by rw [List.map_append]; rfl
        have hrl : ∀ e : Pip, ((b0 :: ps) ++ [e]).length = (b0 :: ps).length + 1 := fun e => by simp
        have n1 : (b0 :: ps).map pipV ≠ [] := by simp
        have hlm : ((b0 :: ps).map pipV).length = (b0 :: ps).length := List.length_map ..
        simp only [hrel, hrl]
        generalize (b0 :: ps).map pipV = R at *
        generalize (b0 :: ps).length = ln at *
        have o1 : ∀ b, ownV b R = .own b R := fun b => by cases R with | nil => exact absurd rfl n1 | cons a r => rfl
        have o3 : ∀ b j, tokJ R b j = (b, none) :: j := fun b j => by cases R with | nil => exact absurd rfl n1 | cons a r => rfl
        have o5 : ∀ b H, dropTok R b H = hdel H b := fun b H => by cases R with | nil => exact absurd rfl n1 | cons a r => rfl
        simp only [o1, o3, o5, Yn, hlm] at hapN q2 gv
        simp only [Yn]
        have ip2 : isPre [m + 3, 17] [cb, 17, 0] = false := Go.Am.Je _ _ (by omega)
        try simp only [Z5]
        refine Zd [[], [0], [], [], [], [], [5], [4, 6, 5], [3, 7, 4, 6, 5], [], [8, 3, 7, 4, 6, 5, 9], [], [11, 7, 4, 6, 5], [], [13, 12, 11, 7, 4, 6, 5], [2, 10, 8, 3, 9, 14, 13, 12, 11, 7, 4, 6, 5], [15, 2, 10, 8, 3, 9, 14, 13, 12, 11, 7, 4, 6, 5], [1, 0, 16, 15, 2, 10, 8, 3, 9, 14, 13, 12, 11, 7, 4, 6, 5], [17, 1, 0, 16, 15, 2, 10, 8, 3, 9, 14, 13, 12, 11, 7, 4, 6, 5], [18, 17, 1, 0, 16, 15, 2, 10, 8, 3, 9, 14, 13, 12, 11, 7, 4, 6, 5]] [[], [], [], [], [], [], [], [[0]], [], [], [], [], [[0]], [], [[0]], [], [], [[cb, 17, 0]], [], [[2]]] (by kernel_rfl) rfl rfl ?_
        simp -implicitDefEqProofs only [go_sem, Z1, lkn, Z4, lk11, lk13, lk31, lk33, Zb, Option.getD_some, Option.getD_none, a0, a2, a3, a4, a9, hT, q2, gv, r0, p1, p2, p3, hw5, hw6, hn0, bs34, hapN, ip2, Ze]
        refine ⟨_, _, ⟨a, b2, r1, r2⟩, rfl, hP, by simp -implicitDefEqProofs only [redoH, redo1, go_sem, hT], by simp -implicitDefEqProofs only [redoH, redo1, go_sem, a0], by simp -implicitDefEqProofs only [redoH, redo1, go_sem, a2], by simp -implicitDefEqProofs only [redoH, redo1, go_sem, a3], by simp -implicitDefEqProofs only [redoH, redo1, go_sem, a4], by simp -implicitDefEqProofs only [redoH, redo1, go_sem, a9], by simp only [Zl, Yb, Zo, Zx, Zp, Zy, Zq, Zz, Y0, Yc, Y1, Yd, Y2, Ye, Y3, Yf, Zk, Zn, Zr, Y4, Zs, Y5, Yg, Yv], ?_, ?_, ?_⟩
        all_goals clear hw5 hw6
        ·simp (disch := omega) only [Z0, hc11, hc13, hc31, hc33, hs11, hs13, hs31, hs33, hd11, hd13, hd31, hd33, Z3, ht11, ht31, ne_eq, not_false_eq_true, Nat.succ_ne_zero, Z1, lkn, Z4, lk11, lk13, lk31, lk33, Zb, Option.getD_some, Option.getD_none, q1]
        ·simp (disch := omega) only [Z0, hc11, hc13, hc31, hc33, hs11, hs13, hs31, hs33, hd11, hd13, hd31, hd33, Z3, ht11, ht31, ne_eq, not_false_eq_true, Nat.succ_ne_zero, Z1, lkn, Z4, lk11, lk13, lk31, lk33, Zb, Option.getD_some, Option.getD_none] <;> rfl
        ·simp (disch := omega) only [Z0, hc11, hc13, hc31, hc33, hs11, hs13, hs31, hs33, hd11, hd13, hd31, hd33, Z3, ht11, ht31, ne_eq, not_false_eq_true, Nat.succ_ne_zero, Z1, lkn, Z4, lk11, lk13, lk31, lk33, Zb, Option.getD_some, Option.getD_none] <;> rfl
      clear hw5 hw6 p1 p2 p3 a0 a2 a3 a4 a9 hT T d1 q1 q2 qb H1
      rintro _ ⟨T, H, e, rfl, he, hT, a0, a2, a3, a4, a9, d1, q1, q2, qb⟩
      have hps2 : ∀ x ∈ ps ++ [e], PipG vs.length x := by
       intro x hx
       rcases List.mem_append.1 hx with hx | hx
       ·exact hps x hx
       ·rw [List.mem_singleton] at hx; rw [hx]; exact he
      have hpl2 : (ps ++ [e]).length + (k - 1) <= 4 := by rw [List.length_append, List.length_singleton]; omega
      have hlt : m + 3 < (m + 1) + 3 := by omega
      have e2 : wrapF .i64 ((k : Int) - 1) = ((k - 1 : Nat) : Int) := by rw [Z8 (by omega) (by omega)]; omega
      simp -implicitDefEqProofs only [go_sem, a0, a2, a3, a4, a9, hT, e2]
      clear e2
      exact ⟨k - 1, hl1, trivial, trivial, trivial, trivial, trivial, rfl, m + 1, m + 3, _, ps ++ [e], rfl, d1, q1, q2, fun _ => ⟨hlt, qb⟩, hpl2, hps2⟩
     ·simp -implicitDefEqProofs only [go_sem, a0, a2, a3, a4, a9, hT, hlo, hn]
      exact ⟨_, m, H, ps, _, rfl, by simp -implicitDefEqProofs only [redoH, redo1, go_sem, hT], by simp -implicitDefEqProofs only [redoH, redo1, go_sem, a0], by simp -implicitDefEqProofs only [redoH, redo1, go_sem, a2], by simp -implicitDefEqProofs only [redoH, redo1, go_sem, a3], by simp -implicitDefEqProofs only [redoH, redo1, go_sem, a4], hd, g1, g2, X4 _ _, by omega, hps⟩
    ·simp -implicitDefEqProofs only [go_sem, a0, a2, a3, a4, a9, hT, hlo]
     exact ⟨_, m, H, ps, _, rfl, by simp -implicitDefEqProofs only [redoH, redo1, go_sem, hT], by simp -implicitDefEqProofs only [redoH, redo1, go_sem, a0], by simp -implicitDefEqProofs only [redoH, redo1, go_sem, a2], by simp -implicitDefEqProofs only [redoH, redo1, go_sem, a3], by simp -implicitDefEqProofs only [redoH, redo1, go_sem, a4], hd, g1, g2, X4 _ _, by omega, hps⟩
   clear a0 a2 a3 a4 a5 hT T hd g1 g2 H hct
   rintro _ ⟨T, m, H, ps, A1, rfl, hT, a0, a2, a3, a4, hd, g1, g2, hA1, hpsl, hps⟩
   have ut1 := fun m jr j => Z04 (H := H) (m := m) (u := u) (p := []) (jr := jr) (j := j) 3 (K + 7) hd (by decide)
   have hct := Yk (dW H) 3 (by decide)
   generalize uptoN (dW H) 3 = ct0 at *
   generalize nextW (dW H) = w1 at *
   obtain ⟨ct, rfl⟩ : ∃ q : Nat, ct0 = q := ⟨ct0.toNat, by omega⟩
   simp -implicitDefEqProofs only [go_sem, a0, a2, a3, a4, hT, ut1]
   clear ut1
   simp only [Z5]
   refine Tr.Does.mono (Q := fun x => ∃ (T' : List AV) (m : Nat) (H : Heap) (ms : List Pmp) (A2 : AV), x = ((AExit.exit 6, T'), (⟨H, m + 3, [], false, []⟩ : St)) /\ T'.length = 144 /\ nth T' 0 = some (.ptr [0] 0) /\ nth T' 2 = some (.ptr [1] 0) /\ nth T' 3 = some (.ptr [2] 0) /\ nth T' 4 = some (.int .i64 vs.length) /\ isD u H /\ hget H [1] = some (.cells nil5 true 0) /\ hget H [2] = some (.cells [A0, A1, A2, .nils, .nils] true 0) /\ A2.shut = .lst (ms.map pmpV) /\ ms.length <= 2 /\ ∀ x ∈ ms, PmpG vs.length x) ?_ ?_
   ·refine Zu (fun k T s' => T.length = 144 /\ nth T 0 = some (.ptr [0] 0) /\ nth T 2 = some (.ptr [1] 0) /\ nth T 3 = some (.ptr [2] 0) /\ nth T 4 = some (.int .i64 vs.length) /\ nth T 11 = some (.int .i64 k) /\ ∃ (m cb : Nat) (H : Heap) (ms : List Pmp), s' = ⟨H, m + 3, [], false, []⟩ /\ isD u H /\ hget H [1] = some (.cells nil5 true 0) /\ hget H [2] = some (.cells [A0, A1, ownV [cb, 9, 0] (ms.map pmpV), .nils, .nils] true 0) /\ (ms ≠ [] -> cb < m + 3 /\ hget H [cb, 9, 0] = some (.tok ms.length 3)) /\ ms.length + k <= 2 /\ ∀ x ∈ ms, PmpG vs.length x) (k := ct) (by omega) ?_ ?_
    ·exact ⟨by simp -implicitDefEqProofs only [redoH, redo1, go_sem, hT], by simp -implicitDefEqProofs only [redoH, redo1, go_sem, a0], by simp -implicitDefEqProofs only [redoH, redo1, go_sem, a2], by simp -implicitDefEqProofs only [redoH, redo1, go_sem, a3], by simp -implicitDefEqProofs only [redoH, redo1, go_sem, a4], by simp -implicitDefEqProofs only [redoH, redo1, go_sem, hT], m, 0, _, [], rfl, Zl hd, by rw [hs11 (by decide)]; exact g1, by rw [hs11 (by decide)]; exact g2, fun h => absurd rfl h, by show 0 + ct <= 2; omega, fun _ h => by cases h⟩
    clear a0 a2 a3 a4 hT T hd g1 g2 H hct m
    rintro k T s' ⟨hT, a0, a2, a3, a4, a9, m, cb, H1, ms, rfl, d1, q1, q2, qb, hpl, hps⟩
    simp -implicitDefEqProofs only [go_sem, a0, a2, a3, a4, a9, hT]
    by_cases hlo : (0 : Int) < (k : Int)
    ·have hl1 : k - 1 < k := by omega
     have p1 := fun m p => Z04 (H := H1) (m := m) (u := u) (p := p) (jr := true) (j := []) vs.length (K + 7) d1 (by omega)
     have har := Yk (dW H1) vs.length (by omega)
     generalize uptoN (dW H1) vs.length = a at *
     generalize nextW (dW H1) = w2 at *
     have p2 := fun m p => Z7k (H := redoH H1 [([0], some (.cells [.int .u64 w2] true u))]) (m := m) (u := u) (p := p) (jr := true) (j := []) 200000 (K + 4) (by decide) (by decide) (Zk (u := u) (d := []) ▸ trivial)
     rw [Zn] at p2
     have hr1 := Z03 w2 200000 (by decide)
     generalize rangeR w2 0 200000 = r1 at *
     generalize nextW (nextW w2) = w3 at *
     have hP : PmpG vs.length ⟨a, r1⟩ := ⟨har, hr1⟩
     simp -implicitDefEqProofs only [go_sem, a0, a2, a3, a4, a9, hT, hlo]
     simp only [Z5]
     refine Tr.Does.mono (Q := fun x => ∃ (T' : List AV) (H2 : Heap) (e : Pmp), x = (T', (⟨H2, m + 4, [], false, []⟩ : St)) /\ PmpG vs.length e /\ T'.length = 144 /\ nth T' 0 = some (.ptr [0] 0) /\ nth T' 2 = some (.ptr [1] 0) /\ nth T' 3 = some (.ptr [2] 0) /\ nth T' 4 = some (.int .i64 vs.length) /\ nth T' 11 = some (.int .i64 k) /\
      isD u H2 /\ hget H2 [1] = some (.cells nil5 true 0) /\ hget H2 [2] = some (.cells [A0, A1, ownV [m + 3, 9, 0] ((ms ++ [e]).map pmpV), .nils, .nils] true 0) /\ hget H2 [m + 3, 9, 0] = some (.tok (ms ++ [e]).length 3)) ?_ ?_
     ·have hap := fun (l : List AV) (n : Nat) (b p : Nm) (H : Heap) (hr : (l.length + 1) * 24 <= 140737488355328) (hg : l ≠ [] -> hget H b = some (.tok l.length 3)) => X6 (C := cfg.at 23) (sT := 35) (b := b) (l := l) (x := .agg [.int .i64 a, .int .i64 r1.lo, .int .i64 r1.hi]) (H := H) (n := n) (p := p) (jr := true) (j := []) (z := 3) Zjw Zfm rfl rfl rfl rfl rfl rfl hr hg
      have gv : hget (hdel (hdel H1 [0]) [0]) [2] = some (.cells [A0, A1, ownV [cb, 9, 0] (ms.map pmpV), .nils, .nils] true 0) := by
       rw [hd11 (by decide), hd11 (by decide)]; exact q2
      cases ms with
      | nil =>
       have hap0 := fun (n : Nat) (p : Nm) (H : Heap) => hap [] n [] p H (by simp) (fun h => absurd rfl h)
       simp only [ownV, dropTok, tokJ, List.nil_append, List.length_nil, List.map_nil] at hap0 q2 gv
       try simp only [Z5]
       refine Zd [[], [0], [], [], [2, 3], [], [5, 4, 2, 3], [6, 5, 4, 2, 3], [7, 6, 5, 4, 2, 3], [1, 0, 8, 7, 6, 5, 4, 2, 3], [9, 1, 0, 8, 7, 6, 5, 4, 2, 3], [10, 9, 1, 0, 8, 7, 6, 5, 4, 2, 3]] [[], [], [], [], [[0]], [], [[0]], [], [], [], [], [[2]]] (by kernel_rfl) rfl rfl ?_
       simp -implicitDefEqProofs only [go_sem, Z1, lkn, Z4, lk11, lk13, lk31, lk33, Zb, Option.getD_some, Option.getD_none, a0, a2, a3, a4, a9, hT, q2, gv, p1, p2, bs35, hap0, Ze]
       refine ⟨_, _, ⟨a, r1⟩, rfl, hP, by simp -implicitDefEqProofs only [redoH, redo1, go_sem, hT], by simp -implicitDefEqProofs only [redoH, redo1, go_sem, a0], by simp -implicitDefEqProofs only [redoH, redo1, go_sem, a2], by simp -implicitDefEqProofs only [redoH, redo1, go_sem, a3], by simp -implicitDefEqProofs only [redoH, redo1, go_sem, a4], by simp -implicitDefEqProofs only [redoH, redo1, go_sem, a9], by simp only [Zl, Yb, Zo, Zx, Zp, Zy, Zq, Zz, Y0, Yc, Y1, Yd, Y2, Ye, Y3, Yf, Zk, Zn, Zr, Y4, Zs, Y5, Yg, Yv], ?_, ?_, ?_⟩
       ·simp (disch := omega) only [Z0, hc11, hc13, hc31, hc33, hs11, hs13, hs31, hs33, hd11, hd13, hd31, hd33, Z3, ht11, ht31, ne_eq, not_false_eq_true, Nat.succ_ne_zero, Z1, lkn, Z4, lk11, lk13, lk31, lk33, Zb, Option.getD_some, Option.getD_none, q1]
       ·simp (disch := omega) only [Z0, hc11, hc13, hc31, hc33, hs11, hs13, hs31, hs33, hd11, hd13, hd31, hd33, Z3, ht11, ht31, ne_eq, not_false_eq_true, Nat.succ_ne_zero, Z1, lkn, Z4, lk11, lk13, lk31, lk33, Zb, Option.getD_some, Option.getD_none] <;> rfl
       ·simp (disch := omega) only [Z0, hc11, hc13, hc31, hc33, hs11, hs13, hs31, hs33, hd11, hd13, hd31, hd33, Z3, ht11, ht31, ne_eq, not_false_eq_true, Nat.succ_ne_zero, Z1, lkn, Z4, lk11, lk13, lk31, lk33, Zb, Option.getD_some, Option.getD_none] <;> rfl
      | cons b0 ms =>
       obtain ⟨hcb, r0⟩ := qb (by simp)
       have hapN := fun (n : Nat) (p : Nm) (H : Heap) (hg : hget H [cb, 9, 0] = some (.tok (b0 :: ms).length 3)) => hap ((b0 :: ms).map pmpV) n [cb, 9, 0] p H (by rw [List.length_map]; omega) (fun _ => by rw [List.length_map]; exact hg)
       have hrel : ∀ e : Pmp, ((b0 :: ms) ++ [e]).map pmpV = (b0 :: ms).map pmpV ++ [pmpV e] := fun e => by rw [List.map_append]; rfl
       have hrl : ∀ e : Pmp, ((b0 :: ms) ++ [e]).length = (b0 :: ms).length + 1 := fun e => by simp
       have n1 : (b0 :: ms).map pmpV ≠ [] := by simp
       have hlm : ((b0 :: ms).map pmpV).length = (b0 :: ms).length := List.length_map ..
       simp only [hrel, hrl]
       generalize (b0 :: ms).map pmpV = R at *
       generalize (b0 :: ms).length = ln at *
       have o1 : ∀ b, ownV b R = .own b R := fun b => by cases R with | nil => exact absurd rfl n1 | cons a r => rfl
       have o3 : ∀ b j, tokJ R b j = (b, none) :: j := fun b j => by cases R with | nil => exact absurd rfl n1 | cons a r => rfl
       have o5 : ∀ b H, dropTok R b H = hdel H b := fun b H => by cases R with | nil => exact absurd rfl n1 | cons a r => rfl
       simp only [o1, o3, o5, Yn, hlm] at hapN q2 gv
       simp only [Yn]
       have ip2 : isPre [m + 3, 9] [cb, 9, 0] = false := Go.Am.Je _ _ (by omega)
       try simp only [Z5]
       refine Zd [[], [0], [], [], [2, 3], [], [5, 4, 2, 3], [6, 5, 4, 2, 3], [7, 6, 5, 4, 2, 3], [1, 0, 8, 7, 6, 5, 4, 2, 3], [9, 1, 0, 8, 7, 6, 5, 4, 2, 3], [10, 9, 1, 0, 8, 7, 6, 5, 4, 2, 3]] [[], [], [], [], [[0]], [], [[0]], [], [], [[cb, 9, 0]], [], [[2]]] (by kernel_rfl) rfl rfl ?_
       simp -implicitDefEqProofs only [go_sem, Z1, lkn, Z4, lk11, lk13, lk31, lk33, Zb, Option.getD_some, Option.getD_none, a0, a2, a3, a4, a9, hT, q2, gv, p1, p2, bs35, r0, hapN, ip2, Ze]
       refine ⟨_, _, ⟨a, r1⟩, rfl, hP, by simp -implicitDefEqProofs only [redoH, redo1, go_sem, hT], by simp -implicitDefEqProofs only [redoH, redo1, go_sem, a0], by simp -implicitDefEqProofs only [redoH, redo1, go_sem, a2], by simp -implicitDefEqProofs only [redoH, redo1, go_sem, a3], by simp -implicitDefEqProofs only [redoH, redo1, go_sem, a4], by simp -implicitDefEqProofs only [redoH, redo1, go_sem, a9], by simp only [Zl, Yb, Zo, Zx, Zp, Zy, Zq, Zz, Y0, Yc, Y1, Yd, Y2, Ye, Y3, Yf, Zk, Zn, Zr, Y4, Zs, Y5, Yg, Yv], ?_, ?_, ?_⟩
       ·simp (disch := omega) only [Z0, hc11, hc13, hc31, hc33, hs11, hs13, hs31, hs33, hd11, hd13, hd31, hd33, Z3, ht11, ht31, ne_eq, not_false_eq_true, Nat.succ_ne_zero, Z1, lkn, Z4, lk11, lk13, lk31, lk33, Zb, Option.getD_some, Option.getD_none, q1]
       ·simp (disch := omega) only [Z0, hc11, hc13, hc31, hc33, hs11, hs13, hs31, hs33, hd11, hd13, hd31, hd33, Z3, ht11, ht31, ne_eq, not_false_eq_true, Nat.succ_ne_zero, Z1, lkn, Z4, lk11, lk13, lk31, lk33, Zb, Option.getD_some, Option.getD_none] <;> rfl
       ·simp (disch := omega) only [Z0, hc11, hc13, hc31, hc33, hs11, hs13, hs31, hs33, hd11, hd13, hd31, hd33, Z3, ht11, ht31, ne_eq, not_false_eq_true, Nat.succ_ne_zero, Z1, lkn, Z4, lk11, lk13, lk31, lk33, Zb, Option.getD_some, Option.getD_none] <;> rfl
     clear p1 p2 a0 a2 a3 a4 a9 hT T d1 q1 q2 qb H1
     rintro _ ⟨T, H, e, rfl, he, hT, a0, a2, a3, a4, a9, d1, q1, q2, qb⟩
     have hps2 : ∀ x ∈ ms ++ [e], PmpG vs.length x := by
      intro x hx
      rcases List.mem_append.1 hx with hx | hx
      ·exact hps x hx
      ·rw [List.mem_singleton] at hx; rw [hx]; exact he
     have hpl2 : (ms ++ [e]).length + (k - 1) <= 2 := by rw [List.length_append, List.length_singleton]; omega
     have hlt : m + 3 < (m + 1) + 3 := by omega
     have e2 : wrapF .i64 ((k : Int) - 1) = ((k - 1 : Nat) : Int) := by rw [Z8 (by omega) (by omega)]; omega
     simp -implicitDefEqProofs only [go_sem, a0, a2, a3, a4, a9, hT, e2]
     clear e2
     exact ⟨k - 1, hl1, trivial, trivial, trivial, trivial, trivial, rfl, m + 1, m + 3, _, ms ++ [e], rfl, d1, q1, q2, fun _ => ⟨hlt, qb⟩, hpl2, hps2⟩
    ·simp -implicitDefEqProofs only [go_sem, a0, a2, a3, a4, a9, hT, hlo]
     exact ⟨_, m, H1, ms, _, rfl, by simp -implicitDefEqProofs only [redoH, redo1, go_sem, hT], by simp -implicitDefEqProofs only [redoH, redo1, go_sem, a0], by simp -implicitDefEqProofs only [redoH, redo1, go_sem, a2], by simp -implicitDefEqProofs only [redoH, redo1, go_sem, a3], by simp -implicitDefEqProofs only [redoH, redo1, go_sem, a4], d1, q1, q2, X4 _ _, by omega, hps⟩
   clear a0 a2 a3 a4 hT T hd g1 g2 H hct m
   rintro _ ⟨T, m, H, ms, A2, rfl, hT, a0, a2, a3, a4, hd, g1, g2, hA2, hmsl, hms⟩
   have ut1 := fun m jr j => Z04 (H := H) (m := m) (u := u) (p := []) (jr := jr) (j := j) 3 (K + 7) hd (by decide)
   have hct := Yk (dW H) 3 (by decide)
   generalize uptoN (dW H) 3 = ct0 at *
   generalize nextW (dW H) = w1 at *
   obtain ⟨ct, rfl⟩ : ∃ q : Nat, ct0 = q := ⟨ct0.toNat, by omega⟩
   simp -implicitDefEqProofs only [go_sem, a0, a2, a3, a4, hT, ut1]
   clear ut1
   simp only [Z5]
   refine Tr.Does.mono (Q := fun x => ∃ (T' : List AV) (m : Nat) (H : Heap) (ls : List Inl) (A3 : AV), x = ((AExit.exit 8, T'), (⟨H, m + 3, [], false, []⟩ : St)) /\ T'.length = 144 /\ nth T' 0 = some (.ptr [0] 0) /\ nth T' 2 = some (.ptr [1] 0) /\ nth T' 3 = some (.ptr [2] 0) /\ nth T' 4 = some (.int .i64 vs.length) /\ isD u H /\ hget H [1] = some (.cells nil5 true 0) /\ hget H [2] = some (.cells [A0, A1, A2, A3, .nils] true 0) /\ A3.shut = .lst (ls.map inlV) /\ ls.length <= 2 /\ ∀ x ∈ ls, InlG vs.length x) ?_ ?_
   ·refine Zu (fun k T s' => T.length = 144 /\ nth T 0 = some (.ptr [0] 0) /\ nth T 2 = some (.ptr [1] 0) /\ nth T 3 = some (.ptr [2] 0) /\ nth T 4 = some (.int .i64 vs.length) /\ nth T 12 = some (.int .i64 k) /\ ∃ (m cb : Nat) (H : Heap) (ls : List Inl), s' = ⟨H, m + 3, [], false, []⟩ /\ isD u H /\ hget H [1] = some (.cells nil5 true 0) /\ hget H [2] = some (.cells [A0, A1, A2, ownV [cb, 9, 0] (ls.map inlV), .nils] true 0) /\ (ls ≠ [] -> cb < m + 3 /\ hget H [cb, 9, 0] = some (.tok ls.length 3)) /\ ls.length + k <= 2 /\ ∀ x ∈ ls, InlG vs.length x) (k := ct) (by omega) ?_ ?_
    ·exact ⟨by simp -implicitDefEqProofs only [redoH, redo1, go_sem, hT], by simp -implicitDefEqProofs only [redoH, redo1, go_sem, a0], by simp -implicitDefEqProofs only [redoH, redo1, go_sem, a2], by simp -implicitDefEqProofs only [redoH, redo1, go_sem, a3], by simp -implicitDefEqProofs only [redoH, redo1, go_sem, a4], by simp -implicitDefEqProofs only [redoH, redo1, go_sem, hT], m, 0, _, [], rfl, Zl hd, by rw [hs11 (by decide)]; exact g1, by rw [hs11 (by decide)]; exact g2, fun h => absurd rfl h, by show 0 + ct <= 2; omega, fun _ h => by cases h⟩
    clear a0 a2 a3 a4 hT T hd g1 g2 H hct m
    rintro k T s' ⟨hT, a0, a2, a3, a4, a9, m, cb, H1, ls, rfl, d1, q1, q2, qb, hpl, hps⟩
    simp -implicitDefEqProofs only [go_sem, a0, a2, a3, a4, a9, hT]
    by_cases hlo : (0 : Int) < (k : Int)
    ·have hl1 : k - 1 < k := by omega
     have p1 := fun m p => Z04 (H := H1) (m := m) (u := u) (p := p) (jr := true) (j := []) vs.length (K + 7) d1 (by omega)
     have har := Yk (dW H1) vs.length (by omega)
     generalize uptoN (dW H1) vs.length = a at *
     generalize nextW (dW H1) = w2 at *
     have p2 := fun m p => Z1l (H := redoH H1 [([0], some (.cells [.int .u64 w2] true u))]) (m := m) (u := u) (p := p) (jr := true) (j := []) 0 30 (K + 5) (by decide) (by decide) (by decide) (Zk (u := u) (d := []) ▸ trivial)
     rw [Zn] at p2
     have hr1 := Z03 w2 30 (by decide)
     generalize rangeR w2 0 30 = r1 at *
     generalize nextW (nextW w2) = w3 at *
     have hP : InlG vs.length ⟨a, r1⟩ := ⟨har, hr1⟩
     simp -implicitDefEqProofs only [go_sem, a0, a2, a3, a4, a9, hT, hlo]
     simp only [Z5]
     refine Tr.Does.mono (Q := fun x => ∃ (T' : List AV) (H2 : Heap) (e : Inl), x = (T', (⟨H2, m + 4, [], false, []⟩ : St)) /\ InlG vs.length e /\ T'.length = 144 /\ nth T' 0 = some (.ptr [0] 0) /\ nth T' 2 = some (.ptr [1] 0) /\ nth T' 3 = some (.ptr [2] 0) /\ nth T' 4 = some (.int .i64 vs.length) /\ nth T' 12 = some (.int .i64 k) /\
      isD u H2 /\ hget H2 [1] = some (.cells nil5 true 0) /\ hget H2 [2] = some (.cells [A0, A1, A2, ownV [m + 3, 9, 0] ((ls ++ [e]).map inlV), .nils] true 0) /\ hget H2 [m + 3, 9, 0] = some (.tok (ls ++ [e]).length 3)) ?_ ?_
     ·have hap := fun (l : List AV) (n : Nat) (b p : Nm) (H : Heap) (hr : (l.length + 1) * 24 <= 140737488355328) (hg : l ≠ [] -> hget H b = some (.tok l.length 3)) => X6 (C := cfg.at 23) (sT := 36) (b := b) (l := l) (x := .agg [.int .i64 a, .int .i64 r1.lo, .int .i64 r1.hi]) (H := H) (n := n) (p := p) (jr := true) (j := []) (z := 3) Zjx Zip rfl rfl rfl rfl rfl rfl hr hg
      have gv : hget (hdel (hdel H1 [0]) [0]) [2] = some (.cells [A0, A1, A2, ownV [cb, 9, 0] (ls.map inlV), .nils] true 0) := by
       rw [hd11 (by decide), hd11 (by decide)]; exact q2
      cases ls with
      | nil =>
       have hap0 := fun (n : Nat) (p : Nm) (H : Heap) => hap [] n [] p H (by simp) (fun h => absurd rfl h)
       simp only [ownV, dropTok, tokJ, List.nil_append, List.length_nil, List.map_nil] at hap0 q2 gv
       try simp only [Z5]
       refine Zd [[], [0], [], [], [2, 3], [], [5, 4, 2, 3], [6, 5, 4, 2, 3], [7, 6, 5, 4, 2, 3], [1, 0, 8, 7, 6, 5, 4, 2, 3], [9, 1, 0, 8, 7, 6, 5, 4, 2, 3], [10, 9, 1, 0, 8, 7, 6, 5, 4, 2, 3]] [[], [], [], [], [[0]], [], [[0]], [], [], [], [], [[2]]] (by kernel_rfl) rfl rfl ?_
       simp -implicitDefEqProofs only [go_sem, Z1, lkn, Z4, lk11, lk13, lk31, lk33, Zb, Option.getD_some, Option.getD_none, a0, a2, a3, a4, a9, hT, q2, gv, p1, p2, bs36, hap0, Ze]
       refine ⟨_, _, ⟨a, r1⟩, rfl, hP, by simp -implicitDefEqProofs only [redoH, redo1, go_sem, hT], by simp -implicitDefEqProofs only [redoH, redo1, go_sem, a0], by simp -implicitDefEqProofs only [redoH, redo1, go_sem, a2], by simp -implicitDefEqProofs only [redoH, redo1, go_sem, a3], by simp -implicitDefEqProofs only [redoH, redo1, go_sem, a4], by simp -implicitDefEqProofs only [redoH, redo1, go_sem, a9], by simp only [Zl, Yb, Zo, Zx, Zp, Zy, Zq, Zz, Y0, Yc, Y1, Yd, Y2, Ye, Y3, Yf, Zk, Zn, Zr, Y4, Zs, Y5, Yg, Yv], ?_, ?_, ?_⟩
       ·simp (disch := omega) only [Z0, hc11, hc13, hc31, hc33, hs11, hs13, hs31, hs33, hd11, hd13, hd31, hd33, Z3, ht11, ht31, ne_eq, not_false_eq_true, Nat.succ_ne_zero, Z1, lkn, Z4, lk11, lk13, lk31, lk33, Zb, Option.getD_some, Option.getD_none, q1]
       ·simp (disch := omega) only [Z0, hc11, hc13, hc31, hc33, hs11, hs13, hs31, hs33, hd11, hd13, hd31, hd33, Z3, ht11, ht31, ne_eq, not_false_eq_true, Nat.succ_ne_zero, Z1, lkn, Z4, lk11, lk13, lk31, lk33, Zb, Option.getD_some, Option.getD_none] <;> rfl
       ·simp (disch := omega) only [Z0, hc11, hc13, hc31, hc33, hs11, hs13, hs31, hs33, hd11, hd13, hd31, hd33, Z3, ht11, ht31, ne_eq, not_false_eq_true, Nat.succ_ne_zero, Z1, lkn, Z4, lk11, lk13, lk31, lk33, Zb, Option.getD_some, Option.getD_none] <;> rfl
      | cons b0 ls =>
       obtain ⟨hcb, r0⟩ := qb (by simp)
       have hapN := fun (n : Nat) (p : Nm) (H : Heap) (hg : hget H [cb, 9, 0] = some (.tok (b0 :: ls).length 3)) => hap ((b0 :: ls).map inlV) n [cb, 9, 0] p H (by rw [List.length_map]; omega) (fun _ => by rw [List.length_map]; exact hg)
       have hrel : ∀ e : Inl, ((b0 :: ls) ++ [e]).map inlV = (b0 :: ls).map inlV ++ [inlV e] := fun e => by rw [List.map_append]; rfl
       have hrl : ∀ e : Inl, ((b0 :: ls) ++ [e]).length = (b0 :: ls).length + 1 := fun e => by simp
       have n1 : (b0 :: ls).map inlV ≠ [] := by simp
       have hlm : ((b0 :: ls).map inlV).length = (b0 :: ls).length := List.length_map ..
       simp only [hrel, hrl]
       generalize (b0 :: ls).map inlV = R at *
       generalize (b0 :: ls).length = ln at *
       have o1 : ∀ b, ownV b R = .own b R := fun b => by cases R with | nil => exact absurd rfl n1 | cons a r => rfl
       have o3 : ∀ b j, tokJ R b j = (b, none) :: j := fun b j => by cases R with | nil => exact absurd rfl n1 | cons a r => rfl
       have o5 : ∀ b H, dropTok R b H = hdel H b := fun b H => by cases R with | nil => exact absurd rfl n1 | cons a r => rfl
       simp only [o1, o3, o5, Yn, hlm] at hapN q2 gv
       simp only [Yn]
       have ip2 : isPre [m + 3, 9] [cb, 9, 0] = false := Go.Am.Je _ _ (by omega)
       try simp only [Z5]
       refine Zd [[], [0], [], [], [2, 3], [], [5, 4, 2, 3], [6, 5, 4, 2, 3], [7, 6, 5, 4, 2, 3], [1, 0, 8, 7, 6, 5, 4, 2, 3], [9, 1, 0, 8, 7, 6, 5, 4, 2, 3], [10, 9, 1, 0, 8, 7, 6, 5, 4, 2, 3]] [[], [], [], [], [[0]], [], [[0]], [], [], [[cb, 9, 0]], [], [[2]]] (by kernel_rfl) rfl rfl ?_
       simp -implicitDefEqProofs only [go_sem, Z1, lkn, Z4, lk11, lk13, lk31, lk33, Zb, Option.getD_some, Option.getD_none, a0, a2, a3, a4, a9, hT, q2, gv, p1, p2, bs36, r0, hapN, ip2, Ze]
       refine ⟨_, _, ⟨a, r1⟩, rfl, hP, by simp -implicitDefEqProofs only [redoH, redo1, go_sem, hT], by simp -implicitDefEqProofs only [redoH, redo1, go_sem, a0], by simp -implicitDefEqProofs only [redoH, redo1, go_sem, a2], by simp -implicitDefEqProofs only [redoH, redo1, go_sem, a3], by simp -implicitDefEqProofs only [redoH, redo1, go_sem, a4], by simp -implicitDefEqProofs only [redoH, redo1, go_sem, a9], by simp only [Zl, Yb, Zo, Zx, Zp, Zy, Zq, Zz, Y0, Yc, Y1, Yd, Y2, Ye, Y3, Yf, Zk, Zn, Zr, Y4, Zs, Y5, Yg, Yv], ?_, ?_, ?_⟩
       ·simp (disch := omega) only [Z0, hc11, hc13, hc31, hc33, hs11, hs13, hs31, hs33, hd11, hd13, hd31, hd33, Z3, ht11, ht31, ne_eq, not_false_eq_true, Nat.succ_ne_zero, Z1, lkn, Z4, lk11, lk13, lk31, lk33, Zb, Option.getD_some, Option.getD_none, q1]
       ·simp (disch := omega) only [Z0, hc11, hc13, hc31, hc33, hs11, hs13, hs31, hs33, hd11, hd13, hd31, hd33, Z3, ht11, ht31, ne_eq, not_false_eq_true, Nat.succ_ne_zero, Z1, lkn, Z4, lk11, lk13, lk31, lk33, Zb, Option.getD_some, Option.getD_none] <;> rfl
       ·simp (disch := omega) only [Z0, hc11, hc13, hc31, hc33, hs11, hs13, hs31, hs33, hd11, hd13, hd31, hd33, Z3, ht11, ht31, ne_eq, not_false_eq_true, Nat.succ_ne_zero, Z1, lkn, Z4, lk11, lk13, lk31, lk33, Zb, Option.getD_some, Option.getD_none] <;> rfl
     clear p1 p2 a0 a2 a3 a4 a9 hT T d1 q1 q2 qb H1
     rintro _ ⟨T, H, e, rfl, he, hT, a0, a2, a3, a4, a9, d1, q1, q2, qb⟩
     have hps2 : ∀ x ∈ ls ++ [e], InlG vs.length x := by
      intro x hx
      rcases List.mem_append.1 hx with hx | hx
      ·exact hps x hx
      ·rw [List.mem_singleton] at hx; rw [hx]; exact he
     have hpl2 : (ls ++ [e]).length + (k - 1) <= 2 := by rw [List.length_append, List.length_singleton]; omega
     have hlt : m + 3 < (m + 1) + 3 := by omega
     have e2 : wrapF .i64 ((k : Int) - 1) = ((k - 1 : Nat) : Int) := by rw [Z8 (by omega) (by omega)]; omega
     simp -implicitDefEqProofs only [go_sem, a0, a2, a3, a4, a9, hT, e2]
     clear e2
     exact ⟨k - 1, hl1, trivial, trivial, trivial, trivial, trivial, rfl, m + 1, m + 3, _, ls ++ [e], rfl, d1, q1, q2, fun _ => ⟨hlt, qb⟩, hpl2, hps2⟩
    ·simp -implicitDefEqProofs only [go_sem, a0, a2, a3, a4, a9, hT, hlo]
     exact ⟨_, m, H1, ls, _, rfl, by simp -implicitDefEqProofs only [redoH, redo1, go_sem, hT], by simp -implicitDefEqProofs only [redoH, redo1, go_sem, a0], by simp -implicitDefEqProofs only [redoH, redo1, go_sem, a2], by simp -implicitDefEqProofs only [redoH, redo1, go_sem, a3], by simp -implicitDefEqProofs only [redoH, redo1, go_sem, a4], d1, q1, q2, X4 _ _, by omega, hps⟩
   clear a0 a2 a3 a4 hT T hd g1 g2 H hct m
   rintro _ ⟨T, m, H, ls, A3, rfl, hT, a0, a2, a3, a4, hd, g1, g2, hA3, hlsl, hls⟩
   have ut1 := fun m jr j => Z04 (H := H) (m := m) (u := u) (p := []) (jr := jr) (j := j) 3 (K + 7) hd (by decide)
   have hct := Yk (dW H) 3 (by decide)
   generalize uptoN (dW H) 3 = ct0 at *
   generalize nextW (dW H) = w1 at *
   obtain ⟨ct, rfl⟩ : ∃ q : Nat, ct0 = q := ⟨ct0.toNat, by omega⟩
   simp -implicitDefEqProofs only [go_sem, a0, a2, a3, a4, hT, ut1]
   clear ut1
   simp only [Z5]
   refine Tr.Does.mono (Q := fun x => ∃ (T' : List AV) (m : Nat) (H : Heap) (qs : List Gtr) (A4 : AV), x = ((AExit.exit 10, T'), (⟨H, m + 3, [], false, []⟩ : St)) /\ T'.length = 144 /\ nth T' 0 = some (.ptr [0] 0) /\ nth T' 2 = some (.ptr [1] 0) /\ nth T' 3 = some (.ptr [2] 0) /\ nth T' 4 = some (.int .i64 vs.length) /\ isD u H /\ hget H [1] = some (.cells nil5 true 0) /\ hget H [2] = some (.cells [A0, A1, A2, A3, A4] true 0) /\ A4.shut = .lst (qs.map gtrV) /\ qs.length <= 2 /\ ∀ x ∈ qs, GtrG vs.length x) ?_ ?_
   ·refine Zu (fun k T s' => T.length = 144 /\ nth T 0 = some (.ptr [0] 0) /\ nth T 2 = some (.ptr [1] 0) /\ nth T 3 = some (.ptr [2] 0) /\ nth T 4 = some (.int .i64 vs.length) /\ nth T 13 = some (.int .i64 k) /\ ∃ (m cb : Nat) (H : Heap) (qs : List Gtr), s' = ⟨H, m + 3, [], false, []⟩ /\ isD u H /\ hget H [1] = some (.cells nil5 true 0) /\ hget H [2] = some (.cells [A0, A1, A2, A3, ownV [cb, 11, 0] (qs.map gtrV)] true 0) /\ (qs ≠ [] -> cb < m + 3 /\ hget H [cb, 11, 0] = some (.tok qs.length 5)) /\ qs.length + k <= 2 /\ ∀ x ∈ qs, GtrG vs.length x) (k := ct) (by omega) ?_ ?_
    ·exact ⟨by simp -implicitDefEqProofs only [redoH, redo1, go_sem, hT], by simp -implicitDefEqProofs only [redoH, redo1, go_sem, a0], by simp -implicitDefEqProofs only [redoH, redo1, go_sem, a2], by simp -implicitDefEqProofs only [redoH, redo1, go_sem, a3], by simp -implicitDefEqProofs only [redoH, redo1, go_sem, a4], by simp -implicitDefEqProofs only [redoH, redo1, go_sem, hT], m, 0, _, [], rfl, Zl hd, by rw [hs11 (by decide)]; exact g1, by rw [hs11 (by decide)]; exact g2, fun h => absurd rfl h, by show 0 + ct <= 2; omega, fun _ h => by cases h⟩
    clear a0 a2 a3 a4 hT T hd g1 g2 H hct m
    rintro k T s' ⟨hT, a0, a2, a3, a4, a9, m, cb, H1, qs, rfl, d1, q1, q2, qb, hpl, hps⟩
    simp -implicitDefEqProofs only [go_sem, a0, a2, a3, a4, a9, hT]
    by_cases hlo : (0 : Int) < (k : Int)
    ·have hl1 : k - 1 < k := by omega
     have p1 := fun m p => Z04 (H := H1) (m := m) (u := u) (p := p) (jr := true) (j := []) vs.length (K + 7) d1 (by omega)
     have har := Yk (dW H1) vs.length (by omega)
     generalize uptoN (dW H1) vs.length = a at *
     generalize nextW (dW H1) = w2 at *
     have p2 := fun m p => Z7k (H := redoH H1 [([0], some (.cells [.int .u64 w2] true u))]) (m := m) (u := u) (p := p) (jr := true) (j := []) 300000 (K + 4) (by decide) (by decide) (Zk (u := u) (d := []) ▸ trivial)
     rw [Zn] at p2
     have hr1 := Z03 w2 300000 (by decide)
     generalize rangeR w2 0 300000 = r1 at *
     generalize nextW (nextW w2) = w3 at *
     have p3 := fun m p => Z1l (H := redoH (redoH H1 [([0], some (.cells [.int .u64 w2] true u))]) [([0], some (.cells [.int .u64 w3] true u))]) (m := m) (u := u) (p := p) (jr := true) (j := []) 0 9000 (K + 5) (by decide) (by decide) (by decide) (Zk (u := u) (d := []) ▸ trivial)
     rw [Zn] at p3
     have hr2 := Z03 w3 9000 (by decide)
     generalize rangeR w3 0 9000 = r2 at *
     generalize nextW (nextW w3) = w4 at *
     have hP : GtrG vs.length ⟨a, r1, r2⟩ := ⟨har, hr1, hr2⟩
     simp -implicitDefEqProofs only [go_sem, a0, a2, a3, a4, a9, hT, hlo]
     simp only [Z5]
     refine Tr.Does.mono (Q := fun x => ∃ (T' : List AV) (H2 : Heap) (e : Gtr), x = (T', (⟨H2, m + 4, [], false, []⟩ : St)) /\ GtrG vs.length e /\ T'.length = 144 /\ nth T' 0 = some (.ptr [0] 0) /\ nth T' 2 = some (.ptr [1] 0) /\ nth T' 3 = some (.ptr [2] 0) /\ nth T' 4 = some (.int .i64 vs.length) /\ nth T' 13 = some (.int .i64 k) /\
      isD u H2 /\ hget H2 [1] = some (.cells nil5 true 0) /\ hget H2 [2] = some (.cells [A0, A1, A2, A3, ownV [m + 3, 11, 0] ((qs ++ [e]).map gtrV)] true 0) /\ hget H2 [m + 3, 11, 0] = some (.tok (qs ++ [e]).length 5)) ?_ ?_
     ·have hap := fun (l : List AV) (n : Nat) (b p : Nm) (H : Heap) (hr : (l.length + 1) * 40 <= 140737488355328) (hg : l ≠ [] -> hget H b = some (.tok l.length 5)) => X6 (C := cfg.at 23) (sT := 37) (b := b) (l := l) (x := .agg [.int .i64 a, .int .i64 r1.lo, .int .i64 r1.hi, .int .i64 r2.lo, .int .i64 r2.hi]) (H := H) (n := n) (p := p) (jr := true) (j := []) (z := 5) Zjy Zfp rfl rfl rfl rfl rfl rfl hr hg
      have gv : hget (hdel (hdel (hdel H1 [0]) [0]) [0]) [2] = some (.cells [A0, A1, A2, A3, ownV [cb, 11, 0] (qs.map gtrV)] true 0) := by
       rw [hd11 (by decide), hd11 (by decide), hd11 (by decide)]; exact q2
      cases qs with
      | nil =>
       have hap0 := fun (n : Nat) (p : Nm) (H : Heap) => hap [] n [] p H (by simp) (fun h => absurd rfl h)
       simp only [ownV, dropTok, tokJ, List.nil_append, List.length_nil, List.map_nil] at hap0 q2 gv
       try simp only [Z5]
       refine Zd [[], [0], [], [], [2, 3], [], [5, 4, 2, 3], [], [7, 6, 5, 4, 2, 3], [8, 7, 6, 5, 4, 2, 3], [9, 8, 7, 6, 5, 4, 2, 3], [1, 0, 10, 9, 8, 7, 6, 5, 4, 2, 3], [11, 1, 0, 10, 9, 8, 7, 6, 5, 4, 2, 3], [12, 11, 1, 0, 10, 9, 8, 7, 6, 5, 4, 2, 3]] [[], [], [], [], [[0]], [], [[0]], [], [[0]], [], [], [], [], [[2]]] (by kernel_rfl) rfl rfl ?_
       simp -implicitDefEqProofs only [go_sem, Z1, lkn, Z4, lk11, lk13, lk31, lk33, Zb, Option.getD_some, Option.getD_none, a0, a2, a3, a4, a9, hT, q2, gv, p1, p2, p3, bs37, hap0, Ze]
       refine ⟨_, _, ⟨a, r1, r2⟩, rfl, hP, by simp -implicitDefEqProofs only [redoH, redo1, go_sem, hT], by simp -implicitDefEqProofs only [redoH, redo1, go_sem, a0], by simp -implicitDefEqProofs only [redoH, redo1, go_sem, a2], by simp -implicitDefEqProofs only [redoH, redo1, go_sem, a3], by simp -implicitDefEqProofs only [redoH, redo1, go_sem, a4], by simp -implicitDefEqProofs only [redoH, redo1, go_sem, a9], by simp only [Zl, Yb, Zo, Zx, Zp, Zy, Zq, Zz, Y0, Yc, Y1, Yd, Y2, Ye, Y3, Yf, Zk, Zn, Zr, Y4, Zs, Y5, Yg, Yv], ?_, ?_, ?_⟩
       ·simp (disch := omega) only [Z0, hc11, hc13, hc31, hc33, hs11, hs13, hs31, hs33, hd11, hd13, hd31, hd33, Z3, ht11, ht31, ne_eq, not_false_eq_true, Nat.succ_ne_zero, Z1, lkn, Z4, lk11, lk13, lk31, lk33, Zb, Option.getD_some, Option.getD_none, q1]
       ·simp (disch := omega) only [Z0, hc11, hc13, hc31, hc33, hs11, hs13, hs31, hs33, hd11, hd13, hd31, hd33, Z3, ht11, ht31, ne_eq, not_false_eq_true, Nat.succ_ne_zero, Z1, lkn, Z4, lk11, lk13, lk31, lk33, Zb, Option.getD_some, Option.getD_none] <;> rfl
       ·simp (disch := omega) only [Z0, hc11, hc13, hc31, hc33, hs11, hs13, hs31, hs33, hd11, hd13, hd31, hd33, Z3, ht11, ht31, ne_eq, not_false_eq_true, Nat.succ_ne_zero, Z1, lkn, Z4, lk11, lk13, lk31, lk33, Zb, Option.getD_some, Option.getD_none] <;> rfl
      | cons b0 qs =>
       obtain ⟨hcb, r0⟩ := qb (by simp)
       have hapN := fun (n : Nat) (p : Nm) (H : Heap) (hg : hget H [cb, 11, 0] = some (.tok (b0 :: qs).length 5)) => hap ((b0 :: qs).map gtrV) n [cb, 11, 0] p H (by rw [List.length_map]; omega) (fun _ => by rw [List.length_map]; exact hg)
       have hrel : ∀ e : Gtr, ((b0 :: qs) ++ [e]).map gtrV = (b0 :: qs).map gtrV ++ [gtrV e] := fun e => by rw [List.map_append]; rfl
       have hrl : ∀ e : Gtr, ((b0 :: qs) ++ [e]).length = (b0 :: qs).length + 1 := fun e => by simp
       have n1 : (b0 :: qs).map gtrV ≠ [] := by simp
       have hlm : ((b0 :: qs).map gtrV).length = (b0 :: qs).length := List.length_map ..
       simp only [hrel, hrl]
       generalize (b0 :: qs).map gtrV = R at *
       generalize (b0 :: qs).length = ln at *
       have o1 : ∀ b, ownV b R = .own b R := fun b => by cases R with | nil => exact absurd rfl n1 | cons a r => rfl
       have o3 : ∀ b j, tokJ R b j = (b, none) :: j := fun b j => by cases R with | nil => exact absurd rfl n1 | cons a r => rfl
       have o5 : ∀ b H, dropTok R b H = hdel H b := fun b H => by cases R with | nil => exact absurd rfl n1 | cons a r => rfl
       simp only [o1, o3, o5, Yn, hlm] at hapN q2 gv
       simp only [Yn]
       have ip2 : isPre [m + 3, 11] [cb, 11, 0] = false := Go.Am.Je _ _ (by omega)
       try simp only [Z5]
       refine Zd [[], [0], [], [], [2, 3], [], [5, 4, 2, 3], [], [7, 6, 5, 4, 2, 3], [8, 7, 6, 5, 4, 2, 3], [9, 8, 7, 6, 5, 4, 2, 3], [1, 0, 10, 9, 8, 7, 6, 5, 4, 2, 3], [11, 1, 0, 10, 9, 8, 7, 6, 5, 4, 2, 3], [12, 11, 1, 0, 10, 9, 8, 7, 6, 5, 4, 2, 3]] [[], [], [], [], [[0]], [], [[0]], [], [[0]], [], [], [[cb, 11, 0]], [], [[2]]] (by kernel_rfl) rfl rfl ?_
       simp -implicitDefEqProofs only [go_sem, Z1, lkn, Z4, lk11, lk13, lk31, lk33, Zb, Option.getD_some, Option.getD_none, a0, a2, a3, a4, a9, hT, q2, gv, p1, p2, p3, bs37, r0, hapN, ip2, Ze]
       refine ⟨_, _, ⟨a, r1, r2⟩, rfl, hP, by simp -implicitDefEqProofs only [redoH, redo1, go_sem, hT], by simp -implicitDefEqProofs only [redoH, redo1, go_sem, a0], by simp -implicitDefEqProofs only [redoH, redo1, go_sem, a2], by simp -implicitDefEqProofs only [redoH, redo1, go_sem, a3], by simp -implicitDefEqProofs only [redoH, redo1, go_sem, a4], by simp -implicitDefEqProofs only [redoH, redo1, go_sem, a9], by simp only [Zl, Yb, Zo, Zx, Zp, Zy, Zq, Zz, Y0, Yc, Y1, Yd, Y2, Ye, Y3, Yf, Zk, Zn, Zr, Y4, Zs, Y5, Yg, Yv], ?_, ?_, ?_⟩
       ·simp (disch := omega) only [Z0, hc11, hc13, hc31, hc33, hs11, hs13, hs31, hs33, hd11, hd13, hd31, hd33, Z3, ht11, ht31, ne_eq, not_false_eq_true, Nat.succ_ne_zero, Z1, lkn, Z4, lk11, lk13, lk31, lk33, Zb, Option.getD_some, Option.getD_none, q1]
       ·simp (disch := omega) only [Z0, hc11, hc13, hc31, hc33, hs11, hs13, hs31, hs33, hd11, hd13, hd31, hd33, Z3, ht11, ht31, ne_eq, not_false_eq_true, Nat.succ_ne_zero, Z1, lkn, Z4, lk11, lk13, lk31, lk33, Zb, Option.getD_some, Option.getD_none] <;> rfl
       ·simp (disch := omega) only [Z0, hc11, hc13, hc31, hc33, hs11, hs13, hs31, hs33, hd11, hd13, hd31, hd33, Z3, ht11, ht31, ne_eq, not_false_eq_true, Nat.succ_ne_zero, Z1, lkn, Z4, lk11, lk13, lk31, lk33, Zb, Option.getD_some, Option.getD_none] <;> rfl
     clear p1 p2 p3 a0 a2 a3 a4 a9 hT T d1 q1 q2 qb H1
     rintro _ ⟨T, H, e, rfl, he, hT, a0, a2, a3, a4, a9, d1, q1, q2, qb⟩
     have hps2 : ∀ x ∈ qs ++ [e], GtrG vs.length x := by
      intro x hx
      rcases List.mem_append.1 hx with hx | hx
      ·exact hps x hx
      ·rw [List.mem_singleton] at hx; rw [hx]; exact he
     have hpl2 : (qs ++ [e]).length + (k - 1) <= 2 := by rw [List.length_append, List.length_singleton]; omega
     have hlt : m + 3 < (m + 1) + 3 := by omega
     have e2 : wrapF .i64 ((k : Int) - 1) = ((k - 1 : Nat) : Int) := by rw [Z8 (by omega) (by omega)]; omega
     simp -implicitDefEqProofs only [go_sem, a0, a2, a3, a4, a9, hT, e2]
     clear e2
     exact ⟨k - 1, hl1, trivial, trivial, trivial, trivial, trivial, rfl, m + 1, m + 3, _, qs ++ [e], rfl, d1, q1, q2, fun _ => ⟨hlt, qb⟩, hpl2, hps2⟩
    ·simp -implicitDefEqProofs only [go_sem, a0, a2, a3, a4, a9, hT, hlo]
     exact ⟨_, m, H1, qs, _, rfl, by simp -implicitDefEqProofs only [redoH, redo1, go_sem, hT], by simp -implicitDefEqProofs only [redoH, redo1, go_sem, a0], by simp -implicitDefEqProofs only [redoH, redo1, go_sem, a2], by simp -implicitDefEqProofs only [redoH, redo1, go_sem, a3], by simp -implicitDefEqProofs only [redoH, redo1, go_sem, a4], d1, q1, q2, X4 _ _, by omega, hps⟩
   clear a0 a2 a3 a4 hT T hd g1 g2 H hct m
   rintro _ ⟨T, m, H, qs, A4, rfl, hT, a0, a2, a3, a4, hd, g1, g2, hA4, hqsl, hqs⟩
   have e1 : ∀ Z, hget (hset H [1] Z) [1] = some Z := fun Z => hss g1
   have e0 : ∀ Z, hget (hset H [1] Z) [0] = hget H [0] := fun Z => hs11 (by decide)
   have hz : (AV.agg [A0, A1, A2, A3, A4]).shut = vacV ⟨vs, ps, ms, ls, qs⟩ := by
    simp only [AV.shut, shuts, hA0, hA1, hA2, hA3, hA4, vacV]
   simp only [nil5] at g1
   simp -implicitDefEqProofs only [go_sem, a0, a2, a3, a4, hT, g1, g2, e1, e0, Try.results23]
   exact ⟨⟨vs, ps, ms, ls, qs⟩, dW H, ⟨by show 1 <= vs.length; omega, by show vs.length <= 4; omega, hvs, hpsl, hps, hmsl, hms, hlsl, hls, hqsl, hqs⟩, hz, Ja hd⟩
 obtain ⟨v, w', hg, hd⟩ := key
 refine ⟨v, w', hg, ?_⟩
 exact Z2e (v := vacV v) Ziw Ziv hb rfl rfl rfl rfl rfl rfl (by rfl) (by simp only [vacV, renV, renVs, Z0j, Z0k, Z0l, Z0m, Z0n]) hd
end Go.Proofs.Ytgnpnfkncbnjnaa
namespace Go.Proofs.Ytgnpnfkncbnjnaa
attribute [local go_sem_proc] Int.reduceEq Int.reduceNeg Nat.reduceEqDiff Nat.reduceLT Nat.reduceAdd Nat.reduceSub Nat.reduceMul Int.reduceLE Int.reduceLT Int.reduceToNat Nat.reduceLeDiff
attribute [local go_sem] Int.toNat_natCast Bool.not_true Bool.not_false
open Go Go.Am
attribute [local congr] Zf Z9 Zc
attribute [local go_sem] Go.Am.buildSliceA Go.Am.frozen Go.Am.freezeG Go.Am.freezeGs Go.Am.minmax
def RowM (lo n : Nat) (H : Heap) (v : AV) (L : List Rg) : Prop := (L = [] /\ v = .nils) \/ ∃ (b c : Nat) (cs : List AV), v = .slice [b] 0 L.length c false /\ lo <= b /\ b < n /\ hget H [b] = some (.cells cs true 2) /\ (L ≠ [] -> cs = L.flatMap rgC)
theorem Z9u (l : List Rg) : flatA (l.map rgV) = l.flatMap rgC := by
 induction l with
 | nil => rfl
 | cons a l ih => simp only [List.map_cons, flatA, List.flatMap_cons, ih]; rfl
theorem Z8v {lo n : Nat} {H : Heap} {v : AV} {L : List Rg} (hv : RowM lo n H v L) (hlo : lo <= n) (l2 : List Rg) (hr : (L.length + l2.length) * 16 <= 140737488355328) (C : Cfg) (hC : C.ty = cfg.ty) :
  ∃ v' H' n', appendA C false 50 50 v (.lst (l2.map rgV)) ⟨H, n, [], false, []⟩ = .ret (v', ⟨H', n', [], false, []⟩) /\ RowM lo n' H' v' (L ++ l2) /\ n <= n' /\ ∀ k, k < lo -> hget H' [k] = hget H [k] := by
 have hd : C.desc 50 = some (.slice 26) := by unfold Cfg.desc; rw [hC]; exact Z7i
 have hi : C.ty.get 26 = some ty26 := by rw [hC]; exact Z5a
 have e0 : ∀ s, appendA C false 50 50 v (.lst (l2.map rgV)) s = appendTo ty26 v l2.length (l2.flatMap rgC) s := fun s => by
  unfold appendA
  rw [hd]; simp only
  rw [hi]; simp only
  have hz : ty26.zero = some (.agg [.int .i64 0, .int .i64 0]) := rfl
  rw [hz]; simp only
  have hb : Nat.beq (AV.agg [.int .i64 0, .int .i64 0]).cells.length ty26.size = true := rfl
  rw [hb]; simp only
  have hs : srcA ty26 (.agg [.int .i64 0, .int .i64 0]) (.slice 26) (.lst (l2.map rgV)) = M.ret (l2.length, l2.flatMap rgC) := by
   show (match okZ 2 (l2.map rgV) with | true => M.ret ((l2.map rgV).length, flatA (l2.map rgV)) | false => M.fail) = _
   rw [z_rg, Z9u, List.length_map]
  rw [hs, Zg, Xi, Tr.bind_ret]
 have hroom : ∀ k m, k + m = L.length + l2.length -> roomy k m ty26.bytes = true := fun k m h => by
  unfold roomy
  have h16 : ty26.bytes = 16 := rfl
  rw [h16, Nat.ble_eq_true_of_le (show (k + m) * 16 <= 140737488355328 by rw [h]; exact hr)]
 rw [e0]
 cases l2 with
 | nil =>
  have e1 : appendTo ty26 v 0 [] = M.ret v := by
   rcases hv with ⟨_, rfl⟩ | ⟨b, c, cs, rfl, _⟩ <;> rfl
  refine ⟨v, H, n, by show appendTo ty26 v 0 [] _ = _; rw [e1]; rfl, by rw [List.append_nil]; exact hv, Nat.le_refl _, fun _ _ => rfl⟩
 | cons a r =>
  have hm : (a :: r).length = r.length + 1 := rfl
  rcases hv with ⟨rfl, rfl⟩ | ⟨b, c, cs, rfl, h1, h2, h3, h4⟩
  ·refine ⟨.slice [n] 0 (a :: r).length (a :: r).length false, ([n], .cells ((a :: r).flatMap rgC) true 2) :: H, n + 1, ?_, .inr ⟨n, _, _, rfl, hlo, by omega, Z0 .., fun _ => rfl⟩, by omega, fun k hk => hc11 (by omega)⟩
   unfold appendTo
   rw [hm]
   simp only
   have hr1 := hroom 0 (r.length + 1) (by simp)
   rw [hr1]; simp only
   unfold grow
   rw [Zg, Xz, Tr.bind_ret]
   rfl
  ·refine ⟨.slice [n] 0 (L.length + (a :: r).length) (L.length + (a :: r).length) false, ([n], .cells ((L ++ a :: r).flatMap rgC) true 2) :: hdel H [b], n + 1, ?_, .inr ⟨n, _, _, by rw [List.length_append], hlo, by omega, Z0 .., fun _ => rfl⟩, by omega, fun k hk => (hc11 (by omega)).trans (hd11 (by omega))⟩
   unfold appendTo
   rw [hm]
   simp only [Zg, Xn, h3, Tr.bind_ret]
   have hr1 := hroom L.length (r.length + 1) rfl
   rw [hr1]; simp only
   have ho : oldA cs 0 L.length ty26.size = some (L.flatMap rgC) := by
    cases L with
    | nil => rfl
    | cons x y =>
     have := h4 (by simp)
     subst this
     show readN ((x :: y).flatMap rgC) 0 ((x :: y).length * 2) = _
     exact Zas _ _ (Zed _)
   rw [ho]; simp only
   have hu : Nat.beq 2 ty26.size = true := rfl
   have hu1 : Nat.ble 1 2 = true := rfl
   rw [hu]
   simp only [hu1]
   rw [Zg, Z9m]
   simp only [h3, Tr.bind_ret]
   unfold grow
   rw [Zg, Xz, Tr.bind_ret, List.flatMap_append]
   rfl
theorem Zhr (s : St) : sliceOp (cfg.at 171) 50 .nils none (some (.int .i64 0)) none s = .ret (.nils, s) := by
 have h0 : (0 : Int) <= ((0 : Nat) : Int) := by decide
 simp -implicitDefEqProofs only [redoH, redo1, go_sem, sliceOp, h0]
theorem Zjz (b : Nm) (k : Nat) (cs : List AV) (s : St) (hb : hget s.H b = some (.cells cs true 2)) : sliceOp (cfg.at 171) 50 (.slice b 0 k k false) none (some (.int .i64 0)) none s = .ret (.slice b 0 0 k false, s) := by
 have h0 : (0 : Int) <= (k : Int) := by omega
 simp -implicitDefEqProofs only [redoH, redo1, go_sem, sliceOp, unitM, hb, Int.le_refl, h0, Nat.sub_zero]
theorem Zk0 (b : Nm) (k : Nat) (cs : List AV) (H : Heap) (n : Nat) (p : Nm) (jr : Bool) (j : Delta) : sliceOp (cfg.at 171) 50 (.slice b 0 k k false) none (some (.int .i64 0)) none ⟨(b, .cells cs true 2) :: H, n, p, jr, j⟩ = .ret (.slice b 0 0 k false, ⟨(b, .cells cs true 2) :: H, n, p, jr, j⟩) :=
 Zjz b k cs _ (Z0 ..)
theorem Zef (m : Nat) (h : m <= 1000001) : roomy 0 m ty26.bytes = true := by
 unfold roomy
 have h16 : ty26.bytes = 16 := rfl
 rw [h16, Nat.ble_eq_true_of_le (show (0 + m) * 16 <= 140737488355328 by omega)]
theorem Zhs (i : TI) (z : AV) (n : Int) (m : Nat) (hw : wrapF .i64 n = (m : Int)) (hb : m * i.bytes <= 140737488355328) : srcA i z (.int .i64) (.int .i64 n) = M.ret (m, repeatN z.cells m) := by
 have h0' : decide ((0 : Int) <= (m : Int)) = true := decide_eq_true (by omega)
 have hzz : (m : Int).toNat = m := by omega
 have hb' := Nat.ble_eq_true_of_le hb
 show (match decide (0 <= wrapF .i64 n), Nat.ble ((wrapF .i64 n).toNat * i.bytes) 140737488355328 with
   | true, true => M.ret ((wrapF .i64 n).toNat, repeatN z.cells (wrapF .i64 n).toNat)
   | _, _ => M.fail) = _
 rw [hw, h0', hzz, hb']
theorem Zht (m : Nat) (h : m <= 1000001) : srcA ty26 (.agg [.int .i64 0, .int .i64 0]) (.int .i64) (.int .i64 (m : Int)) = M.ret (m, repeatN [.int .i64 0, .int .i64 0] m) :=
 Zhs ty26 _ m m (Z8 (by omega) (by omega)) (show m * 16 <= _ by omega)
theorem Zk1 (n : Nat) (s : St) (hn : n <= 1000000) : appendA (cfg.at 171) false 50 3 .nils (.int .i64 ((n + 1 : Nat) : Int)) s = .ret (.slice s.name 0 (n + 1) (n + 1) false, s.new (.cells (repeatN [.int .i64 0, .int .i64 0] (n + 1)) true 2)) := by
 have hr := Zef (n + 1) (by omega)
 have hd : (cfg.at 171).desc 50 = some (.slice 26) := Z7i
 have hd3 : (cfg.at 171).desc 3 = some (.int .i64) := by kernel_rfl
 have hsrc := Zht (n + 1) (by omega)
 unfold appendA
 rw [hd, hd3]; simp only
 rw [show (cfg.at 171).ty.get 26 = some ty26 from Z5a]; simp only
 rw [show ty26.zero = some (.agg [.int .i64 0, .int .i64 0]) from rfl]; simp only
 rw [show Nat.beq (AV.agg [.int .i64 0, .int .i64 0]).cells.length ty26.size = true from rfl]; simp only
 rw [hsrc, Zg, Xi, Tr.bind_ret]
 unfold appendTo
 simp only [hr]
 unfold grow
 rw [Zg, Xz, Tr.bind_ret]
 rfl
theorem Z7l (n : Nat) (K : Nat) (s : St) (hn : n <= 1000000) : acall cfg (K + 1) 171 [.nils, .int .i64 n] s = .ret (match n with | 0 => (.nils, s) | n + 1 => (.slice s.name 0 0 (n + 1) false, s.new (.cells (repeatN [.int .i64 0, .int .i64 0] (n + 1)) true 2))) := by
 suffices h : (acall cfg (K + 1) 171 [.nils, .int .i64 n] s).Does fun x => x = (match n with | 0 => (.nils, s) | n + 1 => (.slice s.name 0 0 (n + 1) false, s.new (.cells (repeatN [.int .i64 0, .int .i64 0] (n + 1)) true 2))) by
  obtain ⟨a, e, rfl⟩ := h; exact e
 rw [Z68 Zhd Zhc]
 refine Za rfl fun T hT' hA => ?_
 have a0 := hA 0 _ rfl
 have a1 := hA 1 _ rfl
 have hT : T.length = 27 := hT'
 clear hA hT'
 obtain ⟨H, m, p, jr, j⟩ := s
 have hn0 : ¬ (n : Int) < 0 := by omega
 cases n with
 | zero =>
  have a1' : nth T 1 = some (.int .i64 0) := a1
  have hw0 : wrapF .i64 0 = 0 := rfl
  clear a1
  simp -implicitDefEqProofs only [redoH, redo1, go_sem, a0, a1', hT, hw0, Int.sub_zero, Int.sub_self, Int.lt_irrefl, Try.results171]
 | succ n =>
  have h0 : (0 : Int) < ((n + 1 : Nat) : Int) := by omega
  have h0' : (0 : Int) <= ((n + 1 : Nat) : Int) := by omega
  have hw : wrapF .i64 (((n + 1 : Nat) : Int) - 0) = ((n + 1 : Nat) : Int) := by rw [Z8 (by omega) (by omega)]; omega
  have hw2 : wrapF .i64 ((n + 1 : Nat) : Int) = ((n + 1 : Nat) : Int) := Z8 (by omega) (by omega)
  have hw0 : wrapF .i64 (0 - 0) = 0 := rfl
  have hn' : n <= 1000000 := by omega
  have hzz : ((n + 1 : Nat) : Int).toNat = n + 1 := by omega
  simp -implicitDefEqProofs only [redoH, redo1, go_sem, a0, a1, hT, hn0, h0, h0', hw0, hw, hw2, hzz, Zhr, Zk0, Zk1, hn', Try.results171]
end Go.Proofs.Ytgnpnfkncbnjnaa
namespace Go.Proofs.Ytgnpnfkncbnjnaa
attribute [local go_sem_proc] Int.reduceEq Int.reduceNeg Nat.reduceEqDiff Nat.reduceLT Nat.reduceAdd Nat.reduceSub Nat.reduceMul Int.reduceLE Int.reduceLT Int.reduceToNat Nat.reduceLeDiff
attribute [local go_sem] Int.toNat_natCast Bool.not_true Bool.not_false
open Go Go.Am
attribute [local congr] Zf Z9 Zc
attribute [local go_sem] Go.Am.buildSliceA Go.Am.minmax
def rowV (l : List Rg) : AV := .lst (l.map rgV)
@[go_sem] theorem Y1p (R : List (List Rg)) : flats (R.map rowV) = true := by
 induction R with
 | nil => rfl
 | cons a r ih =>
  show flats (AV.lst (a.map rgV) :: r.map rowV) = true
  simp only [flats, AV.flat, Z4l, ih]
theorem Z8w {lo n : Nat} {H : Heap} {v : AV} {L : List Rg} (h : RowM lo n H v L) : Go.Am.frozen H v = some (.lst (L.map rgV)) := by
 have h1 : freezeG (freezeD H 6) H v = some (.lst (L.map rgV)) := by
  rcases h with ⟨rfl, rfl⟩ | ⟨b, c, cs, rfl, _, _, hb, hcs⟩
  ·rfl
  ·cases L with
   | nil => rfl
   | cons x y =>
    have := hcs (by simp)
    subst this
    exact Z2c (g := rgC) (z := 2) Z1k (by decide) (f := rgV) (fun _ => rfl) (row := freezeD H 6) (H := H) (x :: y) (Zco _) hb c false
 unfold Go.Am.frozen
 rw [h1]
 have h2 : (AV.lst (L.map rgV)).flat = true := by simp only [AV.flat, Z4l]
 simp only [h2]
theorem Z22 {α : Type} (R : List (List α)) {i : Nat} (h : i < R.length) : (R.take (i + 1)).flatten = (R.take i).flatten ++ R[i] := by
 rw [List.take_succ_eq_append_getElem h, List.flatten_append]; simp
theorem Z2v {α : Type} (R : List (List α)) (i : Nat) : (R.take i).flatten.length <= R.flatten.length := by
 conv => rhs; rw [<- List.take_append_drop i R, List.flatten_append, List.length_append]
 omega
theorem Zeg (n : Nat) (K : Nat) (hn : n <= 1000000) : ∃ v H m, acall cfg (K + 1) 171 [.nils, .int .i64 n] ⟨[], 0, [], false, []⟩ = .ret (v, ⟨H, m, [], false, []⟩) /\ RowM 0 m H v [] := by
 cases n with
 | zero => exact ⟨_, _, _, Z7l 0 K _ hn, .inl ⟨rfl, rfl⟩⟩
 | succ m => exact ⟨_, _, _, Z7l (m + 1) K _ hn, .inr ⟨0, _, _, rfl, Nat.le_refl _, by decide, rfl, fun h => absurd rfl h⟩⟩
theorem Z8x (R : List (List Rg)) (K : Nat) (s : St) (hR : R.length < K) (hR2 : R.length <= 1000000) (hs : R.flatten.length <= 1000000) :
  acall cfg (K + 2) 133 [.lst (R.map rowV)] s = .ret (.lst (R.flatten.map rgV), s) := by
 refine Z2y Zgl Zgk (by first | rfl | simp -implicitDefEqProofs only [redoH, redo1, go_sem]) (by first | rfl | simp -implicitDefEqProofs only [redoH, redo1, go_sem]) (by first | rfl | simp -implicitDefEqProofs only [redoH, redo1, go_sem]) ?_
 refine Za rfl fun T hT' hA => ?_
 have a0 := hA 0 _ rfl
 have hT : T.length = 36 := hT'
 clear hA hT'
 simp -implicitDefEqProofs only [redoH, redo1, go_sem, a0, hT]
 simp only [Z5]
 refine Tr.Does.mono (Q := fun x => ∃ T', x = ((AExit.exit 0, T'), s0) /\ T'.length = 36 /\ nth T' 0 = some (.lst (R.map rowV)) /\ nth T' 3 = some (.int .i64 R.flatten.length)) ?_ ?_
 ·refine Zu (fun k T s' => T.length = 36 /\ nth T 0 = some (.lst (R.map rowV)) /\ nth T 9 = some (.lst (R.map rowV)) /\ nth T 10 = some (.int .i64 R.length) /\ s' = s0 /\ ∃ i : Nat, nth T 11 = some (.int .i64 i) /\ i <= R.length /\ k = R.length - i /\ nth T 3 = some (.int .i64 (R.take i).flatten.length)) (k := R.length) (by omega) ?_ ?_
  ·exact ⟨by simp -implicitDefEqProofs only [redoH, redo1, go_sem, hT], by simp -implicitDefEqProofs only [redoH, redo1, go_sem, a0], by simp -implicitDefEqProofs only [redoH, redo1, go_sem, hT], by simp -implicitDefEqProofs only [redoH, redo1, go_sem, hT], rfl, 0, by simp -implicitDefEqProofs only [redoH, redo1, go_sem, hT] <;> rfl, by omega, rfl, by simp -implicitDefEqProofs only [redoH, redo1, go_sem, hT] <;> rfl⟩
  clear a0 hT T
  rintro k T s' ⟨hT, a0, a9, a10, rfl, i, a11, hi, rfl, a3⟩
  simp -implicitDefEqProofs only [redoH, redo1, go_sem, a0, a9, a10, a11, a3, hT]
  by_cases hil : (i : Int) < (R.length : Int)
  ·have hi' : i < R.length := by omega
   have e1 := Zj (f := rowV) (l := R) (i := i) (z := 1) hi' rfl
   have hkk : R.length - (i + 1) < R.length - i := by omega
   have hle := Z2v R (i + 1)
   rw [Z22 R hi', List.length_append] at hle
   have htk : (R.take (i + 1)).flatten.length = (R.take i).flatten.length + R[i].length := by rw [Z22 R hi', List.length_append]
   generalize R[i] = x at *
   have h0 : ¬ (((R.take i).flatten.length : Int) + (x.length : Int)) < 0 := by omega
   have hw2 : wrapF .i64 (((R.take i).flatten.length : Int) + (x.length : Int)) = ((R.take i).flatten.length : Int) + (x.length : Int) := Z8 (by omega) (by omega)
   have hw1 : wrapF .i64 ((i : Int) + 1) = ((i + 1 : Nat) : Int) := Z8 (by omega) (by omega)
   simp only [rowV] at e1
   simp -implicitDefEqProofs only [redoH, redo1, go_sem, a0, a9, a10, a11, a3, hT, hil, e1, hw2, h0, hw1]
   refine ⟨R.length - (i + 1), hkk, trivial, trivial, trivial, trivial, trivial, i + 1, rfl, hi', rfl, ?_⟩
   rw [htk]; rfl
  ·have hie : i = R.length := by omega
   subst hie
   rw [List.take_length] at a3
   simp -implicitDefEqProofs only [redoH, redo1, go_sem, a0, a9, a10, a11, a3, hT, hil]
   exact ⟨_, rfl, by simp -implicitDefEqProofs only [redoH, redo1, go_sem, hT], by simp -implicitDefEqProofs only [redoH, redo1, go_sem, a0], by simp -implicitDefEqProofs only [redoH, redo1, go_sem, a3]⟩
 clear a0 hT T
 rintro _ ⟨T, rfl, hT, a0, a3⟩
 obtain ⟨v, H, n, hgr, hrow⟩ := Zeg R.flatten.length K hs
 simp -implicitDefEqProofs only [redoH, redo1, go_sem, a0, a3, hT, hgr]
 simp only [Z5]
 refine Zu (fun k T s' => T.length = 36 /\ nth T 25 = some (.lst (R.map rowV)) /\ nth T 26 = some (.int .i64 R.length) /\ ∃ (i n : Nat) (H : Heap) (v : AV), nth T 27 = some (.int .i64 i) /\ i <= R.length /\ k = R.length - i /\ s' = ⟨H, n, [], false, []⟩ /\ nth T 6 = some v /\ RowM 0 n H v (R.take i).flatten) (k := R.length) (by omega) ?_ ?_
 ·exact ⟨by simp -implicitDefEqProofs only [redoH, redo1, go_sem, hT], by simp -implicitDefEqProofs only [redoH, redo1, go_sem, hT], by simp -implicitDefEqProofs only [redoH, redo1, go_sem, hT], 0, n, H, v, by simp -implicitDefEqProofs only [redoH, redo1, go_sem, hT] <;> rfl, by omega, rfl, rfl, by simp -implicitDefEqProofs only [redoH, redo1, go_sem, hT], hrow⟩
 clear a0 a3 hT T hgr hrow n H v
 rintro k T s' ⟨hT, a25, a26, i, n, H, v, a27, hi, rfl, rfl, a6, hrow⟩
 simp -implicitDefEqProofs only [redoH, redo1, go_sem, a25, a26, a27, a6, hT]
 by_cases hil : (i : Int) < (R.length : Int)
 ·have hi' : i < R.length := by omega
  have e1 := Zj (f := rowV) (l := R) (i := i) (z := 1) hi' rfl
  have hkk : R.length - (i + 1) < R.length - i := by omega
  have hle := Z2v R (i + 1)
  rw [Z22 R hi', List.length_append] at hle
  have htk := Z22 R hi'
  generalize R[i] = x at *
  obtain ⟨v', H', n', hap, hrow', _, _⟩ := Z8v hrow (Nat.zero_le _) x (by omega) (cfg.at 133) rfl
  have hw1 : wrapF .i64 ((i : Int) + 1) = ((i + 1 : Nat) : Int) := Z8 (by omega) (by omega)
  simp only [rowV] at e1
  simp -implicitDefEqProofs only [redoH, redo1, go_sem, a25, a26, a27, a6, hT, hil, e1, hap, hw1]
  exact ⟨R.length - (i + 1), hkk, trivial, trivial, trivial, i + 1, n', H', v', rfl, hi', rfl, rfl, rfl, by rw [htk]; exact hrow'⟩
 ·have hie : i = R.length := by omega
  subst hie
  rw [List.take_length] at hrow
  have hf := Z8w hrow
  simp -implicitDefEqProofs only [redoH, redo1, go_sem, a25, a26, a27, a6, hT, hil, Try.results133]
  exact hf
end Go.Proofs.Ytgnpnfkncbnjnaa
namespace Go.Am
open Go
section
variable {C : Cfg} {sT e : TypeId} {i : TI} {zv : AV}
end
end Go.Am
namespace Go.Proofs.Ytgnpnfkncbnjnaa
attribute [local go_sem_proc] Int.reduceEq Int.reduceNeg Nat.reduceEqDiff Nat.reduceLT Nat.reduceAdd Nat.reduceSub Nat.reduceMul Int.reduceLE Int.reduceLT Int.reduceToNat Nat.reduceLeDiff
attribute [local go_sem] Int.toNat_natCast Bool.not_true Bool.not_false
open Go Go.Am
attribute [local congr] Zf Z9 Zc
attribute [local go_sem] Go.Am.frozen Go.Am.freezeG Go.Am.freezeGs Go.Am.minmax
def gasL (g : Gs) : List Rg := g.free ++ g.bound ++ g.room
def belongsE (v : Vac) (g : Gs) : Int :=
 if checkE v = 0 then if g.free.length ≠ v.vessels.length \/ g.bound.length ≠ v.vessels.length \/ g.room.length ≠ v.getters.length then 3 else
  if firstE (fun r => spansE r 68719476736) (gasL g) = 0 then if fromB g.most 0 68719476736 = true then 0 else 2 else firstE (fun r => spansE r 68719476736) (gasL g)
 else checkE v
structure Gs.Lens (g : Gs) : Prop where
 f : g.free.length <= 9223372036854775807
 b : g.bound.length <= 9223372036854775807
 r : g.room.length <= 9223372036854775807
theorem Z6f {v : Vac} (h : checkE v = 0) : 1 <= v.vessels.length /\ v.vessels.length <= 8 /\ v.pipes.length <= 16 /\ v.pumps.length <= 8 /\ v.leaks.length <= 8 /\ v.getters.length <= 8 := by
 unfold checkE at h
 split at h
 ·exact absurd h (by decide)
 ·split at h
  ·exact absurd h (by decide)
  ·rename_i h0 h1
   unfold overB at h1
   simp only [Bool.or_eq_true, decide_eq_true_eq] at h1
   omega
theorem Z2w (v : Vac) (g : Gs) (K : Nat) (s : St) (hK : 100 < K) (hv : v.Lens K) (hg : g.Lens) : acall cfg (K + 11) 72 [vacV v, gsV g] s = .ret (.int .i64 (belongsE v g), s) := by
 refine Z2y Zja Zj9 (by first | rfl | simp -implicitDefEqProofs only [redoH, redo1, go_sem]) (by first | rfl | simp -implicitDefEqProofs only [redoH, redo1, go_sem]) (by first | rfl | simp -implicitDefEqProofs only [redoH, redo1, go_sem]) ?_
 refine Za rfl fun T hT' hA => ?_
 have a0 := hA 0 _ rfl
 have a1 := hA 1 _ rfl
 have hT : T.length = 62 := hT'
 clear hA hT'
 have hc := fun s => Zar v (K + 1) s (by omega) (hv.more 1)
 simp only [vacV] at hc
 unfold belongsE
 by_cases c0 : checkE v = 0
 ·obtain ⟨n1, n2, _, _, _, n6⟩ := Z6f c0
  rw [if_pos c0]
  have hq1 : ((g.free.length : Int) = (v.vessels.length : Int)) ↔ g.free.length = v.vessels.length := by omega
  have hq2 : ((g.bound.length : Int) = (v.vessels.length : Int)) ↔ g.bound.length = v.vessels.length := by omega
  have hq3 : ((g.room.length : Int) = (v.getters.length : Int)) ↔ g.room.length = v.getters.length := by omega
  by_cases c1 : g.free.length = v.vessels.length
  ·by_cases c2 : g.bound.length = v.vessels.length
   ·by_cases c3 : g.room.length = v.getters.length
    ·rw [if_neg (fun h => h.elim (fun h => h c1) fun h => h.elim (fun h => h c2) fun h => h c3)]
     have hco := fun s => Z8x [g.free, g.bound, g.room] (K + 8) s (by show 3 < _; omega) (by show 3 <= _; omega) (by simp; omega)
     have hfl : [g.free, g.bound, g.room].flatten = gasL g := by simp [gasL]
     have hgl : (gasL g).length <= 24 := by unfold gasL; simp; omega
     rw [hfl] at hco
     simp only [List.map_cons, List.map_nil, rowV] at hco
     generalize gasL g = L at *
     have hbs : ∀ (x y z : List AV) s, buildSliceA (cfg.at 72) true 226 3 [(0, .lst x), (1, .lst y), (2, .lst z)] s = .ret (.lst [.lst x, .lst y, .lst z], s) := fun x y z s => by simp -implicitDefEqProofs only [redoH, redo1, go_sem, Go.Am.buildSliceA]
     simp -implicitDefEqProofs only [redoH, redo1, go_sem, a0, a1, hT, hc, c0, hq1, hq2, hq3, c1, c2, c3, hco, hbs]
     simp only [Z5]
     refine Zu (fun k T s' => T.length = 62 /\ nth T 3 = some (.ptr [1] 0) /\ nth T 46 = some (.lst (L.map rgV)) /\ nth T 47 = some (.int .i64 L.length) /\ ∃ (i n : Nat) (H : Heap), nth T 48 = some (.int .i64 i) /\ i <= L.length /\ k = L.length - i /\ s' = ⟨H, n + 2, [], false, []⟩ /\ hget H [1] = some (.cells [.lst (g.free.map rgV), .lst (g.bound.map rgV), .lst (g.room.map rgV), .int .i64 g.most, .bool g.flashed] true 0) /\ firstE (fun r => spansE r 68719476736) L = firstE (fun r => spansE r 68719476736) (L.drop i)) (k := L.length) (by omega) ?_ ?_
     ·exact ⟨by simp -implicitDefEqProofs only [redoH, redo1, go_sem, hT], by simp -implicitDefEqProofs only [redoH, redo1, go_sem, hT], by simp -implicitDefEqProofs only [redoH, redo1, go_sem, hT], by simp -implicitDefEqProofs only [redoH, redo1, go_sem, hT], 0, 0, _, by simp -implicitDefEqProofs only [redoH, redo1, go_sem, hT] <;> rfl, by omega, rfl, rfl, rfl, rfl⟩
     clear a0 a1 hT T hco hc
     rintro k T s' ⟨hT, a3, a46, a47, i, n, H, a48, hi, rfl, rfl, g1, he⟩
     simp -implicitDefEqProofs only [redoH, redo1, go_sem, a3, a46, a47, a48, hT]
     by_cases hil : (i : Int) < (L.length : Int)
     ·have hi' : i < L.length := by omega
      have e1 := Zj (f := rgV) (l := L) (i := i) (z := 2) hi' rfl
      have hkk : L.length - (i + 1) < L.length - i := by omega
      rw [List.drop_eq_getElem_cons hi'] at he
      generalize L[i] = x at *
      simp only [firstE] at he
      have hsp := fun s => J4 x 68719476736 (K + 9) s
      have k1 : ∀ X, hget (([n + 2], X) :: H) [1] = hget H [1] := fun X => hc11 (by omega)
      simp only [rgV] at e1 hsp
      by_cases cx : spansE x 68719476736 = 0
      ·rw [if_pos cx] at he
       have hw1 : wrapF .i64 ((i : Int) + 1) = ((i + 1 : Nat) : Int) := Z8 (by omega) (by omega)
       simp -implicitDefEqProofs only [redoH, redo1, go_sem, a3, a46, a47, a48, hT, hil, e1, hsp, cx, hw1]
       exact ⟨L.length - (i + 1), hkk, trivial, trivial, trivial, trivial, i + 1, n + 1, _, rfl, hi', rfl, rfl, by rw [k1]; exact g1, he⟩
      ·rw [if_neg cx] at he
       rw [he, if_neg cx]
       simp -implicitDefEqProofs only [redoH, redo1, go_sem, a3, a46, a47, a48, hT, hil, e1, hsp, cx, Try.results72]
     ·have hie : i = L.length := by omega
      subst hie
      rw [List.drop_length] at he
      simp only [firstE] at he
      rw [if_pos he]
      have hfr := fun s => Jm g.most 0 68719476736 (K + 9) s
      by_cases cf : fromB g.most 0 68719476736 = true
      ·rw [if_pos cf]
       simp -implicitDefEqProofs only [redoH, redo1, go_sem, a3, a46, a47, a48, hT, hil, g1, hfr, cf, Try.results72]
      ·rw [if_neg cf]
       simp -implicitDefEqProofs only [redoH, redo1, go_sem, a3, a46, a47, a48, hT, hil, g1, hfr, cf, Try.results72]
    ·rw [if_pos (.inr (.inr c3))]
     simp -implicitDefEqProofs only [redoH, redo1, go_sem, a0, a1, hT, hc, c0, hq1, hq2, hq3, c1, c2, c3, Try.results72]
   ·rw [if_pos (.inr (.inl c2))]
    simp -implicitDefEqProofs only [redoH, redo1, go_sem, a0, a1, hT, hc, c0, hq1, hq2, hq3, c1, c2, Try.results72]
  ·rw [if_pos (.inl c1)]
   simp -implicitDefEqProofs only [redoH, redo1, go_sem, a0, a1, hT, hc, c0, hq1, hq2, hq3, c1, Try.results72]
 ·rw [if_neg c0]
  simp -implicitDefEqProofs only [redoH, redo1, go_sem, a0, a1, hT, hc, c0, Try.results72]
end Go.Proofs.Ytgnpnfkncbnjnaa
namespace Go.Proofs.Ytgnpnfkncbnjnaa
open Go Go.Am
attribute [local congr] Zf Z9 Zc
attribute [local go_sem] Go.Am.buildSliceA Go.Am.frozen Go.Am.freezeG Go.Am.freezeGs Go.Am.minmax
theorem Z0p {v : Vac} {g : Gs} (h : belongsE v g = 0) : checkE v = 0 /\ g.free.length = v.vessels.length /\ g.bound.length = v.vessels.length /\ g.room.length = v.getters.length /\ (∀ r ∈ gasL g, spansE r 68719476736 = 0) /\ fromB g.most 0 68719476736 = true := by
 unfold belongsE at h
 by_cases c0 : checkE v = 0
 ·rw [if_pos c0] at h
  split at h
  ·exact absurd h (by decide)
  ·rename_i h1
   split at h
   ·rename_i h2
    split at h
    ·rename_i h3
     exact ⟨c0, Decidable.byContradiction fun e => h1 (.inl e), Decidable.byContradiction fun e => h1 (.inr (.inl e)), Decidable.byContradiction fun e => h1 (.inr (.inr e)), fun r hr => X7 h2 r hr, h3⟩
    ·exact absurd h (by decide)
   ·rename_i h2
    exact absurd h h2
 ·rw [if_neg c0] at h
  exact absurd h c0
end Go.Proofs.Ytgnpnfkncbnjnaa
namespace Go.Proofs.Ytgnpnfkncbnjnaa
open Go Go.Am
attribute [local congr] Zf Z9 Zc
attribute [local go_sem] Go.Am.buildSliceA Go.Am.frozen Go.Am.freezeG Go.Am.freezeGs Go.Am.minmax
end Go.Proofs.Ytgnpnfkncbnjnaa
