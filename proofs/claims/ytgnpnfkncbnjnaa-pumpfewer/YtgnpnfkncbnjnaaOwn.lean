/- The statement PumpFewer holds for every input, without further conditions. -/
import Derived.Test.YtgnpnfkncbnjnaaP2
import Derived.Test.YtgnpnfkncbnjnaaChecked
import Derived.Test.YtgnpnfkncbnjnaaRows
import Derived.ProofKit
import Derived.KernelRfl
set_option linter.unusedSimpArgs false
set_option linter.unusedVariables false
set_option maxHeartbeats 4000000
set_option maxRecDepth 100000
namespace Go.Am
open Go
section
variable {C : Cfg} {K : Nat}
theorem Z94 {f : FuncId} {fn : Func} {b mm : Nm} {k : IntKind} {n x0 : Int} {k0 : IntKind} {l0 : List AV} {es : List (AV × AV)} {s : St} {v : AV} {Q : List (AV × AV) -> Prop}
  (hm : C.mode.get f = some 3) (hf : C.fn.get f = some fn) (hbm : eqb mm b = false)
  (hl0 : flats l0 = true) (hes : flatE es = true)
  (hb : hget s.H b = some (.cells [.int k0 x0, .lst l0, .nils, .map mm] true 0)) (hmm : hget s.H mm = some (.map es false))
  (hvn : ∀ r, namesV true v r = r) (hvr : ∀ mp, renV mp v = some v)
  (hd : (bodyA (C.at f) (acall C K) (around C K) (K + 1) fn [.ptr [0] 0, .int k n] ⟨[([0], .cells [.int k0 x0, .lst l0, .nils, .map [1]] true 0), ([1], .map es false)], 2, [], false, []⟩).Does fun x => x.1 = v /\ hget x.2.H [0] = some (.cells [.int k0 x0, .lst l0, .nils, .map [1]] true 0) /\ ∃ es', hget x.2.H [1] = some (.map es' false) /\ flatE es' = true /\ Q es') :
  ∃ es', Q es' /\ flatE es' = true /\ acall C (K + 1) f [.ptr b 0, .int k n] s = .ret (v, (s.put b (.cells [.int k0 x0, .lst l0, .nils, .map mm] true 0)).put mm (.map es' false)) := by
 obtain ⟨⟨v1, s1⟩, e1, rfl, e2, es', e3, hes', hQ⟩ := hd
 simp only at e2 e3
 refine ⟨es', hQ, hes', ?_⟩
 rw [Zu]
 unfold enterA
 rw [hf]; simp only
 rw [hm]; simp only
 unfold handA
 have hl0' : ∀ j, lendM (j + 3) [b] [] [] s = .ret (([b, mm], [.cells [.int k0 x0, .lst l0, .nils, .map mm] true 0, .map es false]), s) := fun j => by
  rw [Xb]
  have h0 : memNm b [] = false := rfl
  rw [h0]; simp only
  rw [Z7, Zx, hb]
  show lendM (j + 2) (namesV false (.int k0 x0) (namesV false (.lst l0) (namesV false .nils [mm]))) [b] _ s = _
  show lendM (j + 2) [mm] [b] _ s = _
  rw [Xb]
  have : memNm mm [b] = false := by simp only [memNm, hbm]
  rw [this]; simp only
  rw [Z7, Zx, hmm]
  show lendM (j + 1) [] _ _ s = _
  rw [Xa]
  rfl
 have hl : lendM 200 (namesVs false [.ptr b 0, .int k n] []) [] [] s = .ret (([b, mm], [.cells [.int k0 x0, .lst l0, .nils, .map mm] true 0, .map es false]), s) := hl0' 197
 rw [Z7, hl]
 have hnd : nodupN [b, mm] = true := by
  have : memNm b [mm] = false := by
   simp only [memNm]
   cases h : eqb b mm with
   | false => rfl
   | true => rw [Xd] at h; subst h; rw [Ze] at hbm; cases hbm
  simp only [nodupN, this]; rfl
 have hz : zipN [b, mm] (namesFrom [] 0 [b, mm].length) = [(b, [0]), (mm, [1])] := rfl
 have hra : renVs [(b, [0]), (mm, [1])] [.ptr b 0, .int k n] = some [.ptr [0] 0, .int k n] := by simp only [renVs, renV, lookN, Ze]
 have hro : renV [(b, [0]), (mm, [1])] .nils = some .nils := rfl
 have hrb : renBs [(b, [0]), (mm, [1])] [.cells [.int k0 x0, .lst l0, .nils, .map mm] true 0, .map es false] = some [.cells [.int k0 x0, .lst l0, .nils, .map [1]] true 0, .map es false] := by
  simp only [renBs, renB, renVs, hro, renV, hl0, lookN, hbm, Ze, hes]
 have hcalm : calm [.cells [.int k0 x0, .lst l0, .nils, .map mm] true 0, .map es false] = true := rfl
 simp only [Tr.bind_ret, hnd, hz, hra, hrb, hcalm]
 have hst : (⟨zipB (namesFrom [] 0 [b, mm].length) [.cells [.int k0 x0, .lst l0, .nils, .map [1]] true 0, .map es false], [b, mm].length, [], false, []⟩ : St) = ⟨[([0], .cells [.int k0 x0, .lst l0, .nils, .map [1]] true 0), ([1], .map es false)], 2, [], false, []⟩ := rfl
 rw [hst, e1]
 have ho1 : oneR false (.ret (v1, s1)) = some (v1, s1.H) := rfl
 have hy : getAll s1.H (namesFrom [] 0 [b, mm].length) = some [.cells [.int k0 x0, .lst l0, .nils, .map [1]] true 0, .map es' false] := by
  show getAll s1.H [[0], [1]] = _
  simp only [getAll, e2, e3]
 rw [ho1]; simp only
 rw [hy]; simp only
 rw [hvn]
 have hb' : namesBs true [.cells [.int k0 x0, .lst l0, .nils, .map [1]] true 0, .map es' false] [] = [[1]] := rfl
 rw [hb']
 have hre0 : ∀ j, reachL s1.H (j + 2) [[1]] [[0], [1]] [] = some ([[0], [1]], []) := fun j => by
  rw [Y0]
  have h0 : memNm [1] [[0], [1]] = true := rfl
  rw [h0]
  exact X9 ..
 have hre : reachL s1.H 200 [[1]] (namesFrom [] 0 [b, mm].length) [] = some ([[0], [1]], []) := hre0 198
 rw [hre]; simp only
 have hn0 : nodupN [[0], [1]] = true := rfl
 rw [hn0]; simp only
 have hz2 : zipN [[0], [1]] ([b, mm] ++ namesFrom s.pre s.n ([] : List Blk).length) = [([0], b), ([1], mm)] := rfl
 rw [Z7]
 show (Tr.ret ((s.pre, s.n), s)).bind _ = _
 rw [Tr.bind_ret]
 rw [hz2]
 have hlk : lookN [1] [([0], b), ([1], mm)] = some mm := rfl
 have hrb' : renBs [([0], b), ([1], mm)] [.cells [.int k0 x0, .lst l0, .nils, .map [1]] true 0, .map es' false] = some [.cells [.int k0 x0, .lst l0, .nils, .map mm] true 0, .map es' false] := by
  simp only [renBs, renB, renVs, renV, hl0, hlk, hes']
 have hmm' : hget (s.put b (.cells [.int k0 x0, .lst l0, .nils, .map mm] true 0)).H mm = some (.map es false) := by
  show hget (hset s.H b _) mm = _
  rw [Z0 _ _ (by rintro rfl; rw [Ze] at hbm; cases hbm)]; exact hmm
 have hz0 : ∀ mp, renBs mp [] = some [] := fun _ => rfl
 simp only [hvr, hrb', hz0, putAll, newAll, Z7, Xl, hb, hmm', Tr.bind_ret, Y4]
end
noncomputable def dropTok (l : List AV) (b : Nm) (H : Heap) : Heap := match l with | [] => H | _ :: _ => hdel H b
def tokJ (l : List AV) (b : Nm) (j : Delta) : Delta := match l with | [] => j | _ :: _ => (b, none) :: j
theorem Zg (l : List AV) {b c : Nm} (H : Heap) (h : b ≠ c) : hget (dropTok l b H) c = hget H c := by
 cases l with
 | nil => rfl
 | cons a r => exact Zc H h
section
variable {C : Cfg} {sT e : TypeId} {i : TI} {zv : AV}
theorem Xc (hd : C.desc sT = some (.slice e)) (hi : C.ty.get e = some i) (hz : i.zero = some zv) (hzl : Nat.beq zv.cells.length i.size = true) (h1 : Nat.ble 1 i.size = true) (hb : Nat.ble 1 i.bytes = true)
  {b : Nm} {l : List AV} {x : AV} {H : Heap} {n z : Nat} {p : Nm} {jr : Bool} {j : Delta} (hzz : i.size = z) (hx : Nat.beq x.cells.length i.size = true) (hroom : (l.length + 1) * i.bytes <= 140737488355328) (ht : l ≠ [] -> hget H b = some (.tok l.length z)) :
  appendA C true sT sT (ownV b l) (.lst [x]) ⟨H, n, p, jr, j⟩ = .ret (ownV (p ++ [n]) (l ++ [x]), ⟨(p ++ [n], .tok (l.length + 1) z) :: dropTok l b H, n + 1, p, jr, match jr with | true => (p ++ [n], some (.tok (l.length + 1) z)) :: tokJ l b j | false => j⟩) := by
 subst hzz
 unfold appendA
 have hsrc : srcF i zv (.slice e) (.lst [x]) = M.ret (1, [x]) := by
  show (match okZ i.size [x] with | true => M.ret (([x] : List AV).length, [x]) | false => M.fail) = _
  simp only [okZ, hx]; rfl
 rw [hd]; simp only
 rw [hi]; simp only
 rw [hz]; simp only
 rw [hzl]; simp only
 rw [Z4c]; simp only
 rw [hsrc, Z7, Y4, Tr.bind_ret]
 have hr : roomy l.length 1 i.bytes = true := by
  unfold roomy
  rw [Nat.ble_eq_true_of_le hroom, hb]
 unfold appendF
 cases l with
 | nil =>
  have hr0 : roomy 0 1 i.bytes = true := hr
  simp only [h1, ownV, hr0]
  cases jr <;> rfl
 | cons a r =>
  have hg := ht (by simp)
  simp only [h1, ownV, Z7, Zx, hg, Tr.bind_ret, Nat.beq_refl, hr, Z3j]
  unfold growF
  simp only [Z7, Xm, Tr.bind_ret, Y4, St.del, St.new, St.name]
  have e1 : ((a :: r) ++ [x]).length = (a :: r).length + 1 := by simp
  rw [e1]
  cases jr <;> simp only [ownV, dropTok, tokJ, St.note, List.cons_append, List.length_cons, List.length_append, List.length_nil]
end
end Go.Am
namespace Go.Proofs.Ytgnpnfkncbnjnaa
attribute [local go_sem_proc] Int.reduceEq Int.reduceNeg Nat.reduceEqDiff Nat.reduceLT Nat.reduceAdd Nat.reduceSub Nat.reduceMul Int.reduceLE Int.reduceLT Int.reduceToNat Nat.reduceLeDiff
attribute [local go_sem] Int.toNat_natCast Bool.not_true Bool.not_false
open Go Go.Am
attribute [local congr] Z5 Z2 Z3
attribute [local go_sem] Go.Am.buildSliceA Go.Am.frozen Go.Am.freezeG Go.Am.freezeGs Go.Am.minmax
theorem Zbm : cfg.desc 190 = some (.slice 158) := by kernel_rfl
theorem Z4l (h : Hnt) (hh : huntE h = 0) (K : Nat) (hK : 13 < K) (ho : h.Ok K) :
  (bodyA (cfg.at 102) (acall cfg (K + 2)) (around cfg (K + 2)) (K + 2 + 1) Try.f102 [hntV h] s0).Does fun x => x.1 = .ptr [2] 0 /\ ∃ tb, hget x.2.H [2] = some (.cells [.int .i64 h.suspects, .lst (h.trials.map triV), ownV [tb + 3] ((setsOf h).map fun t => uV t.1), .map [1]] true 0) /\
   (((setsOf h).map fun t => uV t.1) ≠ [] -> hget x.2.H [tb + 3] = some (.tok ((setsOf h).map fun t => uV t.1).length 1)) /\ hget x.2.H [1] = some (.map [] false) := by
 obtain ⟨hs1, hs2, hlen, htr⟩ := Z21 hh
 refine Zp rfl fun T hT' hA => ?_
 have a0 := hA 0 _ rfl
 have hT : T.length = 39 := hT'
 clear hA hT'
 simp -implicitDefEqProofs only [go_sem, a0, hT]
 simp only [Za]
 refine X3 (fun k T s' => T.length = 39 /\ nth T 1 = some (.ptr [0] 0) /\ nth T 3 = some (.ptr [2] 0) /\ nth T 13 = some (.lst (h.trials.map triV)) /\ nth T 14 = some (.int .i64 h.trials.length) /\ ∃ (i n tb : Nat) (H : Heap), nth T 15 = some (.int .i64 i) /\ i <= h.trials.length /\ k = h.trials.length - i /\ s' = ⟨H, n + 3, [], false, []⟩ /\
  hget H [0] = some (.cells [.int .i64 h.suspects, .lst (h.trials.map triV)] true 0) /\ hget H [1] = some (.map [] false) /\ hget H [2] = some (.cells [.int .i64 h.suspects, .lst (h.trials.map triV), ownV [tb + 3] (((setsOf h).take i).map fun t => uV t.1), .map [1]] true 0) /\
  ((((setsOf h).take i).map fun t => uV t.1) ≠ [] -> tb < n /\ hget H [tb + 3] = some (.tok (((setsOf h).take i).map fun t => uV t.1).length 1))) (k := h.trials.length) (by omega) ?_ ?_
 ·exact ⟨by simp -implicitDefEqProofs only [go_sem, hT], by simp -implicitDefEqProofs only [go_sem, hT], by simp -implicitDefEqProofs only [go_sem, hT], by simp -implicitDefEqProofs only [go_sem, hT], by simp -implicitDefEqProofs only [go_sem, hT], 0, 0, 0, _, by simp -implicitDefEqProofs only [go_sem, hT]; rfl, by omega, rfl, rfl, rfl, rfl, rfl, fun hx => absurd rfl hx⟩
 clear a0 hT
 rintro k T s' ⟨hT, a1, a3, a13, a14, i, n, tb, H, a15, hi, rfl, rfl, g0, g1, g2, ht⟩
 simp -implicitDefEqProofs only [go_sem, a14, a15, hT]
 simp only [Za]
 refine Js (fun hlo => ?_) (fun hlo => ?_)
 ·have hi' : i < h.trials.length := by omega
  have his : i < (setsOf h).length := by simp [setsOf]; omega
  have hk2 : h.trials.length - (i + 1) < h.trials.length - i := by omega
  have hel := Yp (f := triV) (z := 2) hi' rfl
  have hc := fun s => Xp h.suspects h.trials[i].of K s (by have := (ho.2 _ (List.getElem_mem hi')).1; omega) (ho.2 _ (List.getElem_mem hi')).2 hs1 hs2
  rw [(htr _ (List.getElem_mem hi')).1] at hc
  simp only [if_true] at hc
  have hw1 : wrapF .i64 ((i : Int) + 1) = ((i + 1 : Nat) : Int) := by rw [Zk (by omega) (by omega)]; simp
  have hsi : (setsOf h)[i] = (setN 0 h.trials[i].of, h.trials[i].cost) := by simp [setsOf]
  have hrow : (((setsOf h).take (i + 1)).map fun t => uV t.1) = (((setsOf h).take i).map fun t => uV t.1) ++ [.int .u64 (setN 0 h.trials[i].of : Nat)] := by
   rw [List.take_succ_eq_append_getElem his, List.map_append, hsi]; rfl
  have hrl : (((setsOf h).take i).map fun t => uV t.1).length = i := by simp; omega
  generalize ((setsOf h).take i).map (fun t => uV t.1) = row at *
  have hap := Xc (C := cfg.at 102) (sT := 190) (b := [tb + 3]) (l := row) (x := .int .u64 (setN 0 h.trials[i].of : Nat)) (H := ([n + 3], .cells [.lst (h.trials[i].of.map iV), .int .i64 h.trials[i].cost] true 0) :: H) (n := n + 3 + 1) (p := []) (jr := false) (j := []) (z := 1) Zbm Zba rfl rfl rfl rfl rfl rfl (by rw [hrl]; show (i + 1) * 8 <= _; omega) (fun hx => by
   have h0 := ht hx
   have hne : ([n + 3] = [tb + 3]) = False := by
    simp only [List.cons.injEq, and_true, eq_iff_iff, iff_false]; omega
   simp -implicitDefEqProofs only [go_sem, hne]; exact h0.2)
  have hrow2 : row ≠ [] -> ([n + 3] = [tb + 3]) = False := fun hx => by
   have h0 := ht hx
   simp only [List.cons.injEq, and_true, eq_iff_iff, iff_false]; omega
  have q0 := (Zg row (b := [tb + 3]) (c := [0]) (([n + 3], .cells [.lst (h.trials[i].of.map iV), .int .i64 h.trials[i].cost] true 0) :: H) (by simp)).trans (by simp -implicitDefEqProofs only [go_sem, g0]  : _ = some (Blk.cells [.int .i64 h.suspects, .lst (h.trials.map triV)] true 0))
  have q1 := (Zg row (b := [tb + 3]) (c := [1]) (([n + 3], .cells [.lst (h.trials[i].of.map iV), .int .i64 h.trials[i].cost] true 0) :: H) (by simp)).trans (by simp -implicitDefEqProofs only [go_sem, g1]  : _ = some (Blk.map [] false))
  have q2 := (Zg row (b := [tb + 3]) (c := [2]) (([n + 3], .cells [.lst (h.trials[i].of.map iV), .int .i64 h.trials[i].cost] true 0) :: H) (by simp)).trans (by simp -implicitDefEqProofs only [go_sem, g2]  : _ = some (Blk.cells [.int .i64 h.suspects, .lst (h.trials.map triV), ownV [tb + 3] row, .map [1]] true 0))
  generalize dropTok row [tb + 3] (([n + 3], .cells [.lst (h.trials[i].of.map iV), .int .i64 h.trials[i].cost] true 0) :: H) = H1 at *
  have v0 := fun Z => (Z0 H1 (i := [2]) (j := [0]) Z (by decide)).trans q0
  have v1 := fun Z => (Z0 H1 (i := [2]) (j := [1]) Z (by decide)).trans q1
  have v2 := fun Z => Z4 Z q2
  have hown : ∀ b, ownV b (row ++ [.int .u64 (setN 0 h.trials[i].of : Nat)]) = .own b (row ++ [.int .u64 (setN 0 h.trials[i].of : Nat)]) := fun b => by cases row <;> rfl
  rw [hown] at hap
  simp -implicitDefEqProofs only [go_sem, a1, a3, a13, a14, a15, hT, hel, hc, g0, g2, hap, q2, hw1]
  refine ⟨h.trials.length - (i + 1), hk2, trivial, trivial, trivial, trivial, trivial, i + 1, n + 2, n + 1, _, rfl, hi', rfl, rfl, ?_, ?_, ?_, ?_⟩
  ·simp -implicitDefEqProofs only [go_sem, v0]
  ·simp -implicitDefEqProofs only [go_sem, v1]
  ·rw [hrow, hown]; simp -implicitDefEqProofs only [go_sem, v2]
  ·intro _
   refine ⟨by omega, ?_⟩
   have e0 : ((setsOf h).take (i + 1)).length = row.length + 1 := by rw [hrl, List.length_take]; omega
   rw [e0]
   have e1 : [n + 1 + 3] = [n + 3 + 1] := rfl
   rw [e1, Z1v, if_pos rfl]
 ·have hil : i = h.trials.length := by omega
  subst hil
  have hsl : (setsOf h).length = h.trials.length := by simp [setsOf]
  rw [<- hsl, List.take_length] at g2 ht
  simp -implicitDefEqProofs only [go_sem, a3, hT, Try.results102]
  exact ⟨trivial, tb, g2, fun hx => by have := (ht hx).2; rw [List.length_map] at this; exact this, g1⟩
def rowS (h : Hnt) : List AV := (setsOf h).map fun t => uV t.1
theorem Zf {a b : Nat} (h : a ≠ b) : ([a] : Nm) ≠ [b] := by simp only [ne_eq, List.cons.injEq, and_true]; exact h
def Hunter (h : Hnt) (H : Heap) (b mm : Nm) (ov : AV) : Prop := eqb mm b = false /\ ∃ es, hget H b = some (.cells [.int .i64 h.suspects, .lst (h.trials.map triV), ov, .map mm] true 0) /\ hget H mm = some (.map es false) /\ Memo (setsOf h) es
def OvOk (h : Hnt) (b mm : Nm) (ov : AV) : Prop := ov = .lst (rowS h) \/ (∃ t, ov = .own t (rowS h) /\ eqb t b = false /\ eqb t mm = false) \/ (ov = .nils /\ h.trials = [])
theorem Z4m (h : Hnt) (hh : huntE h = 0) (K : Nat) (hK : 13 < K) (ho : h.Ok K) (H : Heap) (n : Nat) :
  ∃ H' d mm ov, acall cfg (K + 3) 102 [hntV h] ⟨H, n, [], false, []⟩ = .ret (.ptr [n] 0, ⟨H', n + 2 + d, [], false, []⟩) /\ Hunter h H' [n] [mm] ov /\ OvOk h [n] [mm] ov /\ n < mm /\ ∀ c, c < n -> hget H' [c] = hget H [c] := by
 have hb := Z4l h hh K hK ho
 have hre : renVs [] [hntV h] = some [hntV h] := by simp only [renVs, renV, hntV, Z2t]
 by_cases ht : h.trials = []
 ·have hs0 : (setsOf h) = [] := by simp [setsOf, ht]
  have hb2 : (bodyA (cfg.at 102) (acall cfg (K + 2)) (around cfg (K + 2)) (K + 2 + 1) Try.f102 [hntV h] s0).Does fun x => ∃ b mm, x.1 = .ptr b 0 /\ eqb mm b = false /\ hget x.2.H b = some (.cells [.int .i64 h.suspects, .lst (h.trials.map triV), .nils, .map mm] true 0) /\ hget x.2.H mm = some (.map [] false) := by
   refine hb.mono ?_
   rintro x ⟨e1, tb, e2, _, e3⟩
   rw [hs0] at e2
   exact ⟨[2], [1], e1, rfl, e2, e3⟩
  have hc := Z92 (s := ⟨H, n, [], false, []⟩) Z8s Z8r rfl hre (Z2t _) rfl hb2
  refine ⟨_, 0, n + 1, .nils, hc, ⟨Yy (by simp), [], ?_, ?_, fun e he => by cases he⟩, .inr (.inr ⟨rfl, ht⟩), by omega, ?_⟩
  ·exact (Z1 _ _ (Zf (by show n + 1 ≠ n; omega))).trans (Z6 ..)
  ·exact Z6 ..
  ·intro c hc
   exact (Z1 _ _ (Zf (by show n + 1 ≠ c; omega))).trans (Z1 _ _ (Zf (by show n ≠ c; omega)))
 ·have hs0 : rowS h ≠ [] := by
   simp only [rowS, setsOf, List.map_map, ne_eq, List.map_eq_nil_iff]; exact ht
  have hown : ∀ b, ownV b (rowS h) = .own b (rowS h) := fun b => by
   cases hr : rowS h with
   | nil => exact absurd hr hs0
   | cons a r => rfl
  have hb2 : (bodyA (cfg.at 102) (acall cfg (K + 2)) (around cfg (K + 2)) (K + 2 + 1) Try.f102 [hntV h] s0).Does fun x => ∃ b t mm, x.1 = .ptr b 0 /\ eqb t b = false /\ eqb mm b = false /\ eqb mm t = false /\ hget x.2.H b = some (.cells [.int .i64 h.suspects, .lst (h.trials.map triV), .own t (rowS h), .map mm] true 0) /\ hget x.2.H t = some (.tok (rowS h).length 1) /\ hget x.2.H mm = some (.map [] false) := by
   refine hb.mono ?_
   rintro x ⟨e1, tb, e2, e4, e3⟩
   have e2' := e2
   change hget x.2.H [2] = some (.cells [.int .i64 h.suspects, .lst (h.trials.map triV), ownV [tb + 3] (rowS h), .map [1]] true 0) at e2'
   rw [hown] at e2'
   exact ⟨[2], [tb + 3], [1], e1, Yy (by simp), rfl, Yy (by simp), e2', e4 hs0, e3⟩
  have hc := Z5i (s := ⟨H, n, [], false, []⟩) Z8s Z8r rfl hre (Z2t _) (Zl (f := fun t : Nat × Int => uV t.1) (fun _ => rfl) _) rfl hb2
  refine ⟨_, 1, n + 2, .own [n + 1] (rowS h), hc, ⟨Yy (by simp), [], ?_, ?_, fun e he => by cases he⟩, .inr (.inl ⟨[n + 1], rfl, Yy (by simp), Yy (by simp)⟩), by omega, ?_⟩
  ·exact (Z1 _ _ (Zf (by show n + 1 + 1 ≠ n; omega))).trans ((Z1 _ _ (Zf (by show n + 1 ≠ n; omega))).trans (Z6 ..))
  ·exact Z6 ..
  ·intro c hc
   exact (Z1 _ _ (Zf (by show n + 1 + 1 ≠ c; omega))).trans ((Z1 _ _ (Zf (by show n + 1 ≠ c; omega))).trans (Z1 _ _ (Zf (by show n ≠ c; omega))))
theorem Zad (h : Hnt) (hh : huntE h = 0) (hn : h.trials = []) (m : Nat) (h1 : 1 <= m) (h2 : m < 4096) (K : Nat) (s : St) (b mm : Nm) (es : List (AV × AV)) (hbm : eqb mm b = false)
  (hb : hget s.H b = some (.cells [.int .i64 h.suspects, .lst (h.trials.map triV), .nils, .map mm] true 0)) (hmm : hget s.H mm = some (.map es false)) (hme : Memo (setsOf h) es) :
  ∃ es', Memo (setsOf h) es' /\ flatE es' = true /\ acall cfg (K + 4) 103 [.ptr b 0, .int .u64 m] s = .ret (chV (bestS (setsOf h) m), (s.put b (.cells [.int .i64 h.suspects, .lst (h.trials.map triV), .nils, .map mm] true 0)).put mm (.map es' false)) := by
 refine Z94 Z8u Z8t hbm (Z2t _) (Yk hme) hb hmm (fun _ => rfl) (fun _ => rfl) ?_
 refine Zp rfl fun T hT' hA => ?_
 have a0 := hA 0 _ rfl
 have a1 := hA 1 _ rfl
 have hT : T.length = 102 := hT'
 clear hA hT'
 have hc := fun s => Z4i m (K + 1) s
 have hbs := Z0b (setsOf h) m h2
 have hs0 : setsOf h = [] := by simp [setsOf, hn]
 simp -implicitDefEqProofs only [go_sem, a1, hT, hc]
 by_cases c1 : onesN m = 1
 ·rw [if_pos ((Je h1 h2).1 c1)] at hbs
  simp -implicitDefEqProofs only [go_sem, hT, c1, Try.results103]
  exact ⟨by rw [hbs]; rfl, trivial, es, rfl, Yk hme, hme⟩
 ·rw [if_neg (fun c => c1 ((Je h1 h2).2 c))] at hbs
  rcases Z1z (setsOf h) m es 0 hme with hf | ⟨j, hf⟩
  ·have hlk := fun (H : Heap) (n : Nat) (hg : hget H [1] = some (.map es false)) => Z4j (b := [1]) (s := ⟨H, n, [], false, []⟩) hg hf
   simp -implicitDefEqProofs only [go_sem, a0, a1, hT, c1, hlk]
   simp only [Za]
   refine X3 (fun k T s' => T.length = 102 /\ nth T 0 = some (.ptr [0] 0) /\ nth T 1 = some (.int .u64 m) /\ nth T 4 = some (.ptr [2] 0) /\ nth T 7 = some (.ptr [4] 0) /\ nth T 34 = some .nils /\ nth T 35 = some (.int .i64 0) /\ nth T 36 = some (.int .i64 0) /\ k = 0 /\ ∃ H n, s' = ⟨H, n + 5, [], false, []⟩ /\
    hget H [0] = some (.cells [.int .i64 h.suspects, .lst (h.trials.map triV), .nils, .map [1]] true 0) /\ hget H [1] = some (.map es false) /\ hget H [2] = some (.cells [.int .i64 0, .int .i64 0] true 0) /\ hget H [4] = some (.cells [.int .i64 (-1), .int .i64 (-1)] true 0)) (k := 0) (by omega) ?_ ?_
   ·exact ⟨by simp -implicitDefEqProofs only [go_sem, hT], by simp -implicitDefEqProofs only [go_sem, a0], by simp -implicitDefEqProofs only [go_sem, a1], by simp -implicitDefEqProofs only [go_sem, hT], by simp -implicitDefEqProofs only [go_sem, hT], by simp -implicitDefEqProofs only [go_sem, hT], by simp -implicitDefEqProofs only [go_sem, hT], by simp -implicitDefEqProofs only [go_sem, hT], rfl, _, 0, rfl, rfl, rfl, rfl, rfl⟩
   clear a0 a1 hT hlk
   rintro k T s' ⟨hT, a0, a1, a4, a7, a34, a35, a36, rfl, H, n, rfl, g0, g1, g2, g4⟩
   obtain ⟨es', hme', hu⟩ := Z20 h2 hme
   have he : bestS (setsOf h) m = (-1, -1) := by rw [hbs, hs0]; rfl
   rw [he] at hu ⊢
   have hu' := hu [1] ⟨H, 0, [n + 5, 6], true, []⟩ g1
   simp only [chV] at hu'
   simp -implicitDefEqProofs only [go_sem, a35, a36, hT]
   simp only [Za]
   refine J1 [6] [6] (by kernel_rfl) ?_
   simp -implicitDefEqProofs only [redoH, redo1, go_sem, a0, a1, a7, hT, g0, g1, g4, hu', Try.results103]
   have v0 := (Z0 H (i := [1]) (j := [0]) (.map es' false) (by decide)).trans g0
   have v1 := Z4 (.map es' false) g1
   have v2 := (Z0 H (i := [1]) (j := [2]) (.map es' false) (by decide)).trans g2
   have v4 := (Z0 H (i := [1]) (j := [4]) (.map es' false) (by decide)).trans g4
   generalize hset H [1] (.map es' false) = H' at *
   have z0 := fun Z => (Z0 H' (i := [2]) (j := [0]) Z (by decide)).trans v0
   have z1 := fun Z => (Z0 H' (i := [2]) (j := [1]) Z (by decide)).trans v1
   have z2 := fun Z => Z4 Z v2
   simp -implicitDefEqProofs only [go_sem, a4, hT, v2, v4, z0, z1, z2]
   exact ⟨rfl, trivial, es', rfl, Yk hme', hme'⟩
  ·have hlk := fun (H : Heap) (n : Nat) (hg : hget H [1] = some (.map es false)) => Z4k (b := [1]) (s := ⟨H, n, [], false, []⟩) hg hf
   simp only [chV] at hlk
   simp -implicitDefEqProofs only [go_sem, a0, a1, hT, c1, hlk, Try.results103]
   exact ⟨rfl, trivial, es, rfl, Yk hme, hme⟩
theorem Z5j (h : Hnt) (hh : huntE h = 0) (m : Nat) (h1 : 1 <= m) (h2 : m < 4096) (K : Nat) (hK : 5000 < K) (H : Heap) (n : Nat) (b mm : Nm) (ov : AV) (hu : Hunter h H b mm ov) (ho : OvOk h b mm ov) :
  ∃ H' ov', acall cfg K 103 [.ptr b 0, .int .u64 m] ⟨H, n, [], false, []⟩ = .ret (chV (bestS (setsOf h) m), ⟨H', n, [], false, []⟩) /\ Hunter h H' b mm ov' /\ (ov' = .lst (rowS h) \/ (ov' = .nils /\ h.trials = [])) /\ ∀ c, c ≠ b -> c ≠ mm -> hget H' c = hget H c := by
 obtain ⟨hbm, es, hb, hmm, hme⟩ := hu
 have hne : b ≠ mm := by rintro rfl; rw [Ze] at hbm; cases hbm
 have fin : ∀ (ov' : AV) (es' : List (AV × AV)), Memo (setsOf h) es' ->
   Hunter h (hset (hset H b (.cells [.int .i64 h.suspects, .lst (h.trials.map triV), ov', .map mm] true 0)) mm (.map es' false)) b mm ov' /\ ∀ c, c ≠ b -> c ≠ mm -> hget (hset (hset H b (.cells [.int .i64 h.suspects, .lst (h.trials.map triV), ov', .map mm] true 0)) mm (.map es' false)) c = hget H c := by
  intro ov' es' hm'
  refine ⟨⟨hbm, es', ?_, ?_, hm'⟩, ?_⟩
  ·rw [Z0 _ _ (Ne.symm hne)]; exact Z4 _ hb
  ·exact Z4 (x := .map es false) _ (by rw [Z0 _ _ hne]; exact hmm)
  ·intro c c1 c2
   rw [Z0 _ _ (Ne.symm c2), Z0 _ _ (Ne.symm c1)]
 have row : ∀ (ho : ov = .lst (rowS h) \/ ∃ t, ov = .own t (rowS h) /\ eqb t b = false /\ eqb t mm = false), ∃ H' ov', acall cfg K 103 [.ptr b 0, .int .u64 m] ⟨H, n, [], false, []⟩ = .ret (chV (bestS (setsOf h) m), ⟨H', n, [], false, []⟩) /\ Hunter h H' b mm ov' /\ (ov' = .lst (rowS h) \/ (ov' = .nils /\ h.trials = [])) /\ ∀ c, c ≠ b -> c ≠ mm -> hget H' c = hget H c := by
  intro ho
  obtain ⟨es', hm', _, hc⟩ := Z91 h hh (Z21 hh).2.2.1 m h1 h2 (K - m - 1) ⟨H, n, [], false, []⟩ b mm ov es (by omega) hbm ho hb hmm hme
  rw [show K - m - 1 + m + 1 = K by omega] at hc
  obtain ⟨f1, f2⟩ := fin (.lst (rowS h)) es' hm'
  exact ⟨_, _, hc, f1, .inl rfl, f2⟩
 rcases ho with ho | ho | ⟨rfl, ht⟩
 ·exact row (.inl ho)
 ·exact row (.inr ho)
 ·obtain ⟨es', hm', _, hc⟩ := Zad h hh ht m h1 h2 (K - 4) ⟨H, n, [], false, []⟩ b mm es hbm hb hmm hme
  rw [show K - 4 + 4 = K by omega] at hc
  obtain ⟨f1, f2⟩ := fin .nils es' hm'
  exact ⟨_, _, hc, f1, .inr ⟨rfl, ht⟩, f2⟩
end Go.Proofs.Ytgnpnfkncbnjnaa
namespace Go.Proofs.Ytgnpnfkncbnjnaa
attribute [local go_sem_proc] Int.reduceEq Int.reduceNeg Nat.reduceEqDiff Nat.reduceLT Nat.reduceAdd Nat.reduceSub Nat.reduceMul Int.reduceLE Int.reduceLT Int.reduceToNat Nat.reduceLeDiff
attribute [local go_sem] Int.toNat_natCast Bool.not_true Bool.not_false
open Go Go.Am
attribute [local congr] Z5 Z2 Z3
attribute [local go_sem] Go.Am.buildSliceA Go.Am.frozen Go.Am.freezeG Go.Am.freezeGs Go.Am.minmax
def worstT (h : Hnt) (l : List Int) : Int × Int × Int :=
 if huntE h = 0 then
  if l.length = 0 then (0, 0, 6) else
  if suspE h.suspects (-1) l = 0 then
   if (bestS (setsOf h) (setN 0 l)).1 < 0 then (0, 0, 15) else ((bestS (setsOf h) (setN 0 l)).1, (bestS (setsOf h) (setN 0 l)).2, 0)
  else (0, 0, suspE h.suspects (-1) l)
 else (0, 0, huntE h)
def t3V (x : Int × Int × Int) : AV := .tuple [.int .i64 x.1, .int .i64 x.2.1, .int .i64 x.2.2]
theorem Z95 : ∀ (l : List Int) (m : Nat), m <= setN m l
 | [], m => Nat.le_refl m
 | n :: l, m => Nat.le_trans Nat.left_le_or (Z95 l (m ||| 2 ^ n.toNat))
theorem Zbn (l : List Int) (hl : l.length ≠ 0) : 1 <= setN 0 l := by
 cases l with
 | nil => exact absurd rfl hl
 | cons n l =>
  have h1 : (0 ||| 2 ^ n.toNat) <= setN 0 (n :: l) := Z95 l _
  have h2 : 2 ^ n.toNat <= 0 ||| 2 ^ n.toNat := Nat.right_le_or
  have h3 : 1 <= 2 ^ n.toNat := Nat.one_le_two_pow
  exact Nat.le_trans h3 (Nat.le_trans h2 h1)
theorem Z2x (many : Int) : ∀ (l : List Int) (last : Int) (m : Nat), m < 2 ^ many.toNat -> suspE many last l = 0 -> setN m l < 2 ^ many.toNat
 | [], _, m, h, _ => h
 | n :: l, last, m, h, he => by
  simp only [suspE] at he
  by_cases c1 : fromB n 0 (many - 1) = true
  ·rw [if_pos c1] at he
   unfold fromB at c1
   have c1' := of_decide_eq_true c1
   by_cases c2 : n <= last
   ·rw [if_pos c2] at he; cases he
   ·rw [if_neg c2] at he
    refine Z2x many l n _ (Nat.or_lt_two_pow h ?_) he
    exact Nat.pow_lt_pow_right (by decide) (by omega)
  ·rw [if_neg c1] at he; cases he
theorem Z0n (h : Hnt) (l : List Int) (K : Nat) (s : St) (hK : 6000 < K) (ho : h.Ok K) (hl : l.length < K) (hl2 : l.length <= 1000000000000) :
  acall cfg (K + 10) 41 [hntV h, .lst (l.map iV)] s = .ret (t3V (worstT h l), s) := by
 refine Z5b Zao Zan (by first | rfl | simp -implicitDefEqProofs only [redoH, redo1, go_sem]) (by first | rfl | simp -implicitDefEqProofs only [go_sem]) (by first | rfl | simp -implicitDefEqProofs only [redoH, redo1, go_sem]) ?_
 refine Zp rfl fun T hT' hA => ?_
 have a0 := hA 0 _ rfl
 have a1 := hA 1 _ rfl
 have hT : T.length = 39 := hT'
 clear hA hT'
 have hc1 := fun s => Z27 h (K + 6) s (by omega) ⟨ho.1, fun t ht => ⟨by have := (ho.2 t ht).1; omega, (ho.2 t ht).2⟩⟩
 simp only [hntV] at hc1
 unfold worstT
 by_cases c1 : huntE h = 0
 ·obtain ⟨hs1, hs2, hlen, htr⟩ := Z21 c1
  rw [if_pos c1]
  simp -implicitDefEqProofs only [go_sem, a0, a1, hT, hc1, c1]
  by_cases c2 : l.length = 0
  ·rw [if_pos c2]
   have c2' : (l.length : Int) = 0 := by omega
   simp -implicitDefEqProofs only [go_sem, hT, c2', Try.results41, t3V]
  ·rw [if_neg c2]
   have c2' : ¬ (l.length : Int) = 0 := by omega
   have hc2 := fun s => Xp h.suspects l (K + 7) s (by omega) hl2 hs1 hs2
   by_cases c3 : suspE h.suspects (-1) l = 0
   ·rw [if_pos c3]
    have hm1 := Zbn l c2
    have hm2 := Zap h.suspects hs2 l (-1) 0 (by omega) c3
    rw [c3] at hc2
    simp only [if_true] at hc2
    generalize setN 0 l = m at *
    obtain ⟨H1, d, mm, ov, e1, hu, ho1, hmm, hfr⟩ := Z4m h c1 (K + 6) (by omega) ⟨ho.1, fun t ht => ⟨by have := (ho.2 t ht).1; omega, (ho.2 t ht).2⟩⟩ [([0], .cells [.int .i64 h.suspects, .lst (h.trials.map triV)] true 0)] 1
    obtain ⟨H2, ov', e2, hu2, ho2, hfr2⟩ := Z5j h c1 m hm1 hm2 (K + 9) (by omega) H1 (1 + 2 + d) _ _ _ hu ho1
    simp only [hntV] at e1
    simp only [chV] at e2
    simp -implicitDefEqProofs only [go_sem, a1, hT, c2', hc2, e1, e2]
    by_cases c4 : (bestS (setsOf h) m).1 < 0
    ·rw [if_pos c4]
     simp -implicitDefEqProofs only [go_sem, hT, c4, Try.results41, t3V]
    ·rw [if_neg c4]
     simp -implicitDefEqProofs only [go_sem, c4]
     simp only [Za]
     refine J1 [] [] (by kernel_rfl) ?_
     simp -implicitDefEqProofs only [redoH, go_sem, hT, Try.results41, t3V]
   ·rw [if_neg c3]
    simp -implicitDefEqProofs only [go_sem, a1, hT, c2', hc2, c3, Try.results41, t3V]
 ·rw [if_neg c1]
  simp -implicitDefEqProofs only [go_sem, a0, hT, hc1, c1, Try.results41, t3V]
end Go.Proofs.Ytgnpnfkncbnjnaa
namespace Go.Proofs.Ytgnpnfkncbnjnaa
open Go Go.Am
end Go.Proofs.Ytgnpnfkncbnjnaa
namespace Go.Proofs.Ytgnpnfkncbnjnaa
open Go Go.Am
attribute [local congr] Z5 Z2 Z3
attribute [local go_sem] Go.Am.buildSliceA Go.Am.frozen Go.Am.freezeG Go.Am.freezeGs Go.Am.minmax
@[go_sem] def f3V (x : List Try' × Int × Int) : AV := .tuple [.lst (x.1.map tryV), .int .i64 x.2.1, .int .i64 x.2.2]
end Go.Proofs.Ytgnpnfkncbnjnaa
namespace Go.Proofs.Ytgnpnfkncbnjnaa
open Go Go.Am
attribute [local congr] Z5 Z2 Z3
attribute [local go_sem] Go.Am.buildSliceA Go.Am.frozen Go.Am.freezeG Go.Am.freezeGs Go.Am.minmax
end Go.Proofs.Ytgnpnfkncbnjnaa
namespace Go.Proofs.Ytgnpnfkncbnjnaa
open Go Go.Am
def bitsL (s : Nat) : List Int := ((List.range 12).filter fun k => s.testBit k).map fun (k : Nat) => (k : Int)
theorem Z3p : ∀ (l : List Int) (m k : Nat), (∀ n ∈ l, 0 <= n) -> (setN m l).testBit k = (m.testBit k || decide ((k : Int) ∈ l))
 | [], m, k, _ => by simp [setN]
 | n :: l, m, k, h => by
  have h1 := Z3p l (m ||| 2 ^ n.toNat) k fun n hn => h n (List.mem_cons_of_mem _ hn)
  have h0 := h n List.mem_cons_self
  show (setN (m ||| 2 ^ n.toNat) l).testBit k = _
  rw [h1, Nat.testBit_or, Nat.testBit_two_pow, Bool.or_assoc]
  congr 1
  rw [<- Bool.decide_or]
  congr 1
  apply propext
  rw [List.mem_cons]
  constructor
  ·rintro (h2 | h2)
   ·left; omega
   ·right; exact h2
  ·rintro (h2 | h2)
   ·left; omega
   ·right; exact h2
noncomputable def alBit (s : Nat) : Bool := match aloneB s with | true => Nat.ble (bitsL s).length 1 | false => true
theorem Z96 : allOk alBit 4095 = true := by kernel_rfl
theorem Jg {s k : Nat} (h1 : 1 <= s) (h2 : s < 4096) (ha : aloneB s = true) (hk : s.testBit k = true) : bitsL s = [(k : Int)] := by
 have h3 := Z2u alBit 4095 Z96 s h1 (Nat.le_of_lt_succ h2)
 unfold alBit at h3
 rw [ha] at h3
 have h4 : (bitsL s).length <= 1 := Nat.le_of_ble_eq_true h3
 have h5 : (k : Int) ∈ bitsL s := by
  unfold bitsL
  exact List.mem_map.2 ⟨k, List.mem_filter.2 ⟨List.mem_range.2 (Z8y h2 hk), hk⟩, rfl⟩
 match hb : bitsL s with
 | [] => rw [hb] at h5; cases h5
 | [a] => rw [hb] at h5; rcases List.mem_cons.1 h5 with h | h; rw [h]; cases h
 | a :: b :: r => rw [hb] at h4; simp at h4
end Go.Proofs.Ytgnpnfkncbnjnaa
namespace Go.Proofs.Ytgnpnfkncbnjnaa
open Go Go.Am
def cand (rec : Nat -> Int × Int) (s : Nat) (t : Nat × Int) : Option Int :=
 if s &&& t.1 = 0 then none else if restN s t.1 = 0 then none else
 if (rec (s &&& t.1)).1 < 0 then none else if (rec (restN s t.1)).1 < 0 then none else some (t.2 + max (rec (s &&& t.1)).1 (rec (restN s t.1)).1)
theorem Z97 (rec : Nat -> Int × Int) (s : Nat) (x : Int × Int) (i : Nat) (t : Nat × Int) : stepC rec s x i t = match cand rec s t with
  | none => x
  | some c => if x.1 < 0 then (c, (i : Int)) else if c < x.1 then (c, (i : Int)) else x := by
 unfold stepC cand
 split
 ·rfl
 ·split
  ·rfl
  ·split
   ·rfl
   ·split
    ·rfl
    ·rfl
theorem Z6i (rec : Nat -> Int × Int) (s : Nat) : ∀ (l : List (Nat × Int)), (∀ t ∈ l, ∀ c, cand rec s t = some c -> 0 <= c) -> ∀ (x : Int × Int) (i : Nat),
  ((foldC rec s x i l).1 < 0 -> x.1 < 0 /\ ∀ t ∈ l, cand rec s t = none) /\ (0 <= (foldC rec s x i l).1 -> (0 <= x.1 /\ (foldC rec s x i l).1 = x.1) \/ ∃ t ∈ l, cand rec s t = some (foldC rec s x i l).1) /\
  (∀ t ∈ l, ∀ c, cand rec s t = some c -> 0 <= (foldC rec s x i l).1 /\ (foldC rec s x i l).1 <= c) /\ (0 <= x.1 -> 0 <= (foldC rec s x i l).1 /\ (foldC rec s x i l).1 <= x.1)
 | [], _, x, i => ⟨fun h => ⟨h, by simp⟩, fun h => .inl ⟨h, rfl⟩, by simp, fun h => ⟨h, Int.le_refl _⟩⟩
 | t :: l, hl, x, i => by
  simp only [foldC]
  have ih := Z6i rec s l (fun t ht => hl t (List.mem_cons_of_mem _ ht)) (stepC rec s x i t) (i + 1)
  obtain ⟨h1, h2, h3, h4⟩ := ih
  have hst := Z97 rec s x i t
  have ht0 := hl t List.mem_cons_self
  generalize foldC rec s (stepC rec s x i t) (i + 1) l = y at *
  generalize stepC rec s x i t = z at *
  cases hc : cand rec s t with
  | none =>
   rw [hc] at hst
   simp only at hst
   subst hst
   refine ⟨fun h => ⟨(h1 h).1, fun u hu => ?_⟩, fun h => ?_, fun u hu c hcu => ?_, h4⟩
   ·rcases List.mem_cons.1 hu with rfl | hu
    ·exact hc
    ·exact (h1 h).2 u hu
   ·rcases h2 h with h5 | ⟨u, hu, h5⟩
    ·exact .inl h5
    ·exact .inr ⟨u, List.mem_cons_of_mem _ hu, h5⟩
   ·rcases List.mem_cons.1 hu with rfl | hu
    ·rw [hc] at hcu; cases hcu
    ·exact h3 u hu c hcu
  | some c0 =>
   rw [hc] at hst
   simp only at hst
   have hc0 := ht0 c0 hc
   have hz : 0 <= z.1 /\ z.1 <= c0 /\ (z.1 = c0 \/ (0 <= x.1 /\ z.1 = x.1)) /\ (0 <= x.1 -> z.1 <= x.1) := by
    rw [hst]
    split
    ·refine ⟨hc0, Int.le_refl _, .inl rfl, fun h => by omega⟩
    ·split
     ·refine ⟨hc0, Int.le_refl _, .inl rfl, fun h => by simp only; omega⟩
     ·refine ⟨by omega, by omega, .inr ⟨by omega, rfl⟩, fun h => Int.le_refl _⟩
   obtain ⟨z1, z2, z3, z4⟩ := hz
   have hy := h4 z1
   refine ⟨fun h => by omega, fun h => ?_, fun u hu c hcu => ?_, fun h => ⟨hy.1, by have := z4 h; omega⟩⟩
   ·rcases h2 h with ⟨_, h5⟩ | ⟨u, hu, h5⟩
    ·rcases z3 with h6 | ⟨h6, h7⟩
     ·exact .inr ⟨t, List.mem_cons_self, by rw [hc, h5, h6]⟩
     ·exact .inl ⟨h6, by rw [h5, h7]⟩
    ·exact .inr ⟨u, List.mem_cons_of_mem _ hu, h5⟩
   ·rcases List.mem_cons.1 hu with rfl | hu
    ·rw [hc] at hcu; injection hcu with hcu; subst hcu; exact ⟨hy.1, by omega⟩
    ·exact h3 u hu c hcu
theorem Z5k {ts : List (Nat × Int)} (hts : ∀ t ∈ ts, 0 <= t.2) (s : Nat) : ∀ t ∈ ts, ∀ c, cand (bestS ts) s t = some c -> 0 <= c := by
 intro t ht c h
 unfold cand at h
 split at h
 ·cases h
 ·split at h
  ·cases h
  ·split at h
   ·cases h
   ·split at h
    ·cases h
    ·injection h with h
     have := hts t ht
     omega
theorem Z6j {ts : List (Nat × Int)} (hts : ∀ t ∈ ts, 0 <= t.2) (s : Nat) (hs : s < 4096) (ha : ¬ aloneB s = true) :
  ((bestS ts s).1 < 0 -> ∀ t ∈ ts, cand (bestS ts) s t = none) /\ (0 <= (bestS ts s).1 -> ∃ t ∈ ts, cand (bestS ts) s t = some (bestS ts s).1) /\ (∀ t ∈ ts, ∀ c, cand (bestS ts) s t = some c -> 0 <= (bestS ts s).1 /\ (bestS ts s).1 <= c) := by
 have h := Z0b ts s hs
 rw [if_neg ha] at h
 obtain ⟨h1, h2, h3, _⟩ := Z6i (bestS ts) s ts (Z5k hts s) (-1, -1) 0
 rw [<- h] at h1 h2 h3
 refine ⟨fun hx => (h1 hx).2, fun hx => ?_, h3⟩
 rcases h2 hx with ⟨h5, _⟩ | h5
 ·simp at h5
 ·exact h5
def Ms (s : List Int) (m : Nat) : Prop := m < 4096 /\ s.Nodup /\ (∀ n ∈ s, 0 <= n /\ n <= 11) /\ ∀ k : Nat, m.testBit k = decide ((k : Int) ∈ s)
theorem Ms.mem {s : List Int} {m : Nat} (h : Ms s m) {n : Int} (hn : n ∈ s) : m.testBit n.toNat = true := by
 obtain ⟨_, _, h3, h4⟩ := h
 rw [h4, decide_eq_true_eq, Int.toNat_of_nonneg (h3 n hn).1]
 exact hn
theorem Ms.nil {s : List Int} {m : Nat} (h : Ms s m) : s = [] ↔ m = 0 := by
 constructor
 ·rintro rfl
  apply Nat.eq_of_testBit_eq
  intro i
  rw [h.2.2.2, Nat.zero_testBit]; simp
 ·rintro rfl
  cases s with
  | nil => rfl
  | cons a r =>
   have := h.mem (List.mem_cons_self (a := a) (l := r))
   rw [Nat.zero_testBit] at this; cases this
theorem Z98 : ∀ k : Fin 12, aloneB (2 ^ k.val) = true := by decide +kernel
theorem Ms.one {s : List Int} {m : Nat} (h : Ms s m) (hm : m ≠ 0) : s.length = 1 ↔ aloneB m = true := by
 constructor
 ·intro hl
  match s, hl with
  | [a], _ =>
   have ha := h.2.2.1 a List.mem_cons_self
   have : m = 2 ^ a.toNat := by
    apply Nat.eq_of_testBit_eq
    intro i
    rw [h.2.2.2, Nat.testBit_two_pow]
    congr 1
    apply propext
    simp
    omega
   rw [this]
   exact Z98 ⟨a.toNat, by omega⟩
 ·intro ha
  cases s with
  | nil => exact absurd (h.nil.1 rfl) hm
  | cons a r =>
   cases r with
   | nil => rfl
   | cons b r =>
    have h1 := Jg (by omega) h.1 ha (h.mem (List.mem_cons_self (a := a)))
    have h2 := Jg (by omega) h.1 ha (h.mem (List.mem_cons_of_mem a (List.mem_cons_self (a := b))))
    rw [h1] at h2
    have ha0 := h.2.2.1 a List.mem_cons_self
    have hb0 := h.2.2.1 b (List.mem_cons_of_mem _ List.mem_cons_self)
    have hab : a = b := by simp at h2; omega
    have hnd := h.2.1
    subst hab
    simp at hnd
theorem Ms.inn {s : List Int} {m : Nat} (h : Ms s m) (l : List Int) (o : Nat) (hl : ∀ k : Nat, k < 12 -> decide ((k : Int) ∈ l) = o.testBit k) : Ms (s.filter fun n => decide (n ∈ l)) (m &&& o) := by
 refine ⟨Z6d m o h.1, h.2.1.sublist List.filter_sublist, fun n hn => h.2.2.1 n (List.mem_filter.1 hn).1, fun k => ?_⟩
 rw [Nat.testBit_and, h.2.2.2]
 by_cases hk : k < 12
 ·rw [<- hl k hk, <- Bool.decide_and]
  congr 1
  apply propext
  simp [List.mem_filter]
 ·have h1 : ¬ (k : Int) ∈ s := fun hx => by have := h.2.2.1 _ hx; omega
  simp [h1]
theorem Ms.rest {s : List Int} {m : Nat} (h : Ms s m) (l : List Int) (o : Nat) (hl : ∀ k : Nat, k < 12 -> decide ((k : Int) ∈ l) = o.testBit k) : Ms (s.filter fun n => !decide (n ∈ l)) (restN m o) := by
 refine ⟨Nat.lt_of_le_of_lt (Z5e m o) h.1, h.2.1.sublist List.filter_sublist, fun n hn => h.2.2.1 n (List.mem_filter.1 hn).1, fun k => ?_⟩
 rw [X2 m o k h.1, h.2.2.2]
 by_cases hk : k < 12
 ·rw [<- hl k hk, <- decide_not, <- Bool.decide_and]
  congr 1
  apply propext
  simp [List.mem_filter]
 ·have h1 : ¬ (k : Int) ∈ s := fun hx => by have := h.2.2.1 _ hx; omega
  simp [h1]
end Go.Proofs.Ytgnpnfkncbnjnaa
namespace Go.Am
open Go
section
variable {C : Cfg} {K : Nat}
theorem Z76 {f : FuncId} {fn : Func} {b : Nm} {o u : Nat} {rest cs cs' : List AV} {s : St} {v : AV} (hm : C.mode.get f = some 4) (hf : C.fn.get f = some fn) (hb : hget s.H b = some (.cells cs true u)) (hn : namesVs false rest [] = []) (hr : renVs [(b, [0])] rest = some rest)
  (hc : namesVs false cs [] = []) (hcr : renVs [(b, [0])] cs = some cs) (hc' : namesVs true cs' [] = []) (hcr' : renVs [([0], b)] cs' = some cs') (hv : namesV true v [] = []) (hvr : renV [([0], b)] v = some v)
  (hd : (bodyA (C.at f) (acall C K) (around C K) (K + 1) fn (.ptr [0] o :: rest) ⟨[([0], .cells cs true u)], 1, [], false, []⟩).Does fun x => x.1.shut = v /\ hget x.2.H [0] = some (.cells cs' true u)) :
  acall C (K + 1) f (.ptr b o :: rest) s = .ret (v, s.put b (.cells cs' true u)) := by
 rw [Zu]
 unfold enterA
 rw [hf]; simp only
 rw [hm]; simp only
 obtain ⟨⟨v1, s1⟩, e1, e2v, e2⟩ := hd
 simp only at e2 e2v
 unfold handA
 have hl : lendM 200 (namesVs false (.ptr b o :: rest) []) [] [] s = .ret (([b], [.cells cs true u]), s) := by
  show lendM 200 (b :: namesVs false rest []) [] [] s = _
  rw [hn]
  show (getM b).bind (fun x => lendM 199 (namesB false x []) ([] ++ [b]) ([] ++ [x])) s = _
  rw [Z7, Zx, hb]
  show lendM 199 (namesVs false cs []) _ _ s = _
  rw [hc]; rfl
 rw [Z7, hl]
 have hnd : nodupN [b] = true := rfl
 have hz : zipN [b] (namesFrom [] 0 [b].length) = [(b, [0])] := rfl
 have hra : renVs [(b, [0])] (.ptr b o :: rest) = some (.ptr [0] o :: rest) := by simp only [renVs, renV, lookN, Ze, hr]
 have hrb : renBs [(b, [0])] [.cells cs true u] = some [.cells cs true u] := by simp only [renBs, renB, hcr]
 have hcalm : calm [.cells cs true u] = true := rfl
 simp only [Tr.bind_ret, hnd, hz, hra, hrb, hcalm]
 have hst : (⟨zipB (namesFrom [] 0 [b].length) [.cells cs true u], [b].length, [], false, []⟩ : St) = ⟨[([0], .cells cs true u)], 1, [], false, []⟩ := rfl
 rw [hst, e1]
 have ho : oneR true (.ret (v1, s1)) = some (v, s1.H) := by rw [<- e2v]; rfl
 have hy : getAll s1.H (namesFrom [] 0 [b].length) = some [.cells cs' true u] := by
  show getAll s1.H [[0]] = _
  simp only [getAll, e2]
 rw [ho]; simp only
 rw [hy]; simp only
 have hb' : namesBs true [.cells cs' true u] [] = [] := by show namesVs true cs' [] = []; exact hc'
 rw [hb', hv]
 have hre : reachL s1.H 200 [] (namesFrom [] 0 [b].length) [] = some ([[0]], []) := rfl
 rw [hre]; simp only
 have hn0 : nodupN [[0]] = true := rfl
 rw [hn0]; simp only
 have hz2 : zipN [[0]] ([b] ++ namesFrom s.pre s.n ([] : List Blk).length) = [([0], b)] := rfl
 rw [Z7]
 show (Tr.ret ((s.pre, s.n), s)).bind _ = _
 rw [Tr.bind_ret]
 rw [hz2]
 have hrb' : renB [([0], b)] (.cells cs' true u) = some (.cells cs' true u) := by simp only [renB, hcr']
 simp only [hvr, hrb', renBs, putAll, newAll, Z7, Xl, hb, Tr.bind_ret, Y4]
end
end Go.Am
namespace Go.Proofs.Ytgnpnfkncbnjnaa
attribute [local go_sem_proc] Int.reduceEq Int.reduceNeg Nat.reduceEqDiff Nat.reduceLT Nat.reduceAdd Nat.reduceSub Nat.reduceMul Int.reduceLE Int.reduceLT Int.reduceToNat Nat.reduceLeDiff
attribute [local go_sem] Int.toNat_natCast Bool.not_true Bool.not_false
open Go Go.Am
attribute [local congr] Z5 Z2 Z3
attribute [local go_sem] Go.Am.buildSliceA Go.Am.frozen Go.Am.freezeG Go.Am.freezeGs Go.Am.minmax
theorem Z6k : cfg.desc 75 = some (.slice 84) := by kernel_rfl
def Rising (k : Int) : List Int -> Prop
 | [] => True
 | n :: l => 0 <= n /\ n < k /\ (∀ m ∈ l, n < m) /\ Rising k l
theorem Xq {k k' : Int} (h : k <= k') : ∀ {l : List Int}, Rising k l -> Rising k' l
 | [], _ => trivial
 | n :: l, hr => ⟨hr.1, by have := hr.2.1; omega, hr.2.2.1, Xq h hr.2.2.2⟩
theorem Yx {k : Int} (hk : 0 <= k) : ∀ {l : List Int}, Rising k l -> Rising (k + 1) (l ++ [k])
 | [], _ => ⟨hk, by omega, by simp, trivial⟩
 | n :: l, h => ⟨h.1, by have := h.2.1; omega, fun m hm => by
   rcases List.mem_append.1 hm with hm | hm
   ·exact h.2.2.1 m hm
   ·simp at hm; have := h.2.1; omega, Yx hk h.2.2.2⟩
theorem Jt {k : Int} : ∀ (l : List Int) (last : Int), Rising k l -> (∀ n ∈ l, last < n) -> suspE k last l = 0
 | [], _, _, _ => rfl
 | n :: l, last, h, hl => by
  have h1 : fromB n 0 (k - 1) = true := by
   unfold fromB; exact decide_eq_true ⟨h.1, by have := h.2.1; omega⟩
  have h2 : ¬ n <= last := by have := hl n List.mem_cons_self; omega
  simp only [suspE]
  rw [if_pos h1, if_neg h2]
  exact Jt l n h.2.2.2 h.2.2.1
def TriG (s : Int) (t : Tri) : Prop := Rising s t.of /\ t.of.length <= 12 /\ 0 <= t.cost /\ t.cost <= 8
def HntG (s t : Int) (h : Hnt) : Prop := 1 <= h.suspects /\ h.suspects <= s /\ (h.trials.length : Int) <= t /\ ∀ x ∈ h.trials, TriG h.suspects x
theorem Z5l {s t : Int} {h : Hnt} (hs : s <= 12) (ht : t <= 12) (hg : HntG s t h) : huntE h = 0 := by
 obtain ⟨h1, h2, h3, h4⟩ := hg
 unfold huntE
 rw [if_pos (by unfold fromB; exact decide_eq_true ⟨h1, by omega⟩), if_neg (by omega)]
 generalize h.trials = l at *
 induction l with
 | nil => rfl
 | cons a l ih =>
  obtain ⟨g1, g2, g3, g4⟩ := h4 a List.mem_cons_self
  have hr : suspE h.suspects (-1) a.of = 0 := Jt a.of (-1) g1 fun n hn => by
   have : ∀ (l : List Int), Rising h.suspects l -> ∀ n ∈ l, 0 <= n := by
    intro l
    induction l with
    | nil => intro _ n hn; cases hn
    | cons b l ih2 =>
     intro hb n hn
     rcases List.mem_cons.1 hn with rfl | hn
     ·exact hb.1
     ·exact ih2 hb.2.2.2 n hn
   have := this a.of g1 n hn
   omega
  simp only [trialsE]
  rw [if_pos hr, if_pos (by unfold fromB; exact decide_eq_true ⟨g3, by omega⟩)]
  exact ih (by simp at h3 ⊢; omega) fun x hx => h4 x (List.mem_cons_of_mem _ hx)
theorem Z99 {s t : Int} {h : Hnt} (ht : t <= 12) (hg : HntG s t h) (K : Nat) (hK : 13 < K) : h.Ok K := by
 obtain ⟨h1, h2, h3, h4⟩ := hg
 exact ⟨by omega, fun x hx => by have := (h4 x hx).2.1; constructor <;> omega⟩
theorem Z5m (w s t : Int) (b : Nm) (u : Nat) (K : Nat) (st : St) (hb : hget st.H b = some (.cells [.int .u64 w] true u)) (hs1 : 1 <= s) (hs2 : s <= 12) (ht1 : 0 <= t) (ht2 : t <= 12) (hK : 100 < K) :
  ∃ h w', HntG s t h /\ acall cfg (K + 10) 40 [.ptr b 0, .int .i64 s, .int .i64 t] st = .ret (hntV h, st.put b (.cells [.int .u64 w'] true u)) := by
 have key : ∃ h w', HntG s t h /\ (bodyA (cfg.at 40) (acall cfg (K + 9)) (around cfg (K + 9)) (K + 9 + 1) Try.f40 [.ptr [0] 0, .int .i64 s, .int .i64 t] ⟨[([0], .cells [.int .u64 w] true u)], 1, [], false, []⟩).Does fun x => x.1.shut = hntV h /\ hget x.2.H [0] = some (.cells [.int .u64 w'] true u) := by
  suffices hd : (bodyA (cfg.at 40) (acall cfg (K + 9)) (around cfg (K + 9)) (K + 9 + 1) Try.f40 [.ptr [0] 0, .int .i64 s, .int .i64 t] ⟨[([0], .cells [.int .u64 w] true u)], 1, [], false, []⟩).Does fun x => ∃ h w', HntG s t h /\ x.1.shut = hntV h /\ hget x.2.H [0] = some (.cells [.int .u64 w'] true u) by
   obtain ⟨x, e, h, w', hg, h1, h2⟩ := hd
   exact ⟨h, w', hg, x, e, h1, h2⟩
  refine Zp rfl fun T hT' hA => ?_
  have a0 := hA 0 _ rfl
  have a1 := hA 1 _ rfl
  have a2 := hA 2 _ rfl
  have hT : T.length = 50 := hT'
  clear hA hT'
  have hbt := fun (st : St) (w : Int) (hb : hget st.H [0] = some (.cells [.int .u64 w] true u)) => Z4g w 1 s [0] u (K + 6) st hb (by omega) hs1 (by omega)
  have hr := Z0a w 1 s hs1
  have hut := fun (st : St) (w : Int) (hb : hget st.H [0] = some (.cells [.int .u64 w] true u)) => X8 w (t + 1) [0] u (K + 7) st hb (by omega)
  have hur := Yr (nextW w) (t + 1) (by omega)
  have hw1 : wrapF .i64 (t + 1) = t + 1 := Zk (by omega) (by omega)
  have e1 := hbt ⟨[([1], .cells [.int .i64 0, .nils] true 0), ([0], .cells [.int .u64 w] true u)], 2, [], false, []⟩ w rfl
  simp -implicitDefEqProofs only [go_sem, a0, a1, a2, hT, e1]
  have e2 := hut ⟨[([2], .cells [.int .i64 (betweenN w 1 s), .nils] true 0), ([1], .cells [.int .i64 0, .nils] true 0), ([0], .cells [.int .u64 (nextW w)] true u)], 3, [], false, []⟩ (nextW w) rfl
  simp -implicitDefEqProofs only [go_sem, hT, e2, hw1]
  clear e1 e2 hw1 hbt hut
  generalize betweenN w 1 s = S at *
  generalize uptoN (nextW w) (t + 1) = N0 at *
  generalize nextW (nextW w) = w2
  obtain ⟨N, rfl⟩ : ∃ N : Nat, N0 = N := ⟨N0.toNat, by omega⟩
  simp only [Za]
  refine X3 (fun k T s' => T.length = 50 /\ nth T 0 = some (.ptr [0] 0) /\ nth T 6 = some (.ptr [1] 0) /\ nth T 7 = some (.ptr [2] 0) /\ ∃ (i n to : Nat) (w : Int) (H : Heap) (TR : List Tri), nth T 8 = some (.int .i64 i) /\ k = i /\ s' = ⟨H, n + 3, [], false, []⟩ /\ hget H [0] = some (.cells [.int .u64 w] true u) /\ hget H [1] = some (.cells [.int .i64 0, .nils] true 0) /\
   hget H [2] = some (.cells [.int .i64 S, ownV [to + 3] (TR.map triV)] true 0) /\ (TR.map triV ≠ [] -> to < n /\ hget H [to + 3] = some (.tok TR.length 2)) /\ TR.length + i = N /\ ∀ x ∈ TR, TriG S x) (k := N) (by omega) ?_ ?_
  ·exact ⟨by simp -implicitDefEqProofs only [go_sem, hT], by simp -implicitDefEqProofs only [go_sem, a0], by simp -implicitDefEqProofs only [go_sem, hT], by simp -implicitDefEqProofs only [go_sem, hT], N, 0, 0, w2, _, [], by simp -implicitDefEqProofs only [go_sem, hT], rfl, rfl, rfl, rfl, rfl, fun hx => absurd rfl hx, by simp, by simp⟩
  clear a0 a1 a2 hT w2
  rintro k T s' ⟨hT, a0, a6, a7, i, n, to, w, H, TR, a8, rfl, rfl, g0, g1, g2, gt, hTR, hG⟩
  simp -implicitDefEqProofs only [go_sem, a8, hT]
  by_cases hlo : (0 : Int) < (k : Int)
  ·have hut := X8 w 9 [0] u (K + 7) ⟨H, n + 3, [], false, []⟩ g0 (by omega)
   have hur := Yr w 9 (by omega)
   generalize uptoN w 9 = c0 at *
   have g0a := Z4 (.cells [.int .u64 (nextW w)] true u) g0
   have hone := Z09 (nextW w) 2 [0] u (K + 6) ⟨([n + 3], .cells [.nils, .int .i64 c0] true 0) :: hset H [0] (.cells [.int .u64 (nextW w)] true u), n + 4, [], false, []⟩ ((Z1 _ _ (Zf (by omega))).trans g0a) (by omega)
   obtain ⟨H1, hH1, q0, q1, q2, qt⟩ : ∃ H1, H1 = hset (hset H [0] (.cells [.int .u64 (nextW w)] true u)) [0] (.cells [.int .u64 (nextW (nextW w))] true u) /\ hget H1 [0] = some (.cells [.int .u64 (nextW (nextW w))] true u) /\ hget H1 [1] = some (.cells [.int .i64 0, .nils] true 0) /\ hget H1 [2] = some (.cells [.int .i64 S, ownV [to + 3] (TR.map triV)] true 0) /\ (TR.map triV ≠ [] -> to < n /\ hget H1 [to + 3] = some (.tok TR.length 2)) := by
    refine ⟨_, rfl, Z4 _ g0a, ?_, ?_, fun hx => ⟨(gt hx).1, ?_⟩⟩
    ·rw [Z0 _ _ (by decide), Z0 _ _ (by decide)]; exact g1
    ·rw [Z0 _ _ (by decide), Z0 _ _ (by decide)]; exact g2
    ·rw [Z0 _ _ (Zf (by omega)), Z0 _ _ (Zf (by omega))]; exact (gt hx).2
   have hone' : acall cfg (K + 6 + 3) 44 [.ptr [0] 0, .int .i64 2] ⟨([n + 3], .cells [.nils, .int .i64 c0] true 0) :: hset H [0] (.cells [.int .u64 (nextW w)] true u), n + 3 + 1, [], false, []⟩ = .ret (.bool (oneB (nextW w) 2), ⟨([n + 3], .cells [.nils, .int .i64 c0] true 0) :: H1, n + 3 + 1, [], false, []⟩) := by
    rw [hone, hH1]
    simp -implicitDefEqProofs only [go_sem]
   clear hone hH1 g0a
   simp -implicitDefEqProofs only [go_sem, a0, hT, hlo, hut, hone']
   simp only [Za]
   refine Tr.Does.mono (Q := fun x => ∃ c T', x = ((AExit.normal, T'), (⟨([n + 3], .cells [.nils, .int .i64 c] true 0) :: H1, n + 4, [], false, []⟩ : St)) /\ 0 <= c /\ c <= 8 /\ T'.length = 50 /\ nth T' 0 = some (.ptr [0] 0) /\ nth T' 6 = some (.ptr [1] 0) /\ nth T' 7 = some (.ptr [2] 0) /\ nth T' 8 = some (.int .i64 k) /\ nth T' 9 = some (.ptr [n + 3] 0)) ?_ ?_
   ·cases hob : oneB (nextW w) 2 with
    | true =>
     simp -implicitDefEqProofs only [go_sem, hT]
     exact ⟨1, _, rfl, by omega, by omega, by simp -implicitDefEqProofs only [go_sem, hT], by simp -implicitDefEqProofs only [go_sem, a0], by simp -implicitDefEqProofs only [go_sem, a6], by simp -implicitDefEqProofs only [go_sem, a7], by simp -implicitDefEqProofs only [go_sem, a8], by simp -implicitDefEqProofs only [go_sem, hT]⟩
    | false =>
     simp -implicitDefEqProofs only [go_sem]
     exact ⟨c0, _, rfl, by omega, by omega, by simp -implicitDefEqProofs only [go_sem, hT], by simp -implicitDefEqProofs only [go_sem, a0], by simp -implicitDefEqProofs only [go_sem, a6], by simp -implicitDefEqProofs only [go_sem, a7], by simp -implicitDefEqProofs only [go_sem, a8], by simp -implicitDefEqProofs only [go_sem, hT]⟩
   generalize nextW (nextW w) = w1 at *
   clear a0 a6 a7 a8 hT T g0 g1 g2 gt hut hone' H
   rintro _ ⟨c, T, rfl, hc0, hc8, hT, a0, a6, a7, a8, a9⟩
   simp -implicitDefEqProofs only [go_sem]
   simp only [Za]
   refine X3 (fun l T s' => T.length = 50 /\ nth T 0 = some (.ptr [0] 0) /\ nth T 6 = some (.ptr [1] 0) /\ nth T 7 = some (.ptr [2] 0) /\ nth T 8 = some (.int .i64 k) /\ nth T 9 = some (.ptr [n + 3] 0) /\ ∃ (i m tc : Nat) (w : Int) (H : Heap) (row : List Int), nth T 10 = some (.int .i64 i) /\ (i : Int) <= S /\ l = S.toNat - i /\ s' = ⟨H, m + n + 4, [], false, []⟩ /\ hget H [0] = some (.cells [.int .u64 w] true u) /\ hget H [1] = some (.cells [.int .i64 0, .nils] true 0) /\
    hget H [2] = some (.cells [.int .i64 S, ownV [to + 3] (TR.map triV)] true 0) /\ (TR.map triV ≠ [] -> to < n /\ hget H [to + 3] = some (.tok TR.length 2)) /\ hget H [n + 3] = some (.cells [ownV [tc + n + 4] (row.map iV), .int .i64 c] true 0) /\ (row.map iV ≠ [] -> tc < m /\ hget H [tc + n + 4] = some (.tok row.length 1)) /\ Rising (i : Int) row /\ row.length <= i) (k := S.toNat) (by omega) ?_ ?_
   ·exact ⟨by simp -implicitDefEqProofs only [go_sem, hT], by simp -implicitDefEqProofs only [go_sem, a0], by simp -implicitDefEqProofs only [go_sem, a6], by simp -implicitDefEqProofs only [go_sem, a7], by simp -implicitDefEqProofs only [go_sem, a8], by simp -implicitDefEqProofs only [go_sem, a9], 0, 0, 0, w1, _, [], by simp -implicitDefEqProofs only [go_sem, hT]; rfl, by omega, rfl, by rw [Nat.zero_add]; rfl, (Z1 _ _ (Zf (by omega))).trans q0, (Z1 _ _ (Zf (by omega))).trans q1, (Z1 _ _ (Zf (by omega))).trans q2, fun hx => ⟨(qt hx).1, (Z1 _ _ (Zf (by have := (qt hx).1; omega))).trans (qt hx).2⟩, Z6 .., fun hx => absurd rfl hx, trivial, by simp⟩
   clear a0 a6 a7 a8 a9 hT T q0 q1 q2 qt H1 w1
   rintro l T s' ⟨hT, a0, a6, a7, a8, a9, i, m, tc, w1, H, row, a10, hi, rfl, rfl, q0, q1, q2, qt, qa, qr, hris, hrl⟩
   simp -implicitDefEqProofs only [go_sem, a7, hT, a10, q2]
   by_cases hin : (i : Int) < S
   ·have hiS : ((i + 1 : Nat) : Int) <= S := by omega
    have hrl1 : row.length <= i + 1 := by omega
    have hone := Z09 w1 2 [0] u (K + 6) ⟨H, m + n + 4, [], false, []⟩ q0 (by omega)
    obtain ⟨H1, hH1, r0, r1, r2, rt, ra, rr⟩ : ∃ H1, H1 = hset H [0] (.cells [.int .u64 (nextW w1)] true u) /\ hget H1 [0] = some (.cells [.int .u64 (nextW w1)] true u) /\ hget H1 [1] = some (.cells [.int .i64 0, .nils] true 0) /\ hget H1 [2] = some (.cells [.int .i64 S, ownV [to + 3] (TR.map triV)] true 0) /\ (TR.map triV ≠ [] -> to < n /\ hget H1 [to + 3] = some (.tok TR.length 2)) /\ hget H1 [n + 3] = some (.cells [ownV [tc + n + 4] (row.map iV), .int .i64 c] true 0) /\ (row.map iV ≠ [] -> tc < m /\ hget H1 [tc + n + 4] = some (.tok row.length 1)) := by
     refine ⟨_, rfl, Z4 _ q0, ?_, ?_, fun hx => ⟨(qt hx).1, ?_⟩, ?_, fun hx => ⟨(qr hx).1, ?_⟩⟩
     ·rw [Z0 _ _ (by decide)]; exact q1
     ·rw [Z0 _ _ (by decide)]; exact q2
     ·rw [Z0 _ _ (Zf (by omega))]; exact (qt hx).2
     ·rw [Z0 _ _ (Zf (by omega))]; exact qa
     ·rw [Z0 _ _ (Zf (by omega))]; exact (qr hx).2
    have hone' : acall cfg (K + 6 + 3) 44 [.ptr [0] 0, .int .i64 2] ⟨H, m + n + 4, [], false, []⟩ = .ret (.bool (oneB w1 2), ⟨H1, m + n + 4, [], false, []⟩) := by
     rw [hone, hH1]; rfl
    clear hone hH1 q0 q1 q2 qt qa qr
    have hk1 : S.toNat - (i + 1) < S.toNat - i := by omega
    have hris2 : Rising ((i + 1 : Nat) : Int) row := Xq (by omega) hris
    have hris3 : Rising ((i + 1 : Nat) : Int) (row ++ [(i : Int)]) := Yx (by omega) hris
    simp -implicitDefEqProofs only [go_sem, a0, hT, hin, hone']
    cases hob : oneB w1 2 with
    | true =>
     have hap := Xc (C := cfg.at 40) (sT := 22) (b := [tc + n + 4]) (l := row.map iV) (x := iV i) (H := H1) (n := m + n + 4) (p := []) (jr := false) (j := []) (z := 1) Z6c Za5 rfl rfl rfl rfl rfl rfl (by rw [List.length_map]; show (row.length + 1) * 8 <= _; omega) (fun hx => by rw [List.length_map]; exact (rr hx).2)
     have hown : ∀ b, ownV b (row.map iV ++ [iV i]) = .own b (row.map iV ++ [iV i]) := fun b => by cases row.map iV <;> rfl
     have hrm : (row ++ [(i : Int)]).map iV = row.map iV ++ [iV i] := by simp
     rw [hown] at hap
     obtain ⟨H2, hH2, s0, s1, s2, st, sa⟩ : ∃ H2, H2 = dropTok (row.map iV) [tc + n + 4] H1 /\ hget H2 [0] = some (.cells [.int .u64 (nextW w1)] true u) /\ hget H2 [1] = some (.cells [.int .i64 0, .nils] true 0) /\ hget H2 [2] = some (.cells [.int .i64 S, ownV [to + 3] (TR.map triV)] true 0) /\ (TR.map triV ≠ [] -> to < n /\ hget H2 [to + 3] = some (.tok TR.length 2)) /\ hget H2 [n + 3] = some (.cells [ownV [tc + n + 4] (row.map iV), .int .i64 c] true 0) :=
      ⟨_, rfl, (Zg _ _ (Zf (by omega))).trans r0, (Zg _ _ (Zf (by omega))).trans r1, (Zg _ _ (Zf (by omega))).trans r2, fun hx => ⟨(rt hx).1, (Zg _ _ (Zf (by have := (rt hx).1; omega))).trans (rt hx).2⟩, (Zg _ _ (Zf (by omega))).trans ra⟩
     rw [<- hH2] at hap
     clear hH2
     have hnn : (m + n + 4 = n + 3) = False := by simp; omega
     simp only [iV] at hap
     have hw1 : wrapF .i64 ((i : Int) + 1) = ((i + 1 : Nat) : Int) := Zk (by omega) (by omega)
     simp -implicitDefEqProofs only [go_sem, a0, a6, a7, a8, hT, a9, a10, ra, hap, sa, hnn, hw1]
     clear hw1
     refine ⟨S.toNat - (i + 1), hk1, trivial, trivial, trivial, trivial, trivial, trivial, i + 1, m + 1, m, nextW w1, _, row ++ [(i : Int)], rfl, by omega, rfl, by rw [show m + 1 + n + 4 = m + n + 4 + 1 by omega], ?_, ?_, ?_, fun hx => ⟨(st hx).1, ?_⟩, ?_, fun _ => ⟨by omega, ?_⟩, hris3, by simp; omega⟩
     ·exact (Z1 _ _ (Zf (by omega))).trans ((Z0 _ _ (Zf (by omega))).trans s0)
     ·exact (Z1 _ _ (Zf (by omega))).trans ((Z0 _ _ (Zf (by omega))).trans s1)
     ·exact (Z1 _ _ (Zf (by omega))).trans ((Z0 _ _ (Zf (by omega))).trans s2)
     ·exact (Z1 _ _ (Zf (by have := (st hx).1; omega))).trans ((Z0 _ _ (Zf (by have := (st hx).1; omega))).trans (st hx).2)
     ·rw [hrm, hown]
      exact (Z1 _ _ (Zf (by omega))).trans (Z4 _ sa)
     ·rw [Z1v, if_pos rfl]
      simp
    | false =>
     have hw1 : wrapF .i64 ((i : Int) + 1) = ((i + 1 : Nat) : Int) := Zk (by omega) (by omega)
     simp -implicitDefEqProofs only [go_sem, a0, a6, a7, a8, hT, a9, a10, hw1]
     exact ⟨S.toNat - (i + 1), hk1, trivial, trivial, trivial, trivial, trivial, trivial, i + 1, m, tc, nextW w1, H1, row, rfl, hiS, rfl, rfl, r0, r1, r2, rt, ra, rr, hris2, hrl1⟩
   ·have hiS : (i : Int) = S := by omega
    have hap := Xc (C := cfg.at 40) (sT := 75) (b := [to + 3]) (l := TR.map triV) (x := .agg [.lst (row.map iV), .int .i64 c]) (H := H) (n := m + n + 4) (p := []) (jr := false) (j := []) (z := 2) Z6k Z6b rfl rfl rfl rfl rfl rfl (by rw [List.length_map]; show (TR.length + 1) * 32 <= _; omega) (fun hx => by rw [List.length_map]; exact (qt hx).2)
    have hown : ∀ b, ownV b (TR.map triV ++ [.agg [.lst (row.map iV), .int .i64 c]]) = .own b (TR.map triV ++ [.agg [.lst (row.map iV), .int .i64 c]]) := fun b => by cases TR.map triV <;> rfl
    have hrm : (TR ++ [(⟨row, c⟩ : Tri)]).map triV = TR.map triV ++ [.agg [.lst (row.map iV), .int .i64 c]] := by simp [triV]
    rw [hown] at hap
    obtain ⟨H2, hH2, s0, s1, s2⟩ : ∃ H2, H2 = dropTok (TR.map triV) [to + 3] H /\ hget H2 [0] = some (.cells [.int .u64 w1] true u) /\ hget H2 [1] = some (.cells [.int .i64 0, .nils] true 0) /\ hget H2 [2] = some (.cells [.int .i64 S, ownV [to + 3] (TR.map triV)] true 0) :=
     ⟨_, rfl, (Zg _ _ (Zf (by omega))).trans q0, (Zg _ _ (Zf (by omega))).trans q1, (Zg _ _ (Zf (by omega))).trans q2⟩
    rw [<- hH2] at hap
    clear hH2
    have hlt : k - 1 < k := by omega
    have hTR2 : (TR ++ [(⟨row, c⟩ : Tri)]).length + (k - 1) = N := by simp; omega
    have hG2 : ∀ x ∈ TR ++ [(⟨row, c⟩ : Tri)], TriG S x := by
     intro x hx
     rcases List.mem_append.1 hx with hx | hx
     ·exact hG x hx
     ·simp at hx; subst hx
      exact ⟨by rw [<- hiS]; exact hris, by show row.length <= 12; omega, hc0, hc8⟩
    have hto : m + n + 1 < m + n + 2 := by omega
    have e1 : m + n + 2 + 3 = m + n + 4 + 1 := by omega
    have p0 := fun X Z => (Z1 (i := [m + n + 4]) (j := [0]) X (hset H2 [2] Z) (Zf (by omega))).trans ((Z0 H2 Z (Zf (by omega))).trans s0)
    have p1 := fun X Z => (Z1 (i := [m + n + 4]) (j := [1]) X (hset H2 [2] Z) (Zf (by omega))).trans ((Z0 H2 Z (Zf (by omega))).trans s1)
    have p2 := fun X Z => (Z1 (i := [m + n + 4]) (j := [2]) X (hset H2 [2] Z) (Zf (by omega))).trans (Z4 Z s2)
    have hw1 : wrapF .i64 ((k : Int) - 1) = ((k - 1 : Nat) : Int) := by rw [Zk (by omega) (by omega)]; omega
    simp -implicitDefEqProofs only [go_sem, a0, a6, a7, a8, hT, a9, hin, q2, qa, hap, s2, hw1]
    clear hw1
    refine ⟨k - 1, hlt, trivial, trivial, trivial, trivial, k - 1, m + n + 2, m + n + 1, w1, _, TR ++ [(⟨row, c⟩ : Tri)], rfl, rfl, by rw [e1], p0 _ _, p1 _ _, ?_, fun _ => ⟨hto, ?_⟩, hTR2, hG2⟩
    ·rw [hrm, hown]
     exact p2 _ _
    ·rw [show m + n + 1 + 3 = m + n + 4 by omega, Z1v, if_pos rfl]
     simp
  ·have p1 := fun Z => Z4 (H := H) (i := [1]) Z g1
   have p0 := fun Z => (Z0 H (i := [1]) (j := [0]) Z (by decide)).trans g0
   have hsh : ∀ b, (ownV b (TR.map triV)).shut = .lst (TR.map triV) := fun b => Z8p b _
   simp -implicitDefEqProofs only [go_sem, a6, a7, hT, hlo, g1, g2, p1, p0, hsh, Try.results40]
   refine ⟨⟨S, TR⟩, w, ⟨hr.1, hr.2, ?_, hG⟩, rfl, rfl⟩
   simp only
   omega
 obtain ⟨h, w', hg, hd⟩ := key
 refine ⟨h, w', hg, ?_⟩
 exact Z76 (v := hntV h) Zcl Zck hb rfl rfl rfl rfl rfl rfl (by rfl) (by simp only [hntV, renV, renVs, Z2t]) hd
end Go.Proofs.Ytgnpnfkncbnjnaa
namespace Go.Proofs.Ytgnpnfkncbnjnaa
open Go Go.Am
def Sub (a b : Nat) : Prop := ∀ k : Nat, a.testBit k = true -> b.testBit k = true
theorem Sub.le {a b : Nat} (h : Sub a b) : a <= b := by
 have : b &&& a = a := by
  apply Nat.eq_of_testBit_eq
  intro k
  rw [Nat.testBit_and]
  cases e : a.testBit k with
  | false => rw [Bool.and_false]
  | true => rw [h k e]; rfl
 rw [<- this]
 exact Nat.and_le_left
theorem Zd5 {a b : Nat} (h : Sub a b) (o : Nat) : Sub (a &&& o) (b &&& o) := fun k e => by
 rw [Nat.testBit_and, Bool.and_eq_true] at e ⊢
 exact ⟨h k e.1, e.2⟩
theorem Zae {a b : Nat} (h : Sub a b) (ha : a < 4096) (hb : b < 4096) (o : Nat) : Sub (restN a o) (restN b o) := fun k e => by
 rw [X2 a o k ha, Bool.and_eq_true] at e
 rw [X2 b o k hb, Bool.and_eq_true]
 exact ⟨h k e.1, e.2⟩
theorem Z9a {a b o : Nat} (h : Sub a b) (ha : a < 4096) (hb : b < 4096) (hz : restN a o = 0) : Sub a (b &&& o) := fun k e => by
 have h1 := X2 a o k ha
 rw [hz, Nat.zero_testBit, e, Bool.true_and] at h1
 rw [Nat.testBit_and, h k e, Bool.true_and]
 cases ho : o.testBit k with
 | true => rfl
 | false => rw [ho] at h1; cases h1
theorem Z5n {a b o : Nat} (h : Sub a b) (ha : a < 4096) (hb : b < 4096) (hz : a &&& o = 0) : Sub a (restN b o) := fun k e => by
 have h1 : (a &&& o).testBit k = (a.testBit k && o.testBit k) := Nat.testBit_and ..
 rw [hz, Nat.zero_testBit, e, Bool.true_and] at h1
 rw [X2 b o k hb, h k e, <- h1]
 rfl
theorem Z9b {a b : Nat} (h : Sub a b) (h1 : 1 <= a) (hb : b < 4096) (hal : aloneB b = true) : aloneB a = true := by
 have hle := h.le
 have hex : ∃ k, a.testBit k = true := by
  apply Classical.byContradiction
  intro hn
  have : a = 0 := by
   apply Nat.eq_of_testBit_eq
   intro k
   rw [Nat.zero_testBit]
   cases e : a.testBit k with
   | false => rfl
   | true => exact absurd ⟨k, e⟩ hn
  omega
 obtain ⟨k, hk⟩ := hex
 have e1 := Jg (by omega) hb hal (h k hk)
 have : a = b := by
  apply Nat.eq_of_testBit_eq
  intro i
  cases e : b.testBit i with
  | false =>
   cases e2 : a.testBit i with
   | false => rfl
   | true => rw [h i e2] at e; cases e
  | true =>
   have e3 := Jg (by omega) hb hal e
   rw [e1] at e3
   injection e3 with e4 _
   have : k = i := by omega
   rw [<- this]; exact hk
 rw [this]; exact hal
theorem Z9c {ts ts' : List (Nat × Int)} (h0 : ∀ t ∈ ts, 0 <= t.2) (h0' : ∀ t ∈ ts', 0 <= t.2) (hc : ∀ t ∈ ts, ∃ t' ∈ ts', t'.1 = t.1 /\ t'.2 <= t.2) :
  ∀ (m m' : Nat), 1 <= m' -> m < 4096 -> Sub m' m -> 0 <= (bestS ts m).1 -> 0 <= (bestS ts' m').1 /\ (bestS ts' m').1 <= (bestS ts m).1 := by
 intro m
 induction m using Nat.strongRecOn with
 | _ m ih =>
 intro m' h1 hm hs hb
 have hm' : m' < 4096 := by have := hs.le; omega
 by_cases a' : aloneB m' = true
 ·have e := Z0b ts' m' hm'
  rw [if_pos a'] at e
  rw [e]; exact ⟨Int.le_refl _, hb⟩
 have a : ¬ aloneB m = true := fun a => a' (Z9b hs h1 hm a)
 obtain ⟨t, ht, hcd⟩ := (Z6j h0 m hm a).2.1 hb
 unfold cand at hcd
 split at hcd
 ·cases hcd
 rename_i g1
 split at hcd
 ·cases hcd
 rename_i g2
 split at hcd
 ·cases hcd
 rename_i g3
 split at hcd
 ·cases hcd
 rename_i g4
 injection hcd with hcd
 obtain ⟨t', ht', q1, q2⟩ := hc t ht
 have l1 := Za9 m t.1 hm g2
 have l2 := Z3l m t.1 hm g1
 have t0 := h0 t ht
 by_cases z1 : m' &&& t.1 = 0
 ·have := ih _ l2 m' h1 (by omega) (Z5n hs hm' hm z1) (by omega)
  exact ⟨this.1, by omega⟩
 by_cases z2 : restN m' t.1 = 0
 ·have := ih _ l1 m' h1 (by omega) (Z9a hs hm' hm z2) (by omega)
  exact ⟨this.1, by omega⟩
 have i1 := ih _ l1 (m' &&& t.1) (by omega) (by omega) (Zd5 hs t.1) (by omega)
 have i2 := ih _ l2 (restN m' t.1) (by omega) (by omega) (Zae hs hm' hm t.1) (by omega)
 have hcd' : cand (bestS ts') m' t' = some (t'.2 + max (bestS ts' (m' &&& t.1)).1 (bestS ts' (restN m' t.1)).1) := by
  unfold cand
  rw [q1, if_neg z1, if_neg z2, if_neg (by omega), if_neg (by omega)]
 have h3 := (Z6j h0' m' hm' a').2.2 t' ht' _ hcd'
 exact ⟨h3.1, by omega⟩
theorem Ys {k : Int} : ∀ {l : List Int}, Rising k l -> ∀ n ∈ l, 0 <= n /\ n < k
 | [], _, n, hn => by cases hn
 | a :: l, h, n, hn => by
  rcases List.mem_cons.1 hn with rfl | hn
  ·exact ⟨h.1, h.2.1⟩
  ·exact Ys h.2.2.2 n hn
theorem Z24 {k : Int} {l : List Int} (h : Rising k l) : suspE k (-1) l = 0 := Jt l (-1) h fun n hn => by have := Ys h n hn; omega
theorem Zd6 {S : Nat} (hS : S <= 12) {l : List Int} (h : Rising S l) : setN 0 l < 4096 := by
 have := Z2x (S : Int) l (-1) 0 (Nat.pow_pos (by decide)) (Z24 h)
 rw [Int.toNat_natCast] at this
 have h2 : 2 ^ S <= 2 ^ 12 := Nat.pow_le_pow_right (by decide) hS
 have h3 : 2 ^ 12 = 4096 := rfl
 omega
theorem Yl : ∀ n : Nat, Rising (n : Int) (firstL n)
 | 0 => trivial
 | n + 1 => by
  rw [Z1x]
  exact Yx (by omega) (Yl n)
theorem Z9d {h : Hnt} {S : Nat} {s t : Int} (hs : s <= 12) (ht : t <= 12) (hg : HntG s t h) (hS : h.suspects = S) :
  ((bestS (setsOf h) (setN 0 (firstL S))).1 < 0 /\ worstT h (firstL S) = (0, 0, 15)) \/ (0 <= (bestS (setsOf h) (setN 0 (firstL S))).1 /\ ∃ q, worstT h (firstL S) = ((bestS (setsOf h) (setN 0 (firstL S))).1, q, 0)) := by
 have h1 := hg.1
 unfold worstT
 rw [if_pos (Z5l hs ht hg), if_neg (by rw [Xo]; omega), hS, if_pos (Z24 (Yl S))]
 by_cases e : (bestS (setsOf h) (setN 0 (firstL S))).1 < 0
 ·rw [if_pos e]; exact Or.inl ⟨e, rfl⟩
 ·rw [if_neg e]; exact Or.inr ⟨by omega, _, rfl⟩
theorem Ju {h h' : Hnt} {S : Nat} {s t s' t' : Int} (hs : s <= 12) (ht : t <= 12) (hs' : s' <= 12) (ht' : t' <= 12) (hg : HntG s t h) (hg' : HntG s' t' h') (hS : h.suspects = S) (hS' : h'.suspects = S)
  (hc : ∀ x ∈ h.trials, ∃ y ∈ h'.trials, y.of = x.of /\ y.cost <= x.cost) {l : List Int} (hl : Rising S l) (hne : l ≠ []) (hb : 0 <= (bestS (setsOf h) (setN 0 (firstL S))).1) :
  ∃ c q, worstT h' l = (c, q, 0) /\ c <= (bestS (setsOf h) (setN 0 (firstL S))).1 := by
 have hS12 : S <= 12 := by have := hg.2.1; omega
 have hlen : l.length ≠ 0 := fun e => hne (List.length_eq_zero_iff.1 e)
 have hm := Zd6 hS12 (Yl S)
 have hbit := fun k => Z3p l 0 k fun n hn => (Ys hl n hn).1
 have hbit2 := fun k => Z3p (firstL S) 0 k fun n hn => (Ys (Yl S) n hn).1
 have hsub : Sub (setN 0 l) (setN 0 (firstL S)) := fun k e => by
  rw [hbit, Nat.zero_testBit, Bool.false_or, decide_eq_true_iff] at e
  rw [hbit2, Nat.zero_testBit, Bool.false_or, decide_eq_true_iff]
  have := Ys hl _ e
  unfold firstL
  exact List.mem_map.2 ⟨k, List.mem_range.2 (by omega), rfl⟩
 have h1 : 1 <= setN 0 l := by
  obtain ⟨a, r, rfl⟩ : ∃ a r, l = a :: r := by cases l with | nil => exact absurd rfl hne | cons a r => exact ⟨a, r, rfl⟩
  have ha := Ys hl a List.mem_cons_self
  have e := hbit a.toNat
  rw [Nat.zero_testBit, Bool.false_or, Int.toNat_of_nonneg ha.1, decide_eq_true List.mem_cons_self] at e
  apply Nat.pos_of_ne_zero
  intro e0
  rw [e0, Nat.zero_testBit] at e
  cases e
 have hcost : ∀ {g : Hnt} {s t : Int}, HntG s t g -> ∀ x ∈ setsOf g, 0 <= x.2 := fun hg x hx => by
  obtain ⟨y, hy, rfl⟩ := List.mem_map.1 hx
  exact (hg.2.2.2 y hy).2.2.1
 have hmono := Z9c (ts := setsOf h) (ts' := setsOf h') (hcost hg) (hcost hg') (fun x hx => by
  obtain ⟨y, hy, rfl⟩ := List.mem_map.1 hx
  obtain ⟨z, hz, z1, z2⟩ := hc y hy
  exact ⟨_, List.mem_map.2 ⟨z, hz, rfl⟩, by show setN 0 z.of = setN 0 y.of; rw [z1], z2⟩) _ _ h1 hm hsub hb
 unfold worstT
 rw [if_pos (Z5l hs' ht' hg'), if_neg hlen, hS', if_pos (Z24 hl), if_neg (by omega)]
 exact ⟨_, _, rfl, hmono.2⟩
end Go.Proofs.Ytgnpnfkncbnjnaa
namespace Go.Proofs.Ytgnpnfkncbnjnaa
open Go Go.Am
attribute [local congr] Z5 Z2 Z3
attribute [local go_sem] Go.Am.buildSliceA Go.Am.frozen Go.Am.freezeG Go.Am.freezeGs Go.Am.minmax
end Go.Proofs.Ytgnpnfkncbnjnaa
namespace Go.Am
open Go
attribute [go_sem] indexA
section
variable {C : Cfg} {K : Nat}
end
end Go.Am
namespace Go.Proofs.Ytgnpnfkncbnjnaa
open Go Go.Am
attribute [local congr] Z5 Z2 Z3
attribute [local go_sem] Go.Am.buildSliceA Go.Am.frozen Go.Am.freezeG Go.Am.freezeGs Go.Am.minmax
end Go.Proofs.Ytgnpnfkncbnjnaa
namespace Go.Proofs.Ytgnpnfkncbnjnaa
open Go Go.Am
attribute [local congr] Z5 Z2 Z3
attribute [local go_sem] Go.Am.buildSliceA Go.Am.frozen Go.Am.freezeG Go.Am.freezeGs Go.Am.minmax
end Go.Proofs.Ytgnpnfkncbnjnaa
namespace Go.Proofs.Ytgnpnfkncbnjnaa
open Go Go.Am
attribute [local congr] Z5 Z2 Z3
attribute [local go_sem] Go.Am.buildSliceA Go.Am.frozen Go.Am.freezeG Go.Am.freezeGs Go.Am.minmax
def shutE (np : Int) : Int -> List Int -> Int
 | _, [] => 0
 | last, p :: l => if fromB p 0 (np - 1) = true then if p <= last then 11 else shutE np p l else 7
def stageE (v : Vac) (s : Bk) : Int := if fromB s.ticks 0 2000 = true /\ fromB s.heat 0 2000 = true then shutE v.pipes.length (-1) s.shut else 2
end Go.Proofs.Ytgnpnfkncbnjnaa
namespace Go.Proofs.Ytgnpnfkncbnjnaa
open Go Go.Am
attribute [local congr] Z5 Z2 Z3
attribute [local go_sem] Go.Am.buildSliceA Go.Am.frozen Go.Am.freezeG Go.Am.freezeGs Go.Am.minmax
def outP (x : Int) (shut : List Int) : Nat -> Rg -> List Pip -> Rg
 | _, acc, [] => acc
 | i, acc, p :: r => if (i : Int) ∈ shut then outP x shut (i + 1) acc r else
  outP x shut (i + 1) (if p.b = x then plusR (if p.a = x then plusR acc p.out else acc) p.back else (if p.a = x then plusR acc p.out else acc)) r
def outM (x : Int) : Rg -> List Pmp -> Rg
 | acc, [] => acc
 | acc, q :: r => outM x (if q.at' = x then plusR acc q.part else acc) r
def outR (v : Vac) (x : Int) (shut : List Int) : Rg := outM x (outP x shut 0 ⟨0, 0⟩ v.pipes) v.pumps
structure Vac.Lens (v : Vac) (K : Nat) : Prop where
 ves : v.vessels.length < K /\ v.vessels.length <= 9223372036854775807
 pip : v.pipes.length < K /\ v.pipes.length <= 9223372036854775807
 pmp : v.pumps.length < K /\ v.pumps.length <= 9223372036854775807
 inl : v.leaks.length < K /\ v.leaks.length <= 9223372036854775807
 gtr : v.getters.length < K /\ v.getters.length <= 9223372036854775807
 bands : ∀ x ∈ v.vessels, x.bands.length <= 9223372036854775807
end Go.Proofs.Ytgnpnfkncbnjnaa
namespace Go.Proofs.Ytgnpnfkncbnjnaa
open Go Go.Am
attribute [local congr] Z5 Z2 Z3
attribute [local go_sem] Go.Am.buildSliceA Go.Am.frozen Go.Am.freezeG Go.Am.freezeGs Go.Am.minmax
end Go.Proofs.Ytgnpnfkncbnjnaa
namespace Go.Am
open Go
section
variable {C : Cfg} {K : Nat}
end
end Go.Am
namespace Go.Proofs.Ytgnpnfkncbnjnaa
open Go Go.Am
attribute [local congr] Z5 Z2 Z3
attribute [local go_sem] Go.Am.buildSliceA Go.Am.frozen Go.Am.freezeG Go.Am.freezeGs Go.Am.minmax
def getS : List (Int × Rg) -> Int -> Rg
 | [], _ => ⟨0, 0⟩
 | a :: r, k => if k = a.1 then a.2 else getS r k
def setS : List (Int × Rg) -> Int -> Rg -> List (Int × Rg)
 | [], k, x => [(k, x)]
 | a :: r, k, x => if k = a.1 then (k, x) :: r else a :: setS r k x
def encE (es : List (Int × Rg)) : List (AV × AV) := es.map fun e => (iV e.1, rgV e.2)
def leaveP (shut : List Int) : Nat -> List (Int × Rg) -> List Pip -> List (Int × Rg)
 | _, es, [] => es
 | i, es, p :: r => if (i : Int) ∈ shut then leaveP shut (i + 1) es r else
  leaveP shut (i + 1) (setS (setS es p.a (plusR (getS es p.a) p.out)) p.b (plusR (getS (setS es p.a (plusR (getS es p.a) p.out)) p.b) p.back)) r
def leaveM : List (Int × Rg) -> List Pmp -> List (Int × Rg)
 | es, [] => es
 | es, q :: r => leaveM (setS es q.at' (plusR (getS es q.at') q.part)) r
def leaveL (v : Vac) (shut : List Int) : List (Int × Rg) := leaveM (leaveP shut 0 [] v.pipes) v.pumps
end Go.Proofs.Ytgnpnfkncbnjnaa
namespace Go.Proofs.Ytgnpnfkncbnjnaa
open Go Go.Am
attribute [local congr] Z5 Z2 Z3
attribute [local go_sem] Go.Am.buildSliceA Go.Am.frozen Go.Am.freezeG Go.Am.freezeGs Go.Am.minmax
end Go.Proofs.Ytgnpnfkncbnjnaa
namespace Go.Am
open Go
theorem Zi6 {b : Nm} {r bs : List Nm} {xs : List Blk} {H : Heap} {n : Nat} {p : Nm} {jr : Bool} {j : Delta} {x : Blk} (k : Nat) (hm : memNm b bs = false) (hb : hget H b = some x) : lendM (k + 1) (b :: r) bs xs ⟨H, n, p, jr, j⟩ = lendM k (namesB false x r) (bs ++ [b]) (xs ++ [x]) ⟨H, n, p, jr, j⟩ := by
 rw [Xb, hm]
 simp only
 rw [Z7, Zx, hb]
 rfl
end Go.Am
namespace Go.Proofs.Ytgnpnfkncbnjnaa
open Go Go.Am
attribute [local congr] Z5 Z2 Z3
attribute [local go_sem] Go.Am.buildSliceA Go.Am.frozen Go.Am.freezeG Go.Am.freezeGs Go.Am.minmax
end Go.Proofs.Ytgnpnfkncbnjnaa
namespace Go.Proofs.Ytgnpnfkncbnjnaa
open Go Go.Am
attribute [local congr] Z5 Z2 Z3
attribute [local go_sem] Go.Am.buildSliceA Go.Am.frozen Go.Am.freezeG Go.Am.freezeGs Go.Am.minmax
end Go.Proofs.Ytgnpnfkncbnjnaa
namespace Go.Proofs.Ytgnpnfkncbnjnaa
open Go Go.Am
attribute [local congr] Z5 Z2 Z3
attribute [local go_sem] Go.Am.buildSliceA Go.Am.frozen Go.Am.freezeG Go.Am.freezeGs Go.Am.minmax
@[go_sem] theorem Zi7 : ofConst .nilFunc = some .nilf := rfl
structure Chk' where
 f : FuncId
 c : List AV
 e : Int
 J : Delta -> Delta
def Chk'.av (x : Chk') : AV := .func x.f x.c
end Go.Proofs.Ytgnpnfkncbnjnaa
namespace Go.Am
open Go
end Go.Am
namespace Go.Proofs.Ytgnpnfkncbnjnaa
open Go Go.Am
end Go.Proofs.Ytgnpnfkncbnjnaa
namespace Go.Proofs.Ytgnpnfkncbnjnaa
open Go Go.Am
attribute [local congr] Z5 Z2 Z3
attribute [local go_sem] Go.Am.buildSliceA Go.Am.frozen Go.Am.freezeG Go.Am.freezeGs
end Go.Proofs.Ytgnpnfkncbnjnaa
namespace Go.Am
open Go
section
variable {H : Heap} {X Y : Blk} {a b k c k' c' : Nat}
theorem n11 (h : a ≠ b) : ([a] : Nm) ≠ [b] := fun e => h (by injection e)
theorem n13 : ([a] : Nm) ≠ [b, k, c] := fun e => by injection e with _ e; cases e
theorem n31 : ([a, k, c] : Nm) ≠ [b] := fun e => by injection e with _ e; cases e
theorem hc11 (h : a ≠ b) : hget (([a], X) :: H) [b] = hget H [b] := Z1 X H (n11 h)
theorem hc13 : hget (([a], X) :: H) [b, k, c] = hget H [b, k, c] := Z1 X H n13
theorem hs11 (h : a ≠ b) : hget (hset H [a] X) [b] = hget H [b] := Z0 H X (n11 h)
theorem hs13 : hget (hset H [a] X) [b, k, c] = hget H [b, k, c] := Z0 H X n13
theorem hd13 : hget (hdel H [a]) [b, k, c] = hget H [b, k, c] := Zc H n13
end
theorem hss {H : Heap} {b : Nm} {X Y : Blk} (h : hget H b = some Y) : hget (hset H b X) b = some X := Z4 X h
section
variable {x : Option Blk} {r : Delta} {a b k c k' c' : Nat}
theorem lkn (q : Nm) : lkD [] q = none := rfl
theorem Zaf {i q : Nm} (h : i ≠ q) : lkD ((i, x) :: r) q = lkD r q := by show (if i = q then some x else lkD r q) = _; rw [if_neg h]
theorem Jv (i : Nm) : lkD ((i, x) :: r) i = some x := by show (if i = i then some x else lkD r i) = _; rw [if_pos rfl]
theorem lk13 : lkD (([a], x) :: r) [b, k, c] = lkD r [b, k, c] := Zaf n13
theorem lk31 : lkD (([a, k, c], x) :: r) [b] = lkD r [b] := Zaf n31
theorem Zd7 (h : k ≠ k') : lkD (([a, k, c], x) :: r) [b, k', c'] = lkD r [b, k', c'] := Zaf fun e => h (by injection e with _ e; injection e)
end
def mutV (b : Nm) : Nat -> AV
 | 0 => .nils
 | n + 1 => .slice b 0 (n + 1) (n + 1) false
section
variable {C : Cfg} {sT e : TypeId} {i : TI} {zv : AV}
end
end Go.Am
namespace Go.Am
open Go
structure Bare (cs : List AV) : Prop where
 nm : ∀ op r, namesVs op cs r = r
 rn : ∀ mp, renVs mp cs = some cs
theorem Jj (op : Bool) : ∀ (a b : List AV) (r : List Nm), namesVs op (a ++ b) r = namesVs op a (namesVs op b r)
 | [], b, r => rfl
 | x :: a, b, r => by
  show namesV op x (namesVs op (a ++ b) r) = namesV op x (namesVs op a (namesVs op b r))
  rw [Jj op a b r]
theorem Z0s (mp : List (Nm × Nm)) : ∀ (a b a' b' : List AV), renVs mp a = some a' -> renVs mp b = some b' -> renVs mp (a ++ b) = some (a' ++ b')
 | [], b, a', b', h1, h2 => by injection h1 with h1; subst h1; exact h2
 | x :: a, b, a', b', h1, h2 => by
  unfold renVs at h1
  cases hx : renV mp x with
  | none => rw [hx] at h1; cases h1
  | some y =>
   rw [hx] at h1; simp only at h1
   cases ha : renVs mp a with
   | none => rw [ha] at h1; cases h1
   | some a1 =>
    rw [ha] at h1
    injection h1 with h1; subst h1
    show renVs mp (x :: (a ++ b)) = _
    unfold renVs
    rw [hx]; simp only
    rw [Z0s mp a b a1 b' ha h2]; rfl
theorem Bare.append {a b : List AV} (ha : Bare a) (hb : Bare b) : Bare (a ++ b) :=
 ⟨fun op r => by rw [Jj, hb.nm, ha.nm], fun mp => Z0s mp a b a b (ha.rn mp) (hb.rn mp)⟩
section
variable {C : Cfg} {K : Nat}
end
end Go.Am
namespace Go.Am
open Go
end Go.Am
namespace Go.Proofs.Ytgnpnfkncbnjnaa
open Go Go.Am
attribute [local congr] Z5 Z2 Z3
attribute [local go_sem] Go.Am.buildSliceA Go.Am.frozen Go.Am.freezeG Go.Am.freezeGs Go.Am.minmax
def rgC (r : Rg) : List AV := [.int .i64 r.lo, .int .i64 r.hi]
end Go.Proofs.Ytgnpnfkncbnjnaa
namespace Go.Proofs.Ytgnpnfkncbnjnaa
open Go Go.Am
attribute [local congr] Z5 Z2 Z3
attribute [local go_sem] Go.Am.buildSliceA Go.Am.minmax
structure GasAt (H : Heap) (b1 b2 b3 : Nm) (g : Gs) : Prop where
 f : g.free ≠ [] -> hget H b1 = some (.cells (g.free.flatMap rgC) true 2)
 b : g.bound ≠ [] -> hget H b2 = some (.cells (g.bound.flatMap rgC) true 2)
 r : g.room ≠ [] -> hget H b3 = some (.cells (g.room.flatMap rgC) true 2)
def zeroG : Gs := ⟨[], [], [], 0, false⟩
def gasE (e : Int) (g : Gs) : AV := .tuple [gsV (if e = 0 then g else zeroG), .int .i64 e]
@[go_sem] theorem Zd8 (e : Int) (g : Gs) : (gasE e g).flat = true := by
 unfold gasE; simp only [gsV, AV.flat, flats, Za7]
end Go.Proofs.Ytgnpnfkncbnjnaa
namespace Go.Proofs.Ytgnpnfkncbnjnaa
open Go Go.Am
attribute [local congr] Z5 Z2 Z3
attribute [local go_sem] Go.Am.buildSliceA Go.Am.minmax
end Go.Proofs.Ytgnpnfkncbnjnaa
namespace Go.Proofs.Ytgnpnfkncbnjnaa
open Go Go.Am
attribute [local congr] Z5 Z2 Z3
attribute [local go_sem] Go.Am.buildSliceA Go.Am.frozen Go.Am.freezeG Go.Am.freezeGs Go.Am.minmax
theorem Vac.Lens.more {v : Vac} {K : Nat} (hv : v.Lens K) (q : Nat) : v.Lens (K + q) := ⟨⟨by have := hv.ves.1; omega, hv.ves.2⟩, ⟨by have := hv.pip.1; omega, hv.pip.2⟩, ⟨by have := hv.pmp.1; omega, hv.pmp.2⟩, ⟨by have := hv.inl.1; omega, hv.inl.2⟩, ⟨by have := hv.gtr.1; omega, hv.gtr.2⟩, hv.bands⟩
end Go.Proofs.Ytgnpnfkncbnjnaa
namespace Go.Am
open Go
section
variable {u a k c : Nat} {w : Int} {H H' : Heap} {X : Blk} {x : Option Blk} {d : Delta}
end
end Go.Am
namespace Go.Proofs.Ytgnpnfkncbnjnaa
open Go Go.Am
attribute [local congr] Z5 Z2 Z3
attribute [local go_sem] Go.Am.buildSliceA Go.Am.frozen Go.Am.freezeG Go.Am.freezeGs Go.Am.minmax
structure RgG (m : Int) (r : Rg) : Prop where
 lo : 0 <= r.lo
 le : r.lo <= r.hi
 hi : r.hi <= m
def BandsG (k : Int) : List Rel -> Prop
 | [] => True
 | b :: l => 0 <= b.frm /\ b.frm < k /\ (∀ m ∈ l, b.frm < m.frm) /\ RgG 400000 b.rate /\ BandsG k l
structure VesG (v : Ves) : Prop where
 vol : 1 <= v.vol /\ v.vol <= 50
 free : RgG 20000 v.free
 bound : RgG 50000 v.bound
 len : v.bands.length <= 2
 bands : BandsG 1100 v.bands
structure PipG (n : Int) (p : Pip) : Prop where
 a : 0 <= p.a /\ p.a < n
 b : 0 <= p.b /\ p.b < n
 ab : p.a ≠ p.b
 out : RgG 120000 p.out
 back : RgG 120000 p.back
structure PmpG (n : Int) (p : Pmp) : Prop where
 at' : 0 <= p.at' /\ p.at' < n
 part : RgG 200000 p.part
structure InlG (n : Int) (p : Inl) : Prop where
 at' : 0 <= p.at' /\ p.at' < n
 gas : RgG 30 p.gas
structure GtrG (n : Int) (p : Gtr) : Prop where
 at' : 0 <= p.at' /\ p.at' < n
 part : RgG 300000 p.part
 room : RgG 9000 p.room
structure VacG (v : Vac) : Prop where
 n1 : 1 <= v.vessels.length
 n4 : v.vessels.length <= 4
 ves : ∀ x ∈ v.vessels, VesG x
 np : v.pipes.length <= 4
 pip : ∀ x ∈ v.pipes, PipG v.vessels.length x
 nm : v.pumps.length <= 2
 pmp : ∀ x ∈ v.pumps, PmpG v.vessels.length x
 nl : v.leaks.length <= 2
 inl : ∀ x ∈ v.leaks, InlG v.vessels.length x
 ng : v.getters.length <= 2
 gtr : ∀ x ∈ v.getters, GtrG v.vessels.length x
theorem Zi8 (m : Int) (h : 0 <= m) : RgG m ⟨0, 0⟩ := ⟨Int.le_refl _, Int.le_refl _, h⟩
section
variable {H : Heap} {m u : Nat} {p : Nm} {jr : Bool} {j : Delta}
def jD (jr : Bool) (w : Int) (u : Nat) (j : Delta) : Delta := match jr with | true => ([0], some (.cells [.int .u64 w] true u)) :: j | false => j
@[go_sem] theorem Zi9 (w : Int) (u : Nat) (j : Delta) : jD true w u j = ([0], some (.cells [.int .u64 w] true u)) :: j := rfl
@[go_sem] theorem Zfn (w : Int) (u : Nat) (j : Delta) : jD false w u j = j := rfl
end
end Go.Proofs.Ytgnpnfkncbnjnaa
namespace Go.Proofs.Ytgnpnfkncbnjnaa
open Go Go.Am
attribute [local congr] Z5 Z2 Z3
attribute [local go_sem] Go.Am.frozen Go.Am.freezeG Go.Am.freezeGs Go.Am.minmax
end Go.Proofs.Ytgnpnfkncbnjnaa
namespace Go.Proofs.Ytgnpnfkncbnjnaa
open Go Go.Am
attribute [local congr] Z5 Z2 Z3
attribute [local go_sem] Go.Am.buildSliceA Go.Am.frozen Go.Am.freezeG Go.Am.freezeGs Go.Am.minmax
end Go.Proofs.Ytgnpnfkncbnjnaa
namespace Go.Proofs.Ytgnpnfkncbnjnaa
open Go Go.Am
attribute [local congr] Z5 Z2 Z3
attribute [local go_sem] Go.Am.buildSliceA Go.Am.minmax
def rowV (l : List Rg) : AV := .lst (l.map rgV)
@[go_sem] theorem Zl6 (R : List (List Rg)) : flats (R.map rowV) = true := by
 induction R with
 | nil => rfl
 | cons a r ih =>
  show flats (AV.lst (a.map rgV) :: r.map rowV) = true
  simp only [flats, AV.flat, Za7, ih]
end Go.Proofs.Ytgnpnfkncbnjnaa
namespace Go.Am
open Go
section
variable {C : Cfg} {sT e : TypeId} {i : TI} {zv : AV}
end
end Go.Am
namespace Go.Proofs.Ytgnpnfkncbnjnaa
open Go Go.Am
attribute [local congr] Z5 Z2 Z3
attribute [local go_sem] Go.Am.frozen Go.Am.freezeG Go.Am.freezeGs Go.Am.minmax
structure Gs.Lens (g : Gs) : Prop where
 f : g.free.length <= 9223372036854775807
 b : g.bound.length <= 9223372036854775807
 r : g.room.length <= 9223372036854775807
end Go.Proofs.Ytgnpnfkncbnjnaa
namespace Go.Proofs.Ytgnpnfkncbnjnaa
open Go Go.Am
attribute [local congr] Z5 Z2 Z3
attribute [local go_sem] Go.Am.buildSliceA Go.Am.frozen Go.Am.freezeG Go.Am.freezeGs Go.Am.minmax
end Go.Proofs.Ytgnpnfkncbnjnaa
namespace Go.Proofs.Ytgnpnfkncbnjnaa
open Go Go.Am
attribute [local congr] Z5 Z2 Z3
attribute [local go_sem] Go.Am.buildSliceA Go.Am.frozen Go.Am.freezeG Go.Am.freezeGs Go.Am.minmax
end Go.Proofs.Ytgnpnfkncbnjnaa
namespace Go.Proofs.Ytgnpnfkncbnjnaa
open Go Go.Am
attribute [local congr] Z5 Z2 Z3
attribute [local go_sem] Go.Am.frozen Go.Am.freezeG Go.Am.freezeGs Go.Am.minmax
structure GasG (v : Vac) (g : Gs) : Prop where
 fl : g.free.length = v.vessels.length
 bl : g.bound.length = v.vessels.length
 rl : g.room.length = v.getters.length
 f : ∀ r ∈ g.free, RgG 30000 r
 b : ∀ r ∈ g.bound, RgG 60000 r
 r : ∀ r ∈ g.room, RgG 9000 r
 m : 0 <= g.most /\ g.most <= 1000000
def vacC (v : Vac) : Blk := .cells [.lst (v.vessels.map vesV), .lst (v.pipes.map pipV), .lst (v.pumps.map pmpV), .lst (v.leaks.map inlV), .lst (v.getters.map gtrV)] true 0
end Go.Proofs.Ytgnpnfkncbnjnaa
namespace Go.Am
open Go
noncomputable def putsH : List Nm -> List Blk -> Heap -> Heap
 | b :: r, x :: q, H => putsH r q (hset H b x)
 | _, _, H => H
section
variable {C : Cfg} {K : Nat}
end
end Go.Am
namespace Go.Proofs.Ytgnpnfkncbnjnaa
open Go Go.Am
attribute [local congr] Z5 Z2 Z3
attribute [local go_sem] Go.Am.frozen Go.Am.freezeG Go.Am.freezeGs Go.Am.minmax
class Emp (E : AV) : Prop where
 out : E = .nils \/ E = .lst []
instance : Emp .nils := ⟨.inl rfl⟩
instance : Emp (.lst []) := ⟨.inr rfl⟩
def rowX (E : AV) (b : Nm) : Nat -> AV
 | 0 => E
 | n + 1 => .slice b 0 (n + 1) (n + 1) false
def rgB (L : List Rg) : Blk := .cells (L.flatMap rgC) true 2
def sysB (E : AV) (v : Vac) (f b r : Nm) (g : Gs) : Blk := .cells [.lst (v.vessels.map vesV), .lst (v.pipes.map pipV), .lst (v.pumps.map pmpV), .lst (v.leaks.map inlV), .lst (v.getters.map gtrV), .slice f 0 g.free.length g.free.length false, .slice b 0 g.bound.length g.bound.length false, rowX E r g.room.length, .int .i64 g.most, .bool g.flashed] true 0
structure SysAt (E : AV) (H : Heap) (X f b r : Nm) (v : Vac) (g : Gs) : Prop where
 x : hget H X = some (sysB E v f b r g)
 f : hget H f = some (rgB g.free)
 b : hget H b = some (rgB g.bound)
 r : g.room ≠ [] -> hget H r = some (rgB g.room)
structure Apart (X f b r : Nm) : Prop where
 xf : X ≠ f
 xb : X ≠ b
 xr : X ≠ r
 fb : f ≠ b
 fr : f ≠ r
 br : b ≠ r
variable {E : AV}
end Go.Proofs.Ytgnpnfkncbnjnaa
namespace Go.Proofs.Ytgnpnfkncbnjnaa
open Go Go.Am
attribute [local congr] Z5 Z2 Z3
attribute [local go_sem] Go.Am.frozen Go.Am.freezeG Go.Am.freezeGs
variable {E : AV}
def min2 (a b : Int) : Int := if b < a then b else a
def max2 (a b : Int) : Int := if a < b then b else a
def leakF : Int -> List Inl -> Int
 | m, [] => m
 | m, l :: r => leakF (min2 68719476736 (wrapF .i64 (m + l.gas.hi))) r
def beginT (v : Vac) (g : Gs) (s : Bk) : Gs := ⟨g.free, g.bound, g.room, leakF g.most v.leaks, g.flashed || s.flash⟩
end Go.Proofs.Ytgnpnfkncbnjnaa
namespace Go.Proofs.Ytgnpnfkncbnjnaa
open Go Go.Am
attribute [local congr] Z5 Z2 Z3
attribute [local go_sem] Go.Am.frozen Go.Am.freezeG Go.Am.freezeGs
variable {E : AV}
end Go.Proofs.Ytgnpnfkncbnjnaa
namespace Go.Proofs.Ytgnpnfkncbnjnaa
open Go Go.Am
attribute [local congr] Z5 Z2 Z3
attribute [local go_sem] Go.Am.frozen Go.Am.freezeG Go.Am.freezeGs
variable {E : AV}
def rateP (h : Int) : Rg -> List Rel -> Rg
 | q, [] => q
 | q, b :: r => if h < b.frm then q else rateP h b.rate r
def relFr (h : Int) (x : Ves) (f b : Rg) : Rg := plusR f ⟨downN b.lo (rateP h ⟨0, 0⟩ x.bands).lo, upN b.hi (rateP h ⟨0, 0⟩ x.bands).hi⟩
def relBo (h : Int) (x : Ves) (b : Rg) : Rg := ⟨downN b.lo (wrapF .i64 (1000000 - (rateP h ⟨0, 0⟩ x.bands).hi)), upN b.hi (wrapF .i64 (1000000 - (rateP h ⟨0, 0⟩ x.bands).lo))⟩
def relF (h : Int) (vs : List Ves) (F B : List Rg) : List Rg := (vs.zip (F.zip B)).map fun t => relFr h t.1 t.2.1 t.2.2
def relB (h : Int) (vs : List Ves) (B : List Rg) : List Rg := (vs.zip B).map fun t => relBo h t.1 t.2
def relT (v : Vac) (g : Gs) (s : Bk) : Gs := ⟨relF s.heat v.vessels g.free g.bound, relB s.heat v.vessels g.bound, g.room, g.most, g.flashed⟩
end Go.Proofs.Ytgnpnfkncbnjnaa
namespace Go.Proofs.Ytgnpnfkncbnjnaa
open Go Go.Am
attribute [local congr] Z5 Z2 Z3
attribute [local go_sem] Go.Am.frozen Go.Am.freezeG Go.Am.freezeGs
variable {E : AV}
def getFr (t : Gtr) (f r : Rg) : Rg := ⟨wrapF .i64 (f.lo - min2 (upN f.lo t.part.hi) r.hi), wrapF .i64 (f.hi - min2 (downN f.hi t.part.lo) r.lo)⟩
def getRo (t : Gtr) (f r : Rg) : Rg := ⟨max2 0 (wrapF .i64 (r.lo - upN f.hi t.part.hi)), max2 0 (wrapF .i64 (r.hi - downN f.lo t.part.lo))⟩
def getF : List Gtr -> Nat -> List Rg -> List Rg -> List Rg × List Rg
 | [], _, F, R => (F, R)
 | t :: ts, i, F, R => getF ts (i + 1) (F.set t.at'.toNat (getFr t (F[t.at'.toNat]?.getD ⟨0, 0⟩) (R[i]?.getD ⟨0, 0⟩))) (R.set i (getRo t (F[t.at'.toNat]?.getD ⟨0, 0⟩) (R[i]?.getD ⟨0, 0⟩)))
def getT (v : Vac) (g : Gs) (s : Bk) : Gs := if g.flashed = true then ⟨(getF v.getters 0 g.free g.room).1, g.bound, (getF v.getters 0 g.free g.room).2, g.most, g.flashed⟩ else g
end Go.Proofs.Ytgnpnfkncbnjnaa
namespace Go.Proofs.Ytgnpnfkncbnjnaa
open Go Go.Am
attribute [local congr] Z5 Z2 Z3
attribute [local go_sem] Go.Am.frozen Go.Am.freezeG Go.Am.freezeGs
variable {E : AV}
def mulR (f r : Rg) : Rg := ⟨wrapF .i64 (f.lo * r.lo), wrapF .i64 (f.hi * r.hi)⟩
end Go.Proofs.Ytgnpnfkncbnjnaa
namespace Go.Proofs.Ytgnpnfkncbnjnaa
open Go Go.Am
attribute [local congr] Z5 Z2 Z3
attribute [local go_sem] Go.Am.frozen Go.Am.freezeG Go.Am.freezeGs
variable {E : AV}
def atR (F : List Rg) (a : Int) : Rg := F[a.toNat]?.getD ⟨0, 0⟩
def begR (v : Vac) (shut : List Int) (F : List Rg) (i : Int) : Rg := mulR (atR F i) ⟨wrapF .i64 (1000000 - (outR v i shut).hi), wrapF .i64 (1000000 - (outR v i shut).lo)⟩
def flowS (F : List Rg) (shut : List Int) (x : Int) : Nat -> Rg -> List Pip -> Rg
 | _, acc, [] => acc
 | k, acc, p :: r => if (k : Int) ∈ shut then flowS F shut x (k + 1) acc r else
  flowS F shut x (k + 1) (if x = p.a then plusR (if x = p.b then plusR acc (mulR (atR F p.a) p.out) else acc) (mulR (atR F p.b) p.back) else (if x = p.b then plusR acc (mulR (atR F p.a) p.out) else acc)) r
def quoR (r : Rg) : Rg := ⟨wrapF .i64 (r.lo.tdiv 1000000), wrapF .i64 ((wrapF .i64 (wrapF .i64 (r.hi + 1000000) - 1)).tdiv 1000000)⟩
def flowG (v : Vac) (shut : List Int) (F : List Rg) : List Rg := (List.range F.length).map fun (i : Nat) => quoR (flowS F shut i 0 (begR v shut F i) v.pipes)
def leakR : List Rg -> List Inl -> List Rg
 | R, [] => R
 | R, l :: r => leakR (R.set l.at'.toNat (plusR (atR R l.at') l.gas)) r
def flowT (v : Vac) (g : Gs) (s : Bk) : Gs := ⟨leakR (flowG v s.shut g.free) v.leaks, g.bound, g.room, g.most, g.flashed⟩
structure Fl (E : AV) (m : Nat) (v : Vac) (g : Gs) (s : Bk) (H : Heap) : Prop where
 p : hget H [m + 3] = some (.cells [.ptr [0] 0] true 0)
 k : hget H [m + 4] = some (.cells [.int .i64 s.ticks, .int .i64 s.heat, .lst (s.shut.map iV), .bool s.flash] true 0)
 c : hget H [m + 7] = some (.cells [.map [m + 6]] true 0)
 l : hget H [m + 5, 6, 0] = some (.map (encE (leaveL v s.shut)) false)
 s : SysAt E H [0] [1] [2] [3] v g
theorem Fl.of {m : Nat} {v : Vac} {g : Gs} {s : Bk} {H H' : Heap} (h : Fl E m v g s H) (e : ∀ k, k < m + 8 -> k ≠ m + 6 -> hget H' [k] = hget H [k]) (e2 : hget H' [m + 5, 6, 0] = hget H [m + 5, 6, 0]) (hm : g.room ≠ [] -> 1 <= m) (h3 : 3 <= m + 3) : Fl E m v g s H' :=
 ⟨(e _ (by omega) (by omega)).trans h.p, (e _ (by omega) (by omega)).trans h.k, (e _ (by omega) (by omega)).trans h.c, e2.trans h.l,
  ⟨(e 0 (by omega) (by omega)).trans h.s.x, (e 1 (by omega) (by omega)).trans h.s.f, (e 2 (by omega) (by omega)).trans h.s.b, fun q => (e 3 (by omega) (by omega)).trans (h.s.r q)⟩⟩
end Go.Proofs.Ytgnpnfkncbnjnaa
namespace Go.Proofs.Ytgnpnfkncbnjnaa
open Go Go.Am
attribute [local congr] Z5 Z2 Z3
attribute [local go_sem] Go.Am.frozen Go.Am.freezeG Go.Am.freezeGs
variable {E : AV}
structure Valid (v : Vac) : Prop where
 n1 : 1 <= v.vessels.length
 n8 : v.vessels.length <= 8
 p16 : v.pipes.length <= 16
 m8 : v.pumps.length <= 8
 l8 : v.leaks.length <= 8
 g8 : v.getters.length <= 8
 bd : ∀ x ∈ v.vessels, x.bands.length <= 8
 pip : ∀ q ∈ v.pipes, (0 <= q.a /\ q.a < v.vessels.length) /\ 0 <= q.b /\ q.b < v.vessels.length
 inl : ∀ q ∈ v.leaks, 0 <= q.at' /\ q.at' < v.vessels.length
 gtr : ∀ q ∈ v.getters, 0 <= q.at' /\ q.at' < v.vessels.length
structure Fits (v : Vac) (g : Gs) : Prop where
 f : g.free.length = v.vessels.length
 b : g.bound.length = v.vessels.length
 r : g.room.length = v.getters.length
theorem Fits.ne {v : Vac} {g : Gs} (h : Fits v g) (hv : Valid v) : g.free ≠ [] /\ g.bound ≠ [] :=
 ⟨fun e => by have := h.f; rw [e] at this; have := hv.n1; simp at *; omega, fun e => by have := h.b; rw [e] at this; have := hv.n1; simp at *; omega⟩
end Go.Proofs.Ytgnpnfkncbnjnaa
namespace Go.Proofs.Ytgnpnfkncbnjnaa
open Go Go.Am
attribute [local congr] Z5 Z2 Z3
end Go.Proofs.Ytgnpnfkncbnjnaa
namespace Go.Proofs.Ytgnpnfkncbnjnaa
open Go Go.Am
attribute [local congr] Z5 Z2 Z3
def gasP (p : Gs × Int) : AV := .tuple [gsV p.1, .int .i64 p.2]
@[go_sem] theorem Zd9 (p : Gs × Int) : (gasP p).flat = true := by
 unfold gasP; simp only [gsV, AV.flat, flats, Za7]
end Go.Proofs.Ytgnpnfkncbnjnaa
namespace Go.Proofs.Ytgnpnfkncbnjnaa
open Go Go.Am
attribute [local congr] Z5 Z2 Z3
structure Eats {σ : Type} (nxt : σ -> Gs -> Option σ) (v : Vac) (l bV bS : Nm) (stages : List Bk) (m K : Nat) (I : σ -> Heap -> Prop) (S : σ -> Gs -> Heap -> Prop) : Prop where
 eat : ∀ c g H n, m < n -> I c H -> SysAt .nils H [m, 4, 0] [m, 2, 0] [m, 2, 1] [m, 2, 2] v g -> Fits v g -> (∃ c' H' n', nxt c g = some c' /\ around cfg K l [.ptr [m, 4, 0] 0] ⟨H, n, [], false, []⟩ = .ret (.bool true, ⟨H', n', [], false, []⟩) /\ n <= n' /\ I c' H' /\ (∀ q, m < q -> q < n -> hget H' [q] = hget H [q]) /\ SysAt .nils H' [m, 4, 0] [m, 2, 0] [m, 2, 1] [m, 2, 2] v g) \/ (∃ H' n', nxt c g = none /\ around cfg K l [.ptr [m, 4, 0] 0] ⟨H, n, [], false, []⟩ = .ret (.bool false, ⟨H', n', [], false, []⟩) /\ n <= n' /\ S c g H')
 keep : ∀ c H H', I c H -> (∀ k, k < m -> hget H' [k] = hget H [k]) -> I c H'
 hv : ∀ c H, I c H -> hget H bV = some (vacC v)
 hs : ∀ c H, I c H -> hget H bS = some (.cells [.lst (stages.map bkV)] true 0)
end Go.Proofs.Ytgnpnfkncbnjnaa
namespace Go.Proofs.Ytgnpnfkncbnjnaa
open Go Go.Am
attribute [local congr] Z5 Z2 Z3
attribute [local go_sem] Go.Am.frozen Go.Am.freezeG Go.Am.freezeGs
end Go.Proofs.Ytgnpnfkncbnjnaa
namespace Go.Proofs.Ytgnpnfkncbnjnaa
open Go Go.Am
section
variable {C : Cfg} {call : FuncId -> List AV -> M AV} {rnd : Nm -> List AV -> M AV} {K : Nat}
end
end Go.Proofs.Ytgnpnfkncbnjnaa
namespace Go.Proofs.Ytgnpnfkncbnjnaa
open Go Go.Am
attribute [local congr] Z5 Z2 Z3
end Go.Proofs.Ytgnpnfkncbnjnaa
namespace Go.Proofs.Ytgnpnfkncbnjnaa
open Go Go.Am
attribute [local congr] Z5 Z2 Z3
noncomputable def gasPut (f b r : Nm) (g : Gs) (H : Heap) : Heap := match g.room with
 | [] => putsH [f, b] [rgB g.free, rgB g.bound] H
 | _ :: _ => putsH [f, b, r] [rgB g.free, rgB g.bound, rgB g.room] H
structure Apart3 (f b r : Nm) : Prop where
 fb : f ≠ b
 fr : f ≠ r
 br : b ≠ r
theorem Z9e {H : Heap} {f b r : Nm} {g g' : Gs} (h : GasAt H f b r g) (ha : Apart3 f b r) (h1 : g.free ≠ []) (h2 : g.bound ≠ []) (hr : g'.room.length = g.room.length) : GasAt (gasPut f b r g' H) f b r g' := by
 have hf := h.f h1
 have hb := h.b h2
 unfold gasPut
 cases hg : g'.room with
 | nil =>
  show GasAt (hset (hset H f _) b _) f b r g'
  exact ⟨fun _ => by rw [Z0 _ _ (Ne.symm ha.fb)]; exact hss hf, fun _ => hss ((Z0 _ _ ha.fb).trans hb), fun e => absurd hg e⟩
 | cons a l =>
  have hr2 := h.r (fun e => by rw [hg, e] at hr; simp at hr)
  show GasAt (hset (hset (hset H f _) b _) r _) f b r g'
  exact ⟨fun _ => by rw [Z0 _ _ (Ne.symm ha.fr), Z0 _ _ (Ne.symm ha.fb)]; exact hss hf, fun _ => by rw [Z0 _ _ (Ne.symm ha.br)]; exact hss ((Z0 _ _ ha.fb).trans hb),
   fun _ => by rw [hg]; exact hss ((Z0 _ _ ha.br).trans ((Z0 _ _ ha.fr).trans hr2))⟩
theorem Z9f {H : Heap} {f b r q : Nm} {g : Gs} (h2 : f ≠ q) (h3 : b ≠ q) (h4 : g.room ≠ [] -> r ≠ q) : hget (gasPut f b r g H) q = hget H q := by
 unfold gasPut
 cases hg : g.room with
 | nil =>
  show hget (hset (hset H f _) b _) q = _
  rw [Z0 _ _ h3, Z0 _ _ h2]
 | cons a l =>
  show hget (hset (hset (hset H f _) b _) r _) q = _
  rw [Z0 _ _ (h4 (by rw [hg]; simp)), Z0 _ _ h3, Z0 _ _ h2]
end Go.Proofs.Ytgnpnfkncbnjnaa
namespace Go.Proofs.Ytgnpnfkncbnjnaa
open Go Go.Am
attribute [local congr] Z5 Z2 Z3
end Go.Proofs.Ytgnpnfkncbnjnaa
namespace Go.Proofs.Ytgnpnfkncbnjnaa
open Go Go.Am
attribute [local congr] Z5 Z2 Z3
end Go.Proofs.Ytgnpnfkncbnjnaa
namespace Go.Proofs.Ytgnpnfkncbnjnaa
open Go Go.Am
attribute [local congr] Z5 Z2 Z3
end Go.Proofs.Ytgnpnfkncbnjnaa
namespace Go.Proofs.Ytgnpnfkncbnjnaa
open Go Go.Am
attribute [local congr] Z5 Z2 Z3
structure RAt (H : Heap) (f b r : Nm) (v : Vac) (g : Gs) (s : Bk) : Prop where
 v : hget H [0] = some (vacC v)
 c : hget H [1] = some (.cells [mutV f g.free.length, mutV b g.bound.length, mutV r g.room.length, .int .i64 g.most, .bool g.flashed] true 0)
 k : hget H [2] = some (.cells [.int .i64 s.ticks, .int .i64 s.heat, .lst (s.shut.map iV), .bool s.flash] true 0)
 z : hget H [3] = some (.cells [.nils, .nils, .nils, .int .i64 0, .bool false] true 0)
 g : GasAt H f b r g
theorem RAt.put {H : Heap} {f b r : Nm} {v : Vac} {g g' : Gs} {s : Bk} (h : RAt H f b r v g s) (ha : Apart3 f b r) (h1 : g.free ≠ []) (h2 : g.bound ≠ []) (l1 : g'.free.length = g.free.length) (l2 : g'.bound.length = g.bound.length) (l3 : g'.room.length = g.room.length) (e1 : g'.most = g.most) (e2 : g'.flashed = g.flashed) (n0 : ∀ i, i < 4 -> f ≠ [i] /\ b ≠ [i] /\ r ≠ [i]) : RAt (gasPut f b r g' H) f b r v g' s := by
 have q : ∀ i, i < 4 -> hget (gasPut f b r g' H) [i] = hget H [i] := fun i hi => Z9f (n0 i hi).1 (n0 i hi).2.1 (fun _ => (n0 i hi).2.2)
 exact ⟨(q 0 (by omega)).trans h.v, by rw [l1, l2, l3, e1, e2]; exact (q 1 (by omega)).trans h.c, (q 2 (by omega)).trans h.k, (q 3 (by omega)).trans h.z, Z9e h.g ha h1 h2 l3⟩
end Go.Proofs.Ytgnpnfkncbnjnaa
namespace Go.Proofs.Ytgnpnfkncbnjnaa
open Go Go.Am
attribute [local congr] Z5 Z2 Z3
end Go.Proofs.Ytgnpnfkncbnjnaa
namespace Go.Proofs.Ytgnpnfkncbnjnaa
open Go Go.Am
attribute [local congr] Z5 Z2 Z3
structure StgG (k : Int) (q : Nat) (s : Bk) : Prop where
 t : 0 <= s.ticks /\ s.ticks <= k
 h : 0 <= s.heat /\ s.heat < 900
 n : s.shut.length <= q
 o : s.shut.Pairwise (· < ·)
 s : ∀ x ∈ s.shut, 0 <= x /\ x < q
end Go.Proofs.Ytgnpnfkncbnjnaa
namespace Go.Proofs.Ytgnpnfkncbnjnaa
open Go Go.Am
theorem Z3q {n lo hi : Int} : fromB n lo hi = true ↔ lo <= n /\ n <= hi := by unfold fromB; rw [decide_eq_true_iff]
structure PipB (n : Int) (p : Pip) : Prop where
 a : 0 <= p.a /\ p.a < n
 b : 0 <= p.b /\ p.b < n
 ab : p.a ≠ p.b
 out : RgG 1000000 p.out
 back : RgG 1000000 p.back
def BandsB : Bool -> Int -> List Rel -> Prop
 | _, _, [] => True
 | first, last, b :: r => (0 <= b.frm /\ b.frm <= 2000) /\ (first = false -> last < b.frm) /\ RgG 1000000 b.rate /\ BandsB false b.frm r
structure VesB (x : Ves) : Prop where
 vol : 1 <= x.vol /\ x.vol <= 1000000
 free : RgG 1000000000 x.free
 bound : RgG 1000000000 x.bound
 len : x.bands.length <= 8
 bands : BandsB true 0 x.bands
def sumI {α : Type} (f : α -> Int) : List α -> Int
 | [] => 0
 | a :: r => f a + sumI f r
def pLo (x : Int) (p : Pip) : Int := (if p.a = x then p.out.lo else 0) + (if p.b = x then p.back.lo else 0)
def pHi (x : Int) (p : Pip) : Int := (if p.a = x then p.out.hi else 0) + (if p.b = x then p.back.hi else 0)
def mLo (x : Int) (p : Pmp) : Int := if p.at' = x then p.part.lo else 0
def mHi (x : Int) (p : Pmp) : Int := if p.at' = x then p.part.hi else 0
theorem pb {n : Int} {p : Pip} (h : PipB n p) (x : Int) : 0 <= pLo x p /\ pLo x p <= pHi x p /\ pHi x p <= 2000000 := by
 have := h.out; have := h.back
 obtain ⟨a1, a2, a3⟩ := h.out
 obtain ⟨b1, b2, b3⟩ := h.back
 unfold pLo pHi
 split <;> split <;> omega
theorem mb {p : Pmp} (h : RgG 1000000 p.part) (x : Int) : 0 <= mLo x p /\ mLo x p <= mHi x p /\ mHi x p <= 1000000 := by
 obtain ⟨a1, a2, a3⟩ := h
 unfold mLo mHi
 split <;> omega
def outHi (v : Vac) (x : Int) (ps : List Pip) : Int := sumI (pHi x) ps + sumI (mHi x) v.pumps
structure VB (v : Vac) : Prop where
 n1 : 1 <= v.vessels.length
 n8 : v.vessels.length <= 8
 p16 : v.pipes.length <= 16
 m8 : v.pumps.length <= 8
 l8 : v.leaks.length <= 8
 g8 : v.getters.length <= 8
 ves : ∀ x ∈ v.vessels, VesB x
 pip : ∀ p ∈ v.pipes, PipB v.vessels.length p
 pmp : ∀ q ∈ v.pumps, (0 <= q.at' /\ q.at' < v.vessels.length) /\ RgG 1000000 q.part
 inl : ∀ q ∈ v.leaks, (0 <= q.at' /\ q.at' < v.vessels.length) /\ RgG 100000 q.gas
 gtr : ∀ q ∈ v.getters, ((0 <= q.at' /\ q.at' < v.vessels.length) /\ RgG 1000000 q.part) /\ RgG 1000000000 q.room
 out : ∀ i : Nat, i < v.vessels.length -> outHi v i v.pipes <= 1000000
end Go.Proofs.Ytgnpnfkncbnjnaa
namespace Go.Proofs.Ytgnpnfkncbnjnaa
open Go Go.Am
def ups (n q : Int) : Int := (n * q + 999999) / 1000000
theorem Zaq {n q N : Int} (h0 : 0 <= n) (h1 : n <= N) (q0 : 0 <= q) (q1 : q <= 1000000) : 0 <= n * q /\ n * q <= N * 1000000 :=
 ⟨Int.mul_nonneg h0 q0, Int.mul_le_mul h1 q1 q0 (by omega)⟩
def Row (m : Int) (F : List Rg) : Prop := ∀ r ∈ F, RgG m r
theorem Row.at {m : Int} {F : List Rg} (h : Row m F) (hm : 0 <= m) (a : Int) : RgG m (atR F a) := by
 unfold atR
 cases e : F[a.toNat]? with
 | none => exact Zi8 m hm
 | some r => exact h r (List.mem_of_getElem? e)
theorem RgG.mono {m m' : Int} {r : Rg} (h : RgG m r) (hm : m <= m') : RgG m' r := ⟨h.lo, h.le, Int.le_trans h.hi hm⟩
def fLo (F : List Rg) (x : Int) (p : Pip) : Int := (if x = p.b then (atR F p.a).lo * p.out.lo else 0) + (if x = p.a then (atR F p.b).lo * p.back.lo else 0)
def fHi (F : List Rg) (x : Int) (p : Pip) : Int := (if x = p.b then (atR F p.a).hi * p.out.hi else 0) + (if x = p.a then (atR F p.b).hi * p.back.hi else 0)
theorem Z9g {f r : Rg} (hf : RgG 137438953472 f) (hr : RgG 1000000 r) : mulR f r = ⟨f.lo * r.lo, f.hi * r.hi⟩ /\ RgG 137438953472000000 (mulR f r) := by
 obtain ⟨f1, f2, f3⟩ := hf
 obtain ⟨r1, r2, r3⟩ := hr
 have b1 := Zaq f1 (show f.lo <= 137438953472 by omega) r1 (by omega)
 have b2 := Zaq (show 0 <= f.hi by omega) f3 (show 0 <= r.hi by omega) r3
 have b3 : f.lo * r.lo <= f.hi * r.hi := Int.mul_le_mul f2 r2 r1 (by omega)
 unfold mulR
 rw [Zk (x := f.lo * r.lo) (by omega) (by omega), Zk (x := f.hi * r.hi) (by omega) (by omega)]
 exact ⟨rfl, b1.1, b3, b2.2⟩
theorem fb {n : Int} {F : List Rg} {p : Pip} (hF : Row 137438953472 F) (hp : PipB n p) (x : Int) : 0 <= fLo F x p /\ fLo F x p <= fHi F x p /\ fHi F x p <= 137438953472000000 := by
 obtain ⟨e1, a1, a2, a3⟩ := Z9g (hF.at (by decide) p.a) hp.out
 obtain ⟨e2, b1, b2, b3⟩ := Z9g (hF.at (by decide) p.b) hp.back
 rw [e1] at a1 a2 a3
 rw [e2] at b1 b2 b3
 simp only at a1 a2 a3 b1 b2 b3
 have := hp.ab
 unfold fLo fHi
 split
 ·rw [if_neg (by omega), if_neg (by omega)]; omega
 ·split <;> omega
structure GB (v : Vac) (g : Gs) : Prop where
 fits : Fits v g
 f : Row 68719476736 g.free
 b : Row 68719476736 g.bound
 r : Row 68719476736 g.room
 m : 0 <= g.most /\ g.most <= 68719476736
structure Steps (v : Vac) (g : Gs) (s : Bk) : Prop where
 m1 : g.most <= (beginT v g s).most /\ (beginT v g s).most <= 68719476736
 f2 : Row 137438953472 (relT v (beginT v g s) s).free
 b2 : Row 68719476736 (relT v (beginT v g s) s).bound
 f3 : Row 5000000000000 (flowT v (relT v (beginT v g s) s) s).free
 f4 : Row 5000000000000 (getT v (flowT v (relT v (beginT v g s) s) s) s).free
 r4 : Row 68719476736 (getT v (flowT v (relT v (beginT v g s) s) s) s).room
 r4l : ∀ i, (atR (getT v (flowT v (relT v (beginT v g s) s) s) s).room i).lo <= (atR g.room i).lo /\ (atR (getT v (flowT v (relT v (beginT v g s) s) s) s).room i).hi <= (atR g.room i).hi
end Go.Proofs.Ytgnpnfkncbnjnaa
namespace Go.Proofs.Ytgnpnfkncbnjnaa
open Go Go.Am
attribute [local congr] Z5 Z2 Z3
end Go.Proofs.Ytgnpnfkncbnjnaa
namespace Go.Proofs.Ytgnpnfkncbnjnaa
open Go Go.Am
attribute [local congr] Z5 Z2 Z3
end Go.Proofs.Ytgnpnfkncbnjnaa
namespace Go.Proofs.Ytgnpnfkncbnjnaa
open Go Go.Am
attribute [local congr] Z5 Z2 Z3
end Go.Proofs.Ytgnpnfkncbnjnaa
namespace Go.Proofs.Ytgnpnfkncbnjnaa
open Go Go.Am
attribute [local congr] Z5 Z2 Z3
end Go.Proofs.Ytgnpnfkncbnjnaa
namespace Go.Proofs.Ytgnpnfkncbnjnaa
open Go Go.Am
attribute [local congr] Z5 Z2 Z3
attribute [local go_sem] Go.Am.frozen Go.Am.freezeG Go.Am.freezeGs
end Go.Proofs.Ytgnpnfkncbnjnaa
namespace Go.Proofs.Ytgnpnfkncbnjnaa
open Go Go.Am
attribute [local congr] Z5 Z2 Z3
end Go.Proofs.Ytgnpnfkncbnjnaa
namespace Go.Proofs.Ytgnpnfkncbnjnaa
open Go Go.Am
end Go.Proofs.Ytgnpnfkncbnjnaa
namespace Go.Proofs.Ytgnpnfkncbnjnaa
open Go Go.Am
attribute [local congr] Z5 Z2 Z3
attribute [local go_sem] Go.Am.frozen Go.Am.freezeG Go.Am.freezeGs
end Go.Proofs.Ytgnpnfkncbnjnaa
namespace Go.Proofs.Ytgnpnfkncbnjnaa
open Go Go.Am
attribute [local congr] Z5 Z2 Z3
attribute [local go_sem] Go.Am.frozen Go.Am.freezeG Go.Am.freezeGs
end Go.Proofs.Ytgnpnfkncbnjnaa
namespace Go.Proofs.Ytgnpnfkncbnjnaa
open Go Go.Am
attribute [local congr] Z5 Z2 Z3
end Go.Proofs.Ytgnpnfkncbnjnaa
namespace Go.Proofs.Ytgnpnfkncbnjnaa
open Go Go.Am
theorem Z9h (k : Nat) (s : St) : acall cfg (k + 300) 39 [] s = .ret (.bool true, s) := by kernel_rfl
end Go.Proofs.Ytgnpnfkncbnjnaa
namespace Go.Proofs.Ytgnpnfkncbnjnaa
open Go Go.Am
def I64 (n : Int) : Prop := -9223372036854775808 <= n /\ n <= 9223372036854775807
def Arg {α : Type} (t : TypeId) (d : Nat) (cells : α -> List AV) (ok : α -> Prop) : Prop := ∀ cs, Content Try.prog d t cs -> ∃ a, cs = cells a /\ ok a
theorem Zbo (d : Nat) : Arg 3 (d + 1) (fun n => [iV n]) I64 := by
 intro cs h
 unfold Content at h
 rw [show Try.prog.underlying 3 = some (.int .i64) by kernel_rfl] at h
 obtain ⟨n, rfl, hn⟩ := h
 refine ⟨n, rfl, ?_⟩
 simp only [Lit.wf, Bool.and_eq_true, decide_eq_true_eq] at hn
 exact hn
theorem Z9i {α : Type} {e z : Nat} {d : Nat} {cells : α -> List AV} {ok : α -> Prop} {f : α -> AV} (he : Arg e d cells ok) (hf : ∀ a, rowA z (cells a) = f a) : ∀ rows : List (List AV), (∀ r ∈ rows, r.length = z /\ Content Try.prog d e r) ->
  ∃ l : List α, rows.map (rowA z) = l.map f /\ l.length = rows.length /\ ∀ a ∈ l, ok a
 | [], _ => ⟨[], rfl, rfl, fun a h => by cases h⟩
 | r :: rows, h => by
  obtain ⟨a, rfl, ha⟩ := he r (h r List.mem_cons_self).2
  obtain ⟨l, h1, h2, h3⟩ := Z9i he hf rows fun r hr => h r (List.mem_cons_of_mem _ hr)
  refine ⟨a :: l, by simp [h1, hf], by simp [h2], fun b hb => ?_⟩
  rcases List.mem_cons.1 hb with rfl | hb
  ·exact ha
  ·exact h3 b hb
theorem Z9j {α : Type} {t e z : Nat} {d : Nat} {cells : α -> List AV} {ok : α -> Prop} {f : α -> AV} (hu : Try.prog.underlying t = some (.slice e)) (hz : Try.prog.cellsOf e = z) (he : Arg e d cells ok) (hf : ∀ a, rowA z (cells a) = f a) :
  Arg t (d + 1) (fun l : List α => [.lst (l.map f)]) (fun l => l.length <= 9223372036854775807 /\ ∀ a ∈ l, ok a) := by
 intro cs h
 unfold Content at h
 rw [hu] at h
 obtain ⟨rows, rfl, hl, hr⟩ := h
 rw [hz] at hr ⊢
 obtain ⟨l, h1, h2, h3⟩ := Z9i he hf rows hr
 refine ⟨l, by rw [h1], ?_, h3⟩
 rw [h2]; exact hl
theorem Arg.to {α β : Type} {t d : Nat} {c : α -> List AV} {k : α -> Prop} (h : Arg t d c k) (g : α -> β) {c' : β -> List AV} {k' : β -> Prop} (hc : ∀ a, c a = c' (g a)) (hk : ∀ a, k a -> k' (g a)) : Arg t d c' k' := fun cs hx => by
 obtain ⟨a, rfl, ha⟩ := h cs hx
 exact ⟨g a, hc a, hk a ha⟩
def Len {α : Type} (l : List α) : Prop := l.length <= 9223372036854775807
theorem Zag (d : Nat) : Arg 22 (d + 2) (fun l : List Int => [.lst (l.map iV)]) (fun l => Len l /\ ∀ a ∈ l, I64 a) := Z9j (z := 1) (by kernel_rfl) (by kernel_rfl) (Zbo d) fun _ => rfl
def Tri.I (t : Tri) : Prop := (Len t.of /\ ∀ a ∈ t.of, I64 a) /\ I64 t.cost
def Hnt.I (h : Hnt) : Prop := I64 h.suspects /\ Len h.trials /\ ∀ t ∈ h.trials, t.I
def Rg.I (r : Rg) : Prop := I64 r.lo /\ I64 r.hi
def Rel.I (x : Rel) : Prop := I64 x.frm /\ x.rate.I
def Ves.I (x : Ves) : Prop := I64 x.vol /\ x.free.I /\ x.bound.I /\ Len x.bands /\ ∀ a ∈ x.bands, a.I
def Pip.I (x : Pip) : Prop := I64 x.a /\ I64 x.b /\ x.out.I /\ x.back.I
def Pmp.I (x : Pmp) : Prop := I64 x.at' /\ x.part.I
def Inl.I (x : Inl) : Prop := I64 x.at' /\ x.gas.I
def Gtr.I (x : Gtr) : Prop := I64 x.at' /\ x.part.I /\ x.room.I
def Vac.I (v : Vac) : Prop := (Len v.vessels /\ ∀ a ∈ v.vessels, a.I) /\ (Len v.pipes /\ ∀ a ∈ v.pipes, a.I) /\ (Len v.pumps /\ ∀ a ∈ v.pumps, a.I) /\ (Len v.leaks /\ ∀ a ∈ v.leaks, a.I) /\ (Len v.getters /\ ∀ a ∈ v.getters, a.I)
def Bk.I (s : Bk) : Prop := I64 s.ticks /\ I64 s.heat /\ (Len s.shut /\ ∀ a ∈ s.shut, I64 a)
def Gs.I (g : Gs) : Prop := (Len g.free /\ ∀ a ∈ g.free, a.I) /\ (Len g.bound /\ ∀ a ∈ g.bound, a.I) /\ (Len g.room /\ ∀ a ∈ g.room, a.I) /\ I64 g.most
end Go.Proofs.Ytgnpnfkncbnjnaa
namespace Go.Proofs.Ytgnpnfkncbnjnaa
open Go Go.Am
attribute [local congr] Z5 Z2 Z3
attribute [local go_sem] Go.Am.frozen Go.Am.freezeG Go.Am.freezeGs Go.Am.minmax
end Go.Proofs.Ytgnpnfkncbnjnaa
namespace Go.Proofs.Ytgnpnfkncbnjnaa
open Go Go.Am
attribute [local congr] Z5 Z2 Z3
attribute [local go_sem] Go.Am.frozen Go.Am.freezeG Go.Am.freezeGs
end Go.Proofs.Ytgnpnfkncbnjnaa
namespace Go.Proofs.Ytgnpnfkncbnjnaa
open Go Go.Am
attribute [local congr] Z5 Z2 Z3
attribute [local go_sem] Go.Am.frozen Go.Am.freezeG Go.Am.freezeGs
end Go.Proofs.Ytgnpnfkncbnjnaa
namespace Go.Proofs.Ytgnpnfkncbnjnaa
open Go Go.Am
attribute [local congr] Z5 Z2 Z3
attribute [local go_sem] Go.Am.frozen Go.Am.freezeG Go.Am.freezeGs
theorem Z2y {np : Int} : ∀ {l : List Int} {last : Int}, (∀ x ∈ l, 0 <= x /\ x < np) -> (∀ x ∈ l, last < x) -> List.Pairwise (· < ·) l -> shutE np last l = 0
 | [], _, _, _, _ => rfl
 | a :: r, last, h1, h2, h3 => by
  unfold shutE
  have ha := h1 a List.mem_cons_self
  rw [if_pos (Z3q.2 (by omega)), if_neg (by have := h2 a List.mem_cons_self; omega)]
  rw [List.pairwise_cons] at h3
  exact Z2y (fun x hx => h1 x (List.mem_cons_of_mem _ hx)) h3.1 h3.2
theorem StgG.ok {k : Int} {v : Vac} {b : Bk} (h : StgG k v.pipes.length b) (hk : k <= 2000) : stageE v b = 0 := by
 unfold stageE
 rw [if_pos ⟨Z3q.2 (by have := h.t; omega), Z3q.2 (by have := h.h; omega)⟩]
 exact Z2y h.s (fun x hx => by have := (h.s x hx).1; omega) h.o
end Go.Proofs.Ytgnpnfkncbnjnaa
namespace Go.Proofs.Ytgnpnfkncbnjnaa
open Go Go.Am
attribute [local congr] Z5 Z2 Z3
attribute [local go_sem] Go.Am.frozen Go.Am.freezeG Go.Am.freezeGs
end Go.Proofs.Ytgnpnfkncbnjnaa
namespace Go.Proofs.Ytgnpnfkncbnjnaa
open Go Go.Am
end Go.Proofs.Ytgnpnfkncbnjnaa
namespace Go.Am
open Go
section
variable {C : Cfg} {K : Nat}
theorem Z9k {f : FuncId} {fn : Func} {args args' : List AV} {s s' : St} {v : AV} (hm : C.mode.get f = some 1) (hf : C.fn.get f = some fn) (hfl : flats (shuts args) = false) (hi : iceA args s = .ret (args', s')) (hs : shuts args' = args') (hfl' : flats args' = true)
  (hc : acall C (K + 1) f args' s' = .ret (v, s')) : acall C (K + 1) f args s = .ret (v, s') := by
 rw [Zu] at hc ⊢
 unfold enterA at hc ⊢
 rw [hf] at hc ⊢; simp only at hc ⊢
 rw [hm] at hc ⊢; simp only at hc ⊢
 rw [hs, hfl'] at hc
 simp only at hc
 rw [hfl]; simp only
 rw [Z7, hi]
 simp only [Tr.bind_ret]
 exact hc
theorem Zbp {args args' : List AV} {s s' : St} {bs : List Nm} {xs : List Blk} (hl : lendM 200 (namesVs false args []) [] [] s = .ret ((bs, xs), s)) (ha : iceAll bs s = .ret ((), s'))
  (hi : iceGs (iceD (zipB bs xs) 6) (zipB bs xs) args = some args') (hfl : flats args' = true) : iceA args s = .ret (args', s') := by
 unfold iceA
 rw [Z7, hl]
 simp only [Tr.bind_ret]
 rw [Z7, ha]
 simp only [Tr.bind_ret, hi, hfl]
 rfl
theorem Zah {b : Nm} {cs : List AV} {u : Nat} {s : St} (h : hget s.H b = some (.cells cs true u)) : iceB b s = .ret ((), s.put b (.cells cs false u)) := by
 unfold iceB
 rw [Z7, Zx, h]
 simp only [Tr.bind_ret]
 rw [Xl, h]
theorem Z5o {b : Nm} {r : List Nm} {s s' : St} (h : iceB b s = .ret ((), s')) : iceAll (b :: r) s = iceAll r s' := by
 show ((iceB b).bind fun _ => iceAll r) s = _
 rw [Z7, h]; rfl
theorem Z77 {s : St} : iceAll [] s = .ret ((), s) := rfl
end
end Go.Am
namespace Go.Proofs.Ytgnpnfkncbnjnaa
open Go Go.Am
attribute [local congr] Z5 Z2 Z3
attribute [local go_sem] Go.Am.frozen Go.Am.freezeG Go.Am.freezeGs
end Go.Proofs.Ytgnpnfkncbnjnaa
namespace Go.Proofs.Ytgnpnfkncbnjnaa
attribute [local go_sem_proc] Int.reduceEq Int.reduceNeg Nat.reduceEqDiff Nat.reduceLT Nat.reduceAdd Nat.reduceSub Nat.reduceMul Int.reduceLE Int.reduceLT Int.reduceToNat Nat.reduceLeDiff
attribute [local go_sem] Int.toNat_natCast Bool.not_true Bool.not_false
open Go Go.Am
attribute [local congr] Z5 Z2 Z3
attribute [local go_sem] Go.Am.frozen Go.Am.freezeG Go.Am.freezeGs
def triC (t : Tri) : List AV := [.lst (t.of.map iV), .int .i64 t.cost]
theorem Z11 (b : Tri) : (triC b).length = 2 := rfl
theorem Z4n : ∀ L : List Tri, flatA (L.map triV) = L.flatMap triC
 | [] => rfl
 | b :: r => by rw [List.map_cons, List.flatMap_cons]; show triC b ++ flatA (r.map triV) = _; rw [Z4n r]
theorem Z9l : ty84.zero = some (.agg [.nils, .int .i64 0]) := rfl
theorem Zar (L : List Tri) (hne : L ≠ []) (h : L.length <= 1000000) (C : Cfg) (hC : C.ty = cfg.ty) (s : St) : appendA C false 75 75 .empty (.lst (L.map triV)) s = .ret (.slice s.name 0 L.length L.length false, s.new (.cells (L.flatMap triC) true 2)) := by
 have hd : C.desc 75 = some (.slice 84) := by unfold Cfg.desc; rw [hC]; exact Z6k
 have hi : C.ty.get 84 = some ty84 := by rw [hC]; exact Z6b
 unfold appendA
 rw [hd]; simp only
 rw [hi]; simp only
 rw [Z9l]; simp only
 have hb : Nat.beq (AV.agg [.nils, .int .i64 0]).cells.length ty84.size = true := rfl
 rw [hb]; simp only
 have hok : okZ 2 (L.map triV) = true := Yf (f := triV) (fun _ => rfl) L
 have hs : srcA ty84 (.agg [.nils, .int .i64 0]) (.slice 84) (.lst (L.map triV)) = M.ret (L.length, L.flatMap triC) := by
  show (match okZ 2 (L.map triV) with | true => M.ret ((L.map triV).length, flatA (L.map triV)) | false => M.fail) = _
  rw [hok, Z4n, List.length_map]
 rw [hs, Z7, Y4, Tr.bind_ret]
 have hr : roomy 0 L.length ty84.bytes = true := by
  unfold roomy
  have h16 : ty84.bytes = 32 := rfl
  rw [h16, Nat.ble_eq_true_of_le (show (0 + L.length) * 32 <= 140737488355328 by omega)]
 cases L with
 | nil => exact absurd rfl hne
 | cons a l =>
  have hm : (a :: l).length = l.length + 1 := rfl
  rw [hm] at hr ⊢
  unfold appendTo
  simp only [hr]
  unfold grow
  rw [Z7, Xm, Tr.bind_ret]
  rfl
theorem Z78 (C : Cfg) (hC : C.ty = cfg.ty) (s : St) : appendA C false 75 75 .empty (.lst []) s = .ret (.empty, s) := by
 have hd : C.desc 75 = some (.slice 84) := by unfold Cfg.desc; rw [hC]; exact Z6k
 have hi : C.ty.get 84 = some ty84 := by rw [hC]; exact Z6b
 unfold appendA
 rw [hd]; simp only
 rw [hi]; simp only
 rw [Z9l]
 rfl
theorem Z5p (L : List Tri) (x : Tri) (hne : L ≠ []) (h : L.length <= 1000000) (C : Cfg) (hC : C.ty = cfg.ty) (b : Nm) (s : St) (hg : hget s.H b = some (.cells (L.flatMap triC) true 2)) : appendA C false 75 75 (.slice b 0 L.length L.length false) (.lst [triV x]) s = .ret (.slice s.name 0 (L ++ [x]).length (L ++ [x]).length false, (s.del b).new (.cells ((L ++ [x]).flatMap triC) true 2)) := by
 have hd : C.desc 75 = some (.slice 84) := by unfold Cfg.desc; rw [hC]; exact Z6k
 have hi : C.ty.get 84 = some ty84 := by rw [hC]; exact Z6b
 unfold appendA
 rw [hd]; simp only
 rw [hi]; simp only
 rw [Z9l]; simp only
 have hb : Nat.beq (AV.agg [.nils, .int .i64 0]).cells.length ty84.size = true := rfl
 rw [hb]; simp only
 have hs : srcA ty84 (.agg [.nils, .int .i64 0]) (.slice 84) (.lst [triV x]) = M.ret (1, triC x) := rfl
 rw [hs, Z7, Y4, Tr.bind_ret]
 have hr : roomy L.length 1 ty84.bytes = true := by
  unfold roomy
  have h16 : ty84.bytes = 32 := rfl
  rw [h16, Nat.ble_eq_true_of_le (show (L.length + 1) * 32 <= 140737488355328 by omega)]
 have hold : oldA (L.flatMap triC) 0 L.length 2 = some (L.flatMap triC) := by
  have hrd : readN (L.flatMap triC) 0 (L.length * 2) = some (L.flatMap triC) := by
   have e := Z3o [] (L.flatMap triC) []
   rw [Z0c Z11] at e
   simpa using e
  cases L with
  | nil => exact absurd rfl hne
  | cons a l => exact hrd
 have hsz : ty84.size = 2 := rfl
 unfold appendTo
 simp only [Z7, Zx, hg]
 simp only [Tr.bind_ret, hr, hsz, hold]
 have hbl : Nat.beq 2 2 = true := rfl
 have hb1 : Nat.ble 1 2 = true := rfl
 simp only [Z7, Z3j, hg, Tr.bind_ret]
 unfold grow
 rw [Z7, Xm, Tr.bind_ret, List.length_append, List.flatMap_append]
 rfl
theorem Z4o {row : List AV -> Option (List AV)} {H : Heap} : ∀ L : List Tri, iceGs row H (L.flatMap triC) = some (L.flatMap triC)
 | [] => rfl
 | b :: r => by
  rw [List.flatMap_cons]
  show iceGs row H (.lst (b.of.map iV) :: .int .i64 b.cost :: r.flatMap triC) = _
  simp only [iceGs, iceG, Z4o r]
  rfl
theorem Z9m (h : Hnt) (hne : h.trials ≠ []) (l : List Int) (K : Nat) (s : St) (hK : 6000 < K) (ho : h.Ok K) (hl : l.length < K) (hl2 : l.length <= 1000000000000) (b : Nm) (hb : hget s.H b = some (.cells (h.trials.flatMap triC) true 2)) :
  acall cfg (K + 10) 41 [.agg [.int .i64 h.suspects, .slice b 0 h.trials.length h.trials.length false], .lst (l.map iV)] s = .ret (t3V (worstT h l), s.put b (.cells (h.trials.flatMap triC) false 2)) := by
 obtain ⟨H, n, p, jr, j⟩ := s
 have hc := Z0n h l K (St.put ⟨H, n, p, jr, j⟩ b (.cells (h.trials.flatMap triC) false 2)) hK ho hl hl2
 obtain ⟨S, L⟩ := h
 simp only at hne hb hc ⊢
 have hnm : ∀ l : List Tri, namesVs false (l.flatMap triC) [] = [] := by
  intro l
  induction l with
  | nil => rfl
  | cons a r ih => rw [List.flatMap_cons]; exact ih
 obtain ⟨a, r, hL⟩ : ∃ a r, L = a :: r := by cases L with | nil => exact absurd rfl hne | cons a r => exact ⟨a, r, rfl⟩
 refine Z9k (args' := [.agg [.int .i64 S, .lst (L.map triV)], .lst (l.map iV)]) Zao Zan ?_ (Zbp (bs := [b]) (xs := [.cells (L.flatMap triC) true 2]) ?_ ?_ ?_ ?_) rfl ?_ hc
 ·rfl
 ·show lendM (199 + 1) [b] [] [] _ = _
  rw [Zi6 199 rfl hb, show namesB false (.cells (L.flatMap triC) true 2) [] = [] from hnm L]
  exact Xa 198 _ _ _
 ·rw [Z5o (Zah hb), Z77]
 ·show iceGs (iceD [(b, .cells (L.flatMap triC) true 2)] 6) [(b, .cells (L.flatMap triC) true 2)] [.agg [.int .i64 S, .slice b 0 L.length L.length false], .lst (l.map iV)] = _
  have hs : iceG (iceD [(b, .cells (L.flatMap triC) true 2)] 6) [(b, .cells (L.flatMap triC) true 2)] (.slice b 0 L.length L.length false) = some (.lst (L.map triV)) := by
   have hw := Z23 (g := triC) (z := 2) Z11 (f := triV) (fun _ => rfl) L
   have hrd : readN (L.flatMap triC) 0 (L.length * 2) = some (L.flatMap triC) := by
    have e := Z3o [] (L.flatMap triC) []
    rw [Z0c Z11] at e
    simpa using e
   have hice : iceD [(b, .cells (L.flatMap triC) true 2)] 6 (L.flatMap triC) = some (L.flatMap triC) := Z4o L
   have hlen : L.length = r.length + 1 := by rw [hL]; rfl
   rw [hlen] at hw hrd ⊢
   simp only [iceG, Z6, hrd, hice]
   exact congrArg (fun x => some (AV.lst x)) hw
  have hvv : iceG (iceD [(b, .cells (L.flatMap triC) true 2)] 6) [(b, .cells (L.flatMap triC) true 2)] (.lst (l.map iV)) = some (.lst (l.map iV)) := rfl
  have hii : iceG (iceD [(b, .cells (L.flatMap triC) true 2)] 6) [(b, .cells (L.flatMap triC) true 2)] (.int .i64 S) = some (.int .i64 S) := rfl
  rw [iceGs, iceG, iceGs, iceGs, iceGs, hs, hii, iceGs, iceGs, hvv]
 ·simp only [flats, AV.flat]
  rw [Zl (f := triV) (fun z => by simp only [triV, AV.flat, flats, fl_i]) L, fl_i]
 ·simp only [flats, AV.flat]
  rw [Zl (f := triV) (fun z => by simp only [triV, AV.flat, flats, fl_i]) L, fl_i]
theorem Z9n (A : List Tri) (x : Tri) (B : List Tri) (c : Int) : nth ((A ++ x :: B).flatMap triC) (A.length * 2 + 1) = some (.int .i64 x.cost) /\ setNth ((A ++ x :: B).flatMap triC) (A.length * 2 + 1) (.int .i64 c) = (A ++ { x with cost := c } :: B).flatMap triC := by
 have hl : (A.flatMap triC).length = A.length * 2 := Z0c Z11 A
 rw [List.flatMap_append, List.flatMap_append, List.flatMap_cons, List.flatMap_cons]
 show nth (A.flatMap triC ++ (.lst (x.of.map iV) :: .int .i64 x.cost :: B.flatMap triC)) _ = _ /\ setNth (A.flatMap triC ++ (.lst (x.of.map iV) :: .int .i64 x.cost :: B.flatMap triC)) _ _ = A.flatMap triC ++ (.lst (x.of.map iV) :: .int .i64 c :: B.flatMap triC)
 rw [Zm, Y7, <- hl]
 constructor
 ·rw [List.getElem?_append_right (by omega)]
  rw [show (A.flatMap triC).length + 1 - (A.flatMap triC).length = 1 by omega]
  rfl
 ·rw [List.set_append_right _ _ (by omega)]
  rw [show (A.flatMap triC).length + 1 - (A.flatMap triC).length = 1 by omega]
  rfl
structure FwH (m j te ts : Nat) (w c5 : Int) (V1 V2 : Blk) (TR : List Tri) (E P : List Int) (H : Heap) : Prop where
 g0 : hget H [0] = some (.cells [.int .u64 w] true 0)
 g1 : hget H [1] = some V1
 g2 : hget H [2, 7, 0] = some V2
 gr : TR ≠ [] -> hget H [2, 5, 0] = some (.cells (TR.flatMap triC) true 2)
 ge : hget H [m + 3] = some (.cells [ownV [te + m + 4] (E.map iV), .int .i64 c5] true 0)
 qe : E.map iV ≠ [] -> te < j /\ hget H [te + m + 4] = some (.tok E.length 1)
 qp : P.map iV ≠ [] -> ts < j /\ hget H [ts + m + 4] = some (.tok P.length 1)
 ne : E.map iV ≠ [] -> P.map iV ≠ [] -> te ≠ ts
theorem FwH.dice {m j te ts : Nat} {w c5 w' : Int} {V1 V2 : Blk} {TR : List Tri} {E P : List Int} {H : Heap} (h : FwH m j te ts w c5 V1 V2 TR E P H) : FwH m j te ts w' c5 V1 V2 TR E P (hset H [0] (.cells [.int .u64 w'] true 0)) :=
 ⟨Z4 _ h.g0, (Z0 _ _ (by decide)).trans h.g1, (Z0 _ _ (by decide)).trans h.g2, fun e => (Z0 _ _ (by decide)).trans (h.gr e), (Z0 _ _ (Zf (by omega))).trans h.ge,
  fun e => ⟨(h.qe e).1, (Z0 _ _ (Zf (by omega))).trans (h.qe e).2⟩, fun e => ⟨(h.qp e).1, (Z0 _ _ (Zf (by omega))).trans (h.qp e).2⟩, h.ne⟩
theorem Z6l (b : Nm) (l : List Int) (x : Int) : ownV b (l.map iV ++ [.int .i64 x]) = .own b ((l ++ [x]).map iV) := by
 rw [List.map_append]
 cases l.map iV <;> rfl
theorem FwH.extra {m j te ts : Nat} {w c5 x : Int} {V1 V2 : Blk} {TR : List Tri} {E P : List Int} {H : Heap} (h : FwH m j te ts w c5 V1 V2 TR E P H) : FwH m (j + 1) j ts w c5 V1 V2 TR (E ++ [x]) P (([j + m + 4], .tok (E.length + 1) 1) :: hset (dropTok (E.map iV) [te + m + 4] H) [m + 3] (.cells [.own [j + m + 4] ((E ++ [x]).map iV), .int .i64 c5] true 0)) := by
 have hd : ∀ q : Nm, q ≠ [te + m + 4] -> hget (dropTok (E.map iV) [te + m + 4] H) q = hget H q := fun q hq => Zg _ _ (fun e => hq e.symm)
 refine ⟨?_, ?_, ?_, fun e => ?_, ?_, fun _ => ⟨by omega, ?_⟩, fun e => ⟨by have := (h.qp e).1; omega, ?_⟩, fun _ e => by have := (h.qp e).1; omega⟩
 ·rw [Z1 _ _ (Zf (by omega)), Z0 _ _ (Zf (by omega)), hd _ (Zf (by omega))]; exact h.g0
 ·rw [Z1 _ _ (Zf (by omega)), Z0 _ _ (Zf (by omega)), hd _ (Zf (by omega))]; exact h.g1
 ·rw [Z1 _ _ (by simp), Z0 _ _ (by simp), hd _ (by simp)]; exact h.g2
 ·rw [Z1 _ _ (by simp), Z0 _ _ (by simp), hd _ (by simp)]; exact h.gr e
 ·rw [Z1 _ _ (Zf (by omega)), Z4 _ ((hd _ (Zf (by omega))).trans h.ge)]
  have hne : ownV [j + m + 4] ((E ++ [x]).map iV) = .own [j + m + 4] ((E ++ [x]).map iV) := by rw [List.map_append]; cases E.map iV <;> rfl
  rw [hne]
 ·rw [Z6, List.length_append]; rfl
 ·have hj := (h.qp e).1
  by_cases e2 : E.map iV = []
  ·have : dropTok (E.map iV) [te + m + 4] H = H := by rw [e2]; rfl
   rw [this, Z1 _ _ (Zf (by omega)), Z0 _ _ (Zf (by omega))]; exact (h.qp e).2
  ·have := h.ne e2 e
   rw [Z1 _ _ (Zf (by omega)), Z0 _ _ (Zf (by omega)), hd _ (Zf (by omega))]; exact (h.qp e).2
theorem FwH.part {m j te ts : Nat} {w c5 x : Int} {V1 V2 : Blk} {TR : List Tri} {E P : List Int} {H : Heap} (h : FwH m j te ts w c5 V1 V2 TR E P H) : FwH m (j + 1) te j w c5 V1 V2 TR E (P ++ [x]) (([j + m + 4], .tok (P.length + 1) 1) :: dropTok (P.map iV) [ts + m + 4] H) := by
 have hd : ∀ q : Nm, q ≠ [ts + m + 4] -> hget (dropTok (P.map iV) [ts + m + 4] H) q = hget H q := fun q hq => Zg _ _ (fun e => hq e.symm)
 refine ⟨?_, ?_, ?_, fun e => ?_, ?_, fun e => ⟨by have := (h.qe e).1; omega, ?_⟩, fun _ => ⟨by omega, ?_⟩, fun e _ => by have := (h.qe e).1; omega⟩
 ·rw [Z1 _ _ (Zf (by omega)), hd _ (Zf (by omega))]; exact h.g0
 ·rw [Z1 _ _ (Zf (by omega)), hd _ (Zf (by omega))]; exact h.g1
 ·rw [Z1 _ _ (by simp), hd _ (by simp)]; exact h.g2
 ·rw [Z1 _ _ (by simp), hd _ (by simp)]; exact h.gr e
 ·rw [Z1 _ _ (Zf (by omega)), hd _ (Zf (by omega))]; exact h.ge
 ·have hj := (h.qe e).1
  by_cases e2 : P.map iV = []
  ·have : dropTok (P.map iV) [ts + m + 4] H = H := by rw [e2]; rfl
   rw [this, Z1 _ _ (Zf (by omega))]; exact (h.qe e).2
  ·have := h.ne e e2
   rw [Z1 _ _ (Zf (by omega)), hd _ (Zf (by omega))]; exact (h.qe e).2
 ·rw [Z6, List.length_append]; rfl
theorem Zas (a : Int) (s : St) : buildSliceA (cfg.at 7) true 22 1 [(0, .int .i64 a)] s = .ret (.lst [.int .i64 a], s) := by
 simp -implicitDefEqProofs only [go_sem, Go.Am.buildSliceA]
theorem Zda (b : Nm) (E : List Int) (c : Int) (s : St) : buildSliceA (cfg.at 7) true 75 1 [(0, .agg [ownV b (E.map iV), .int .i64 c])] s = .ret (.lst [triV ⟨E, c⟩], s) := by
 cases E with
 | nil => simp -implicitDefEqProofs only [go_sem, Go.Am.buildSliceA, List.map_nil, Z3k, triV]
 | cons a r => simp -implicitDefEqProofs only [go_sem, Go.Am.buildSliceA, List.map_cons, ownV, triV]
set_option maxHeartbeats 4000000 in
theorem Z79 (nums : List Int) (K : Nat) (hK : 21000 < K) (hk2 : nums.length < K) (hn : Len nums) :
  (acall cfg (K + 320) 7 [.lst (nums.map iV)] s0).Does fun x => x.1 = .bool true := by
 rw [Zfw Zgv Zgu]
 refine Zp rfl fun T hT' hA => ?_
 have a0 := hA 0 _ rfl
 have hT : T.length = 138 := hT'
 clear hA hT'
 have haw := fun s => Z9h (K + 19) s
 have hnd := fun s => Z4h nums (K + 317) s (by omega) hn
 generalize newDice nums = w0 at *
 obtain ⟨h, w1, hg, hof⟩ := Z5m w0 8 9 [0] 0 (K + 309) ⟨[([0], .cells [.int .u64 w0] true 0)], 1, [], false, []⟩ rfl (by omega) (by omega) (by omega) (by omega) (by omega)
 have hh := Z5l (by omega) (by omega) hg
 have hok := fun k (hk : 20 < k) => Z99 (by omega) hg k (by omega)
 obtain ⟨S, hS⟩ : ∃ S : Nat, h.suspects = S := ⟨h.suspects.toNat, by have := hg.1; omega⟩
 have hS8 : S <= 8 := by have := hg.2.1; omega
 have hS1 : 1 <= S := by have := hg.1; omega
 have ht9 : h.trials.length <= 9 := by have := hg.2.2.1; omega
 have hf := fun s => Z71 S (K + 318) s (by omega) (by omega)
 have hfl := Xo S
 have hwc := fun s => Z0n h (firstL S) (K + 309) s (by omega) (hok _ (by omega)) (by omega) (by omega)
 simp only [hntV, hS] at hof hwc
 rcases Z9d (by omega) (by omega) hg hS with ⟨b1, b2⟩ | ⟨b1, q0, b2⟩
 ·rw [b2] at hwc
  simp only [t3V] at hwc
  simp -implicitDefEqProofs only [go_sem, a0, hT, hnd, hof, hf, hwc, haw, Try.results7]
 rw [b2] at hwc
 simp only [t3V] at hwc
 have hbs : ∀ s, buildSliceA (cfg.at 7) true 75 0 [] s = .ret (.empty, s) := fun s => by simp -implicitDefEqProofs only [go_sem, Go.Am.buildSliceA]
 have hap0 := fun s => Z78 (cfg.at 7) rfl s
 have hap1 := fun (h0 : h.trials ≠ []) s => Zar h.trials h0 (by omega) (cfg.at 7) rfl s
 have hlt : h.trials.length = 0 \/ 0 < h.trials.length := by omega
 simp -implicitDefEqProofs only [go_sem, a0, hT, hnd, hof, hf, hwc]
 simp only [Za]
 refine Tr.Does.mono (Q := fun x => ∃ (T' : List AV) (H' : Heap) (ROW : AV), x = (T', (⟨H', 3, [], false, []⟩ : St)) /\ T'.length = 138 /\ nth T' 3 = some (.ptr [0] 0) /\ nth T' 4 = some (.ptr [1] 0) /\ nth T' 5 = some (.lst ((firstL S).map iV)) /\ nth T' 6 = some (.int .i64 (bestS (setsOf h) (setN 0 (firstL S))).1) /\ nth T' 9 = some (.ptr [2, 7, 0] 0) /\ hget H' [0] = some (.cells [.int .u64 w1] true 0) /\ hget H' [1] = some (.cells [.int .i64 (S : Int), .lst (h.trials.map triV)] true 0) /\ hget H' [2, 7, 0] = some (.cells [.int .i64 (S : Int), ROW] true 0) /\ ((h.trials = [] /\ ROW = .empty) \/ (h.trials ≠ [] /\ ROW = .slice [2, 5, 0] 0 h.trials.length h.trials.length false /\ hget H' [2, 5, 0] = some (.cells (h.trials.flatMap triC) true 2)))) ?_ ?_
 ·by_cases hL : h.trials = []
  ·rw [hL]
   simp only [List.map_nil]
   try simp only [Za]
   refine Z0m [[], [0], [], [], [3], [2, 4, 3], [1, 0, 5, 2, 4, 3], [], [6, 1, 0, 5, 2, 4, 3, 7]] [[], [], [], [], [], [], [], [], [[2, 7, 0]]] (by kernel_rfl) rfl rfl ?_
   simp -implicitDefEqProofs only [go_sem, Z8, Jv, Option.getD_some, hT, hbs, hap0, Jf]
   exact ⟨_, _, .empty, rfl, by simp -implicitDefEqProofs only [go_sem, hT], by simp -implicitDefEqProofs only [go_sem, hT], by simp -implicitDefEqProofs only [go_sem, hT], by simp -implicitDefEqProofs only [go_sem, hT], by simp -implicitDefEqProofs only [go_sem, hT], by simp -implicitDefEqProofs only [go_sem, hT], by rw [Z8]; simp (disch := omega) only [Z6, hc11, lkn, lk31, Option.getD_none], by rw [Z8]; simp (disch := omega) only [Z6, lkn, lk31, Option.getD_none], by rw [Z8, Jv]; rfl, Or.inl ⟨trivial, rfl⟩⟩
  ·have hap2 := hap1 hL
   try simp only [Za]
   refine Z0m [[], [0], [], [], [3], [2, 4, 3], [1, 0, 5, 2, 4, 3], [], [6, 1, 0, 5, 2, 4, 3, 7]] [[], [], [], [], [], [], [], [], [[2, 7, 0]]] (by kernel_rfl) rfl rfl ?_
   simp -implicitDefEqProofs only [go_sem, Z8, lkn, Jv, Zd7, Option.getD_some, Option.getD_none, hT, hbs, hap2, Jf]
   exact ⟨_, _, .slice [2, 5, 0] 0 h.trials.length h.trials.length false, rfl, by simp -implicitDefEqProofs only [go_sem, hT], by simp -implicitDefEqProofs only [go_sem, hT], by simp -implicitDefEqProofs only [go_sem, hT], by simp -implicitDefEqProofs only [go_sem, hT], by simp -implicitDefEqProofs only [go_sem, hT], by simp -implicitDefEqProofs only [go_sem, hT], by rw [Z8]; simp (disch := omega) only [Z6, hc11, lkn, lk31, Option.getD_none], by rw [Z8]; simp (disch := omega) only [Z6, lkn, lk31, Option.getD_none], by rw [Z8, Jv]; rfl, Or.inr ⟨hL, rfl, by rw [Z8]; simp (disch := omega) only [hc13, Jv, Zd7, Option.getD_some]⟩⟩
 clear a0 hT T hap0 hap1 hbs hof hwc hnd
 rintro _ ⟨T, H, ROW, rfl, hT, a3, a4, a5, a6, a9, g0, g1, g2, gr⟩
 rw [Za4, Za3, Z5a, Zfp, Za]
 refine Tr.Does.mono (Q := fun x => ∃ (T' : List AV) (H' : Heap) (ROW : AV) (m : Nat) (w : Int) (TR : List Tri), x = ((AExit.normal, T'), (⟨H', m + 3, [], false, []⟩ : St)) /\ T'.length = 138 /\ nth T' 3 = some (.ptr [0] 0) /\ nth T' 4 = some (.ptr [1] 0) /\ nth T' 5 = some (.lst ((firstL S).map iV)) /\ nth T' 6 = some (.int .i64 (bestS (setsOf h) (setN 0 (firstL S))).1) /\ nth T' 9 = some (.ptr [2, 7, 0] 0) /\ hget H' [0] = some (.cells [.int .u64 w] true 0) /\ hget H' [1] = some (.cells [.int .i64 (S : Int), .lst (h.trials.map triV)] true 0) /\ hget H' [2, 7, 0] = some (.cells [.int .i64 (S : Int), ROW] true 0) /\ ((TR = [] /\ ROW = .empty) \/ (TR ≠ [] /\ ROW = .slice [2, 5, 0] 0 TR.length TR.length false /\ hget H' [2, 5, 0] = some (.cells (TR.flatMap triC) true 2))) /\ TR.length = h.trials.length /\ (∀ x ∈ TR, TriG S x) /\ (∀ x ∈ h.trials, ∃ y ∈ TR, y.of = x.of /\ y.cost <= x.cost)) ?_ ?_
 ·have hTG : ∀ x ∈ h.trials, TriG S x := fun x hx => by rw [<- hS]; exact hg.2.2.2 x hx
  have g2' := g2
  have hut := fun (s : St) (w n : Int) (hb : hget s.H [0] = some (.cells [.int .u64 w] true 0)) (h1 : n <= 9223372036854775807) => X8 w n [0] 0 (K + 317) s hb h1
  have hon := fun (s : St) (hb : hget s.H [0] = some (.cells [.int .u64 w1] true 0)) => Z09 w1 2 [0] 0 (K + 316) s hb (by omega)
  rcases gr with ⟨r1, rfl⟩ | ⟨r1, rfl, r3⟩
  ·simp -implicitDefEqProofs only [go_sem, a9, hT, g2]
   exact ⟨_, H, .empty, 0, w1, [], rfl, by simp -implicitDefEqProofs only [go_sem, hT], by simp -implicitDefEqProofs only [go_sem, a3], by simp -implicitDefEqProofs only [go_sem, a4], by simp -implicitDefEqProofs only [go_sem, a5], by simp -implicitDefEqProofs only [go_sem, a6], by simp -implicitDefEqProofs only [go_sem, a9], g0, g1, g2', Or.inl ⟨rfl, rfl⟩, by rw [r1], by simp, by rw [r1]; simp⟩
  ·have hpos : (0 : Int) < (h.trials.length : Int) := by have := List.length_pos_iff.2 r1; omega
   simp -implicitDefEqProofs only [go_sem, a3, a9, hT, g0, g2, hpos, hon]
   cases hob : oneB w1 2 with
   | false =>
    simp -implicitDefEqProofs only [go_sem]
    refine ⟨_, _, _, 0, nextW w1, h.trials, rfl, by simp -implicitDefEqProofs only [go_sem, hT], by simp -implicitDefEqProofs only [go_sem, a3], by simp -implicitDefEqProofs only [go_sem, a4], by simp -implicitDefEqProofs only [go_sem, a5], by simp -implicitDefEqProofs only [go_sem, a6], by simp -implicitDefEqProofs only [go_sem, a9], Z4 _ g0, ?_, ?_, Or.inr ⟨r1, rfl, ?_⟩, rfl, hTG, fun x hx => ⟨x, hx, rfl, Int.le_refl _⟩⟩
    ·simp (disch := omega) only [hs11]; exact g1
    ·simp (disch := omega) only [hs13]; exact g2'
    ·simp (disch := omega) only [hs13]; exact r3
   | true =>
    have p0 := Z4 (.cells [.int .u64 (nextW w1)] true 0) g0
    have p1 : hget (hset H [0] (.cells [.int .u64 (nextW w1)] true 0)) [1] = _ := (Z0 _ _ (by decide)).trans g1
    have p2 : hget (hset H [0] (.cells [.int .u64 (nextW w1)] true 0)) [2, 7, 0] = _ := (Z0 _ _ (by decide)).trans g2
    have p3 : hget (hset H [0] (.cells [.int .u64 (nextW w1)] true 0)) [2, 5, 0] = _ := (Z0 _ _ (by decide)).trans r3
    simp -implicitDefEqProofs only [go_sem]
    generalize hset H [0] (.cells [.int .u64 (nextW w1)] true 0) = H1 at *
    have hur := Yr (nextW w1) (h.trials.length : Int) (by omega)
    have hut1 := fun s hb => hut s (nextW w1) (h.trials.length : Int) hb (by omega)
    generalize uptoN (nextW w1) (h.trials.length : Int) = k0 at *
    generalize nextW (nextW w1) = w3 at *
    generalize nextW w1 = w2 at *
    obtain ⟨k, rfl⟩ : ∃ k : Nat, k0 = k := ⟨k0.toNat, by omega⟩
    have hkl : k < h.trials.length := by omega
    have hin : inR (k : Int) h.trials.length = some k := by unfold inR; rw [show decide ((0 : Int) <= (k : Int)) = true by simp, show decide ((k : Int) < (h.trials.length : Int)) = true by simp; omega]; simp
    obtain ⟨A, x, B, hAB, hAk⟩ : ∃ A x B, h.trials = A ++ x :: B /\ A.length = k := ⟨h.trials.take k, h.trials[k], h.trials.drop (k + 1), by rw [<- List.drop_eq_getElem_cons hkl, List.take_append_drop], by rw [List.length_take]; omega⟩
    have hx : x ∈ h.trials := by rw [hAB]; simp
    obtain ⟨x1, x2, x3, x4⟩ := hTG x hx
    have hur2 := Yr w3 (x.cost + 1) (by omega)
    have hut2 := fun s hb => hut s w3 (x.cost + 1) hb (by omega)
    generalize uptoN w3 (x.cost + 1) = c at *
    generalize nextW w3 = w4 at *
    have hnt := (Z9n A x B 0).1
    have hst := fun c => (Z9n A x B c).2
    rw [hAk, <- hAB] at hnt
    rw [hAk, <- hAB] at hst
    have hwc : wrapF .i64 (x.cost + 1) = x.cost + 1 := Zk (by omega) (by omega)
    have p2' := p2
    have kd : hget (hdel H1 [0]) [2, 7, 0] = _ := (show _ = hget H1 [2, 7, 0] by simp (disch := omega) only [hd13]).trans p2
    have k0' : ∀ X, hget (redoH H1 [([0], some X)]) [0] = some X := fun X => by rw [Z8, Jv]; rfl
    have kn : ∀ (q : Nm) (X : Blk), [0] ≠ q -> hget (redoH H1 [([0], some X)]) q = hget H1 q := fun q X hq => by rw [Z8, Zaf hq, lkn, Option.getD_none]
    have ke : ∀ X Y, hget (hset (redoH H1 [([0], some X)]) [0] Y) [2, 5, 0] = _ := fun X Y => (Z0 _ _ (by decide)).trans ((kn _ X (by decide)).trans p3)
    try simp only [Za]
    refine Z0m [[], [0], [], [], [3], [4, 3], [2, 5, 4, 3], [1, 0, 6, 2, 5, 4, 3], [7, 1, 0, 6, 2, 5, 4, 3]] [[], [], [], [], [], [], [[0]], [], []] (by kernel_rfl) rfl rfl ?_
    simp -implicitDefEqProofs only [go_sem, Z8, lkn, Jv, lk13, Option.getD_some, Option.getD_none, a3, a9, hT, p0, p2, kd, ke, hut1, hut2, hin, p3, hnt, hst, hwc, Jf]
    have hlen : (A ++ { x with cost := c } :: B).length = h.trials.length := by rw [hAB, List.length_append, List.length_append]; rfl
    refine ⟨_, _, _, 1, w4, A ++ { x with cost := c } :: B, rfl, by simp -implicitDefEqProofs only [go_sem, hT], by simp -implicitDefEqProofs only [go_sem, a3], by simp -implicitDefEqProofs only [go_sem, a4], by simp -implicitDefEqProofs only [go_sem, a5], by simp -implicitDefEqProofs only [go_sem, a6], by simp -implicitDefEqProofs only [go_sem, a9], ?_, ?_, ?_, Or.inr ⟨by simp, by rw [hlen], ?_⟩, hlen, ?_, ?_⟩
    ·rw [Z0 _ _ (by decide)]; exact Z4 _ (k0' _)
    ·rw [Z0 _ _ (by decide), Z0 _ _ (by decide), kn _ _ (by decide)]; exact p1
    ·rw [Z0 _ _ (by decide), Z0 _ _ (by decide), kn _ _ (by decide)]; exact p2'
    ·exact Z4 _ (ke _ _)
    ·intro y hy
     rcases List.mem_append.1 hy with hy | hy
     ·exact hTG y (by rw [hAB]; exact List.mem_append_left _ hy)
     ·rcases List.mem_cons.1 hy with rfl | hy
      ·exact ⟨x1, x2, hur2.1, by clear hwc; show c <= 8; omega⟩
      ·exact hTG y (by rw [hAB]; exact List.mem_append_right _ (List.mem_cons_of_mem _ hy))
    ·intro y hy
     rw [hAB] at hy
     rcases List.mem_append.1 hy with hy | hy
     ·exact ⟨y, List.mem_append_left _ hy, rfl, Int.le_refl _⟩
     ·rcases List.mem_cons.1 hy with rfl | hy
      ·exact ⟨_, List.mem_append_right _ List.mem_cons_self, rfl, by clear hwc; show c <= y.cost; omega⟩
      ·exact ⟨y, List.mem_append_right _ (List.mem_cons_of_mem _ hy), rfl, Int.le_refl _⟩
 clear a3 a4 a5 a6 a9 hT T g0 g1 g2 gr H ROW hlt hf w1 w0
 rintro _ ⟨T, H, ROW, m, w, TR, rfl, hT, a3, a4, a5, a6, a9, g0, g1, g2, gr, htl, htg, htc⟩
 have hut := X8 w 5 [0] 0 (K + 317) ⟨H, m + 3, [], false, []⟩ g0 (by omega)
 have hur := Yr w 5 (by omega)
 generalize uptoN w 5 = c5 at *
 generalize nextW w = w2 at *
 have f0 : FwH m 0 0 0 w2 c5 (.cells [.int .i64 (S : Int), .lst (h.trials.map triV)] true 0) (.cells [.int .i64 (S : Int), ROW] true 0) TR [] [] (([m + 3], .cells [.nils, .int .i64 c5] true 0) :: hset H [0] (.cells [.int .u64 w2] true 0)) :=
  ⟨(Z1 _ _ (Zf (by omega))).trans (Z4 _ g0), (Z1 _ _ (Zf (by omega))).trans ((Z0 _ _ (by decide)).trans g1), (Z1 _ _ (by simp)).trans ((Z0 _ _ (by decide)).trans g2),
   fun e => (Z1 _ _ (by simp)).trans ((Z0 _ _ (by decide)).trans (by rcases gr with ⟨r1, _⟩ | ⟨_, _, r3⟩; exact absurd r1 e; exact r3)), Z6 .., fun e => absurd rfl e, fun e => absurd rfl e, fun e => absurd rfl e⟩
 have grr : (TR = [] /\ ROW = .empty) \/ (TR ≠ [] /\ ROW = .slice [2, 5, 0] 0 TR.length TR.length false) := by
  rcases gr with ⟨r1, r2⟩ | ⟨r1, r2, _⟩
  ·exact Or.inl ⟨r1, r2⟩
  ·exact Or.inr ⟨r1, r2⟩
 simp -implicitDefEqProofs only [go_sem, a3, hT, hut]
 clear hut gr g0 g1 g2
 simp only [Za]
 refine Tr.Does.mono (Q := fun x => ∃ (T' : List AV) (j te ts : Nat) (w : Int) (H' : Heap) (E P : List Int), x = ((AExit.exit 0, T'), (⟨H', j + m + 4, [], false, []⟩ : St)) /\ T'.length = 138 /\ nth T' 4 = some (.ptr [1] 0) /\ nth T' 5 = some (.lst ((firstL S).map iV)) /\ nth T' 6 = some (.int .i64 (bestS (setsOf h) (setN 0 (firstL S))).1) /\ nth T' 9 = some (.ptr [2, 7, 0] 0) /\ nth T' 11 = some (.ptr [m + 3] 0) /\ nth T' 12 = some (ownV [ts + m + 4] (P.map iV)) /\ FwH m j te ts w c5 (.cells [.int .i64 (S : Int), .lst (h.trials.map triV)] true 0) (.cells [.int .i64 (S : Int), ROW] true 0) TR E P H' /\ Rising S E /\ E.length <= S /\ Rising S P /\ P.length <= S) ?_ ?_
 ·refine X3 (fun k T s' => T.length = 138 /\ nth T 3 = some (.ptr [0] 0) /\ nth T 4 = some (.ptr [1] 0) /\ nth T 5 = some (.lst ((firstL S).map iV)) /\ nth T 6 = some (.int .i64 (bestS (setsOf h) (setN 0 (firstL S))).1) /\ nth T 9 = some (.ptr [2, 7, 0] 0) /\ nth T 11 = some (.ptr [m + 3] 0) /\ ∃ (i j te ts : Nat) (w : Int) (H' : Heap) (E P : List Int), nth T 13 = some (.int .i64 i) /\ i <= S /\ k = S - i /\ s' = ⟨H', j + m + 4, [], false, []⟩ /\ nth T 12 = some (ownV [ts + m + 4] (P.map iV)) /\ FwH m j te ts w c5 (.cells [.int .i64 (S : Int), .lst (h.trials.map triV)] true 0) (.cells [.int .i64 (S : Int), ROW] true 0) TR E P H' /\ Rising i E /\ E.length <= i /\ Rising i P /\ P.length <= i) (k := S) (by omega) ?_ ?_
  ·exact ⟨by simp -implicitDefEqProofs only [go_sem, hT], by simp -implicitDefEqProofs only [go_sem, a3], by simp -implicitDefEqProofs only [go_sem, a4], by simp -implicitDefEqProofs only [go_sem, a5], by simp -implicitDefEqProofs only [go_sem, a6], by simp -implicitDefEqProofs only [go_sem, a9], by simp -implicitDefEqProofs only [go_sem, hT], 0, 0, 0, 0, w2, _, [], [], by simp -implicitDefEqProofs only [go_sem, hT] <;> rfl, by omega, rfl, by rw [Nat.zero_add], by simp -implicitDefEqProofs only [go_sem, hT] <;> rfl, f0, trivial, Nat.le_refl _, trivial, Nat.le_refl _⟩
  clear a3 a4 a5 a6 a9 hT T f0 H w2
  rintro k T s' ⟨hT, a3, a4, a5, a6, a9, a11, i, j, te, ts, w, H, E, P, a13, hi, rfl, rfl, a12, hF, e1, e2, p1, p2⟩
  have g0 := hF.g0
  have g1 := hF.g1
  simp -implicitDefEqProofs only [go_sem, a4, a13, hT, g1]
  by_cases hil : (i : Int) < (S : Int)
  ·have hon := Z09 w 2 [0] 0 (K + 316) ⟨H, j + m + 4, [], false, []⟩ g0 (by omega)
   have hF1 := hF.dice (w' := nextW w)
   have hkk : S - (i + 1) < S - i := by omega
   have hi1 : i + 1 <= S := by omega
   simp -implicitDefEqProofs only [go_sem, a3, hT, hil, hon]
   generalize hset H [0] (.cells [.int .u64 (nextW w)] true 0) = H1 at *
   generalize nextW w = w1 at *
   clear hon hF g0 g1
   simp only [Za]
   refine Tr.Does.mono (Q := fun x => ∃ (T' : List AV) (j te : Nat) (H' : Heap) (E : List Int), x = ((AExit.normal, T'), (⟨H', j + m + 4, [], false, []⟩ : St)) /\ T'.length = 138 /\ nth T' 3 = some (.ptr [0] 0) /\ nth T' 4 = some (.ptr [1] 0) /\ nth T' 5 = some (.lst ((firstL S).map iV)) /\ nth T' 6 = some (.int .i64 (bestS (setsOf h) (setN 0 (firstL S))).1) /\ nth T' 9 = some (.ptr [2, 7, 0] 0) /\ nth T' 11 = some (.ptr [m + 3] 0) /\ nth T' 12 = some (ownV [ts + m + 4] (P.map iV)) /\ nth T' 13 = some (.int .i64 i) /\ FwH m j te ts w1 c5 (.cells [.int .i64 (S : Int), .lst (h.trials.map triV)] true 0) (.cells [.int .i64 (S : Int), ROW] true 0) TR E P H' /\ Rising ((i + 1 : Nat) : Int) E /\ E.length <= i + 1) ?_ ?_
   ·cases hob : oneB w 2 with
    | false =>
     simp -implicitDefEqProofs only [go_sem]
     exact ⟨_, j, te, H1, E, rfl, by simp -implicitDefEqProofs only [go_sem, hT], by simp -implicitDefEqProofs only [go_sem, a3], by simp -implicitDefEqProofs only [go_sem, a4], by simp -implicitDefEqProofs only [go_sem, a5], by simp -implicitDefEqProofs only [go_sem, a6], by simp -implicitDefEqProofs only [go_sem, a9], by simp -implicitDefEqProofs only [go_sem, a11], by simp -implicitDefEqProofs only [go_sem, a12], by simp -implicitDefEqProofs only [go_sem, a13], hF1, Xq (by omega) e1, by omega⟩
    | true =>
     have hap := Xc (C := cfg.at 7) (sT := 22) (b := [te + m + 4]) (l := E.map iV) (x := .int .i64 (i : Int)) (H := H1) (n := j + m + 4) (p := []) (jr := false) (j := []) (z := 1) Z6c Za5 rfl rfl rfl rfl rfl rfl (by rw [List.length_map]; show (E.length + 1) * 8 <= _; omega) (fun hx => by rw [List.length_map]; exact (hF1.qe hx).2)
     rw [Z6l, List.length_map] at hap
     simp only [List.nil_append] at hap
     have hF2 := hF1.extra (x := (i : Int))
     have ge := hF1.ge
     have sa := (Zg (E.map iV) (b := [te + m + 4]) (c := [m + 3]) H1 (Zf (by omega))).trans hF1.ge
     have hnn : (j + m + 4 = m + 3) = False := by simp; omega
     simp -implicitDefEqProofs only [go_sem, a11, a13, hT, ge, hap, sa, hnn, Zas]
     exact ⟨_, j + 1, j, _, E ++ [(i : Int)], by rw [show j + 1 + m + 4 = j + m + 4 + 1 by omega], by simp -implicitDefEqProofs only [go_sem, hT], by simp -implicitDefEqProofs only [go_sem, a3], by simp -implicitDefEqProofs only [go_sem, a4], by simp -implicitDefEqProofs only [go_sem, a5], by simp -implicitDefEqProofs only [go_sem, a6], by simp -implicitDefEqProofs only [go_sem, a9], by simp -implicitDefEqProofs only [go_sem, a11], by simp -implicitDefEqProofs only [go_sem, a12], by simp -implicitDefEqProofs only [go_sem, a13], hF2, Yx (by omega) e1, by rw [List.length_append]; show E.length + 1 <= i + 1; omega⟩
   clear a3 a4 a5 a6 a9 a11 a12 a13 hT T hF1 e1 e2 H1 H E te j
   rintro _ ⟨T, j, te, H, E, rfl, hT, a3, a4, a5, a6, a9, a11, a12, a13, hF, e1, e2⟩
   have g0 := hF.g0
   have hon := Z09 w1 2 [0] 0 (K + 316) ⟨H, j + m + 4, [], false, []⟩ g0 (by omega)
   have hF1 := hF.dice (w' := nextW w1)
   simp -implicitDefEqProofs only [go_sem, a3, hT, hon]
   generalize hset H [0] (.cells [.int .u64 (nextW w1)] true 0) = H1 at *
   generalize nextW w1 = w2 at *
   clear hon hF g0
   cases hob : oneB w1 2 with
   | false =>
    have hw1 : wrapF .i64 ((i : Int) + 1) = ((i + 1 : Nat) : Int) := Zk (by omega) (by omega)
    simp -implicitDefEqProofs only [go_sem, a3, a4, a5, a6, a9, a11, a12, a13, hT, hw1]
    clear hw1
    exact ⟨S - (i + 1), hkk, trivial, trivial, trivial, trivial, trivial, trivial, trivial, i + 1, j, te, ts, w2, H1, E, P, rfl, hi1, rfl, rfl, rfl, hF1, e1, e2, Xq (by omega) p1, by omega⟩
   | true =>
    have hap := Xc (C := cfg.at 7) (sT := 22) (b := [ts + m + 4]) (l := P.map iV) (x := .int .i64 (i : Int)) (H := H1) (n := j + m + 4) (p := []) (jr := false) (j := []) (z := 1) Z6c Za5 rfl rfl rfl rfl rfl rfl (by rw [List.length_map]; show (P.length + 1) * 8 <= _; omega) (fun hx => by rw [List.length_map]; exact (hF1.qp hx).2)
    rw [Z6l, List.length_map] at hap
    simp only [List.nil_append] at hap
    have hF2 := hF1.part (x := (i : Int))
    have ho : ownV [j + m + 4] ((P ++ [(i : Int)]).map iV) = .own [j + m + 4] ((P ++ [(i : Int)]).map iV) := by rw [List.map_append]; cases P.map iV <;> rfl
    have hp1 := Yx (by omega) p1
    have hp2 : (P ++ [(i : Int)]).length <= i + 1 := by rw [List.length_append]; show P.length + 1 <= i + 1; omega
    have hw1 : wrapF .i64 ((i : Int) + 1) = ((i + 1 : Nat) : Int) := Zk (by omega) (by omega)
    simp -implicitDefEqProofs only [go_sem, a3, a4, a5, a6, a9, a11, a12, a13, hT, hap, hw1, Zas]
    clear hw1
    exact ⟨S - (i + 1), hkk, trivial, trivial, trivial, trivial, trivial, trivial, trivial, i + 1, j + 1, te, j, w2, _, E, P ++ [(i : Int)], rfl, hi1, rfl, by rw [show j + 1 + m + 4 = j + m + 4 + 1 by omega], by rw [ho], hF2, e1, e2, hp1, hp2⟩
  ·have hie : i = S := by omega
   subst hie
   simp -implicitDefEqProofs only [go_sem, hil]
   exact ⟨_, j, te, ts, w, H, E, P, rfl, by simp -implicitDefEqProofs only [go_sem, hT], by simp -implicitDefEqProofs only [go_sem, a4], by simp -implicitDefEqProofs only [go_sem, a5], by simp -implicitDefEqProofs only [go_sem, a6], by simp -implicitDefEqProofs only [go_sem, a9], by simp -implicitDefEqProofs only [go_sem, a11], by simp -implicitDefEqProofs only [go_sem, a12], hF, e1, e2, p1, p2⟩
 clear a3 a4 a5 a6 a9 hT T f0 H w2
 rintro _ ⟨T, j, te, ts, w, H, E, P, rfl, hT, a4, a5, a6, a9, a11, a12, hF, e1, e2, p1, p2⟩
 have g1 := hF.g1
 have g2 := hF.g2
 have ge := hF.ge
 have hG' : HntG 8 10 ⟨S, TR ++ [⟨E, c5⟩]⟩ := ⟨by show 1 <= (S : Int); omega, by show (S : Int) <= 8; omega, by show ((TR ++ [(⟨E, c5⟩ : Tri)]).length : Int) <= 10; rw [List.length_append]; show ((TR.length + 1 : Nat) : Int) <= 10; omega, fun x hx => by
  rcases List.mem_append.1 hx with hx | hx
  ·exact htg x hx
  ·rw [List.mem_singleton] at hx; rw [hx]; exact ⟨e1, by show E.length <= 12; omega, hur.1, by show c5 <= 8; omega⟩⟩
 have hfne : firstL S ≠ [] := fun hx => by rw [hx] at hfl; simp at hfl; omega
 obtain ⟨cl, ql, hwl, hcl⟩ := Ju (h := h) (h' := ⟨S, TR ++ [⟨E, c5⟩]⟩) (by omega) (by omega) (by omega) (by omega) hg hG' hS rfl (fun x hx => by
  obtain ⟨y, hy, y1, y2⟩ := htc x hx
  exact ⟨y, List.mem_append_left _ hy, y1, y2⟩) (Yl S) hfne b1
 have hwi := fun s b hb => Z9m ⟨S, TR ++ [⟨E, c5⟩]⟩ (by simp) (firstL S) (K + 309) s (by omega) (Z99 (by omega) hG' _ (by omega)) (by omega) (by omega) b hb
 rw [hwl] at hwi
 have hwp := fun s => Z0n h P (K + 309) s (by omega) (hok _ (by omega)) (by omega) (by omega)
 simp only [hntV, hS] at hwp
 have bs := Zda
 have hncl : ¬ (bestS (setsOf h) (setN 0 (firstL S))).1 < cl := by omega
 generalize hbb : (bestS (setsOf h) (setN 0 (firstL S))).1 = B0 at *
 simp only [t3V] at hwi hwp
 rcases grr with ⟨r1, r2⟩ | ⟨r1, r2⟩
 ·subst r1 r2
  have hap := fun s => Zar [⟨E, c5⟩] (by simp) (by show 1 <= 1000000; decide) (cfg.at 7) rfl s
  simp only [List.map_cons, List.map_nil, triV] at hap
  simp only [List.nil_append] at hwi
  have s1 : ∀ Y, hget (hset H [2, 7, 0] Y) [2, 7, 0] = some Y := fun Y => Z4 Y g2
  have s2 : ∀ Y, hget (hset H [2, 7, 0] Y) [1] = _ := fun Y => (Z0 _ _ (by decide)).trans g1
  have hl1 : ([(⟨E, c5⟩ : Tri)]).length = 1 := rfl
  rw [hl1] at hap
  simp only [hl1] at hwi
  cases hP : P with
  | nil =>
   rw [hP, List.map_nil, Z3k] at a12
   simp -implicitDefEqProofs only [go_sem, a5, a6, a9, a11, a12, hT, g2, ge, s1, bs, hap, hwi, hncl, haw, Try.results7]
  | cons pa pr =>
   have hpne : P ≠ [] := by rw [hP]; simp
   have hown : ownV [ts + m + 4] (P.map iV) = .own [ts + m + 4] (P.map iV) := by rw [hP]; rfl
   obtain ⟨cp, qp, hwq, hcp⟩ := Ju (h := h) (h' := h) (by omega) (by omega) (by omega) (by omega) hg hg hS hS (fun x hx => ⟨x, hx, rfl, Int.le_refl _⟩) p1 hpne (by rw [hbb]; exact b1)
   rw [hwq] at hwp
   simp only at hwp
   rw [hown] at a12
   rw [hbb] at hcp
   have hpl : ¬ (P.length : Int) = 0 := by have := List.length_pos_iff.2 hpne; omega
   simp -implicitDefEqProofs only [go_sem, a4, a5, a6, a9, a11, a12, hT, g2, ge, s1, s2, bs, hap, hwi, hncl, hwp, hcp, hpl, List.length_map, haw, Try.results7]
 ·subst r2
  have g5 := hF.gr r1
  have hap := fun s hb => Z5p TR ⟨E, c5⟩ r1 (by omega) (cfg.at 7) rfl [2, 5, 0] s hb
  simp only [triV] at hap
  have s0 : hget (hdel H [2, 5, 0]) [2, 7, 0] = _ := (Zc H (by decide)).trans g2
  have s1 : ∀ Y, hget (hset (hdel H [2, 5, 0]) [2, 7, 0] Y) [2, 7, 0] = some Y := fun Y => Z4 Y s0
  have s2 : ∀ Y, hget (hset (hdel H [2, 5, 0]) [2, 7, 0] Y) [1] = _ := fun Y => (Z0 _ _ (by decide)).trans ((Zc H (by decide)).trans g1)
  cases hP : P with
  | nil =>
   rw [hP, List.map_nil, Z3k] at a12
   simp -implicitDefEqProofs only [go_sem, a5, a6, a9, a11, a12, hT, g2, g5, ge, s0, s1, bs, hap, hwi, hncl, haw, Try.results7]
  | cons pa pr =>
   have hpne : P ≠ [] := by rw [hP]; simp
   have hown : ownV [ts + m + 4] (P.map iV) = .own [ts + m + 4] (P.map iV) := by rw [hP]; rfl
   obtain ⟨cp, qp, hwq, hcp⟩ := Ju (h := h) (h' := h) (by omega) (by omega) (by omega) (by omega) hg hg hS hS (fun x hx => ⟨x, hx, rfl, Int.le_refl _⟩) p1 hpne (by rw [hbb]; exact b1)
   rw [hwq] at hwp
   simp only at hwp
   rw [hown] at a12
   rw [hbb] at hcp
   have hpl : ¬ (P.length : Int) = 0 := by have := List.length_pos_iff.2 hpne; omega
   simp -implicitDefEqProofs only [go_sem, a4, a5, a6, a9, a11, a12, hT, g2, g5, ge, s0, s1, s2, bs, hap, hwi, hncl, hwp, hcp, hpl, List.length_map, haw, Try.results7]
theorem Z9o (L : List (List AV)) (hl : L.length = [22].length) (hc : ∀ (i : Nat) t acs, [22][i]? = some t -> L[i]? = some acs -> Content Try.prog 12 t acs) :
  ∃ K, Yes (acall cfg K 7 (([22].zip L).map fun x => argOf Try.prog x.1 x.2) s0) := by
 match L, hl with
 | [c0], _ =>
  obtain ⟨nums, rfl, hn⟩ := Zag 10 c0 (hc 0 22 c0 rfl rfl)
  refine ⟨(21001 + nums.length) + 320, ⟨?_⟩⟩
  exact (Z79 nums _ (by omega) (by omega) hn.1).all
end Go.Proofs.Ytgnpnfkncbnjnaa
namespace Go.Am
open Go Go.RowKit
section
variable {H0 : Type} {enc : TypeId × Value -> H0} {P : Program} {w : World} {held : Bool}
theorem Z6m : ∀ (ts : List TypeId) (vs : List Value) (ds : List (DataW H0)) (ps : List MemPlace), DataW.TrodAll enc P w 0 (fun _ => true) held ts vs ds ps -> ds.length = ts.length
 | [], [], [], ps, _ => rfl
 | t :: ts, v :: vs, d :: ds, ps, h => by
  obtain ⟨p, q, _, h2, _⟩ := h
  simp [Z6m ts vs ds q h2]
 | [], [], _ :: _, _, h => h.elim
 | [], _ :: _, [], _, h => h.elim
 | [], _ :: _, _ :: _, _, h => h.elim
 | _ :: _, [], [], _, h => h.elim
 | _ :: _, [], _ :: _, _, h => h.elim
 | _ :: _, _ :: _, [], _, h => h.elim
end
end Go.Am
namespace Go.Proofs.Ytgnpnfkncbnjnaa
open Go Go.Am
theorem Try.laidOut : laidOutB Try.prog = true := by kernel_rfl
theorem Try.own : ownKnob Try.prog.godebug = none := by kernel_rfl
theorem Try.rowed : mapsRowed Try.prog = true := by kernel_rfl
theorem Try.noStops : (Try.prog.stops == []) = true := by kernel_rfl
theorem Try.noKnobs : (Try.prog.stopKnobs == []) = true := by kernel_rfl
theorem Try.plain : (Rows.pumpKnownRow.plainKeys == Try.prog.plainKeys) = true := by kernel_rfl
theorem Try.heard : Try.prog.stopsHeard = true := by kernel_rfl
theorem Try.enters : Try.prog.mayEnter = true := by kernel_rfl
theorem Try.lifts : (Rows.pumpKnownRow.lifted == Try.prog.liftsFinal) = true := by kernel_rfl
theorem Try.makes : (Try.prog.make == some Rows.pumpKnownRow.make) = true := by kernel_rfl
end Go.Proofs.Ytgnpnfkncbnjnaa
namespace Go.Proofs.Ytgnpnfkncbnjnaa
open Go.Am
theorem tok1 : TyOk Try.prog 1 ty1 := Z9 (by kernel_rfl) (by kernel_rfl)
theorem tok2 : TyOk Try.prog 2 ty2 := Z9 (by kernel_rfl) (by kernel_rfl)
theorem tok3 : TyOk Try.prog 3 ty3 := Z9 (by kernel_rfl) (by kernel_rfl)
theorem tok4 : TyOk Try.prog 4 ty4 := Z9 (by kernel_rfl) (by kernel_rfl)
theorem tok5 : TyOk Try.prog 5 ty5 := Z9 (by kernel_rfl) (by kernel_rfl)
theorem tok9 : TyOk Try.prog 9 ty9 := Z9 (by kernel_rfl) (by kernel_rfl)
theorem Zia : TyOk Try.prog 22 ty22 := Z9 (by kernel_rfl) (by kernel_rfl)
theorem Zib : TyOk Try.prog 23 ty23 := Z9 (by kernel_rfl) (by kernel_rfl)
theorem Zic : TyOk Try.prog 26 ty26 := Z9 (by kernel_rfl) (by kernel_rfl)
theorem Zid : TyOk Try.prog 33 ty33 := Z9 (by kernel_rfl) (by kernel_rfl)
theorem Zie : TyOk Try.prog 34 ty34 := Z9 (by kernel_rfl) (by kernel_rfl)
theorem Zif : TyOk Try.prog 35 ty35 := Z9 (by kernel_rfl) (by kernel_rfl)
theorem Zig : TyOk Try.prog 36 ty36 := Z9 (by kernel_rfl) (by kernel_rfl)
theorem Zih : TyOk Try.prog 37 ty37 := Z9 (by kernel_rfl) (by kernel_rfl)
theorem Zii : TyOk Try.prog 39 ty39 := Z9 (by kernel_rfl) (by kernel_rfl)
theorem Zij : TyOk Try.prog 42 ty42 := Z9 (by kernel_rfl) (by kernel_rfl)
theorem Zik : TyOk Try.prog 47 ty47 := Z9 (by kernel_rfl) (by kernel_rfl)
theorem Zil : TyOk Try.prog 50 ty50 := Z9 (by kernel_rfl) (by kernel_rfl)
theorem Zim : TyOk Try.prog 56 ty56 := Z9 (by kernel_rfl) (by kernel_rfl)
theorem Zin : TyOk Try.prog 61 ty61 := Z9 (by kernel_rfl) (by kernel_rfl)
theorem Zio : TyOk Try.prog 69 ty69 := Z9 (by kernel_rfl) (by kernel_rfl)
theorem Zip : TyOk Try.prog 71 ty71 := Z9 (by kernel_rfl) (by kernel_rfl)
theorem Ziq : TyOk Try.prog 73 ty73 := Z9 (by kernel_rfl) (by kernel_rfl)
theorem Zir : TyOk Try.prog 75 ty75 := Z9 (by kernel_rfl) (by kernel_rfl)
theorem Zis : TyOk Try.prog 77 ty77 := Z9 (by kernel_rfl) (by kernel_rfl)
theorem Zit : TyOk Try.prog 84 ty84 := Z9 (by kernel_rfl) (by kernel_rfl)
theorem Ziu : TyOk Try.prog 86 ty86 := Z9 (by kernel_rfl) (by kernel_rfl)
theorem Ziv : TyOk Try.prog 98 ty98 := Z9 (by kernel_rfl) (by kernel_rfl)
theorem Zdb : TyOk Try.prog 105 ty105 := Z9 (by kernel_rfl) (by kernel_rfl)
theorem Zdc : TyOk Try.prog 128 ty128 := Z9 (by kernel_rfl) (by kernel_rfl)
theorem Zdd : TyOk Try.prog 130 ty130 := Z9 (by kernel_rfl) (by kernel_rfl)
theorem Zde : TyOk Try.prog 132 ty132 := Z9 (by kernel_rfl) (by kernel_rfl)
theorem Zdf : TyOk Try.prog 138 ty138 := Z9 (by kernel_rfl) (by kernel_rfl)
theorem Zdg : TyOk Try.prog 140 ty140 := Z9 (by kernel_rfl) (by kernel_rfl)
theorem Zdh : TyOk Try.prog 142 ty142 := Z9 (by kernel_rfl) (by kernel_rfl)
theorem Zdi : TyOk Try.prog 148 ty148 := Z9 (by kernel_rfl) (by kernel_rfl)
theorem Zdj : TyOk Try.prog 151 ty151 := Z9 (by kernel_rfl) (by kernel_rfl)
theorem Zdk : TyOk Try.prog 154 ty154 := Z9 (by kernel_rfl) (by kernel_rfl)
theorem Zdl : TyOk Try.prog 155 ty155 := Z9 (by kernel_rfl) (by kernel_rfl)
theorem Zdm : TyOk Try.prog 158 ty158 := Z9 (by kernel_rfl) (by kernel_rfl)
theorem Zdn : TyOk Try.prog 162 ty162 := Z9 (by kernel_rfl) (by kernel_rfl)
theorem Zdo : TyOk Try.prog 163 ty163 := Z9 (by kernel_rfl) (by kernel_rfl)
theorem Zdp : TyOk Try.prog 168 ty168 := Z9 (by kernel_rfl) (by kernel_rfl)
theorem Zdq : TyOk Try.prog 169 ty169 := Z9 (by kernel_rfl) (by kernel_rfl)
theorem Zdr : TyOk Try.prog 170 ty170 := Z9 (by kernel_rfl) (by kernel_rfl)
theorem Zds : TyOk Try.prog 171 ty171 := Z9 (by kernel_rfl) (by kernel_rfl)
theorem Zdt : TyOk Try.prog 172 ty172 := Z9 (by kernel_rfl) (by kernel_rfl)
theorem Zdu : TyOk Try.prog 174 ty174 := Z9 (by kernel_rfl) (by kernel_rfl)
theorem Zdv : TyOk Try.prog 176 ty176 := Z9 (by kernel_rfl) (by kernel_rfl)
theorem Zdw : TyOk Try.prog 181 ty181 := Z9 (by kernel_rfl) (by kernel_rfl)
theorem Zdx : TyOk Try.prog 190 ty190 := Z9 (by kernel_rfl) (by kernel_rfl)
theorem Zdy : TyOk Try.prog 191 ty191 := Z9 (by kernel_rfl) (by kernel_rfl)
theorem Zdz : TyOk Try.prog 193 ty193 := Z9 (by kernel_rfl) (by kernel_rfl)
theorem Ze0 : TyOk Try.prog 210 ty210 := Z9 (by kernel_rfl) (by kernel_rfl)
theorem Ze1 : TyOk Try.prog 211 ty211 := Z9 (by kernel_rfl) (by kernel_rfl)
theorem Ze2 : TyOk Try.prog 212 ty212 := Z9 (by kernel_rfl) (by kernel_rfl)
theorem Ze3 : TyOk Try.prog 214 ty214 := Z9 (by kernel_rfl) (by kernel_rfl)
theorem Ze4 : TyOk Try.prog 215 ty215 := Z9 (by kernel_rfl) (by kernel_rfl)
theorem Ze5 : TyOk Try.prog 220 ty220 := Z9 (by kernel_rfl) (by kernel_rfl)
theorem Ze6 : TyOk Try.prog 230 ty230 := Z9 (by kernel_rfl) (by kernel_rfl)
theorem Ze7 : TyOk Try.prog 231 ty231 := Z9 (by kernel_rfl) (by kernel_rfl)
theorem fok7 : Try.prog.funcs[7]? = some Try.f7 /\ (Try.f7.name == "runtime.NumGoroutine") = false := ⟨Try.func7, by kernel_rfl⟩
theorem Ziw : Try.prog.funcs[20]? = some Try.f20 /\ (Try.f20.name == "runtime.NumGoroutine") = false := ⟨Try.func20, by kernel_rfl⟩
theorem Zix : Try.prog.funcs[25]? = some Try.f25 /\ (Try.f25.name == "runtime.NumGoroutine") = false := ⟨Try.func25, by kernel_rfl⟩
theorem Ziy : Try.prog.funcs[35]? = some Try.f35 /\ (Try.f35.name == "runtime.NumGoroutine") = false := ⟨Try.func35, by kernel_rfl⟩
theorem Ziz : Try.prog.funcs[36]? = some Try.f36 /\ (Try.f36.name == "runtime.NumGoroutine") = false := ⟨Try.func36, by kernel_rfl⟩
theorem Zj0 : Try.prog.funcs[37]? = some Try.f37 /\ (Try.f37.name == "runtime.NumGoroutine") = false := ⟨Try.func37, by kernel_rfl⟩
theorem Zj1 : Try.prog.funcs[38]? = some Try.f38 /\ (Try.f38.name == "runtime.NumGoroutine") = false := ⟨Try.func38, by kernel_rfl⟩
theorem Zj2 : Try.prog.funcs[39]? = some Try.f39 /\ (Try.f39.name == "runtime.NumGoroutine") = false := ⟨Try.func39, by kernel_rfl⟩
theorem Zj3 : Try.prog.funcs[40]? = some Try.f40 /\ (Try.f40.name == "runtime.NumGoroutine") = false := ⟨Try.func40, by kernel_rfl⟩
theorem Zj4 : Try.prog.funcs[41]? = some Try.f41 /\ (Try.f41.name == "runtime.NumGoroutine") = false := ⟨Try.func41, by kernel_rfl⟩
theorem Zj5 : Try.prog.funcs[42]? = some Try.f42 /\ (Try.f42.name == "runtime.NumGoroutine") = false := ⟨Try.func42, by kernel_rfl⟩
theorem Zj6 : Try.prog.funcs[44]? = some Try.f44 /\ (Try.f44.name == "runtime.NumGoroutine") = false := ⟨Try.func44, by kernel_rfl⟩
theorem Zj7 : Try.prog.funcs[49]? = some Try.f49 /\ (Try.f49.name == "runtime.NumGoroutine") = false := ⟨Try.func49, by kernel_rfl⟩
theorem Zj8 : Try.prog.funcs[58]? = some Try.f58 /\ (Try.f58.name == "runtime.NumGoroutine") = false := ⟨Try.func58, by kernel_rfl⟩
theorem Zj9 : Try.prog.funcs[83]? = some Try.f83 /\ (Try.f83.name == "runtime.NumGoroutine") = false := ⟨Try.func83, by kernel_rfl⟩
theorem Zja : Try.prog.funcs[84]? = some Try.f84 /\ (Try.f84.name == "runtime.NumGoroutine") = false := ⟨Try.func84, by kernel_rfl⟩
theorem Zjb : Try.prog.funcs[85]? = some Try.f85 /\ (Try.f85.name == "runtime.NumGoroutine") = false := ⟨Try.func85, by kernel_rfl⟩
theorem Zjc : Try.prog.funcs[94]? = some Try.f94 /\ (Try.f94.name == "runtime.NumGoroutine") = false := ⟨Try.func94, by kernel_rfl⟩
theorem Zjd : Try.prog.funcs[95]? = some Try.f95 /\ (Try.f95.name == "runtime.NumGoroutine") = false := ⟨Try.func95, by kernel_rfl⟩
theorem Zje : Try.prog.funcs[97]? = some Try.f97 /\ (Try.f97.name == "runtime.NumGoroutine") = false := ⟨Try.func97, by kernel_rfl⟩
theorem Zjf : Try.prog.funcs[98]? = some Try.f98 /\ (Try.f98.name == "runtime.NumGoroutine") = false := ⟨Try.func98, by kernel_rfl⟩
theorem Zjg : Try.prog.funcs[99]? = some Try.f99 /\ (Try.f99.name == "runtime.NumGoroutine") = false := ⟨Try.func99, by kernel_rfl⟩
theorem Ze8 : Try.prog.funcs[100]? = some Try.f100 /\ (Try.f100.name == "runtime.NumGoroutine") = false := ⟨Try.func100, by kernel_rfl⟩
theorem Ze9 : Try.prog.funcs[101]? = some Try.f101 /\ (Try.f101.name == "runtime.NumGoroutine") = false := ⟨Try.func101, by kernel_rfl⟩
theorem Zea : Try.prog.funcs[102]? = some Try.f102 /\ (Try.f102.name == "runtime.NumGoroutine") = false := ⟨Try.func102, by kernel_rfl⟩
theorem Zeb : Try.prog.funcs[103]? = some Try.f103 /\ (Try.f103.name == "runtime.NumGoroutine") = false := ⟨Try.func103, by kernel_rfl⟩
theorem Zec : Try.prog.funcs[104]? = some Try.f104 /\ (Try.f104.name == "runtime.NumGoroutine") = false := ⟨Try.func104, by kernel_rfl⟩
theorem Zed : Try.prog.funcs[105]? = some Try.f105 /\ (Try.f105.name == "runtime.NumGoroutine") = false := ⟨Try.func105, by kernel_rfl⟩
theorem Zee : Try.prog.funcs[106]? = some Try.f106 /\ (Try.f106.name == "runtime.NumGoroutine") = false := ⟨Try.func106, by kernel_rfl⟩
theorem Zef : Try.prog.funcs[107]? = some Try.f107 /\ (Try.f107.name == "runtime.NumGoroutine") = false := ⟨Try.func107, by kernel_rfl⟩
theorem Zeg : Try.prog.funcs[108]? = some Try.f108 /\ (Try.f108.name == "runtime.NumGoroutine") = false := ⟨Try.func108, by kernel_rfl⟩
theorem Zeh : Try.prog.funcs[109]? = some Try.f109 /\ (Try.f109.name == "runtime.NumGoroutine") = false := ⟨Try.func109, by kernel_rfl⟩
theorem Zei : Try.prog.funcs[110]? = some Try.f110 /\ (Try.f110.name == "runtime.NumGoroutine") = false := ⟨Try.func110, by kernel_rfl⟩
theorem Zej : Try.prog.funcs[111]? = some Try.f111 /\ (Try.f111.name == "runtime.NumGoroutine") = false := ⟨Try.func111, by kernel_rfl⟩
theorem Zek : Try.prog.funcs[112]? = some Try.f112 /\ (Try.f112.name == "runtime.NumGoroutine") = false := ⟨Try.func112, by kernel_rfl⟩
theorem Zel : Try.prog.funcs[113]? = some Try.f113 /\ (Try.f113.name == "runtime.NumGoroutine") = false := ⟨Try.func113, by kernel_rfl⟩
theorem Zem : Try.prog.funcs[114]? = some Try.f114 /\ (Try.f114.name == "runtime.NumGoroutine") = false := ⟨Try.func114, by kernel_rfl⟩
theorem Zen : Try.prog.funcs[115]? = some Try.f115 /\ (Try.f115.name == "runtime.NumGoroutine") = false := ⟨Try.func115, by kernel_rfl⟩
theorem Zeo : Try.prog.funcs[116]? = some Try.f116 /\ (Try.f116.name == "runtime.NumGoroutine") = false := ⟨Try.func116, by kernel_rfl⟩
theorem Zep : Try.prog.funcs[117]? = some Try.f117 /\ (Try.f117.name == "runtime.NumGoroutine") = false := ⟨Try.func117, by kernel_rfl⟩
theorem Zeq : Try.prog.funcs[118]? = some Try.f118 /\ (Try.f118.name == "runtime.NumGoroutine") = false := ⟨Try.func118, by kernel_rfl⟩
theorem Zer : Try.prog.funcs[126]? = some Try.f126 /\ (Try.f126.name == "runtime.NumGoroutine") = false := ⟨Try.func126, by kernel_rfl⟩
theorem Zes : Try.prog.funcs[147]? = some Try.f147 /\ (Try.f147.name == "runtime.NumGoroutine") = false := ⟨Try.func147, by kernel_rfl⟩
theorem Zet : Try.prog.funcs[148]? = some Try.f148 /\ (Try.f148.name == "runtime.NumGoroutine") = false := ⟨Try.func148, by kernel_rfl⟩
theorem Zeu : Try.prog.funcs[149]? = some Try.f149 /\ (Try.f149.name == "runtime.NumGoroutine") = false := ⟨Try.func149, by kernel_rfl⟩
theorem Zev : Try.prog.funcs[150]? = some Try.f150 /\ (Try.f150.name == "runtime.NumGoroutine") = false := ⟨Try.func150, by kernel_rfl⟩
theorem Zew : Try.prog.funcs[151]? = some Try.f151 /\ (Try.f151.name == "runtime.NumGoroutine") = false := ⟨Try.func151, by kernel_rfl⟩
theorem Zex : Try.prog.funcs[152]? = some Try.f152 /\ (Try.f152.name == "runtime.NumGoroutine") = false := ⟨Try.func152, by kernel_rfl⟩
theorem Zey : Try.prog.funcs[153]? = some Try.f153 /\ (Try.f153.name == "runtime.NumGoroutine") = false := ⟨Try.func153, by kernel_rfl⟩
theorem Zez : Try.prog.funcs[154]? = some Try.f154 /\ (Try.f154.name == "runtime.NumGoroutine") = false := ⟨Try.func154, by kernel_rfl⟩
theorem Zf0 : Try.prog.funcs[155]? = some Try.f155 /\ (Try.f155.name == "runtime.NumGoroutine") = false := ⟨Try.func155, by kernel_rfl⟩
theorem Zf1 : Try.prog.funcs[156]? = some Try.f156 /\ (Try.f156.name == "runtime.NumGoroutine") = false := ⟨Try.func156, by kernel_rfl⟩
theorem Zf2 : Try.prog.funcs[157]? = some Try.f157 /\ (Try.f157.name == "runtime.NumGoroutine") = false := ⟨Try.func157, by kernel_rfl⟩
theorem Zf3 : Try.prog.funcs[158]? = some Try.f158 /\ (Try.f158.name == "runtime.NumGoroutine") = false := ⟨Try.func158, by kernel_rfl⟩
theorem Zf4 : Try.prog.funcs[159]? = some Try.f159 /\ (Try.f159.name == "runtime.NumGoroutine") = false := ⟨Try.func159, by kernel_rfl⟩
theorem Zf5 : Try.prog.funcs[164]? = some Try.f164 /\ (Try.f164.name == "runtime.NumGoroutine") = false := ⟨Try.func164, by kernel_rfl⟩
theorem Zf6 : Try.prog.funcs[165]? = some Try.f165 /\ (Try.f165.name == "runtime.NumGoroutine") = false := ⟨Try.func165, by kernel_rfl⟩
theorem Zf7 : Try.prog.funcs[178]? = some Try.f178 /\ (Try.f178.name == "runtime.NumGoroutine") = false := ⟨Try.func178, by kernel_rfl⟩
theorem Zf8 : Try.prog.funcs[179]? = some Try.f179 /\ (Try.f179.name == "runtime.NumGoroutine") = false := ⟨Try.func179, by kernel_rfl⟩
theorem Zf9 : Try.prog.funcs[180]? = some Try.f180 /\ (Try.f180.name == "runtime.NumGoroutine") = false := ⟨Try.func180, by kernel_rfl⟩
theorem Zfa : Try.prog.funcs[181]? = some Try.f181 /\ (Try.f181.name == "runtime.NumGoroutine") = false := ⟨Try.func181, by kernel_rfl⟩
theorem Zjh : AllNT (fun t i => TyOk Try.prog t i) tyT := ⟨Zdd, ⟨Zij, ⟨Zib, ⟨tok4, ⟨tok2, ⟨tok1, trivial, trivial⟩, ⟨tok3, trivial, trivial⟩⟩, ⟨tok9, ⟨tok5, trivial, trivial⟩, ⟨Zia, trivial, trivial⟩⟩⟩, ⟨Zif, ⟨Zid, ⟨Zic, trivial, trivial⟩, ⟨Zie, trivial, trivial⟩⟩, ⟨Zih, ⟨Zig, trivial, trivial⟩, ⟨Zii, trivial, trivial⟩⟩⟩⟩, ⟨Zir, ⟨Zin, ⟨Zil, ⟨Zik, trivial, trivial⟩, ⟨Zim, trivial, trivial⟩⟩, ⟨Zip, ⟨Zio, trivial, trivial⟩, ⟨Ziq, trivial, trivial⟩⟩⟩, ⟨Ziv, ⟨Zit, ⟨Zis, trivial, trivial⟩, ⟨Ziu, trivial, trivial⟩⟩, ⟨Zdc, ⟨Zdb, trivial, trivial⟩, trivial⟩⟩⟩⟩, ⟨Zdt, ⟨Zdl, ⟨Zdh, ⟨Zdf, ⟨Zde, trivial, trivial⟩, ⟨Zdg, trivial, trivial⟩⟩, ⟨Zdj, ⟨Zdi, trivial, trivial⟩, ⟨Zdk, trivial, trivial⟩⟩⟩, ⟨Zdp, ⟨Zdn, ⟨Zdm, trivial, trivial⟩, ⟨Zdo, trivial, trivial⟩⟩, ⟨Zdr, ⟨Zdq, trivial, trivial⟩, ⟨Zds, trivial, trivial⟩⟩⟩⟩, ⟨Ze1, ⟨Zdx, ⟨Zdv, ⟨Zdu, trivial, trivial⟩, ⟨Zdw, trivial, trivial⟩⟩, ⟨Zdz, ⟨Zdy, trivial, trivial⟩, ⟨Ze0, trivial, trivial⟩⟩⟩, ⟨Ze5, ⟨Ze3, ⟨Ze2, trivial, trivial⟩, ⟨Ze4, trivial, trivial⟩⟩, ⟨Ze7, ⟨Ze6, trivial, trivial⟩, trivial⟩⟩⟩⟩⟩
theorem Zji : AllNT (fun f fn => Try.prog.funcs[f]? = some fn /\ (fn.name == "runtime.NumGoroutine") = false) fnT := ⟨Zeg, ⟨Zja, ⟨Zj2, ⟨Ziy, ⟨Ziw, ⟨fok7, trivial, trivial⟩, ⟨Zix, trivial, trivial⟩⟩, ⟨Zj0, ⟨Ziz, trivial, trivial⟩, ⟨Zj1, trivial, trivial⟩⟩⟩, ⟨Zj6, ⟨Zj4, ⟨Zj3, trivial, trivial⟩, ⟨Zj5, trivial, trivial⟩⟩, ⟨Zj8, ⟨Zj7, trivial, trivial⟩, ⟨Zj9, trivial, trivial⟩⟩⟩⟩, ⟨Ze9, ⟨Zje, ⟨Zjc, ⟨Zjb, trivial, trivial⟩, ⟨Zjd, trivial, trivial⟩⟩, ⟨Zjg, ⟨Zjf, trivial, trivial⟩, ⟨Ze8, trivial, trivial⟩⟩⟩, ⟨Zed, ⟨Zeb, ⟨Zea, trivial, trivial⟩, ⟨Zec, trivial, trivial⟩⟩, ⟨Zef, ⟨Zee, trivial, trivial⟩, trivial⟩⟩⟩⟩, ⟨Zew, ⟨Zeo, ⟨Zek, ⟨Zei, ⟨Zeh, trivial, trivial⟩, ⟨Zej, trivial, trivial⟩⟩, ⟨Zem, ⟨Zel, trivial, trivial⟩, ⟨Zen, trivial, trivial⟩⟩⟩, ⟨Zes, ⟨Zeq, ⟨Zep, trivial, trivial⟩, ⟨Zer, trivial, trivial⟩⟩, ⟨Zeu, ⟨Zet, trivial, trivial⟩, ⟨Zev, trivial, trivial⟩⟩⟩⟩, ⟨Zf4, ⟨Zf0, ⟨Zey, ⟨Zex, trivial, trivial⟩, ⟨Zez, trivial, trivial⟩⟩, ⟨Zf2, ⟨Zf1, trivial, trivial⟩, ⟨Zf3, trivial, trivial⟩⟩⟩, ⟨Zf8, ⟨Zf6, ⟨Zf5, trivial, trivial⟩, ⟨Zf7, trivial, trivial⟩⟩, ⟨Zfa, ⟨Zf9, trivial, trivial⟩, trivial⟩⟩⟩⟩⟩
theorem Zjj : CfgOk Try.prog cfg := Za1 Zji Zjh (by kernel_rfl)
theorem Zbq : CodesOk cfg := Z6x (by kernel_rfl)
end Go.Proofs.Ytgnpnfkncbnjnaa
namespace Go.Proofs.Ytgnpnfkncbnjnaa
open Go Go.Am Go.ChangeShapes Go.WideShapes Go.ChangeAt Go.RowKit
set_option maxRecDepth 100000 in
theorem Z4p (os : Os) (started : os.Started) (H : Type) (enc : TypeId × Value -> H) :
  ReturnsInHanded {} Try.checked os 7 .any (Rows.pumpFewerSpec.pre6 enc Try.prog Try.f7 Rows.pumpFewerRow.domain false) (Rows.pumpFewerSpec.post enc Try.prog Try.f7 false true false false) := by
 refine returnsInHanded_of_change (C := Try.checked) Try.own started (by kernel_rfl) Try.func7
  (ChangeSpec.witness6 (enc := enc) (C := Try.checked) false ⟨#[], #[.slice none 0 0], []⟩ 8 (by kernel_rfl) (by kernel_rfl) (by kernel_rfl) (by kernel_rfl)) ?_
 intro W base args ds gs before hval0 hW hcnd _
 have hW' := hW
 obtain ⟨p, q, hA0, hV, rfl, hfz, hnd⟩ := hW
 have hA : DataW.TrodAll enc Try.prog W 0 (fun _ => true) true Try.f7.params.toList args.toList ds p := hA0
 rw [Try.params7] at hA
 obtain ⟨rfl, rfl⟩ := trodVars_none hV
 simp only [List.append_nil] at hW'
 have hlen : ds.length = 1 := Z6m _ _ _ _ hA
 have hsup : (([22] : List TypeId).all fun t => suppB Try.prog 12 t) = true := by as_aux_lemma => kernel_rfl
 have hpar : (([22] : List TypeId).all fun t => Try.prog.readableRec t && Nat.blt t Try.prog.types.size) = true := by as_aux_lemma => kernel_rfl
 refine (Z3i (d := 12) Zjj Zbq hA (fun t ht => List.all_eq_true.1 hsup t ht) (fun j t v e1 e2 => hval0 j t v (by rw [Try.params7]; simpa using e1) (by simpa using e2)) fun L hl hc => Z9o L hl hc).mono fun e W' ⟨he, hb⟩ => ?_
 subst he
 exact ⟨_, rfl, Za2 Try.laidOut (fun t ht => by rw [Try.params7] at ht; have := List.all_eq_true.1 hpar t ht; rw [Bool.and_eq_true, Nat.blt_eq] at this; exact this) rfl rfl Try.underlying4 hW' (by match ds, hlen with | [_], _ => rfl) hb⟩
set_option maxHeartbeats 4000000 in
theorem Z4q : joinedFacts Try.prog 7 Try.f7 Rows.pumpFewerSpec Rows.pumpFewerRow = true := by
 refine Z8l Try.laidOut Try.rowed Try.noStops Try.noKnobs Try.plain Try.heard Try.enters Try.lifts Try.makes (by as_aux_lemma => kernel_rfl) (by as_aux_lemma => kernel_rfl) (by as_aux_lemma => kernel_rfl) (by as_aux_lemma => kernel_rfl) (by as_aux_lemma => kernel_rfl)
  (by as_aux_lemma => kernel_rfl) (by as_aux_lemma => kernel_rfl) (by as_aux_lemma => kernel_rfl) (by as_aux_lemma => kernel_rfl) ?_
 kernel_rfl
theorem fewer_holds : Rows.PumpFewerSaid :=
 OpenClaim.holds_of_wide 7 Try.f7 rfl rfl rfl rfl rfl rfl rfl ⟨rfl, rfl, rfl, rfl, rfl⟩ rfl rfl rfl rfl rfl (by as_aux_lemma => kernel_rfl) Try.func7 Z4q
  (of_decide_eq_true (by as_aux_lemma => kernel_rfl)) (by as_aux_lemma => unfold Func.isWrapper; first | (rw [if_pos (by decide +kernel)]; kernel_rfl) | (rw [if_neg (by decide +kernel)]; exact ⟨rfl, rfl⟩))
  (fun os started H enc _ => Z4p os started H enc)
end Go.Proofs.Ytgnpnfkncbnjnaa
