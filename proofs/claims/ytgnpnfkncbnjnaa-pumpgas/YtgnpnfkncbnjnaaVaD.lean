/- Vacuum systems: the gas that they begin with, stages, and their bounds. -/
import Derived.Test.YtgnpnfkncbnjnaaVaC
import Derived.Test.YtgnpnfkncbnjnaaVaA
set_option linter.unusedSimpArgs false
set_option linter.unusedVariables false
set_option maxRecDepth 100000
namespace Go.Proofs.Ytgnpnfkncbnjnaa
open Go Go.Am
attribute [local congr] tr_congr does_congr all_congr
attribute [local go_sem] Go.Am.buildSliceA Go.Am.frozen Go.Am.freezeG Go.Am.freezeGs Go.Am.minmax
/-! ### The gas of a system at the beginning -/
def rgC (r : Rg) : List AV := [.int .i64 r.lo, .int .i64 r.hi]
theorem rgC_len (r : Rg) : (rgC r).length = 2 := rfl
theorem rgC_bare (r : Rg) : Bare (rgC r) := ⟨fun _ _ => rfl, fun _ => rfl⟩
theorem rows_bare (l : List Rg) : Bare (l.flatMap rgC) := bare_flatMap rgC_bare l
theorem rows_len (l : List Rg) : (l.flatMap rgC).length = l.length * 2 := cells_len rgC_len l
theorem rows_snoc (l : List Rg) (r : Rg) : (l ++ [r]).flatMap rgC = l.flatMap rgC ++ (rgV r).cells := by rw [List.flatMap_append]; rfl
def mostF : Int → List Ves → Int
  | m, [] => m
  | m, x :: r => mostF (wrapF .i64 (m + (x.free.hi + x.bound.hi))) r
def beginG (v : Vac) : Gs := ⟨v.vessels.map Ves.free, v.vessels.map Ves.bound, v.getters.map Gtr.room, mostF 0 v.vessels, false⟩
theorem desc50 : cfg.desc 50 = some (.slice 26) := by kernel_rfl
/-- Gas in rows of its own. -/
def gasM (b1 b2 b3 : Nm) (g : Gs) : AV := .agg [mutV b1 g.free.length, mutV b2 g.bound.length, mutV b3 g.room.length, .int .i64 g.most, .bool g.flashed]
theorem begun_body (v : Vac) (K : Nat) (hv : v.Lens K) (h8 : v.vessels.length ≤ 1000000) (hg8 : v.getters.length ≤ 1000000) :
    (bodyA (cfg.at 94) (acall cfg K) (around cfg K) (K + 1) Try.f94 [vacV v] s0).Does fun x => ∃ (a d : Nat), x.1 = gasM [a, 5, 0] [a, 11, 0] [d] (beginG v) ∧
      (v.vessels ≠ [] → hget x.2.H [a, 5, 0] = some (.cells ((v.vessels.map Ves.free).flatMap rgC) true 2) ∧ hget x.2.H [a, 11, 0] = some (.cells ((v.vessels.map Ves.bound).flatMap rgC) true 2)) ∧
      (v.getters ≠ [] → hget x.2.H [d] = some (.cells ((v.getters.map Gtr.room).flatMap rgC) true 2)) := by
  refine body_does rfl fun T hT' hA => ?_
  have a0 := hA 0 _ rfl
  have hT : T.length = 57 := hT'
  clear hA hT'
  obtain ⟨⟨hv1, hv2⟩, ⟨hp1, hp2⟩, ⟨hm1, hm2⟩, ⟨hi1, hi2⟩, ⟨hg1, hg2⟩, hbd⟩ := hv
  simp -implicitDefEqProofs only [go_sem, Nat.reduceEqDiff, Nat.reduceLT, Nat.reduceAdd, a0, hT]
  simp only [does_bind]
  refine xl_does (fun k T s' => T.length = 57 ∧ nth T 1 = some (.ptr [0] 0) ∧ nth T 2 = some (.ptr [1] 0) ∧ nth T 3 = some (.ptr [2] 0) ∧ nth T 9 = some (.lst (v.vessels.map vesV)) ∧ nth T 10 = some (.int .i64 v.vessels.length) ∧ ∃ (i n c : Nat) (H : Heap) (m : Int), nth T 11 = some (.int .i64 i) ∧ i ≤ v.vessels.length ∧ k = v.vessels.length - i ∧ s' = ⟨H, n + 3, [], false, []⟩ ∧ c < n + 3 ∧ hget H [0] = some (.cells [.lst (v.vessels.map vesV), .lst (v.pipes.map pipV), .lst (v.pumps.map pmpV), .lst (v.leaks.map inlV), .lst (v.getters.map gtrV)] true 0) ∧
      hget H [1] = some (.cells [.nils, .nils, .nils, .int .i64 0, .bool false] true 0) ∧ hget H [2] = some (.cells [mutV [c, 5, 0] i, mutV [c, 11, 0] i, .nils, .int .i64 m, .bool false] true 0) ∧ (i ≠ 0 → hget H [c, 5, 0] = some (.cells (((v.vessels.take i).map Ves.free).flatMap rgC) true 2) ∧ hget H [c, 11, 0] = some (.cells (((v.vessels.take i).map Ves.bound).flatMap rgC) true 2)) ∧
      mostF 0 v.vessels = mostF m (v.vessels.drop i)) (k := v.vessels.length) (by omega) ?_ ?_
  · exact ⟨by simp -implicitDefEqProofs only [go_sem, hT], by simp -implicitDefEqProofs only [go_sem, Nat.reduceEqDiff, Nat.reduceLT, hT], by simp -implicitDefEqProofs only [go_sem, Nat.reduceEqDiff, Nat.reduceLT, hT], by simp -implicitDefEqProofs only [go_sem, Nat.reduceEqDiff, Nat.reduceLT, hT], by simp -implicitDefEqProofs only [go_sem, Nat.reduceEqDiff, Nat.reduceLT, hT], by simp -implicitDefEqProofs only [go_sem, Nat.reduceEqDiff, Nat.reduceLT, hT], 0, 0, 0, _, 0, by simp -implicitDefEqProofs only [go_sem, Nat.reduceLT, hT] <;> rfl, by omega, rfl, rfl, by omega, rfl, rfl, rfl, fun h => absurd rfl h, rfl⟩
  clear a0 hT T
  rintro k T s' ⟨hT, a1, a2, a3, a9, a10, i, n, c, H, m, a11, hi, rfl, rfl, hc, g0, g1, g2, gr, hm⟩
  simp -implicitDefEqProofs only [go_sem, Nat.reduceLT, a10, a11, hT]
  by_cases hil : (i : Int) < (v.vessels.length : Int)
  · have hi' : i < v.vessels.length := by omega
    have e1 := elemAt_map (f := vesV) (l := v.vessels) (i := i) (z := 6) hi' rfl
    have hkk : v.vessels.length - (i + 1) < v.vessels.length - i := by omega
    have htk : v.vessels.take (i + 1) = v.vessels.take i ++ [v.vessels[i]] := List.take_succ_eq_append_getElem hi'
    have hln : ((v.vessels.take i).map Ves.free).length = i := by simp; omega
    have hln2 : ((v.vessels.take i).map Ves.bound).length = i := by simp; omega
    rw [List.drop_eq_getElem_cons hi'] at hm
    have hi1 : i + 1 ≤ v.vessels.length := hi'
    have hn4 : n + 4 < n + 2 + 3 := by omega
    generalize v.vessels[i] = x at *
    simp only [mostF] at hm
    have hap := fun (cs : List AV) (m n : Nat) (b p : Nm) (H : Heap) (r : Rg) (hr : (m + 1) * 16 ≤ 140737488355328) (hcs : cs.length = m * 2) (hg : m ≠ 0 → hget H b = some (.cells cs true 2)) => append_mut (C := cfg.at 94) (sT := 50) (b := b) (cs := cs) (x := rgV r) (H := H) (m := m) (n := n) (p := p) (jr := true) (j := []) (z := 2) desc50 tget26 rfl rfl rfl rfl rfl rfl hr hcs hg
    by_cases i0 : i = 0
    · subst i0
      have hap0 := fun (n : Nat) (p : Nm) (H : Heap) (r : Rg) => hap [] 0 n [] p H r (by omega) rfl (fun h => absurd rfl h)
      simp only [mutV, dropRow, rowJ, rgV, AV.cells, List.nil_append] at hap0 g2
      have hw1 : wrapF .i64 (((0 : Nat) : Int) + 1) = ((0 + 1 : Nat) : Int) := rfl
      simp -implicitDefEqProofs only [go_sem, Nat.reduceEqDiff, Nat.reduceLT, Nat.reduceAdd, a9, a11, hT, hil, e1]
      try simp only [does_bind]
      refine draw_machX [[], [0], [], [2], [3, 2], [1, 0, 4, 3, 2], [], [6], [], [8], [9, 8], [7, 6, 10, 9, 8, 5, 1, 0, 4, 3, 2], [5, 1, 0, 4, 3, 2, 7, 6], [12, 11, 10, 9, 8, 5, 1, 0, 4, 3, 2, 7, 6], [13, 12, 11, 10, 9, 8, 5, 1, 0, 4, 3, 2, 7, 6], [14, 13, 12, 11, 10, 9, 8, 5, 1, 0, 4, 3, 2, 7, 6]] [[], [], [], [], [], [], [], [], [], [], [], [], [], [[2]], [], [[2]]] (by kernel_rfl) rfl rfl ?_
      simp -implicitDefEqProofs only [go_sem, Nat.reduceEqDiff, Nat.reduceLT, Nat.reduceAdd, Nat.reduceMul, hget_redoH, lkn, lk_same, lk11, lk31, Option.getD_some, Option.getD_none, a1, a2, a3, a9, a10, a11, hT, g2, hap0 _ _ _ ⟨x.free.lo, x.free.hi⟩, hap0 _ _ _ ⟨x.bound.lo, x.bound.hi⟩]
      refine ⟨v.vessels.length - (0 + 1), hkk, trivial, trivial, trivial, trivial, trivial, trivial, 0 + 1, n + 2, n + 4, _, wrapF .i64 (m + wrapF .i64 (x.free.hi + x.bound.hi)), by rw [hw1], hi1, rfl, rfl, hn4, ?_, ?_, ?_, fun _ => ⟨?_, ?_⟩, ?_⟩
      all_goals clear hw1
      · simp (disch := omega) only [hc11, hs11, hget_redoH, lkn, lk11, lk31, Option.getD_none, g0]
      · simp (disch := omega) only [hc11, hs11, hget_redoH, lkn, lk11, lk31, Option.getD_none, g1]
      · exact hss (Y := .cells _ true 0) (by simp (disch := omega) only [hc11, hget_redoH, lk_same, Option.getD_some, g2]; rfl)
      · rw [htk, List.map_append, List.map_cons, List.map_nil, rows_snoc]
        simp (disch := omega) only [hc13, hs13, hget_redoH, lk_same, lk13, lk33k, Option.getD_some]
        rfl
      · rw [htk, List.map_append, List.map_cons, List.map_nil, rows_snoc]
        simp (disch := omega) only [hc13, hs13, hget_redoH, lk_same, lk13, Option.getD_some]
        rfl
      · rw [hm, wrap_addr]
    · obtain ⟨i, rfl⟩ : ∃ q, i = q + 1 := ⟨i - 1, by omega⟩
      obtain ⟨r1, r2⟩ := gr (by omega)
      have hapF := fun (n : Nat) (p : Nm) (H : Heap) (r : Rg) (hg : hget H [c, 5, 0] = some (.cells (((v.vessels.take (i + 1)).map Ves.free).flatMap rgC) true 2)) => hap _ (i + 1) n [c, 5, 0] p H r (by omega) (by rw [rows_len, hln]) (fun _ => hg)
      have hapB := fun (n : Nat) (p : Nm) (H : Heap) (r : Rg) (hg : hget H [c, 11, 0] = some (.cells (((v.vessels.take (i + 1)).map Ves.bound).flatMap rgC) true 2)) => hap _ (i + 1) n [c, 11, 0] p H r (by omega) (by rw [rows_len, hln2]) (fun _ => hg)
      simp only [mutV, dropRow, rowJ, rgV, AV.cells] at hapF hapB g2
      have d1 : ∀ X, hget (hdel (([n + 3], X) :: H) [c, 5, 0]) [2] = hget H [2] := fun X => by simp (disch := omega) only [hc11, hd31]
      have d2 : ∀ X, hget (hdel (([n + 3], X) :: H) [c, 5, 0]) [n + 3] = some X := fun X => by simp (disch := omega) only [hget_cons_same, hd31]
      have e11 : ∀ X, hget (([n + 3], X) :: H) [c, 11, 0] = hget H [c, 11, 0] := fun X => hc13
      have e5 : ∀ X, hget (([n + 3], X) :: H) [c, 5, 0] = hget H [c, 5, 0] := fun X => hc13
      have nc : (n + 3 + 1 = c) = False := by simp; omega
      have nc' : (c = n + 3 + 1) = False := by simp; omega
      have hw1 : wrapF .i64 (((i + 1 : Nat) : Int) + 1) = ((i + 1 + 1 : Nat) : Int) := wrap_i64 (by omega) (by omega)
      have d3 : hget (hdel H [c, 5, 0]) [2] = hget H [2] := hd31
      simp -implicitDefEqProofs only [go_sem, Nat.reduceEqDiff, Nat.reduceLT, Nat.reduceAdd, a9, a11, hT, hil, e1]
      try simp only [does_bind]
      refine draw_machX [[], [0], [], [2], [3, 2], [1, 0, 4, 3, 2], [], [6], [], [8], [9, 8], [7, 6, 10, 9, 8, 5, 1, 0, 4, 3, 2], [5, 1, 0, 4, 3, 2, 7, 6], [12, 11, 10, 9, 8, 5, 1, 0, 4, 3, 2, 7, 6], [13, 12, 11, 10, 9, 8, 5, 1, 0, 4, 3, 2, 7, 6], [14, 13, 12, 11, 10, 9, 8, 5, 1, 0, 4, 3, 2, 7, 6]] [[], [], [], [], [], [[c, 5, 0]], [], [], [], [], [], [[c, 11, 0]], [], [[2]], [], [[2]]] (by kernel_rfl) rfl rfl ?_
      simp -implicitDefEqProofs only [go_sem, Nat.reduceEqDiff, Nat.reduceLT, Nat.reduceAdd, Nat.reduceMul, hget_redoH, lkn, lk_same, lk11, lk31, lk33, lk33k, Option.getD_some, Option.getD_none, a1, a2, a3, a9, a10, a11, hT, g2, r1, r2, e5, e11, nc, d3, sameW_self, hapF _ _ _ ⟨x.free.lo, x.free.hi⟩, hapB _ _ _ ⟨x.bound.lo, x.bound.hi⟩]
      refine ⟨v.vessels.length - (i + 1 + 1), hkk, trivial, trivial, trivial, trivial, trivial, trivial, i + 1 + 1, n + 2, n + 4, _, wrapF .i64 (m + wrapF .i64 (x.free.hi + x.bound.hi)), by rw [hw1], hi1, rfl, rfl, hn4, ?_, ?_, ?_, fun _ => ⟨?_, ?_⟩, ?_⟩
      all_goals clear hw1
      · simp (disch := omega) only [hc11, hs11, hget_redoH, lkn, lk11, lk31, Option.getD_none, g0]
      · simp (disch := omega) only [hc11, hs11, hget_redoH, lkn, lk11, lk31, Option.getD_none, g1]
      · exact hss (Y := .cells _ true 0) (by simp (disch := omega) only [hc11, hget_redoH, lk_same, Option.getD_some, g2]; rfl)
      · rw [htk, List.map_append, List.map_cons, List.map_nil, rows_snoc]
        simp (disch := omega) only [hc13, hs13, hget_redoH, lk_same, lk13, lk33, lk33k, Option.getD_some]
        rfl
      · rw [htk, List.map_append, List.map_cons, List.map_nil, rows_snoc]
        simp (disch := omega) only [hc13, hs13, hget_redoH, lk_same, lk13, Option.getD_some]
        rfl
      · rw [hm, wrap_addr]
  · have hie : i = v.vessels.length := by omega
    subst hie
    rw [List.drop_length] at hm
    rw [List.take_length] at gr
    simp only [mostF] at hm
    have hN : v.vessels ≠ [] → hget H [c, 5, 0] = some (.cells ((v.vessels.map Ves.free).flatMap rgC) true 2) ∧ hget H [c, 11, 0] = some (.cells ((v.vessels.map Ves.bound).flatMap rgC) true 2) := fun h => gr (fun e => h (List.length_eq_zero_iff.1 e))
    clear gr
    simp -implicitDefEqProofs only [go_sem, Nat.reduceEqDiff, Nat.reduceLT, a1, hT, hil, g0]
    simp only [does_bind]
    refine xl_does (fun k T s' => T.length = 57 ∧ nth T 2 = some (.ptr [1] 0) ∧ nth T 3 = some (.ptr [2] 0) ∧ nth T 42 = some (.lst (v.getters.map gtrV)) ∧ nth T 43 = some (.int .i64 v.getters.length) ∧ ∃ (i n d : Nat) (H : Heap), nth T 44 = some (.int .i64 i) ∧ i ≤ v.getters.length ∧ k = v.getters.length - i ∧ s' = ⟨H, n + 3, [], false, []⟩ ∧
      hget H [1] = some (.cells [.nils, .nils, .nils, .int .i64 0, .bool false] true 0) ∧ hget H [2] = some (.cells [mutV [c, 5, 0] v.vessels.length, mutV [c, 11, 0] v.vessels.length, mutV [d + 3] i, .int .i64 m, .bool false] true 0) ∧ (i ≠ 0 → d < n ∧ hget H [d + 3] = some (.cells (((v.getters.take i).map Gtr.room).flatMap rgC) true 2)) ∧
      (v.vessels ≠ [] → hget H [c, 5, 0] = some (.cells ((v.vessels.map Ves.free).flatMap rgC) true 2) ∧ hget H [c, 11, 0] = some (.cells ((v.vessels.map Ves.bound).flatMap rgC) true 2))) (k := v.getters.length) (by omega) ?_ ?_
    · exact ⟨by simp -implicitDefEqProofs only [go_sem, hT], by simp -implicitDefEqProofs only [go_sem, Nat.reduceEqDiff, a2], by simp -implicitDefEqProofs only [go_sem, Nat.reduceEqDiff, a3], by simp -implicitDefEqProofs only [go_sem, Nat.reduceEqDiff, Nat.reduceLT, hT], by simp -implicitDefEqProofs only [go_sem, Nat.reduceEqDiff, Nat.reduceLT, hT], 0, n, 0, H, by simp -implicitDefEqProofs only [go_sem, Nat.reduceLT, hT] <;> rfl, by omega, rfl, rfl, g1, g2, fun h => absurd rfl h, hN⟩
    clear a1 a2 a3 a9 a10 a11 hT T g0 g1 g2 hN H
    rintro k T s' ⟨hT, a2, a3, a42, a43, i, n, d, H, a44, hi, rfl, rfl, g1, g2, gr, hN⟩
    simp -implicitDefEqProofs only [go_sem, Nat.reduceLT, a43, a44, hT]
    by_cases hil2 : (i : Int) < (v.getters.length : Int)
    · have hi' : i < v.getters.length := by omega
      have e1 := elemAt_map (f := gtrV) (l := v.getters) (i := i) (z := 5) hi' rfl
      have hkk : v.getters.length - (i + 1) < v.getters.length - i := by omega
      have htk : v.getters.take (i + 1) = v.getters.take i ++ [v.getters[i]] := List.take_succ_eq_append_getElem hi'
      have hln : ((v.getters.take i).map Gtr.room).length = i := by simp; omega
      have hi1 : i + 1 ≤ v.getters.length := hi'
      have hn4 : n + 1 < n + 2 := by omega
      generalize v.getters[i] = x at *
      have hap := fun (cs : List AV) (m n : Nat) (b p : Nm) (H : Heap) (r : Rg) (hr : (m + 1) * 16 ≤ 140737488355328) (hcs : cs.length = m * 2) (hg : m ≠ 0 → hget H b = some (.cells cs true 2)) => append_mut (C := cfg.at 94) (sT := 50) (b := b) (cs := cs) (x := rgV r) (H := H) (m := m) (n := n) (p := p) (jr := false) (j := []) (z := 2) desc50 tget26 rfl rfl rfl rfl rfl rfl hr hcs hg
      have hapG := hap _ i (n + 4) [d + 3] [] (([n + 3], .cells [.int .i64 x.at', .int .i64 x.part.lo, .int .i64 x.part.hi, .int .i64 x.room.lo, .int .i64 x.room.hi] true 0) :: H) x.room (by omega) (by rw [rows_len, hln]) (fun h => (hc11 (by have := (gr h).1; omega)).trans (gr h).2)
      simp only [rgV, AV.cells] at hapG
      have f2 : ∀ X, hget (([n + 3], X) :: H) [2] = hget H [2] := fun X => hc11 (by omega)
      have dr1 : ∀ G q, (i ≠ 0 → q ≠ d + 3) → hget (dropRow i [d + 3] G) [q] = hget G [q] := fun G q h => by
        cases i with
        | zero => rfl
        | succ i => exact hget_hdel_ne G (n11 (Ne.symm (h (by omega))))
      have dr3 : ∀ G q a b, hget (dropRow i [d + 3] G) [q, a, b] = hget G [q, a, b] := fun G q a b => hget_dropRow i G n13
      have f3 : ∀ X Y, hget (([n + 3 + 1], Y) :: dropRow i [d + 3] (([n + 3], X) :: H)) [2] = hget H [2] := fun X Y => by rw [hc11 (by omega), dr1 _ _ (by omega), f2]
      have hw1 : wrapF .i64 ((i : Int) + 1) = ((i + 1 : Nat) : Int) := wrap_i64 (by omega) (by omega)
      simp -implicitDefEqProofs only [go_sem, Nat.reduceEqDiff, Nat.reduceLT, Nat.reduceAdd, Nat.reduceMul, a2, a3, a42, a43, a44, hT, hil2, e1, f2, f3, g2, hapG, hw1, mutV_succ]
      clear hw1
      refine ⟨v.getters.length - (i + 1), hkk, trivial, trivial, trivial, trivial, trivial, i + 1, n + 2, n + 1, _, rfl, hi1, rfl, rfl, ?_, ?_, fun _ => ⟨hn4, ?_⟩, fun h => ⟨?_, ?_⟩⟩
      · rw [hc11 (by omega), hs11 (by omega), dr1 _ _ (by omega), hc11 (by omega)]; exact g1
      · rw [hc11 (by omega)]
        exact hss ((dr1 _ _ (by omega)).trans ((f2 _).trans g2))
      · rw [htk, List.map_append, List.map_cons, List.map_nil, rows_snoc]
        exact hget_cons_same ..
      · rw [hc13, hs13, dr3, hc13]; exact (hN h).1
      · rw [hc13, hs13, dr3, hc13]; exact (hN h).2
    · have hie : i = v.getters.length := by omega
      subst hie
      rw [List.take_length] at gr
      have z1 : ∀ X, hget (hset H [1] X) [1] = some X := fun X => hget_hset_same X g1
      simp -implicitDefEqProofs only [go_sem, Nat.reduceEqDiff, Nat.reduceLT, Nat.reduceAdd, a2, a3, hT, hil2, g1, g2, z1, Try.results94]
      refine ⟨c, d + 3, ?_, fun h => ?_, fun h => ?_⟩
      · unfold gasM beginG
        simp only [List.length_map, hm]
      · rw [hs13, hs13]; exact hN h
      · rw [hs11 (by omega)]
        exact (gr (fun e => h (List.length_eq_zero_iff.1 e))).2
theorem tl_bare (m : Int) (f : Bool) : Bare [.int .i64 m, .bool f] := ⟨fun _ _ => rfl, fun _ => rfl⟩
/-- The state after gas came out. -/
def gasS (s : St) (g : Gs) : St := match g.room with
  | [] => (s.new (.cells (g.free.flatMap rgC) true 2)).new (.cells (g.bound.flatMap rgC) true 2)
  | _ :: _ => ((s.new (.cells (g.free.flatMap rgC) true 2)).new (.cells (g.bound.flatMap rgC) true 2)).new (.cells (g.room.flatMap rgC) true 2)
theorem vac_ren (v : Vac) : renVs [] [vacV v] = some [vacV v] := by simp only [renVs, renV, vacV, fl_ves, fl_pip, fl_pmp, fl_inl, fl_gtr]
theorem begun_call (v : Vac) (K : Nat) (H : Heap) (n : Nat) (p : Nm) (jr : Bool) (j : Delta) (hv : v.Lens K) (h8 : v.vessels.length ≤ 1000000) (hg8 : v.getters.length ≤ 1000000) (h1 : v.vessels ≠ []) :
    acall cfg (K + 1) 94 [vacV v] ⟨H, n, p, jr, j⟩ = .ret (gasM (p ++ [n]) (p ++ [n + 1]) (p ++ [n + 2]) (beginG v), gasS ⟨H, n, p, jr, j⟩ (beginG v)) := by
  have hb := begun_body v K hv h8 hg8
  obtain ⟨q, hq⟩ : ∃ q, v.vessels.length = q + 1 := ⟨v.vessels.length - 1, by
    have : v.vessels.length ≠ 0 := fun e => h1 (List.length_eq_zero_iff.1 e)
    omega⟩
  by_cases h2 : v.getters = []
  · have e0 : gasS ⟨H, n, p, jr, j⟩ (beginG v) = (St.new ⟨H, n, p, jr, j⟩ (.cells ((v.vessels.map Ves.free).flatMap rgC) true 2)).new (.cells ((v.vessels.map Ves.bound).flatMap rgC) true 2) := by
      unfold gasS beginG; rw [h2]; rfl
    have e1 : ∀ b1 b2 b3, gasM b1 b2 b3 (beginG v) = .agg (.slice b1 0 (q + 1) (q + 1) false :: .slice b2 0 (q + 1) (q + 1) false :: [.nils, .int .i64 (mostF 0 v.vessels), .bool false]) := fun b1 b2 b3 => by
      unfold gasM beginG; simp only [List.length_map, hq, h2, List.map_nil, List.length_nil]; rfl
    rw [e0, e1]
    refine call3_rows2 mget94 fget94 rfl (vac_ren v) (rows_bare _) (rows_bare _) ⟨fun _ _ => rfl, fun _ => rfl⟩ ?_
    refine hb.mono ?_
    rintro x ⟨a, d, hx, hf, _⟩
    exact ⟨[a, 5, 0], [a, 11, 0], by rw [hx, e1], eqb_ne (by simp), eqb_ne (by simp), (hf h1).1, (hf h1).2⟩
  · obtain ⟨r, hr⟩ : ∃ r, v.getters.length = r + 1 := ⟨v.getters.length - 1, by
      have : v.getters.length ≠ 0 := fun e => h2 (List.length_eq_zero_iff.1 e)
      omega⟩
    have e0 : gasS ⟨H, n, p, jr, j⟩ (beginG v) = ((St.new ⟨H, n, p, jr, j⟩ (.cells ((v.vessels.map Ves.free).flatMap rgC) true 2)).new (.cells ((v.vessels.map Ves.bound).flatMap rgC) true 2)).new (.cells ((v.getters.map Gtr.room).flatMap rgC) true 2) := by
      unfold gasS beginG
      cases hg : v.getters with
      | nil => exact absurd hg h2
      | cons a l => rfl
    have e1 : ∀ b1 b2 b3, gasM b1 b2 b3 (beginG v) = .agg (.slice b1 0 (q + 1) (q + 1) false :: .slice b2 0 (q + 1) (q + 1) false :: .slice b3 0 (r + 1) (r + 1) false :: [.int .i64 (mostF 0 v.vessels), .bool false]) := fun b1 b2 b3 => by
      unfold gasM beginG; simp only [List.length_map, hq, hr]; rfl
    rw [e0, e1]
    refine call3_rows3 mget94 fget94 rfl (vac_ren v) (rows_bare _) (rows_bare _) (rows_bare _) (tl_bare _ _) ?_
    refine hb.mono ?_
    rintro x ⟨a, d, hx, hf, hg⟩
    exact ⟨[a, 5, 0], [a, 11, 0], [d], by rw [hx, e1], eqb_ne (by simp), eqb_ne (by simp), eqb_ne (by simp), eqb_ne (by simp), eqb_ne (by simp), eqb_ne (by simp), (hf h1).1, (hf h1).2, hg h2⟩
end Go.Proofs.Ytgnpnfkncbnjnaa
namespace Go.Proofs.Ytgnpnfkncbnjnaa
open Go Go.Am
attribute [local congr] tr_congr does_congr all_congr
attribute [local go_sem] Go.Am.buildSliceA Go.Am.minmax
theorem fz_row {H : Heap} {d : Nat} (l : List Rg) : freezeD H (d + 1) (l.flatMap rgC) = some (l.flatMap rgC) := by
  show freezeGs (freezeD H d) H _ = _
  refine freezeGs_cells (g := rgC) (fun a r t h => ?_) l
  show freezeGs (freezeD H d) H (.int .i64 a.lo :: .int .i64 a.hi :: r) = _
  simp only [freezeGs, freezeG, h]; rfl
theorem fz_mut {H : Heap} {d : Nat} {b : Nm} (l : List Rg) (hb : l ≠ [] → hget H b = some (.cells (l.flatMap rgC) true 2)) : freezeG (freezeD H (d + 1)) H (mutV b l.length) = some (.lst (l.map rgV)) := by
  cases l with
  | nil => rfl
  | cons a r =>
    have := freeze_row (g := rgC) (z := 2) rgC_len (by decide) (f := rgV) (fun _ => rfl) (row := freezeD H (d + 1)) (H := H) (a :: r) (fz_row _) (hb (by simp)) (a :: r).length false
    exact this
/-- The rows of gas lie there. -/
structure GasAt (H : Heap) (b1 b2 b3 : Nm) (g : Gs) : Prop where
  f : g.free ≠ [] → hget H b1 = some (.cells (g.free.flatMap rgC) true 2)
  b : g.bound ≠ [] → hget H b2 = some (.cells (g.bound.flatMap rgC) true 2)
  r : g.room ≠ [] → hget H b3 = some (.cells (g.room.flatMap rgC) true 2)
theorem fz_gas {H : Heap} {d : Nat} {b1 b2 b3 : Nm} {g : Gs} (h : GasAt H b1 b2 b3 g) : freezeG (freezeD H (d + 1)) H (gasM b1 b2 b3 g) = some (gsV g) := by
  show (match freezeGs (freezeD H (d + 1)) H [mutV b1 g.free.length, mutV b2 g.bound.length, mutV b3 g.room.length, .int .i64 g.most, .bool g.flashed] with | some l => some (AV.agg l) | none => none) = _
  simp only [freezeGs, fz_mut g.free h.f, fz_mut g.bound h.b, fz_mut g.room h.r]
  rfl
theorem frozen_gas {H : Heap} {b1 b2 b3 : Nm} {g : Gs} {e : Int} (h : GasAt H b1 b2 b3 g) : Go.Am.frozen H (.tuple [gasM b1 b2 b3 g, .int .i64 e]) = some (.tuple [gsV g, .int .i64 e]) := by
  have h1 : freezeG (freezeD H 6) H (.tuple [gasM b1 b2 b3 g, .int .i64 e]) = some (.tuple [gsV g, .int .i64 e]) := by
    show (match freezeGs (freezeD H 6) H [gasM b1 b2 b3 g, .int .i64 e] with | some l => some (AV.tuple l) | none => none) = _
    simp only [freezeGs, fz_gas h]
    rfl
  unfold Go.Am.frozen
  rw [h1]
  have h2 : (AV.tuple [gsV g, .int .i64 e]).flat = true := by simp only [gsV, AV.flat, flats, fl_rg]
  simp only [h2]
def zeroG : Gs := ⟨[], [], [], 0, false⟩
def gasE (e : Int) (g : Gs) : AV := .tuple [gsV (if e = 0 then g else zeroG), .int .i64 e]
@[go_sem] theorem flat_gasE (e : Int) (g : Gs) : (gasE e g).flat = true := by
  unfold gasE; simp only [gsV, AV.flat, flats, fl_rg]
theorem gasS_lin (H : Heap) (n : Nat) (j : Delta) (g : Gs) : ∃ H1 n1, gasS ⟨H, n, [], false, j⟩ g = ⟨H1, n1, [], false, j⟩ ∧ n ≤ n1 ∧ GasAt H1 [n] [n + 1] [n + 2] g ∧ ∀ k, k < n → hget H1 [k] = hget H [k] := by
  unfold gasS
  cases hr : g.room with
  | nil =>
    refine ⟨_, _, rfl, by show n ≤ n + 1 + 1; omega, ⟨fun _ => ?_, fun _ => ?_, fun h => absurd hr h⟩, fun k hk => ?_⟩
    · exact (hc11 (by show n + 1 ≠ n; omega)).trans (hget_cons_same ..)
    · exact hget_cons_same ..
    · exact (hc11 (by show n + 1 ≠ k; omega)).trans (hc11 (by show n ≠ k; omega))
  | cons a r =>
    refine ⟨_, _, rfl, by show n ≤ n + 1 + 1 + 1; omega, ⟨fun _ => ?_, fun _ => ?_, fun _ => ?_⟩, fun k hk => ?_⟩
    · exact (hc11 (by show n + 1 + 1 ≠ n; omega)).trans ((hc11 (by show n + 1 ≠ n; omega)).trans (hget_cons_same ..))
    · exact (hc11 (by show n + 1 + 1 ≠ n + 1; omega)).trans (hget_cons_same ..)
    · rw [hr]; exact hget_cons_same ..
    · exact (hc11 (by show n + 1 + 1 ≠ k; omega)).trans ((hc11 (by show n + 1 ≠ k; omega)).trans (hc11 (by show n ≠ k; omega)))
theorem begin_call (v : Vac) (K : Nat) (s : St) (hK : 50 < K) (hv : v.Lens K) : acall cfg (K + 10) 29 [vacV v] s = .ret (gasE (checkE v) (beginG v), s) := by
  refine call1 mget29 fget29 (by first | rfl | simp -implicitDefEqProofs only [redoH, redo1, go_sem, Int.reduceEq, Int.reduceNeg, Nat.reduceEqDiff, Nat.reduceLT, Nat.reduceAdd, Nat.reduceSub, Nat.reduceMul, Int.reduceLE, Int.reduceLT, Int.reduceToNat, Int.toNat_natCast, Nat.reduceLeDiff, Bool.not_true, Bool.not_false]) (by first | rfl | simp -implicitDefEqProofs only [go_sem]) (by first | rfl | simp -implicitDefEqProofs only [go_sem]) ?_
  refine body_does rfl fun T hT' hA => ?_
  have a0 := hA 0 _ rfl
  have hT : T.length = 13 := hT'
  clear hA hT'
  have hL : ∀ q, v.Lens (K + q) := fun q => ⟨⟨by have := hv.ves.1; omega, hv.ves.2⟩, ⟨by have := hv.pip.1; omega, hv.pip.2⟩, ⟨by have := hv.pmp.1; omega, hv.pmp.2⟩, ⟨by have := hv.inl.1; omega, hv.inl.2⟩, ⟨by have := hv.gtr.1; omega, hv.gtr.2⟩, hv.bands⟩
  have hc := fun s => check_call v K s hK hv
  simp only [vacV] at hc
  simp -implicitDefEqProofs only [go_sem, Nat.reduceEqDiff, Nat.reduceLT, Nat.reduceAdd, a0, hT, hc]
  by_cases c0 : checkE v = 0
  · have hov : ¬ overB v = true ∧ v.vessels.length ≠ 0 := by
      unfold checkE at c0
      split at c0
      · exact absurd c0 (by decide)
      · rename_i h0
        split at c0
        · exact absurd c0 (by decide)
        · rename_i h1; exact ⟨h1, h0⟩
    have hle : v.vessels.length ≤ 1000000 ∧ v.getters.length ≤ 1000000 := by
      have h := hov.1
      unfold overB at h
      simp only [Bool.or_eq_true, decide_eq_true_eq] at h
      omega
    have hbg := begun_call v (K + 8) [([1], .cells [.nils, .nils, .nils, .int .i64 0, .bool false] true 0), ([0], .cells [.lst (v.vessels.map vesV), .lst (v.pipes.map pipV), .lst (v.pumps.map pmpV), .lst (v.leaks.map inlV), .lst (v.getters.map gtrV)] true 0)] 2 [] false [] (hL 8) hle.1 hle.2 (fun e => hov.2 (by rw [e]; rfl))
    obtain ⟨H1, n1, e1, hn1, hga, hold⟩ := gasS_lin [([1], .cells [.nils, .nils, .nils, .int .i64 0, .bool false] true 0), ([0], .cells [.lst (v.vessels.map vesV), .lst (v.pipes.map pipV), .lst (v.pumps.map pmpV), .lst (v.leaks.map inlV), .lst (v.getters.map gtrV)] true 0)] 2 [] (beginG v)
    rw [e1] at hbg
    simp only [vacV, gasM, List.nil_append] at hbg
    have h1 : hget H1 [1] = _ := hold 1 (by omega)
    have z1 : ∀ X, hget (hset H1 [1] X) [1] = some X := fun X => hget_hset_same X h1
    simp -implicitDefEqProofs only [go_sem, Nat.reduceEqDiff, Nat.reduceLT, Nat.reduceAdd, Bool.not_true, hT, c0, hbg, h1, z1, Try.results29]
    unfold gasE
    rw [if_pos rfl]
    refine frozen_gas ⟨fun h => ?_, fun h => ?_, fun h => ?_⟩
    · rw [hs11 (by decide)]; exact hga.f h
    · rw [hs11 (by decide)]; exact hga.b h
    · rw [hs11 (by decide)]; exact hga.r h
  · simp -implicitDefEqProofs only [go_sem, Nat.reduceEqDiff, Nat.reduceLT, Nat.reduceAdd, Bool.not_false, hT, c0, Try.results29]
    unfold gasE
    rw [if_neg c0]
    rfl
end Go.Proofs.Ytgnpnfkncbnjnaa
namespace Go.Proofs.Ytgnpnfkncbnjnaa
open Go Go.Am
attribute [local congr] tr_congr does_congr all_congr
attribute [local go_sem] Go.Am.buildSliceA Go.Am.minmax
def gasO (b1 b2 b3 : Nm) (g : Gs) : AV := .agg [ownV b1 (g.free.map rgV), ownV b2 (g.bound.map rgV), ownV b3 (g.room.map rgV), .int .i64 g.most, .bool g.flashed]
theorem frozen_own {H : Heap} {b1 b2 b3 : Nm} {g : Gs} {e : Int} : Go.Am.frozen H (.tuple [gasO b1 b2 b3 g, .int .i64 e]) = some (.tuple [gsV g, .int .i64 e]) := by
  have ho : ∀ row b (l : List AV), freezeG row H (ownV b l) = some (.lst l) := fun row b l => by cases l <;> rfl
  have h1 : freezeG (freezeD H 6) H (.tuple [gasO b1 b2 b3 g, .int .i64 e]) = some (.tuple [gsV g, .int .i64 e]) := by
    show (match freezeGs (freezeD H 6) H [gasO b1 b2 b3 g, .int .i64 e] with | some l => some (AV.tuple l) | none => none) = _
    have h2 : freezeG (freezeD H 6) H (gasO b1 b2 b3 g) = some (gsV g) := by
      show (match freezeGs (freezeD H 6) H [ownV b1 (g.free.map rgV), ownV b2 (g.bound.map rgV), ownV b3 (g.room.map rgV), .int .i64 g.most, .bool g.flashed] with | some l => some (AV.agg l) | none => none) = _
      simp only [freezeGs, ho]
      rfl
    simp only [freezeGs, h2]
    rfl
  unfold Go.Am.frozen
  rw [h1]
  have h2 : (AV.tuple [gsV g, .int .i64 e]).flat = true := by simp only [gsV, AV.flat, flats, fl_rg]
  simp only [h2]
theorem ownV_snoc (b : Nm) (l : List AV) (x : AV) : ownV b (l ++ [x]) = .own b (l ++ [x]) := by cases l <;> rfl
theorem ownV_cons (b : Nm) (x : AV) (l : List AV) : ownV b (x :: l) = .own b (x :: l) := rfl
theorem rbegin_call (v : Vac) (K : Nat) (s : St) (hK : 50 < K) (hv : v.Lens K) : acall cfg (K + 6) 48 [vacV v] s = .ret (gasE (checkE v) (beginG v), s) := by
  refine call1 mget48 fget48 (by first | rfl | simp -implicitDefEqProofs only [redoH, redo1, go_sem, Int.reduceEq, Int.reduceNeg, Nat.reduceEqDiff, Nat.reduceLT, Nat.reduceAdd, Nat.reduceSub, Nat.reduceMul, Int.reduceLE, Int.reduceLT, Int.reduceToNat, Int.toNat_natCast, Nat.reduceLeDiff, Bool.not_true, Bool.not_false]) (by first | rfl | simp -implicitDefEqProofs only [go_sem]) (by first | rfl | simp -implicitDefEqProofs only [go_sem]) ?_
  refine body_does rfl fun T hT' hA => ?_
  have a0 := hA 0 _ rfl
  have hT : T.length = 71 := hT'
  clear hA hT'
  have hc := fun s => rcheck_call v (K + 1) s (by omega) ⟨⟨by have := hv.ves.1; omega, hv.ves.2⟩, ⟨by have := hv.pip.1; omega, hv.pip.2⟩, ⟨by have := hv.pmp.1; omega, hv.pmp.2⟩, ⟨by have := hv.inl.1; omega, hv.inl.2⟩, ⟨by have := hv.gtr.1; omega, hv.gtr.2⟩, hv.bands⟩
  simp only [vacV] at hc
  obtain ⟨⟨hv1, hv2⟩, ⟨hp1, hp2⟩, ⟨hm1, hm2⟩, ⟨hi1, hi2⟩, ⟨hg1, hg2⟩, hbd⟩ := hv
  simp -implicitDefEqProofs only [go_sem, Nat.reduceEqDiff, Nat.reduceLT, Nat.reduceAdd, a0, hT, hc]
  by_cases c0 : checkE v = 0
  · have hle : v.vessels.length ≤ 1000000 ∧ v.getters.length ≤ 1000000 := by
      unfold checkE at c0
      split at c0
      · exact absurd c0 (by decide)
      · split at c0
        · exact absurd c0 (by decide)
        · rename_i h
          unfold overB at h
          simp only [Bool.or_eq_true, decide_eq_true_eq] at h
          omega
    obtain ⟨h8, hg8⟩ := hle
    simp -implicitDefEqProofs only [go_sem, Nat.reduceAdd, Bool.not_true, c0]
    simp only [does_bind]
    refine xl_does (fun k T s' => T.length = 71 ∧ nth T 1 = some (.ptr [0] 0) ∧ nth T 2 = some (.ptr [1] 0) ∧ nth T 5 = some (.ptr [2] 0) ∧ ∃ (i n c : Nat) (H : Heap) (m : Int), nth T 6 = some (.int .i64 i) ∧ i ≤ v.vessels.length ∧ k = v.vessels.length - i ∧ s' = ⟨H, n + 3, [], false, []⟩ ∧ c < n + 3 ∧ hget H [0] = some (.cells [.lst (v.vessels.map vesV), .lst (v.pipes.map pipV), .lst (v.pumps.map pmpV), .lst (v.leaks.map inlV), .lst (v.getters.map gtrV)] true 0) ∧
      hget H [1] = some (.cells [.nils, .nils, .nils, .int .i64 0, .bool false] true 0) ∧ hget H [2] = some (.cells [ownV [c, 5, 0] ((v.vessels.take i).map fun x => rgV x.free), ownV [c, 11, 0] ((v.vessels.take i).map fun x => rgV x.bound), .nils, .int .i64 m, .bool false] true 0) ∧ (i ≠ 0 → hget H [c, 5, 0] = some (.tok i 2) ∧ hget H [c, 11, 0] = some (.tok i 2)) ∧
      mostF 0 v.vessels = mostF m (v.vessels.drop i)) (k := v.vessels.length) (by omega) ?_ ?_
    · exact ⟨by simp -implicitDefEqProofs only [go_sem, hT], by simp -implicitDefEqProofs only [go_sem, Nat.reduceEqDiff, Nat.reduceLT, hT], by simp -implicitDefEqProofs only [go_sem, Nat.reduceEqDiff, Nat.reduceLT, hT], by simp -implicitDefEqProofs only [go_sem, Nat.reduceEqDiff, Nat.reduceLT, hT], 0, 0, 0, _, 0, by simp -implicitDefEqProofs only [go_sem, Nat.reduceLT, hT] <;> rfl, by omega, rfl, rfl, by omega, rfl, rfl, rfl, fun h => absurd rfl h, rfl⟩
    clear a0 hT T
    rintro k T s' ⟨hT, a1, a2, a5, i, n, c, H, m, a6, hi, rfl, rfl, hc', g0, g1, g2, gr, hm⟩
    simp -implicitDefEqProofs only [go_sem, Nat.reduceEqDiff, Nat.reduceLT, a1, a6, hT, g0]
    by_cases hil : (i : Int) < (v.vessels.length : Int)
    · have hi' : i < v.vessels.length := by omega
      have e1 := elemAt_map (f := vesV) (l := v.vessels) (i := i) (z := 6) hi' rfl
      have hkk : v.vessels.length - (i + 1) < v.vessels.length - i := by omega
      have htk : v.vessels.take (i + 1) = v.vessels.take i ++ [v.vessels[i]] := List.take_succ_eq_append_getElem hi'
      have hln : ((v.vessels.take i).map fun x => rgV x.free).length = i := by simp; omega
      have hln2 : ((v.vessels.take i).map fun x => rgV x.bound).length = i := by simp; omega
      rw [List.drop_eq_getElem_cons hi'] at hm
      have hi1 : i + 1 ≤ v.vessels.length := hi'
      have hn4 : n + 4 < n + 2 + 3 := by omega
      generalize v.vessels[i] = x at *
      simp only [mostF] at hm
      have hap := fun (l : List AV) (n : Nat) (b p : Nm) (H : Heap) (r : Rg) (hr : (l.length + 1) * 16 ≤ 140737488355328) (hg : l ≠ [] → hget H b = some (.tok l.length 2)) => append_abs (C := cfg.at 48) (sT := 50) (b := b) (l := l) (x := rgV r) (H := H) (n := n) (p := p) (jr := true) (j := []) (z := 2) desc50 tget26 rfl rfl rfl rfl rfl rfl hr hg
      by_cases i0 : i = 0
      · subst i0
        have hap0 := fun (n : Nat) (p : Nm) (H : Heap) (r : Rg) => hap [] n [] p H r (by simp) (fun h => absurd rfl h)
        simp only [ownV, dropTok, tokJ, rgV, List.nil_append, List.length_nil, List.take_zero, List.map_nil] at hap0 g2
        have hw1 : wrapF .i64 (((0 : Nat) : Int) + 1) = ((0 + 1 : Nat) : Int) := rfl
        simp -implicitDefEqProofs only [go_sem, Nat.reduceEqDiff, Nat.reduceLT, Nat.reduceAdd, a1, a6, hT, hil, e1, g0]
        try simp only [does_bind]
        refine draw_machX [[], [0], [], [2], [3, 2], [1, 0, 4, 3, 2], [], [6], [], [8], [9, 8], [7, 6, 10, 9, 8, 5, 1, 0, 4, 3, 2], [5, 1, 0, 4, 3, 2, 7, 6], [12, 11, 10, 9, 8, 5, 1, 0, 4, 3, 2, 7, 6], [13, 12, 11, 10, 9, 8, 5, 1, 0, 4, 3, 2, 7, 6], [14, 13, 12, 11, 10, 9, 8, 5, 1, 0, 4, 3, 2, 7, 6]] [[], [], [], [], [], [], [], [], [], [], [], [], [], [[2]], [], [[2]]] (by kernel_rfl) rfl rfl ?_
        simp -implicitDefEqProofs only [go_sem, Nat.reduceEqDiff, Nat.reduceLT, Nat.reduceAdd, Nat.reduceMul, hget_redoH, lkn, lk_same, lk11, lk31, Option.getD_some, Option.getD_none, a1, a2, a5, a6, hT, g2, hap0 _ _ _ ⟨x.free.lo, x.free.hi⟩, hap0 _ _ _ ⟨x.bound.lo, x.bound.hi⟩]
        refine ⟨v.vessels.length - (0 + 1), hkk, trivial, trivial, trivial, trivial, 0 + 1, n + 2, n + 4, _, wrapF .i64 (wrapF .i64 (m + x.free.hi) + x.bound.hi), by rw [hw1], hi1, rfl, rfl, hn4, ?_, ?_, ?_, fun _ => ⟨?_, ?_⟩, ?_⟩
        all_goals clear hw1
        · simp (disch := omega) only [hc11, hs11, hget_redoH, lkn, lk11, lk31, Option.getD_none, g0]
        · simp (disch := omega) only [hc11, hs11, hget_redoH, lkn, lk11, lk31, Option.getD_none, g1]
        · rw [htk, List.map_append, List.map_append]
          exact hss (Y := .cells _ true 0) (by simp (disch := omega) only [hc11, hget_redoH, lk_same, Option.getD_some, g2]; rfl)
        · simp (disch := omega) only [hc13, hs13, hget_redoH, lk_same, lk13, lk33k, Option.getD_some]
        · simp (disch := omega) only [hc13, hs13, hget_redoH, lk_same, lk13, Option.getD_some]
        · rw [hm, wrap_addl, Int.add_assoc]
      · obtain ⟨r1, r2⟩ := gr i0
        have n1 : ((v.vessels.take i).map fun x => rgV x.free) ≠ [] := fun e => i0 (by rw [← hln, e]; rfl)
        have n2 : ((v.vessels.take i).map fun x => rgV x.bound) ≠ [] := fun e => i0 (by rw [← hln2, e]; rfl)
        have htk1 : ((v.vessels.take (i + 1)).map fun x => rgV x.free) = ((v.vessels.take i).map fun x => rgV x.free) ++ [.agg [.int .i64 x.free.lo, .int .i64 x.free.hi]] := by rw [htk, List.map_append]; rfl
        have htk2 : ((v.vessels.take (i + 1)).map fun x => rgV x.bound) = ((v.vessels.take i).map fun x => rgV x.bound) ++ [.agg [.int .i64 x.bound.lo, .int .i64 x.bound.hi]] := by rw [htk, List.map_append]; rfl
        have hapF := fun (n : Nat) (p : Nm) (H : Heap) (r : Rg) (hg : hget H [c, 5, 0] = some (.tok i 2)) => hap _ n [c, 5, 0] p H r (by rw [hln]; omega) (fun _ => by rw [hln]; exact hg)
        have hapB := fun (n : Nat) (p : Nm) (H : Heap) (r : Rg) (hg : hget H [c, 11, 0] = some (.tok i 2)) => hap _ n [c, 11, 0] p H r (by rw [hln2]; omega) (fun _ => by rw [hln2]; exact hg)
        generalize ((v.vessels.take i).map fun x => rgV x.free) = RF at *
        generalize ((v.vessels.take i).map fun x => rgV x.bound) = RB at *
        have o1 : ∀ b, ownV b RF = .own b RF := fun b => by cases RF with | nil => exact absurd rfl n1 | cons a r => rfl
        have o2 : ∀ b, ownV b RB = .own b RB := fun b => by cases RB with | nil => exact absurd rfl n2 | cons a r => rfl
        have o3 : ∀ b j, tokJ RF b j = (b, none) :: j := fun b j => by cases RF with | nil => exact absurd rfl n1 | cons a r => rfl
        have o4 : ∀ b j, tokJ RB b j = (b, none) :: j := fun b j => by cases RB with | nil => exact absurd rfl n2 | cons a r => rfl
        have o5 : ∀ b H, dropTok RF b H = hdel H b := fun b H => by cases RF with | nil => exact absurd rfl n1 | cons a r => rfl
        have o6 : ∀ b H, dropTok RB b H = hdel H b := fun b H => by cases RB with | nil => exact absurd rfl n2 | cons a r => rfl
        simp only [rgV, o1, o2, o3, o4, o5, o6, ownV_snoc, hln, hln2] at hapF hapB g2
        have d1 : ∀ X, hget (hdel (([n + 3], X) :: H) [c, 5, 0]) [2] = hget H [2] := fun X => by simp (disch := omega) only [hc11, hd31]
        have d2 : ∀ X, hget (hdel (([n + 3], X) :: H) [c, 5, 0]) [n + 3] = some X := fun X => by simp (disch := omega) only [hget_cons_same, hd31]
        have e11 : ∀ X, hget (([n + 3], X) :: H) [c, 11, 0] = hget H [c, 11, 0] := fun X => hc13
        have e5 : ∀ X, hget (([n + 3], X) :: H) [c, 5, 0] = hget H [c, 5, 0] := fun X => hc13
        have nc : (n + 3 + 1 = c) = False := by simp; omega
        have nc' : (c = n + 3 + 1) = False := by simp; omega
        have d3 : hget (hdel H [c, 5, 0]) [2] = hget H [2] := hd31
        have hw1 : wrapF .i64 ((i : Int) + 1) = ((i + 1 : Nat) : Int) := wrap_i64 (by omega) (by omega)
        simp -implicitDefEqProofs only [go_sem, Nat.reduceEqDiff, Nat.reduceLT, Nat.reduceAdd, a1, a6, hT, hil, e1, g0]
        try simp only [does_bind]
        refine draw_machX [[], [0], [], [2], [3, 2], [1, 0, 4, 3, 2], [], [6], [], [8], [9, 8], [7, 6, 10, 9, 8, 5, 1, 0, 4, 3, 2], [5, 1, 0, 4, 3, 2, 7, 6], [12, 11, 10, 9, 8, 5, 1, 0, 4, 3, 2, 7, 6], [13, 12, 11, 10, 9, 8, 5, 1, 0, 4, 3, 2, 7, 6], [14, 13, 12, 11, 10, 9, 8, 5, 1, 0, 4, 3, 2, 7, 6]] [[], [], [], [], [], [[c, 5, 0]], [], [], [], [], [], [[c, 11, 0]], [], [[2]], [], [[2]]] (by kernel_rfl) rfl rfl ?_
        simp -implicitDefEqProofs only [go_sem, Nat.reduceEqDiff, Nat.reduceLT, Nat.reduceAdd, Nat.reduceMul, hget_redoH, lkn, lk_same, lk11, lk31, lk33, lk33k, Option.getD_some, Option.getD_none, a1, a2, a5, a6, hT, g2, r1, r2, e5, e11, nc, d3, sameW_self, hapF _ _ _ ⟨x.free.lo, x.free.hi⟩, hapB _ _ _ ⟨x.bound.lo, x.bound.hi⟩]
        refine ⟨v.vessels.length - (i + 1), hkk, trivial, trivial, trivial, trivial, i + 1, n + 2, n + 4, _, wrapF .i64 (wrapF .i64 (m + x.free.hi) + x.bound.hi), by rw [hw1], hi1, rfl, rfl, hn4, ?_, ?_, ?_, fun _ => ⟨?_, ?_⟩, ?_⟩
        all_goals clear hw1
        · simp (disch := omega) only [hc11, hs11, hget_redoH, lkn, lk11, lk31, Option.getD_none, g0]
        · simp (disch := omega) only [hc11, hs11, hget_redoH, lkn, lk11, lk31, Option.getD_none, g1]
        · rw [show (List.map (fun x : Ves => AV.agg [.int .i64 x.free.lo, .int .i64 x.free.hi]) (v.vessels.take (i + 1))) = _ from htk1, show (List.map (fun x : Ves => AV.agg [.int .i64 x.bound.lo, .int .i64 x.bound.hi]) (v.vessels.take (i + 1))) = _ from htk2, ownV_snoc, ownV_snoc]
          exact hss (Y := .cells _ true 0) (by simp (disch := omega) only [hc11, hget_redoH, lk_same, Option.getD_some, g2]; rfl)
        · simp (disch := omega) only [hc13, hs13, hget_redoH, lk_same, lk13, lk33, lk33k, Option.getD_some]
        · simp (disch := omega) only [hc13, hs13, hget_redoH, lk_same, lk13, Option.getD_some]
        · rw [hm, wrap_addl, Int.add_assoc]
    · have hie : i = v.vessels.length := by omega
      subst hie
      rw [List.drop_length] at hm
      rw [List.take_length] at g2
      simp only [mostF] at hm
      clear gr
      simp -implicitDefEqProofs only [go_sem, hil]
      simp only [does_bind]
      refine xl_does (fun k T s' => T.length = 71 ∧ nth T 1 = some (.ptr [0] 0) ∧ nth T 2 = some (.ptr [1] 0) ∧ nth T 5 = some (.ptr [2] 0) ∧ ∃ (i n d : Nat) (H : Heap), nth T 8 = some (.int .i64 i) ∧ i ≤ v.getters.length ∧ k = v.getters.length - i ∧ s' = ⟨H, n + 3, [], false, []⟩ ∧ hget H [0] = some (.cells [.lst (v.vessels.map vesV), .lst (v.pipes.map pipV), .lst (v.pumps.map pmpV), .lst (v.leaks.map inlV), .lst (v.getters.map gtrV)] true 0) ∧
        hget H [1] = some (.cells [.nils, .nils, .nils, .int .i64 0, .bool false] true 0) ∧ hget H [2] = some (.cells [ownV [c, 5, 0] (v.vessels.map fun x => rgV x.free), ownV [c, 11, 0] (v.vessels.map fun x => rgV x.bound), ownV [d, 9, 0] ((v.getters.take i).map fun x => rgV x.room), .int .i64 m, .bool false] true 0) ∧ (i ≠ 0 → d < n + 3 ∧ hget H [d, 9, 0] = some (.tok i 2))) (k := v.getters.length) (by omega) ?_ ?_
      · exact ⟨by simp -implicitDefEqProofs only [go_sem, hT], by simp -implicitDefEqProofs only [go_sem, Nat.reduceEqDiff, a1], by simp -implicitDefEqProofs only [go_sem, Nat.reduceEqDiff, a2], by simp -implicitDefEqProofs only [go_sem, Nat.reduceEqDiff, a5], 0, n, 0, H, by simp -implicitDefEqProofs only [go_sem, Nat.reduceLT, hT] <;> rfl, by omega, rfl, rfl, g0, g1, g2, fun h => absurd rfl h⟩
      clear a1 a2 a5 a6 hT T g0 g1 g2 H
      rintro k T s' ⟨hT, a1, a2, a5, i, n, d, H, a8, hi, rfl, rfl, g0, g1, g2, gr⟩
      simp -implicitDefEqProofs only [go_sem, Nat.reduceEqDiff, Nat.reduceLT, a1, a8, hT, g0]
      by_cases hil2 : (i : Int) < (v.getters.length : Int)
      · have hi' : i < v.getters.length := by omega
        have e1 := elemAt_map (f := gtrV) (l := v.getters) (i := i) (z := 5) hi' rfl
        have hkk : v.getters.length - (i + 1) < v.getters.length - i := by omega
        have htk : v.getters.take (i + 1) = v.getters.take i ++ [v.getters[i]] := List.take_succ_eq_append_getElem hi'
        have hln : ((v.getters.take i).map fun x => rgV x.room).length = i := by simp; omega
        have hi1 : i + 1 ≤ v.getters.length := hi'
        have hn4 : n + 3 < n + 1 + 3 := by omega
        generalize v.getters[i] = x at *
        have hap := fun (l : List AV) (n : Nat) (b p : Nm) (H : Heap) (r : Rg) (hr : (l.length + 1) * 16 ≤ 140737488355328) (hg : l ≠ [] → hget H b = some (.tok l.length 2)) => append_abs (C := cfg.at 48) (sT := 50) (b := b) (l := l) (x := rgV r) (H := H) (n := n) (p := p) (jr := true) (j := []) (z := 2) desc50 tget26 rfl rfl rfl rfl rfl rfl hr hg
        by_cases i0 : i = 0
        · subst i0
          have hap0 := fun (n : Nat) (p : Nm) (H : Heap) (r : Rg) => hap [] n [] p H r (by simp) (fun h => absurd rfl h)
          simp only [ownV, dropTok, tokJ, rgV, List.nil_append, List.length_nil] at hap0
          rw [List.take_zero, List.map_nil] at g2
          have on : ∀ b, ownV b [] = .nils := fun _ => rfl
          rw [on [d, 9, 0]] at g2
          have hw1 : wrapF .i64 (((0 : Nat) : Int) + 1) = ((0 + 1 : Nat) : Int) := rfl
          simp -implicitDefEqProofs only [go_sem, hil2]
          simp only [does_bind]
          refine draw_mach [9, 11] [9, 11] (by kernel_rfl) ?_
          simp -implicitDefEqProofs only [go_sem, Nat.reduceEqDiff, Nat.reduceLT, Nat.reduceAdd, Nat.reduceMul, a1, a2, a5, a8, hT, e1, g0, g2, hap0 _ _ _ ⟨x.room.lo, x.room.hi⟩, hw1, hc31]
          clear hw1
          refine ⟨v.getters.length - (0 + 1), hkk, trivial, trivial, trivial, trivial, 0 + 1, n + 1, n + 3, _, rfl, hi1, rfl, rfl, ?_, ?_, ?_, fun _ => ⟨hn4, ?_⟩⟩
          · simp (disch := omega) only [hget_redoH, lkn, lk11, lk31, Option.getD_none, g0]
          · simp (disch := omega) only [hget_redoH, lkn, lk11, lk31, Option.getD_none, g1]
          · rw [htk, List.map_append]
            simp (disch := omega) only [hget_redoH, lk_same, Option.getD_some, g2]
            rfl
          · simp (disch := omega) only [hget_redoH, lk_same, lk13, Option.getD_some]
        · obtain ⟨dn, r1⟩ := gr i0
          have n1 : ((v.getters.take i).map fun x => rgV x.room) ≠ [] := fun e => i0 (by rw [← hln, e]; rfl)
          have htk1 : ((v.getters.take (i + 1)).map fun x => rgV x.room) = ((v.getters.take i).map fun x => rgV x.room) ++ [.agg [.int .i64 x.room.lo, .int .i64 x.room.hi]] := by rw [htk, List.map_append]; rfl
          have hapG := fun (n : Nat) (p : Nm) (H : Heap) (r : Rg) (hg : hget H [d, 9, 0] = some (.tok i 2)) => hap _ n [d, 9, 0] p H r (by rw [hln]; omega) (fun _ => by rw [hln]; exact hg)
          generalize ((v.getters.take i).map fun x => rgV x.room) = RG at *
          have o1 : ∀ b, ownV b RG = .own b RG := fun b => by cases RG with | nil => exact absurd rfl n1 | cons a r => rfl
          have o3 : ∀ b j, tokJ RG b j = (b, none) :: j := fun b j => by cases RG with | nil => exact absurd rfl n1 | cons a r => rfl
          have o5 : ∀ b H, dropTok RG b H = hdel H b := fun b H => by cases RG with | nil => exact absurd rfl n1 | cons a r => rfl
          simp only [rgV, o3, o5, ownV_snoc, hln] at hapG
          rw [o1] at g2
          simp only [o1] at hapG
          have nc : (n + 3 = d) = False := by simp; omega
          have d1 : hget (hdel H [d, 9, 0]) [2] = _ := hd31.trans g2
          have hw1 : wrapF .i64 ((i : Int) + 1) = ((i + 1 : Nat) : Int) := wrap_i64 (by omega) (by omega)
          simp -implicitDefEqProofs only [go_sem, hil2]
          simp only [does_bind]
          refine draw_mach [9, 11] [9, 11] (by kernel_rfl) ?_
          simp -implicitDefEqProofs only [go_sem, Nat.reduceEqDiff, Nat.reduceLT, Nat.reduceAdd, Nat.reduceMul, a1, a2, a5, a8, hT, e1, g0, g2, r1, d1, hapG _ _ _ ⟨x.room.lo, x.room.hi⟩, hw1, hc31]
          clear hw1
          refine ⟨v.getters.length - (i + 1), hkk, trivial, trivial, trivial, trivial, i + 1, n + 1, n + 3, _, rfl, hi1, rfl, rfl, ?_, ?_, ?_, fun _ => ⟨hn4, ?_⟩⟩
          · simp (disch := omega) only [hget_redoH, lkn, lk11, lk31, Option.getD_none, g0]
          · simp (disch := omega) only [hget_redoH, lkn, lk11, lk31, Option.getD_none, g1]
          · rw [show (List.map (fun x : Gtr => AV.agg [.int .i64 x.room.lo, .int .i64 x.room.hi]) (v.getters.take (i + 1))) = _ from htk1]
            simp (disch := omega) only [hget_redoH, lk_same, Option.getD_some, g2, ownV_snoc]
          · simp (disch := omega) only [hget_redoH, lk_same, lk13, Option.getD_some]
      · have hie : i = v.getters.length := by omega
        subst hie
        rw [List.take_length] at g2
        have z1 : ∀ X, hget (hset H [1] X) [1] = some X := fun X => hget_hset_same X g1
        simp -implicitDefEqProofs only [go_sem, Nat.reduceEqDiff, Nat.reduceLT, Nat.reduceAdd, a2, a5, hT, hil2, g1, g2, z1, Try.results48]
        unfold gasE
        rw [if_pos rfl]
        have hfin := frozen_own (H := hset H [1] (.cells [ownV [c, 5, 0] (v.vessels.map fun x => rgV x.free), ownV [c, 11, 0] (v.vessels.map fun x => rgV x.bound), ownV [d, 9, 0] (v.getters.map fun x => rgV x.room), .int .i64 m, .bool false] true 0)) (b1 := [c, 5, 0]) (b2 := [c, 11, 0]) (b3 := [d, 9, 0]) (g := beginG v) (e := 0)
        unfold gasO beginG at hfin
        simp only [List.map_map, hm] at hfin
        unfold beginG
        simp only [hm]
        exact hfin
  · simp -implicitDefEqProofs only [go_sem, Nat.reduceEqDiff, Nat.reduceLT, Nat.reduceAdd, Bool.not_false, hT, c0, Try.results48]
    unfold gasE
    rw [if_neg c0]
    rfl
end Go.Proofs.Ytgnpnfkncbnjnaa
namespace Go.Proofs.Ytgnpnfkncbnjnaa
open Go Go.Am
attribute [local congr] tr_congr does_congr all_congr
attribute [local go_sem] Go.Am.buildSliceA Go.Am.frozen Go.Am.freezeG Go.Am.freezeGs Go.Am.minmax
theorem Vac.Lens.more {v : Vac} {K : Nat} (hv : v.Lens K) (q : Nat) : v.Lens (K + q) := ⟨⟨by have := hv.ves.1; omega, hv.ves.2⟩, ⟨by have := hv.pip.1; omega, hv.pip.2⟩, ⟨by have := hv.pmp.1; omega, hv.pmp.2⟩, ⟨by have := hv.inl.1; omega, hv.inl.2⟩, ⟨by have := hv.gtr.1; omega, hv.gtr.2⟩, hv.bands⟩
theorem cstage_call (v : Vac) (b : Bk) (K : Nat) (s : St) (hK : 50 < K) (hv : v.Lens K) (hb : b.shut.length < K) (hb2 : b.shut.length ≤ 9223372036854775807) : acall cfg (K + 10) 52 [vacV v, bkV b] s = .ret (.int .i64 (checkStageE v b), s) := by
  refine call1 mget52 fget52 (by first | rfl | simp -implicitDefEqProofs only [redoH, redo1, go_sem, Int.reduceEq, Int.reduceNeg, Nat.reduceEqDiff, Nat.reduceLT, Nat.reduceAdd, Nat.reduceSub, Nat.reduceMul, Int.reduceLE, Int.reduceLT, Int.reduceToNat, Int.toNat_natCast, Nat.reduceLeDiff, Bool.not_true, Bool.not_false]) (by first | rfl | simp -implicitDefEqProofs only [go_sem]) (by first | rfl | simp -implicitDefEqProofs only [redoH, redo1, go_sem, Int.reduceEq, Int.reduceNeg, Nat.reduceEqDiff, Nat.reduceLT, Nat.reduceAdd, Nat.reduceSub, Nat.reduceMul, Int.reduceLE, Int.reduceLT, Int.reduceToNat, Int.toNat_natCast, Nat.reduceLeDiff, Bool.not_true, Bool.not_false]) ?_
  refine body_does rfl fun T hT' hA => ?_
  have a0 := hA 0 _ rfl
  have a1 := hA 1 _ rfl
  have hT : T.length = 14 := hT'
  clear hA hT'
  have hc := fun s => check_call v K s hK hv
  have hs := fun s => stage_call v b (K + 7) s (by omega) hb2 hv.pip.2
  simp only [vacV, bkV] at hc hs
  unfold checkStageE
  by_cases c1 : checkE v = 0
  · rw [if_pos c1]
    simp -implicitDefEqProofs only [go_sem, Nat.reduceEqDiff, Nat.reduceLT, Nat.reduceAdd, Bool.not_true, a0, a1, hT, hc, hs, c1, Try.results52]
  · rw [if_neg c1]
    simp -implicitDefEqProofs only [go_sem, Nat.reduceEqDiff, Nat.reduceLT, Nat.reduceAdd, Bool.not_false, a0, a1, hT, hc, c1, Try.results52]
theorem large_call (v : Vac) (K : Nat) (s : St) (hv : v.Lens K) : acall cfg (K + 1) 47 [vacV v] s = .ret (.bool (largeB v), s) := by
  refine call1 mget47 fget47 (by first | rfl | simp -implicitDefEqProofs only [redoH, redo1, go_sem, Int.reduceEq, Int.reduceNeg, Nat.reduceEqDiff, Nat.reduceLT, Nat.reduceAdd, Nat.reduceSub, Nat.reduceMul, Int.reduceLE, Int.reduceLT, Int.reduceToNat, Int.toNat_natCast, Nat.reduceLeDiff, Bool.not_true, Bool.not_false]) (by first | rfl | simp -implicitDefEqProofs only [go_sem]) (by first | rfl | simp -implicitDefEqProofs only [redoH, redo1, go_sem, Int.reduceEq, Int.reduceNeg, Nat.reduceEqDiff, Nat.reduceLT, Nat.reduceAdd, Nat.reduceSub, Nat.reduceMul, Int.reduceLE, Int.reduceLT, Int.reduceToNat, Int.toNat_natCast, Nat.reduceLeDiff, Bool.not_true, Bool.not_false]) ?_
  refine body_does rfl fun T hT' hA => ?_
  have a0 := hA 0 _ rfl
  have hT : T.length = 47 := hT'
  clear hA hT'
  obtain ⟨⟨hv1, hv2⟩, _, _, _, _, hbd⟩ := hv
  have q1 : (20 : Int) < (v.vessels.length : Int) ↔ 20 < v.vessels.length := by omega
  have q2 : (30 : Int) < (v.pipes.length : Int) ↔ 30 < v.pipes.length := by omega
  have q3 : (20 : Int) < (v.pumps.length : Int) ↔ 20 < v.pumps.length := by omega
  have q4 : (20 : Int) < (v.leaks.length : Int) ↔ 20 < v.leaks.length := by omega
  have q5 : (20 : Int) < (v.getters.length : Int) ↔ 20 < v.getters.length := by omega
  have hov : largeB v = (decide ((20 : Int) < (v.vessels.length : Int)) || decide ((30 : Int) < (v.pipes.length : Int)) || decide ((20 : Int) < (v.pumps.length : Int)) || decide ((20 : Int) < (v.leaks.length : Int)) || decide ((20 : Int) < (v.getters.length : Int)) || v.vessels.any fun x => decide (20 < x.bands.length)) := by
    unfold largeB
    simp only [q1, q2, q3, q4, q5]
  rw [hov]
  clear q1 q2 q3 q4 q5 hov
  simp -implicitDefEqProofs only [go_sem, Nat.reduceEqDiff, Nat.reduceLT, a0, hT]
  by_cases o1 : (20 : Int) < (v.vessels.length : Int)
  · simp -implicitDefEqProofs only [go_sem, Nat.reduceEqDiff, Nat.reduceLT, hT, o1, Bool.true_or, Try.results47]
  · by_cases o2 : (30 : Int) < (v.pipes.length : Int)
    · simp -implicitDefEqProofs only [go_sem, Nat.reduceEqDiff, Nat.reduceLT, hT, o1, o2, Bool.true_or, Bool.or_true, Try.results47]
    · by_cases o3 : (20 : Int) < (v.pumps.length : Int)
      · simp -implicitDefEqProofs only [go_sem, Nat.reduceEqDiff, Nat.reduceLT, hT, o1, o2, o3, Bool.true_or, Bool.or_true, Try.results47]
      · by_cases o4 : (20 : Int) < (v.leaks.length : Int)
        · simp -implicitDefEqProofs only [go_sem, Nat.reduceEqDiff, Nat.reduceLT, hT, o1, o2, o3, o4, Bool.true_or, Bool.or_true, Try.results47]
        · by_cases o5 : (20 : Int) < (v.getters.length : Int)
          · simp -implicitDefEqProofs only [go_sem, Nat.reduceEqDiff, Nat.reduceLT, hT, o1, o2, o3, o4, o5, Bool.true_or, Bool.or_true, Try.results47]
          · simp -implicitDefEqProofs only [go_sem, Nat.reduceEqDiff, Nat.reduceLT, hT, o1, o2, o3, o4, o5, Bool.false_or]
            simp only [does_bind]
            refine xl_does (fun k T s' => T.length = 47 ∧ nth T 1 = some (.ptr [0] 0) ∧ s' = ⟨[([0], .cells [.lst (v.vessels.map vesV), .lst (v.pipes.map pipV), .lst (v.pumps.map pmpV), .lst (v.leaks.map inlV), .lst (v.getters.map gtrV)] true 0)], 1, [], false, []⟩ ∧ ∃ i : Nat, nth T 3 = some (.int .i64 i) ∧ i ≤ v.vessels.length ∧ k = v.vessels.length - i ∧ (v.vessels.any fun t => decide (20 < t.bands.length)) = ((v.vessels.drop i).any fun t => decide (20 < t.bands.length))) (k := v.vessels.length) (by omega) ?_ ?_
            · exact ⟨by simp -implicitDefEqProofs only [go_sem, hT], by simp -implicitDefEqProofs only [go_sem, Nat.reduceEqDiff, Nat.reduceLT, hT], rfl, 0, by simp -implicitDefEqProofs only [go_sem, Nat.reduceLT, hT]; rfl, by omega, rfl, rfl⟩
            clear a0 hT
            rintro k T s' ⟨hT, a1, rfl, i, a3, hi, rfl, hany⟩
            simp -implicitDefEqProofs only [go_sem, Nat.reduceEqDiff, Nat.reduceLT, a1, a3, hT]
            by_cases hlo : (i : Int) < (v.vessels.length : Int)
            · have hi' : i < v.vessels.length := by omega
              have hk2 : v.vessels.length - (i + 1) < v.vessels.length - i := by omega
              have hel := elemAt_map (f := vesV) (l := v.vessels) (i := i) (z := 6) hi' rfl
              rw [List.drop_eq_getElem_cons hi', List.any_cons] at hany
              generalize v.vessels[i] = x at *
              by_cases c2 : 20 < x.bands.length
              · have c2' : (20 : Int) < (x.bands.length : Int) := by omega
                rw [decide_eq_true c2, Bool.true_or] at hany
                simp -implicitDefEqProofs only [go_sem, Nat.reduceEqDiff, Nat.reduceLT, a1, a3, hT, hlo, hel, c2', hany, Try.results47]
              · have c2' : ¬ (20 : Int) < (x.bands.length : Int) := by omega
                have hw1 : wrapF .i64 ((i : Int) + 1) = ((i + 1 : Nat) : Int) := wrap_i64 (by omega) (by omega)
                rw [decide_eq_false c2, Bool.false_or] at hany
                simp -implicitDefEqProofs only [go_sem, Nat.reduceEqDiff, Nat.reduceLT, a1, a3, hT, hlo, hel, c2', hw1]
                exact ⟨v.vessels.length - (i + 1), hk2, trivial, trivial, trivial, i + 1, rfl, hi', rfl, hany⟩
            · have hie : i = v.vessels.length := by omega
              subst hie
              rw [List.drop_length] at hany
              simp only [List.any_nil] at hany
              simp -implicitDefEqProofs only [go_sem, Nat.reduceLT, hT, hlo, hany, Try.results47]
theorem large_no {v : Vac} (h : largeB v = false) : v.vessels.length ≤ 20 ∧ v.pipes.length ≤ 30 ∧ v.pumps.length ≤ 20 ∧ v.leaks.length ≤ 20 ∧ v.getters.length ≤ 20 := by
  unfold largeB at h
  simp only [Bool.or_eq_false_iff, decide_eq_false_iff_not] at h
  omega
end Go.Proofs.Ytgnpnfkncbnjnaa
namespace Go.Proofs.Ytgnpnfkncbnjnaa
open Go Go.Am
attribute [local congr] tr_congr does_congr all_congr
attribute [local go_sem] Go.Am.buildSliceA Go.Am.frozen Go.Am.freezeG Go.Am.freezeGs Go.Am.minmax
/-! ### Systems made of numbers: their bounds -/
structure RgG (m : Int) (r : Rg) : Prop where
  lo : 0 ≤ r.lo
  le : r.lo ≤ r.hi
  hi : r.hi ≤ m
def BandsG (k : Int) : List Rel → Prop
  | [] => True
  | b :: l => 0 ≤ b.frm ∧ b.frm < k ∧ (∀ m ∈ l, b.frm < m.frm) ∧ RgG 400000 b.rate ∧ BandsG k l
theorem bandsG_snoc {k k' : Int} {r : Rg} (h0 : 0 ≤ k) (h1 : k < k') (hr : RgG 400000 r) : ∀ {l : List Rel}, BandsG k l → BandsG k' (l ++ [⟨k, r⟩])
  | [], _ => ⟨h0, h1, (fun _ h => by cases h), hr, trivial⟩
  | b :: l, ⟨g1, g2, g3, g4, g5⟩ => ⟨g1, by omega, fun m hm => by
      rcases List.mem_append.1 hm with hm | hm
      · exact g3 m hm
      · simp only [List.mem_singleton] at hm; subst hm; exact g2, g4, bandsG_snoc h0 h1 hr g5⟩
theorem bandsG_mono {k k' : Int} (h : k ≤ k') : ∀ {l : List Rel}, BandsG k l → BandsG k' l
  | [], _ => trivial
  | b :: l, ⟨g1, g2, g3, g4, g5⟩ => ⟨g1, by omega, g3, g4, bandsG_mono h g5⟩
structure VesG (v : Ves) : Prop where
  vol : 1 ≤ v.vol ∧ v.vol ≤ 50
  free : RgG 20000 v.free
  bound : RgG 50000 v.bound
  len : v.bands.length ≤ 2
  bands : BandsG 1100 v.bands
structure PipG (n : Int) (p : Pip) : Prop where
  a : 0 ≤ p.a ∧ p.a < n
  b : 0 ≤ p.b ∧ p.b < n
  ab : p.a ≠ p.b
  out : RgG 120000 p.out
  back : RgG 120000 p.back
structure PmpG (n : Int) (p : Pmp) : Prop where
  at' : 0 ≤ p.at' ∧ p.at' < n
  part : RgG 200000 p.part
structure InlG (n : Int) (p : Inl) : Prop where
  at' : 0 ≤ p.at' ∧ p.at' < n
  gas : RgG 30 p.gas
structure GtrG (n : Int) (p : Gtr) : Prop where
  at' : 0 ≤ p.at' ∧ p.at' < n
  part : RgG 300000 p.part
  room : RgG 9000 p.room
structure VacG (v : Vac) : Prop where
  n1 : 1 ≤ v.vessels.length
  n4 : v.vessels.length ≤ 4
  ves : ∀ x ∈ v.vessels, VesG x
  np : v.pipes.length ≤ 4
  pip : ∀ x ∈ v.pipes, PipG v.vessels.length x
  nm : v.pumps.length ≤ 2
  pmp : ∀ x ∈ v.pumps, PmpG v.vessels.length x
  nl : v.leaks.length ≤ 2
  inl : ∀ x ∈ v.leaks, InlG v.vessels.length x
  ng : v.getters.length ≤ 2
  gtr : ∀ x ∈ v.getters, GtrG v.vessels.length x
theorem rangeG (w m : Int) (h : 0 ≤ m) : RgG m (rangeR w 0 m) := by
  have := range_range w 0 m h
  exact ⟨this.1, this.2.1, this.2.2⟩
theorem zeroR (m : Int) (h : 0 ≤ m) : RgG m ⟨0, 0⟩ := ⟨Int.le_refl _, Int.le_refl _, h⟩
/-! ### The dice, wherever it stands -/
section
variable {H : Heap} {m u : Nat} {p : Nm} {jr : Bool} {j : Delta}
def jD (jr : Bool) (w : Int) (u : Nat) (j : Delta) : Delta := match jr with | true => ([0], some (.cells [.int .u64 w] true u)) :: j | false => j
@[go_sem] theorem jD_true (w : Int) (u : Nat) (j : Delta) : jD true w u j = ([0], some (.cells [.int .u64 w] true u)) :: j := rfl
@[go_sem] theorem jD_false (w : Int) (u : Nat) (j : Delta) : jD false w u j = j := rfl
theorem upto_d (n : Int) (K : Nat) (hd : isD u H) (hn : n ≤ 9223372036854775807) : acall cfg (K + 2) 25 [.ptr [0] 0, .int .i64 n] ⟨H, m, p, jr, j⟩ = .ret (.int .i64 (uptoN (dW H) n), ⟨hset H [0] (.cells [.int .u64 (nextW (dW H))] true u), m, p, jr, jD jr (nextW (dW H)) u j⟩) :=
  upto_call (dW H) n [0] u K ⟨H, m, p, jr, j⟩ (isD_get hd) hn
theorem one_d (n : Int) (K : Nat) (hd : isD u H) (hn : n ≤ 9223372036854775807) : acall cfg (K + 3) 44 [.ptr [0] 0, .int .i64 n] ⟨H, m, p, jr, j⟩ = .ret (.bool (oneB (dW H) n), ⟨hset H [0] (.cells [.int .u64 (nextW (dW H))] true u), m, p, jr, jD jr (nextW (dW H)) u j⟩) :=
  one_call (dW H) n [0] u K ⟨H, m, p, jr, j⟩ (isD_get hd) hn
theorem between_d (lo hi : Int) (K : Nat) (h1 : -1000000000000 ≤ lo) (h2 : lo ≤ hi) (h3 : hi ≤ 1000000000000) (hd : isD u H) : acall cfg (K + 3) 85 [.ptr [0] 0, .int .i64 lo, .int .i64 hi] ⟨H, m, p, jr, j⟩ = .ret (.int .i64 (betweenN (dW H) lo hi), ⟨hset H [0] (.cells [.int .u64 (nextW (dW H))] true u), m, p, jr, jD jr (nextW (dW H)) u j⟩) :=
  between_call (dW H) lo hi [0] u K ⟨H, m, p, jr, j⟩ (isD_get hd) h1 h2 h3
theorem range_d (lo hi : Int) (K : Nat) (h1 : -1000000000000 ≤ lo) (h2 : lo ≤ hi) (h3 : hi ≤ 1000000000000) (hd : isD u H) : acall cfg (K + 4) 87 [.ptr [0] 0, .int .i64 lo, .int .i64 hi] ⟨H, m, p, jr, j⟩ = .ret (rgV (rangeR (dW H) lo hi), ⟨hset H [0] (.cells [.int .u64 (nextW (nextW (dW H)))] true u), m, p, jr, jD jr (nextW (nextW (dW H))) u j⟩) :=
  range_call (dW H) lo hi [0] u K ⟨H, m, p, jr, j⟩ (isD_get hd) h1 h2 h3
theorem part_d (most : Int) (K : Nat) (h2 : 0 ≤ most) (h3 : most ≤ 1000000000000) (hd : isD u H) : acall cfg (K + 5) 88 [.ptr [0] 0, .int .i64 most] ⟨H, m, p, jr, j⟩ = .ret (rgV (rangeR (dW H) 0 most), ⟨hset H [0] (.cells [.int .u64 (nextW (nextW (dW H)))] true u), m, p, jr, jD jr (nextW (nextW (dW H))) u j⟩) :=
  part_call (dW H) most [0] u K ⟨H, m, p, jr, j⟩ (isD_get hd) h2 h3
end
end Go.Proofs.Ytgnpnfkncbnjnaa
