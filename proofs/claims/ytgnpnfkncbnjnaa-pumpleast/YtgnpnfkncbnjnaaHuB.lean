/- Hunts for leaks: what it costs to tell suspects apart, and how a leak is found, in the program and in the reference. -/
import Derived.Test.YtgnpnfkncbnjnaaHuA
import Derived.Test.YtgnpnfkncbnjnaaAmD
set_option linter.unusedSimpArgs false
set_option linter.unusedVariables false
set_option maxRecDepth 100000
namespace Go.Proofs.Ytgnpnfkncbnjnaa
open Go Go.Am
attribute [local congr] tr_congr does_congr all_congr
/-! ### The hunter -/
theorem desc190 : cfg.desc 190 = some (.slice 158) := by kernel_rfl
theorem hunting_body (h : Hnt) (hh : huntE h = 0) (K : Nat) (hK : 13 < K) (ho : h.Ok K) :
    (bodyA (cfg.at 102) (acall cfg (K + 2)) (around cfg (K + 2)) (K + 2 + 1) Try.f102 [hntV h] s0).Does fun x => x.1 = .ptr [2] 0 ∧ ∃ tb, hget x.2.H [2] = some (.cells [.int .i64 h.suspects, .lst (h.trials.map triV), ownV [tb + 3] ((setsOf h).map fun t => uV t.1), .map [1]] true 0) ∧
      (((setsOf h).map fun t => uV t.1) ≠ [] → hget x.2.H [tb + 3] = some (.tok ((setsOf h).map fun t => uV t.1).length 1)) ∧ hget x.2.H [1] = some (.map [] false) := by
  obtain ⟨hs1, hs2, hlen, htr⟩ := hunt_ok hh
  refine body_does rfl fun T hT' hA => ?_
  have a0 := hA 0 _ rfl
  have hT : T.length = 39 := hT'
  clear hA hT'
  simp -implicitDefEqProofs only [redoH, redo1, go_sem, Int.reduceEq, Int.reduceNeg, Nat.reduceEqDiff, Nat.reduceLT, Nat.reduceAdd, Nat.reduceSub, Nat.reduceMul, Int.reduceLE, Int.reduceLT, Int.reduceToNat, Int.toNat_natCast, Nat.reduceLeDiff, Bool.not_true, Bool.not_false, a0, hT]
  simp only [does_bind]
  refine xl_does (fun k T s' => T.length = 39 ∧ nth T 1 = some (.ptr [0] 0) ∧ nth T 3 = some (.ptr [2] 0) ∧ nth T 13 = some (.lst (h.trials.map triV)) ∧ nth T 14 = some (.int .i64 h.trials.length) ∧ ∃ (i n tb : Nat) (H : Heap), nth T 15 = some (.int .i64 i) ∧ i ≤ h.trials.length ∧ k = h.trials.length - i ∧ s' = ⟨H, n + 3, [], false, []⟩ ∧
    hget H [0] = some (.cells [.int .i64 h.suspects, .lst (h.trials.map triV)] true 0) ∧ hget H [1] = some (.map [] false) ∧ hget H [2] = some (.cells [.int .i64 h.suspects, .lst (h.trials.map triV), ownV [tb + 3] (((setsOf h).take i).map fun t => uV t.1), .map [1]] true 0) ∧
    ((((setsOf h).take i).map fun t => uV t.1) ≠ [] → tb < n ∧ hget H [tb + 3] = some (.tok (((setsOf h).take i).map fun t => uV t.1).length 1))) (k := h.trials.length) (by omega) ?_ ?_
  · exact ⟨by simp -implicitDefEqProofs only [redoH, redo1, go_sem, Int.reduceEq, Int.reduceNeg, Nat.reduceEqDiff, Nat.reduceLT, Nat.reduceAdd, Nat.reduceSub, Nat.reduceMul, Int.reduceLE, Int.reduceLT, Int.reduceToNat, Int.toNat_natCast, Nat.reduceLeDiff, Bool.not_true, Bool.not_false, hT], by simp -implicitDefEqProofs only [redoH, redo1, go_sem, Int.reduceEq, Int.reduceNeg, Nat.reduceEqDiff, Nat.reduceLT, Nat.reduceAdd, Nat.reduceSub, Nat.reduceMul, Int.reduceLE, Int.reduceLT, Int.reduceToNat, Int.toNat_natCast, Nat.reduceLeDiff, Bool.not_true, Bool.not_false, hT], by simp -implicitDefEqProofs only [redoH, redo1, go_sem, Int.reduceEq, Int.reduceNeg, Nat.reduceEqDiff, Nat.reduceLT, Nat.reduceAdd, Nat.reduceSub, Nat.reduceMul, Int.reduceLE, Int.reduceLT, Int.reduceToNat, Int.toNat_natCast, Nat.reduceLeDiff, Bool.not_true, Bool.not_false, hT], by simp -implicitDefEqProofs only [redoH, redo1, go_sem, Int.reduceEq, Int.reduceNeg, Nat.reduceEqDiff, Nat.reduceLT, Nat.reduceAdd, Nat.reduceSub, Nat.reduceMul, Int.reduceLE, Int.reduceLT, Int.reduceToNat, Int.toNat_natCast, Nat.reduceLeDiff, Bool.not_true, Bool.not_false, hT], by simp -implicitDefEqProofs only [redoH, redo1, go_sem, Int.reduceEq, Int.reduceNeg, Nat.reduceEqDiff, Nat.reduceLT, Nat.reduceAdd, Nat.reduceSub, Nat.reduceMul, Int.reduceLE, Int.reduceLT, Int.reduceToNat, Int.toNat_natCast, Nat.reduceLeDiff, Bool.not_true, Bool.not_false, hT], 0, 0, 0, _, by simp -implicitDefEqProofs only [redoH, redo1, go_sem, Int.reduceEq, Int.reduceNeg, Nat.reduceEqDiff, Nat.reduceLT, Nat.reduceAdd, Nat.reduceSub, Nat.reduceMul, Int.reduceLE, Int.reduceLT, Int.reduceToNat, Int.toNat_natCast, Nat.reduceLeDiff, Bool.not_true, Bool.not_false, hT]; rfl, by omega, rfl, rfl, rfl, rfl, rfl, fun hx => absurd rfl hx⟩
  clear a0 hT
  rintro k T s' ⟨hT, a1, a3, a13, a14, i, n, tb, H, a15, hi, rfl, rfl, g0, g1, g2, ht⟩
  simp -implicitDefEqProofs only [redoH, redo1, go_sem, Int.reduceEq, Int.reduceNeg, Nat.reduceEqDiff, Nat.reduceLT, Nat.reduceAdd, Nat.reduceSub, Nat.reduceMul, Int.reduceLE, Int.reduceLT, Int.reduceToNat, Int.toNat_natCast, Nat.reduceLeDiff, Bool.not_true, Bool.not_false, a1, a3, a13, a14, a15, hT]
  simp only [does_bind]
  refine does_if (fun hlo => ?_) (fun hlo => ?_)
  · have hi' : i < h.trials.length := by omega
    have his : i < (setsOf h).length := by simp [setsOf]; omega
    have hk2 : h.trials.length - (i + 1) < h.trials.length - i := by omega
    have hel := elemAt_map (f := triV) (z := 2) hi' rfl
    have hc := fun s => suspects_call h.suspects h.trials[i].of K s (by have := (ho.2 _ (List.getElem_mem hi')).1; omega) (ho.2 _ (List.getElem_mem hi')).2 hs1 hs2
    rw [(htr _ (List.getElem_mem hi')).1] at hc
    simp only [if_true] at hc
    have hw1 : wrapF .i64 ((i : Int) + 1) = ((i + 1 : Nat) : Int) := by rw [wrap_i64 (by omega) (by omega)]; simp
    have hsi : (setsOf h)[i] = (setN 0 h.trials[i].of, h.trials[i].cost) := by simp [setsOf]
    have hrow : (((setsOf h).take (i + 1)).map fun t => uV t.1) = (((setsOf h).take i).map fun t => uV t.1) ++ [.int .u64 (setN 0 h.trials[i].of : Nat)] := by
      rw [List.take_succ_eq_append_getElem his, List.map_append, hsi]; rfl
    have hrl : (((setsOf h).take i).map fun t => uV t.1).length = i := by simp; omega
    generalize ((setsOf h).take i).map (fun t => uV t.1) = row at *
    have hap := append_abs (C := cfg.at 102) (sT := 190) (b := [tb + 3]) (l := row) (x := .int .u64 (setN 0 h.trials[i].of : Nat)) (H := ([n + 3], .cells [.lst (h.trials[i].of.map iV), .int .i64 h.trials[i].cost] true 0) :: H) (n := n + 3 + 1) (p := []) (jr := false) (j := []) (z := 1) desc190 tget158 rfl rfl rfl rfl rfl rfl (by rw [hrl]; show (i + 1) * 8 ≤ _; omega) (fun hx => by
      have h0 := ht hx
      have hne : ([n + 3] = [tb + 3]) = False := by
        simp only [List.cons.injEq, and_true, eq_iff_iff, iff_false]; omega
      simp -implicitDefEqProofs only [redoH, redo1, go_sem, Int.reduceEq, Int.reduceNeg, Nat.reduceEqDiff, Nat.reduceLT, Nat.reduceAdd, Nat.reduceSub, Nat.reduceMul, Int.reduceLE, Int.reduceLT, Int.reduceToNat, Int.toNat_natCast, Nat.reduceLeDiff, Bool.not_true, Bool.not_false, hne]; exact h0.2)
    have hrow2 : row ≠ [] → ([n + 3] = [tb + 3]) = False := fun hx => by
      have h0 := ht hx
      simp only [List.cons.injEq, and_true, eq_iff_iff, iff_false]; omega
    have q0 := (hget_dropTok row (b := [tb + 3]) (c := [0]) (([n + 3], .cells [.lst (h.trials[i].of.map iV), .int .i64 h.trials[i].cost] true 0) :: H) (by simp)).trans (by simp -implicitDefEqProofs only [redoH, redo1, go_sem, Int.reduceEq, Int.reduceNeg, Nat.reduceEqDiff, Nat.reduceLT, Nat.reduceAdd, Nat.reduceSub, Nat.reduceMul, Int.reduceLE, Int.reduceLT, Int.reduceToNat, Int.toNat_natCast, Nat.reduceLeDiff, Bool.not_true, Bool.not_false, g0]  : _ = some (Blk.cells [.int .i64 h.suspects, .lst (h.trials.map triV)] true 0))
    have q1 := (hget_dropTok row (b := [tb + 3]) (c := [1]) (([n + 3], .cells [.lst (h.trials[i].of.map iV), .int .i64 h.trials[i].cost] true 0) :: H) (by simp)).trans (by simp -implicitDefEqProofs only [redoH, redo1, go_sem, Int.reduceEq, Int.reduceNeg, Nat.reduceEqDiff, Nat.reduceLT, Nat.reduceAdd, Nat.reduceSub, Nat.reduceMul, Int.reduceLE, Int.reduceLT, Int.reduceToNat, Int.toNat_natCast, Nat.reduceLeDiff, Bool.not_true, Bool.not_false, g1]  : _ = some (Blk.map [] false))
    have q2 := (hget_dropTok row (b := [tb + 3]) (c := [2]) (([n + 3], .cells [.lst (h.trials[i].of.map iV), .int .i64 h.trials[i].cost] true 0) :: H) (by simp)).trans (by simp -implicitDefEqProofs only [redoH, redo1, go_sem, Int.reduceEq, Int.reduceNeg, Nat.reduceEqDiff, Nat.reduceLT, Nat.reduceAdd, Nat.reduceSub, Nat.reduceMul, Int.reduceLE, Int.reduceLT, Int.reduceToNat, Int.toNat_natCast, Nat.reduceLeDiff, Bool.not_true, Bool.not_false, g2]  : _ = some (Blk.cells [.int .i64 h.suspects, .lst (h.trials.map triV), ownV [tb + 3] row, .map [1]] true 0))
    generalize dropTok row [tb + 3] (([n + 3], .cells [.lst (h.trials[i].of.map iV), .int .i64 h.trials[i].cost] true 0) :: H) = H1 at *
    have v0 := fun Z => (hget_hset_ne H1 (i := [2]) (j := [0]) Z (by decide)).trans q0
    have v1 := fun Z => (hget_hset_ne H1 (i := [2]) (j := [1]) Z (by decide)).trans q1
    have v2 := fun Z => hget_hset_same Z q2
    have hown : ∀ b, ownV b (row ++ [.int .u64 (setN 0 h.trials[i].of : Nat)]) = .own b (row ++ [.int .u64 (setN 0 h.trials[i].of : Nat)]) := fun b => by cases row <;> rfl
    rw [hown] at hap
    simp -implicitDefEqProofs only [redoH, redo1, go_sem, Int.reduceEq, Int.reduceNeg, Nat.reduceEqDiff, Nat.reduceLT, Nat.reduceAdd, Nat.reduceSub, Nat.reduceMul, Int.reduceLE, Int.reduceLT, Int.reduceToNat, Int.toNat_natCast, Nat.reduceLeDiff, Bool.not_true, Bool.not_false, a1, a3, a13, a14, a15, hT, hel, hc, g0, g1, g2, hap, q0, q1, q2, hw1, desc190]
    refine ⟨h.trials.length - (i + 1), hk2, trivial, trivial, trivial, trivial, trivial, i + 1, n + 2, n + 1, _, rfl, hi', rfl, rfl, ?_, ?_, ?_, ?_⟩
    · simp -implicitDefEqProofs only [redoH, redo1, go_sem, Int.reduceEq, Int.reduceNeg, Nat.reduceEqDiff, Nat.reduceLT, Nat.reduceAdd, Nat.reduceSub, Nat.reduceMul, Int.reduceLE, Int.reduceLT, Int.reduceToNat, Int.toNat_natCast, Nat.reduceLeDiff, Bool.not_true, Bool.not_false, v0]
    · simp -implicitDefEqProofs only [redoH, redo1, go_sem, Int.reduceEq, Int.reduceNeg, Nat.reduceEqDiff, Nat.reduceLT, Nat.reduceAdd, Nat.reduceSub, Nat.reduceMul, Int.reduceLE, Int.reduceLT, Int.reduceToNat, Int.toNat_natCast, Nat.reduceLeDiff, Bool.not_true, Bool.not_false, v1]
    · rw [hrow, hown]; simp -implicitDefEqProofs only [redoH, redo1, go_sem, Int.reduceEq, Int.reduceNeg, Nat.reduceEqDiff, Nat.reduceLT, Nat.reduceAdd, Nat.reduceSub, Nat.reduceMul, Int.reduceLE, Int.reduceLT, Int.reduceToNat, Int.toNat_natCast, Nat.reduceLeDiff, Bool.not_true, Bool.not_false, v2]
    · intro _
      refine ⟨by omega, ?_⟩
      have e0 : ((setsOf h).take (i + 1)).length = row.length + 1 := by rw [hrl, List.length_take]; omega
      rw [e0]
      have e1 : [n + 1 + 3] = [n + 3 + 1] := rfl
      rw [e1, hget_cons, if_pos rfl]
  · have hil : i = h.trials.length := by omega
    subst hil
    have hsl : (setsOf h).length = h.trials.length := by simp [setsOf]
    rw [← hsl, List.take_length] at g2 ht
    simp -implicitDefEqProofs only [redoH, redo1, go_sem, Int.reduceEq, Int.reduceNeg, Nat.reduceEqDiff, Nat.reduceLT, Nat.reduceAdd, Nat.reduceSub, Nat.reduceMul, Int.reduceLE, Int.reduceLT, Int.reduceToNat, Int.toNat_natCast, Nat.reduceLeDiff, Bool.not_true, Bool.not_false, a1, a3, a13, a14, a15, hT, Try.results102]
    exact ⟨trivial, tb, g2, fun hx => by have := (ht hx).2; rw [List.length_map] at this; exact this, g1⟩
/-- What a hunter has: mm, its map. -/
def rowS (h : Hnt) : List AV := (setsOf h).map fun t => uV t.1
theorem nm_ne {a b : Nat} (h : a ≠ b) : ([a] : Nm) ≠ [b] := by simp only [ne_eq, List.cons.injEq, and_true]; exact h
def Hunter (h : Hnt) (H : Heap) (b mm : Nm) (ov : AV) : Prop := eqb mm b = false ∧ ∃ es, hget H b = some (.cells [.int .i64 h.suspects, .lst (h.trials.map triV), ov, .map mm] true 0) ∧ hget H mm = some (.map es false) ∧ Memo (setsOf h) es
def OvOk (h : Hnt) (b mm : Nm) (ov : AV) : Prop := ov = .lst (rowS h) ∨ (∃ t, ov = .own t (rowS h) ∧ eqb t b = false ∧ eqb t mm = false) ∨ (ov = .nils ∧ h.trials = [])
theorem hunting_call (h : Hnt) (hh : huntE h = 0) (K : Nat) (hK : 13 < K) (ho : h.Ok K) (H : Heap) (n : Nat) :
    ∃ H' d mm ov, acall cfg (K + 3) 102 [hntV h] ⟨H, n, [], false, []⟩ = .ret (.ptr [n] 0, ⟨H', n + 2 + d, [], false, []⟩) ∧ Hunter h H' [n] [mm] ov ∧ OvOk h [n] [mm] ov ∧ n < mm ∧ ∀ c, c < n → hget H' [c] = hget H [c] := by
  have hb := hunting_body h hh K hK ho
  have hre : renVs [] [hntV h] = some [hntV h] := by simp only [renVs, renV, hntV, fl_tri]
  by_cases ht : h.trials = []
  · have hs0 : (setsOf h) = [] := by simp [setsOf, ht]
    have hb2 : (bodyA (cfg.at 102) (acall cfg (K + 2)) (around cfg (K + 2)) (K + 2 + 1) Try.f102 [hntV h] s0).Does fun x => ∃ b mm, x.1 = .ptr b 0 ∧ eqb mm b = false ∧ hget x.2.H b = some (.cells [.int .i64 h.suspects, .lst (h.trials.map triV), .nils, .map mm] true 0) ∧ hget x.2.H mm = some (.map [] false) := by
      refine hb.mono ?_
      rintro x ⟨e1, tb, e2, _, e3⟩
      rw [hs0] at e2
      exact ⟨[2], [1], e1, rfl, e2, e3⟩
    have hc := call3_two (s := ⟨H, n, [], false, []⟩) mget102 fget102 rfl hre (fl_tri _) rfl hb2
    refine ⟨_, 0, n + 1, .nils, hc, ⟨eqb_ne (by simp), [], ?_, ?_, fun e he => by cases he⟩, .inr (.inr ⟨rfl, ht⟩), by omega, ?_⟩
    · exact (hget_cons_ne _ _ (nm_ne (by show n + 1 ≠ n; omega))).trans (hget_cons_same ..)
    · exact hget_cons_same ..
    · intro c hc
      exact (hget_cons_ne _ _ (nm_ne (by show n + 1 ≠ c; omega))).trans (hget_cons_ne _ _ (nm_ne (by show n ≠ c; omega)))
  · have hs0 : rowS h ≠ [] := by
      simp only [rowS, setsOf, List.map_map, ne_eq, List.map_eq_nil_iff]; exact ht
    have hown : ∀ b, ownV b (rowS h) = .own b (rowS h) := fun b => by
      cases hr : rowS h with
      | nil => exact absurd hr hs0
      | cons a r => rfl
    have hb2 : (bodyA (cfg.at 102) (acall cfg (K + 2)) (around cfg (K + 2)) (K + 2 + 1) Try.f102 [hntV h] s0).Does fun x => ∃ b t mm, x.1 = .ptr b 0 ∧ eqb t b = false ∧ eqb mm b = false ∧ eqb mm t = false ∧ hget x.2.H b = some (.cells [.int .i64 h.suspects, .lst (h.trials.map triV), .own t (rowS h), .map mm] true 0) ∧ hget x.2.H t = some (.tok (rowS h).length 1) ∧ hget x.2.H mm = some (.map [] false) := by
      refine hb.mono ?_
      rintro x ⟨e1, tb, e2, e4, e3⟩
      have e2' := e2
      change hget x.2.H [2] = some (.cells [.int .i64 h.suspects, .lst (h.trials.map triV), ownV [tb + 3] (rowS h), .map [1]] true 0) at e2'
      rw [hown] at e2'
      exact ⟨[2], [tb + 3], [1], e1, eqb_ne (by simp), rfl, eqb_ne (by simp), e2', e4 hs0, e3⟩
    have hc := call3_three (s := ⟨H, n, [], false, []⟩) mget102 fget102 rfl hre (fl_tri _) (flats_map (f := fun t : Nat × Int => uV t.1) (fun _ => rfl) _) rfl hb2
    refine ⟨_, 1, n + 2, .own [n + 1] (rowS h), hc, ⟨eqb_ne (by simp), [], ?_, ?_, fun e he => by cases he⟩, .inr (.inl ⟨[n + 1], rfl, eqb_ne (by simp), eqb_ne (by simp)⟩), by omega, ?_⟩
    · exact (hget_cons_ne _ _ (nm_ne (by show n + 1 + 1 ≠ n; omega))).trans ((hget_cons_ne _ _ (nm_ne (by show n + 1 ≠ n; omega))).trans (hget_cons_same ..))
    · exact hget_cons_same ..
    · intro c hc
      exact (hget_cons_ne _ _ (nm_ne (by show n + 1 + 1 ≠ c; omega))).trans ((hget_cons_ne _ _ (nm_ne (by show n + 1 ≠ c; omega))).trans (hget_cons_ne _ _ (nm_ne (by show n ≠ c; omega))))
/-- With no test at all. -/
theorem best_nil (h : Hnt) (hh : huntE h = 0) (hn : h.trials = []) (m : Nat) (h1 : 1 ≤ m) (h2 : m < 4096) (K : Nat) (s : St) (b mm : Nm) (es : List (AV × AV)) (hbm : eqb mm b = false)
    (hb : hget s.H b = some (.cells [.int .i64 h.suspects, .lst (h.trials.map triV), .nils, .map mm] true 0)) (hmm : hget s.H mm = some (.map es false)) (hme : Memo (setsOf h) es) :
    ∃ es', Memo (setsOf h) es' ∧ flatE es' = true ∧ acall cfg (K + 4) 103 [.ptr b 0, .int .u64 m] s = .ret (chV (bestS (setsOf h) m), (s.put b (.cells [.int .i64 h.suspects, .lst (h.trials.map triV), .nils, .map mm] true 0)).put mm (.map es' false)) := by
  refine call3_nil mget103 fget103 hbm (fl_tri _) (memo_flat hme) hb hmm (fun _ => rfl) (fun _ => rfl) ?_
  refine body_does rfl fun T hT' hA => ?_
  have a0 := hA 0 _ rfl
  have a1 := hA 1 _ rfl
  have hT : T.length = 102 := hT'
  clear hA hT'
  have hc := fun s => ones_call m (K + 1) s
  have hbs := bestS_eq (setsOf h) m h2
  have hs0 : setsOf h = [] := by simp [setsOf, hn]
  simp -implicitDefEqProofs only [redoH, redo1, go_sem, Int.reduceEq, Int.reduceNeg, Nat.reduceEqDiff, Nat.reduceLT, Nat.reduceAdd, Nat.reduceSub, Nat.reduceMul, Int.reduceLE, Int.reduceLT, Int.reduceToNat, Int.toNat_natCast, Nat.reduceLeDiff, Bool.not_true, Bool.not_false, a0, a1, hT, hc]
  by_cases c1 : onesN m = 1
  · rw [if_pos ((ones_alone h1 h2).1 c1)] at hbs
    simp -implicitDefEqProofs only [redoH, redo1, go_sem, Int.reduceEq, Int.reduceNeg, Nat.reduceEqDiff, Nat.reduceLT, Nat.reduceAdd, Nat.reduceSub, Nat.reduceMul, Int.reduceLE, Int.reduceLT, Int.reduceToNat, Int.toNat_natCast, Nat.reduceLeDiff, Bool.not_true, Bool.not_false, a0, a1, hT, hc, c1, Try.results103]
    exact ⟨by rw [hbs]; rfl, trivial, es, rfl, memo_flat hme, hme⟩
  · rw [if_neg (fun c => c1 ((ones_alone h1 h2).2 c))] at hbs
    rcases find_memo (setsOf h) m es 0 hme with hf | ⟨j, hf⟩
    · have hlk := fun (H : Heap) (n : Nat) (hg : hget H [1] = some (.map es false)) => look_none (b := [1]) (s := ⟨H, n, [], false, []⟩) hg hf
      simp -implicitDefEqProofs only [redoH, redo1, go_sem, Int.reduceEq, Int.reduceNeg, Nat.reduceEqDiff, Nat.reduceLT, Nat.reduceAdd, Nat.reduceSub, Nat.reduceMul, Int.reduceLE, Int.reduceLT, Int.reduceToNat, Int.toNat_natCast, Nat.reduceLeDiff, Bool.not_true, Bool.not_false, a0, a1, hT, hc, c1, hlk]
      simp only [does_bind]
      refine xl_does (fun k T s' => T.length = 102 ∧ nth T 0 = some (.ptr [0] 0) ∧ nth T 1 = some (.int .u64 m) ∧ nth T 4 = some (.ptr [2] 0) ∧ nth T 7 = some (.ptr [4] 0) ∧ nth T 34 = some .nils ∧ nth T 35 = some (.int .i64 0) ∧ nth T 36 = some (.int .i64 0) ∧ k = 0 ∧ ∃ H n, s' = ⟨H, n + 5, [], false, []⟩ ∧
        hget H [0] = some (.cells [.int .i64 h.suspects, .lst (h.trials.map triV), .nils, .map [1]] true 0) ∧ hget H [1] = some (.map es false) ∧ hget H [2] = some (.cells [.int .i64 0, .int .i64 0] true 0) ∧ hget H [4] = some (.cells [.int .i64 (-1), .int .i64 (-1)] true 0)) (k := 0) (by omega) ?_ ?_
      · exact ⟨by simp -implicitDefEqProofs only [redoH, redo1, go_sem, Int.reduceEq, Int.reduceNeg, Nat.reduceEqDiff, Nat.reduceLT, Nat.reduceAdd, Nat.reduceSub, Nat.reduceMul, Int.reduceLE, Int.reduceLT, Int.reduceToNat, Int.toNat_natCast, Nat.reduceLeDiff, Bool.not_true, Bool.not_false, hT], by simp -implicitDefEqProofs only [redoH, redo1, go_sem, Int.reduceEq, Int.reduceNeg, Nat.reduceEqDiff, Nat.reduceLT, Nat.reduceAdd, Nat.reduceSub, Nat.reduceMul, Int.reduceLE, Int.reduceLT, Int.reduceToNat, Int.toNat_natCast, Nat.reduceLeDiff, Bool.not_true, Bool.not_false, a0], by simp -implicitDefEqProofs only [redoH, redo1, go_sem, Int.reduceEq, Int.reduceNeg, Nat.reduceEqDiff, Nat.reduceLT, Nat.reduceAdd, Nat.reduceSub, Nat.reduceMul, Int.reduceLE, Int.reduceLT, Int.reduceToNat, Int.toNat_natCast, Nat.reduceLeDiff, Bool.not_true, Bool.not_false, a1], by simp -implicitDefEqProofs only [redoH, redo1, go_sem, Int.reduceEq, Int.reduceNeg, Nat.reduceEqDiff, Nat.reduceLT, Nat.reduceAdd, Nat.reduceSub, Nat.reduceMul, Int.reduceLE, Int.reduceLT, Int.reduceToNat, Int.toNat_natCast, Nat.reduceLeDiff, Bool.not_true, Bool.not_false, hT], by simp -implicitDefEqProofs only [redoH, redo1, go_sem, Int.reduceEq, Int.reduceNeg, Nat.reduceEqDiff, Nat.reduceLT, Nat.reduceAdd, Nat.reduceSub, Nat.reduceMul, Int.reduceLE, Int.reduceLT, Int.reduceToNat, Int.toNat_natCast, Nat.reduceLeDiff, Bool.not_true, Bool.not_false, hT], by simp -implicitDefEqProofs only [redoH, redo1, go_sem, Int.reduceEq, Int.reduceNeg, Nat.reduceEqDiff, Nat.reduceLT, Nat.reduceAdd, Nat.reduceSub, Nat.reduceMul, Int.reduceLE, Int.reduceLT, Int.reduceToNat, Int.toNat_natCast, Nat.reduceLeDiff, Bool.not_true, Bool.not_false, hT], by simp -implicitDefEqProofs only [redoH, redo1, go_sem, Int.reduceEq, Int.reduceNeg, Nat.reduceEqDiff, Nat.reduceLT, Nat.reduceAdd, Nat.reduceSub, Nat.reduceMul, Int.reduceLE, Int.reduceLT, Int.reduceToNat, Int.toNat_natCast, Nat.reduceLeDiff, Bool.not_true, Bool.not_false, hT], by simp -implicitDefEqProofs only [redoH, redo1, go_sem, Int.reduceEq, Int.reduceNeg, Nat.reduceEqDiff, Nat.reduceLT, Nat.reduceAdd, Nat.reduceSub, Nat.reduceMul, Int.reduceLE, Int.reduceLT, Int.reduceToNat, Int.toNat_natCast, Nat.reduceLeDiff, Bool.not_true, Bool.not_false, hT], rfl, _, 0, rfl, rfl, rfl, rfl, rfl⟩
      clear a0 a1 hT hlk
      rintro k T s' ⟨hT, a0, a1, a4, a7, a34, a35, a36, rfl, H, n, rfl, g0, g1, g2, g4⟩
      obtain ⟨es', hme', hu⟩ := update_memo h2 hme
      have he : bestS (setsOf h) m = (-1, -1) := by rw [hbs, hs0]; rfl
      rw [he] at hu ⊢
      have hu' := hu [1] ⟨H, 0, [n + 5, 6], true, []⟩ g1
      simp only [chV] at hu'
      simp -implicitDefEqProofs only [redoH, redo1, go_sem, Int.reduceEq, Int.reduceNeg, Nat.reduceEqDiff, Nat.reduceLT, Nat.reduceAdd, Nat.reduceSub, Nat.reduceMul, Int.reduceLE, Int.reduceLT, Int.reduceToNat, Int.toNat_natCast, Nat.reduceLeDiff, Bool.not_true, Bool.not_false, a0, a1, a4, a7, a34, a35, a36, hT]
      simp only [does_bind]
      refine draw_mach [6] [6] (by kernel_rfl) ?_
      simp -implicitDefEqProofs only [redoH, redo1, go_sem, Int.reduceEq, Int.reduceNeg, Nat.reduceEqDiff, Nat.reduceLT, Nat.reduceAdd, Nat.reduceSub, Nat.reduceMul, Int.reduceLE, Int.reduceLT, Int.reduceToNat, Int.toNat_natCast, Nat.reduceLeDiff, Bool.not_true, Bool.not_false, a0, a1, a4, a7, a34, a35, a36, hT, g0, g1, g2, g4, hu', Try.results103]
      have v0 := (hget_hset_ne H (i := [1]) (j := [0]) (.map es' false) (by decide)).trans g0
      have v1 := hget_hset_same (.map es' false) g1
      have v2 := (hget_hset_ne H (i := [1]) (j := [2]) (.map es' false) (by decide)).trans g2
      have v4 := (hget_hset_ne H (i := [1]) (j := [4]) (.map es' false) (by decide)).trans g4
      generalize hset H [1] (.map es' false) = H' at *
      have z0 := fun Z => (hget_hset_ne H' (i := [2]) (j := [0]) Z (by decide)).trans v0
      have z1 := fun Z => (hget_hset_ne H' (i := [2]) (j := [1]) Z (by decide)).trans v1
      have z2 := fun Z => hget_hset_same Z v2
      simp -implicitDefEqProofs only [redoH, redo1, go_sem, Int.reduceEq, Int.reduceNeg, Nat.reduceEqDiff, Nat.reduceLT, Nat.reduceAdd, Nat.reduceSub, Nat.reduceMul, Int.reduceLE, Int.reduceLT, Int.reduceToNat, Int.toNat_natCast, Nat.reduceLeDiff, Bool.not_true, Bool.not_false, a0, a1, a4, a7, a34, a35, a36, hT, v0, v1, v2, v4, z0, z1, z2, Try.results103]
      exact ⟨rfl, trivial, es', rfl, memo_flat hme', hme'⟩
    · have hlk := fun (H : Heap) (n : Nat) (hg : hget H [1] = some (.map es false)) => look_some (b := [1]) (s := ⟨H, n, [], false, []⟩) hg hf
      simp only [chV] at hlk
      simp -implicitDefEqProofs only [redoH, redo1, go_sem, Int.reduceEq, Int.reduceNeg, Nat.reduceEqDiff, Nat.reduceLT, Nat.reduceAdd, Nat.reduceSub, Nat.reduceMul, Int.reduceLE, Int.reduceLT, Int.reduceToNat, Int.toNat_natCast, Nat.reduceLeDiff, Bool.not_true, Bool.not_false, a0, a1, hT, hc, c1, hlk, Try.results103]
      exact ⟨rfl, trivial, es, rfl, memo_flat hme, hme⟩
/-- The best test, of a hunter. -/
theorem hunter_best (h : Hnt) (hh : huntE h = 0) (m : Nat) (h1 : 1 ≤ m) (h2 : m < 4096) (K : Nat) (hK : 5000 < K) (H : Heap) (n : Nat) (b mm : Nm) (ov : AV) (hu : Hunter h H b mm ov) (ho : OvOk h b mm ov) :
    ∃ H' ov', acall cfg K 103 [.ptr b 0, .int .u64 m] ⟨H, n, [], false, []⟩ = .ret (chV (bestS (setsOf h) m), ⟨H', n, [], false, []⟩) ∧ Hunter h H' b mm ov' ∧ (ov' = .lst (rowS h) ∨ (ov' = .nils ∧ h.trials = [])) ∧ ∀ c, c ≠ b → c ≠ mm → hget H' c = hget H c := by
  obtain ⟨hbm, es, hb, hmm, hme⟩ := hu
  have hne : b ≠ mm := by rintro rfl; rw [eqb_self] at hbm; cases hbm
  have fin : ∀ (ov' : AV) (es' : List (AV × AV)), Memo (setsOf h) es' →
      Hunter h (hset (hset H b (.cells [.int .i64 h.suspects, .lst (h.trials.map triV), ov', .map mm] true 0)) mm (.map es' false)) b mm ov' ∧ ∀ c, c ≠ b → c ≠ mm → hget (hset (hset H b (.cells [.int .i64 h.suspects, .lst (h.trials.map triV), ov', .map mm] true 0)) mm (.map es' false)) c = hget H c := by
    intro ov' es' hm'
    refine ⟨⟨hbm, es', ?_, ?_, hm'⟩, ?_⟩
    · rw [hget_hset_ne _ _ (Ne.symm hne)]; exact hget_hset_same _ hb
    · exact hget_hset_same (x := .map es false) _ (by rw [hget_hset_ne _ _ hne]; exact hmm)
    · intro c c1 c2
      rw [hget_hset_ne _ _ (Ne.symm c2), hget_hset_ne _ _ (Ne.symm c1)]
  have row : ∀ (ho : ov = .lst (rowS h) ∨ ∃ t, ov = .own t (rowS h) ∧ eqb t b = false ∧ eqb t mm = false), ∃ H' ov', acall cfg K 103 [.ptr b 0, .int .u64 m] ⟨H, n, [], false, []⟩ = .ret (chV (bestS (setsOf h) m), ⟨H', n, [], false, []⟩) ∧ Hunter h H' b mm ov' ∧ (ov' = .lst (rowS h) ∨ (ov' = .nils ∧ h.trials = [])) ∧ ∀ c, c ≠ b → c ≠ mm → hget H' c = hget H c := by
    intro ho
    obtain ⟨es', hm', _, hc⟩ := best_call h hh (hunt_ok hh).2.2.1 m h1 h2 (K - m - 1) ⟨H, n, [], false, []⟩ b mm ov es (by omega) hbm ho hb hmm hme
    rw [show K - m - 1 + m + 1 = K by omega] at hc
    obtain ⟨f1, f2⟩ := fin (.lst (rowS h)) es' hm'
    exact ⟨_, _, hc, f1, .inl rfl, f2⟩
  rcases ho with ho | ho | ⟨rfl, ht⟩
  · exact row (.inl ho)
  · exact row (.inr ho)
  · obtain ⟨es', hm', _, hc⟩ := best_nil h hh ht m h1 h2 (K - 4) ⟨H, n, [], false, []⟩ b mm es hbm hb hmm hme
    rw [show K - 4 + 4 = K by omega] at hc
    obtain ⟨f1, f2⟩ := fin .nils es' hm'
    exact ⟨_, _, hc, f1, .inr ⟨rfl, ht⟩, f2⟩
end Go.Proofs.Ytgnpnfkncbnjnaa
namespace Go.Proofs.Ytgnpnfkncbnjnaa
open Go Go.Am
attribute [local congr] tr_congr does_congr all_congr
/-! ### What it costs to tell suspects apart -/
/-- cost, test, error. -/
def worstT (h : Hnt) (l : List Int) : Int × Int × Int :=
  if huntE h = 0 then
    if l.length = 0 then (0, 0, 6) else
    if suspE h.suspects (-1) l = 0 then
      if (bestS (setsOf h) (setN 0 l)).1 < 0 then (0, 0, 15) else ((bestS (setsOf h) (setN 0 l)).1, (bestS (setsOf h) (setN 0 l)).2, 0)
    else (0, 0, suspE h.suspects (-1) l)
  else (0, 0, huntE h)
def t3V (x : Int × Int × Int) : AV := .tuple [.int .i64 x.1, .int .i64 x.2.1, .int .i64 x.2.2]
theorem hnt_id (h : Hnt) : AV.agg [.int .i64 h.suspects, .lst (h.trials.map triV)] = hntV h := rfl
theorem setN_ge : ∀ (l : List Int) (m : Nat), m ≤ setN m l
  | [], m => Nat.le_refl m
  | n :: l, m => Nat.le_trans Nat.left_le_or (setN_ge l (m ||| 2 ^ n.toNat))
theorem set_pos (l : List Int) (hl : l.length ≠ 0) : 1 ≤ setN 0 l := by
  cases l with
  | nil => exact absurd rfl hl
  | cons n l =>
    have h1 : (0 ||| 2 ^ n.toNat) ≤ setN 0 (n :: l) := setN_ge l _
    have h2 : 2 ^ n.toNat ≤ 0 ||| 2 ^ n.toNat := Nat.right_le_or
    have h3 : 1 ≤ 2 ^ n.toNat := Nat.one_le_two_pow
    exact Nat.le_trans h3 (Nat.le_trans h2 h1)
theorem setN_bound (many : Int) : ∀ (l : List Int) (last : Int) (m : Nat), m < 2 ^ many.toNat → suspE many last l = 0 → setN m l < 2 ^ many.toNat
  | [], _, m, h, _ => h
  | n :: l, last, m, h, he => by
    simp only [suspE] at he
    by_cases c1 : fromB n 0 (many - 1) = true
    · rw [if_pos c1] at he
      unfold fromB at c1
      have c1' := of_decide_eq_true c1
      by_cases c2 : n ≤ last
      · rw [if_pos c2] at he; cases he
      · rw [if_neg c2] at he
        refine setN_bound many l n _ (Nat.or_lt_two_pow h ?_) he
        exact Nat.pow_lt_pow_right (by decide) (by omega)
    · rw [if_neg c1] at he; cases he
theorem tableN_at (N : Nat) (f : Nat → Int) {m : Nat} (h : m < N) : elemAt 1 (m : Int) ((tableN N f).map iV) = some (.fptr [.int .i64 (f m)] 0) := by
  have h1 : m < (tableN N f).length := by simp [tableN, h]
  rw [elemAt_map (f := iV) (z := 1) h1 rfl]
  simp [tableN, iV, AV.cells]
theorem worst_call (h : Hnt) (l : List Int) (K : Nat) (s : St) (hK : 6000 < K) (ho : h.Ok K) (hl : l.length < K) (hl2 : l.length ≤ 1000000000000) :
    acall cfg (K + 10) 41 [hntV h, .lst (l.map iV)] s = .ret (t3V (worstT h l), s) := by
  refine call1 mget41 fget41 (by first | rfl | simp -implicitDefEqProofs only [redoH, redo1, go_sem, Int.reduceEq, Int.reduceNeg, Nat.reduceEqDiff, Nat.reduceLT, Nat.reduceAdd, Nat.reduceSub, Nat.reduceMul, Int.reduceLE, Int.reduceLT, Int.reduceToNat, Int.toNat_natCast, Nat.reduceLeDiff, Bool.not_true, Bool.not_false]) (by first | rfl | simp -implicitDefEqProofs only [redoH, redo1, go_sem, Int.reduceEq, Int.reduceNeg, Nat.reduceEqDiff, Nat.reduceLT, Nat.reduceAdd, Nat.reduceSub, Nat.reduceMul, Int.reduceLE, Int.reduceLT, Int.reduceToNat, Int.toNat_natCast, Nat.reduceLeDiff, Bool.not_true, Bool.not_false]) (by first | rfl | simp -implicitDefEqProofs only [redoH, redo1, go_sem, Int.reduceEq, Int.reduceNeg, Nat.reduceEqDiff, Nat.reduceLT, Nat.reduceAdd, Nat.reduceSub, Nat.reduceMul, Int.reduceLE, Int.reduceLT, Int.reduceToNat, Int.toNat_natCast, Nat.reduceLeDiff, Bool.not_true, Bool.not_false]) ?_
  refine body_does rfl fun T hT' hA => ?_
  have a0 := hA 0 _ rfl
  have a1 := hA 1 _ rfl
  have hT : T.length = 39 := hT'
  clear hA hT'
  have hc1 := fun s => checkHunt_call h (K + 6) s (by omega) ⟨ho.1, fun t ht => ⟨by have := (ho.2 t ht).1; omega, (ho.2 t ht).2⟩⟩
  simp only [hntV] at hc1
  unfold worstT
  by_cases c1 : huntE h = 0
  · obtain ⟨hs1, hs2, hlen, htr⟩ := hunt_ok c1
    rw [if_pos c1]
    simp -implicitDefEqProofs only [redoH, redo1, go_sem, Int.reduceEq, Int.reduceNeg, Nat.reduceEqDiff, Nat.reduceLT, Nat.reduceAdd, Nat.reduceSub, Nat.reduceMul, Int.reduceLE, Int.reduceLT, Int.reduceToNat, Int.toNat_natCast, Nat.reduceLeDiff, Bool.not_true, Bool.not_false, a0, a1, hT, hc1, c1]
    by_cases c2 : l.length = 0
    · rw [if_pos c2]
      have c2' : (l.length : Int) = 0 := by omega
      simp -implicitDefEqProofs only [redoH, redo1, go_sem, Int.reduceEq, Int.reduceNeg, Nat.reduceEqDiff, Nat.reduceLT, Nat.reduceAdd, Nat.reduceSub, Nat.reduceMul, Int.reduceLE, Int.reduceLT, Int.reduceToNat, Int.toNat_natCast, Nat.reduceLeDiff, Bool.not_true, Bool.not_false, a0, a1, hT, c2', Try.results41, t3V]
    · rw [if_neg c2]
      have c2' : ¬ (l.length : Int) = 0 := by omega
      have hc2 := fun s => suspects_call h.suspects l (K + 7) s (by omega) hl2 hs1 hs2
      by_cases c3 : suspE h.suspects (-1) l = 0
      · rw [if_pos c3]
        have hm1 := set_pos l c2
        have hm2 := set_lt h.suspects hs2 l (-1) 0 (by omega) c3
        rw [c3] at hc2
        simp only [if_true] at hc2
        generalize setN 0 l = m at *
        obtain ⟨H1, d, mm, ov, e1, hu, ho1, hmm, hfr⟩ := hunting_call h c1 (K + 6) (by omega) ⟨ho.1, fun t ht => ⟨by have := (ho.2 t ht).1; omega, (ho.2 t ht).2⟩⟩ [([0], .cells [.int .i64 h.suspects, .lst (h.trials.map triV)] true 0)] 1
        obtain ⟨H2, ov', e2, hu2, ho2, hfr2⟩ := hunter_best h c1 m hm1 hm2 (K + 9) (by omega) H1 (1 + 2 + d) _ _ _ hu ho1
        simp only [hntV] at e1
        simp only [chV] at e2
        simp -implicitDefEqProofs only [redoH, redo1, go_sem, Int.reduceEq, Int.reduceNeg, Nat.reduceEqDiff, Nat.reduceLT, Nat.reduceAdd, Nat.reduceSub, Nat.reduceMul, Int.reduceLE, Int.reduceLT, Int.reduceToNat, Int.toNat_natCast, Nat.reduceLeDiff, Bool.not_true, Bool.not_false, a0, a1, hT, c2', hc2, e1, e2]
        by_cases c4 : (bestS (setsOf h) m).1 < 0
        · rw [if_pos c4]
          simp -implicitDefEqProofs only [redoH, redo1, go_sem, Int.reduceEq, Int.reduceNeg, Nat.reduceEqDiff, Nat.reduceLT, Nat.reduceAdd, Nat.reduceSub, Nat.reduceMul, Int.reduceLE, Int.reduceLT, Int.reduceToNat, Int.toNat_natCast, Nat.reduceLeDiff, Bool.not_true, Bool.not_false, a0, a1, hT, c4, Try.results41, t3V]
        · rw [if_neg c4]
          simp -implicitDefEqProofs only [redoH, redo1, go_sem, Int.reduceEq, Int.reduceNeg, Nat.reduceEqDiff, Nat.reduceLT, Nat.reduceAdd, Nat.reduceSub, Nat.reduceMul, Int.reduceLE, Int.reduceLT, Int.reduceToNat, Int.toNat_natCast, Nat.reduceLeDiff, Bool.not_true, Bool.not_false, a0, a1, hT, c4]
          simp only [does_bind]
          refine draw_mach [] [] (by kernel_rfl) ?_
          simp -implicitDefEqProofs only [redoH, redo1, go_sem, Int.reduceEq, Int.reduceNeg, Nat.reduceEqDiff, Nat.reduceLT, Nat.reduceAdd, Nat.reduceSub, Nat.reduceMul, Int.reduceLE, Int.reduceLT, Int.reduceToNat, Int.toNat_natCast, Nat.reduceLeDiff, Bool.not_true, Bool.not_false, a0, a1, hT, c4, Try.results41, t3V]
      · rw [if_neg c3]
        simp -implicitDefEqProofs only [redoH, redo1, go_sem, Int.reduceEq, Int.reduceNeg, Nat.reduceEqDiff, Nat.reduceLT, Nat.reduceAdd, Nat.reduceSub, Nat.reduceMul, Int.reduceLE, Int.reduceLT, Int.reduceToNat, Int.toNat_natCast, Nat.reduceLeDiff, Bool.not_true, Bool.not_false, a0, a1, hT, c2', hc2, c3, Try.results41, t3V]
  · rw [if_neg c1]
    simp -implicitDefEqProofs only [redoH, redo1, go_sem, Int.reduceEq, Int.reduceNeg, Nat.reduceEqDiff, Nat.reduceLT, Nat.reduceAdd, Nat.reduceSub, Nat.reduceMul, Int.reduceLE, Int.reduceLT, Int.reduceToNat, Int.toNat_natCast, Nat.reduceLeDiff, Bool.not_true, Bool.not_false, a0, a1, hT, hc1, c1, Try.results41, t3V]
theorem rworst_call (h : Hnt) (l : List Int) (K : Nat) (s : St) (hK : 6000 < K) (ho : h.Ok K) (hl : l.length < K) (hl2 : l.length ≤ 1000000000000) :
    acall cfg (K + 10) 55 [hntV h, .lst (l.map iV)] s = .ret (t3V (worstT h l), s) := by
  refine call1 mget55 fget55 (by first | rfl | simp -implicitDefEqProofs only [redoH, redo1, go_sem, Int.reduceEq, Int.reduceNeg, Nat.reduceEqDiff, Nat.reduceLT, Nat.reduceAdd, Nat.reduceSub, Nat.reduceMul, Int.reduceLE, Int.reduceLT, Int.reduceToNat, Int.toNat_natCast, Nat.reduceLeDiff, Bool.not_true, Bool.not_false]) (by first | rfl | simp -implicitDefEqProofs only [redoH, redo1, go_sem, Int.reduceEq, Int.reduceNeg, Nat.reduceEqDiff, Nat.reduceLT, Nat.reduceAdd, Nat.reduceSub, Nat.reduceMul, Int.reduceLE, Int.reduceLT, Int.reduceToNat, Int.toNat_natCast, Nat.reduceLeDiff, Bool.not_true, Bool.not_false]) (by first | rfl | simp -implicitDefEqProofs only [redoH, redo1, go_sem, Int.reduceEq, Int.reduceNeg, Nat.reduceEqDiff, Nat.reduceLT, Nat.reduceAdd, Nat.reduceSub, Nat.reduceMul, Int.reduceLE, Int.reduceLT, Int.reduceToNat, Int.toNat_natCast, Nat.reduceLeDiff, Bool.not_true, Bool.not_false]) ?_
  refine body_does rfl fun T hT' hA => ?_
  have a0 := hA 0 _ rfl
  have a1 := hA 1 _ rfl
  have hT : T.length = 45 := hT'
  clear hA hT'
  have ho' : ∀ d, h.Ok (K + d) := fun d => ⟨ho.1, fun t ht => ⟨by have := (ho.2 t ht).1; omega, (ho.2 t ht).2⟩⟩
  have hc1 := fun s => rcheckHunt_call h (K + 6) s (by omega) (ho' 6)
  simp only [hntV] at hc1
  unfold worstT
  by_cases c1 : huntE h = 0
  · obtain ⟨hs1, hs2, hlen, htr⟩ := hunt_ok c1
    rw [if_pos c1]
    simp -implicitDefEqProofs only [redoH, redo1, go_sem, Int.reduceEq, Int.reduceNeg, Nat.reduceEqDiff, Nat.reduceLT, Nat.reduceAdd, Nat.reduceSub, Nat.reduceMul, Int.reduceLE, Int.reduceLT, Int.reduceToNat, Int.toNat_natCast, Nat.reduceLeDiff, Bool.not_true, Bool.not_false, a0, a1, hT, hc1, c1]
    by_cases c2 : l.length = 0
    · rw [if_pos c2]
      have c2' : (l.length : Int) = 0 := by omega
      simp -implicitDefEqProofs only [redoH, redo1, go_sem, Int.reduceEq, Int.reduceNeg, Nat.reduceEqDiff, Nat.reduceLT, Nat.reduceAdd, Nat.reduceSub, Nat.reduceMul, Int.reduceLE, Int.reduceLT, Int.reduceToNat, Int.toNat_natCast, Nat.reduceLeDiff, Bool.not_true, Bool.not_false, a0, a1, hT, c2', Try.results55, t3V]
    · rw [if_neg c2]
      have c2' : ¬ (l.length : Int) = 0 := by omega
      have hc2 := fun s => checkSuspects_call h l (K + 7) s (by omega) hl2 hs1 hs2
      simp only [hntV] at hc2
      by_cases c3 : suspE h.suspects (-1) l = 0
      · rw [if_pos c3]
        have hm2 := setN_bound h.suspects l (-1) 0 (Nat.pow_pos (by decide)) c3
        have hin := susp_in h.suspects l (-1) c3
        have hc3 := fun s => write_call h c1 (K + 6) s (by omega) (ho' 6)
        have hc4 := fun s => set_call l (K + 8) s (by omega) hl2 (fun n hn => by have := hin n hn; omega)
        have e1 := tableN_at _ (fun k => (bestS (setsOf h) k).1) hm2
        have e2 := tableN_at _ (fun k => (bestS (setsOf h) k).2) hm2
        simp only [hntV] at hc3
        rw [c3] at hc2
        generalize setN 0 l = m at *
        simp -implicitDefEqProofs only [redoH, redo1, go_sem, Int.reduceEq, Int.reduceNeg, Nat.reduceEqDiff, Nat.reduceLT, Nat.reduceAdd, Nat.reduceSub, Nat.reduceMul, Int.reduceLE, Int.reduceLT, Int.reduceToNat, Int.toNat_natCast, Nat.reduceLeDiff, Bool.not_true, Bool.not_false, a0, a1, hT, c2', hc2, hc3, hc4, e1, e2]
        by_cases c4 : (bestS (setsOf h) m).1 < 0
        · rw [if_pos c4]
          simp -implicitDefEqProofs only [redoH, redo1, go_sem, Int.reduceEq, Int.reduceNeg, Nat.reduceEqDiff, Nat.reduceLT, Nat.reduceAdd, Nat.reduceSub, Nat.reduceMul, Int.reduceLE, Int.reduceLT, Int.reduceToNat, Int.toNat_natCast, Nat.reduceLeDiff, Bool.not_true, Bool.not_false, a0, a1, hT, c4, e1, e2, Try.results55, t3V]
        · rw [if_neg c4]
          simp -implicitDefEqProofs only [redoH, redo1, go_sem, Int.reduceEq, Int.reduceNeg, Nat.reduceEqDiff, Nat.reduceLT, Nat.reduceAdd, Nat.reduceSub, Nat.reduceMul, Int.reduceLE, Int.reduceLT, Int.reduceToNat, Int.toNat_natCast, Nat.reduceLeDiff, Bool.not_true, Bool.not_false, a0, a1, hT, c4, e1, e2]
          simp only [does_bind]
          refine draw_mach [] [] (by kernel_rfl) ?_
          simp -implicitDefEqProofs only [redoH, redo1, go_sem, Int.reduceEq, Int.reduceNeg, Nat.reduceEqDiff, Nat.reduceLT, Nat.reduceAdd, Nat.reduceSub, Nat.reduceMul, Int.reduceLE, Int.reduceLT, Int.reduceToNat, Int.toNat_natCast, Nat.reduceLeDiff, Bool.not_true, Bool.not_false, a0, a1, hT, c4, e1, e2, Try.results55, t3V]
      · rw [if_neg c3]
        simp -implicitDefEqProofs only [redoH, redo1, go_sem, Int.reduceEq, Int.reduceNeg, Nat.reduceEqDiff, Nat.reduceLT, Nat.reduceAdd, Nat.reduceSub, Nat.reduceMul, Int.reduceLE, Int.reduceLT, Int.reduceToNat, Int.toNat_natCast, Nat.reduceLeDiff, Bool.not_true, Bool.not_false, a0, a1, hT, c2', hc2, c3, Try.results55, t3V]
  · rw [if_neg c1]
    simp -implicitDefEqProofs only [redoH, redo1, go_sem, Int.reduceEq, Int.reduceNeg, Nat.reduceEqDiff, Nat.reduceLT, Nat.reduceAdd, Nat.reduceSub, Nat.reduceMul, Int.reduceLE, Int.reduceLT, Int.reduceToNat, Int.toNat_natCast, Nat.reduceLeDiff, Bool.not_true, Bool.not_false, a0, a1, hT, hc1, c1, Try.results55, t3V]
end Go.Proofs.Ytgnpnfkncbnjnaa
namespace Go.Proofs.Ytgnpnfkncbnjnaa
open Go Go.Am
/-! ### What a choice says -/
def OkC (rec : Nat → Int × Int) (s i : Nat) (l : List (Nat × Int)) (y : Int × Int) : Prop := ∃ j, ∃ h : j < l.length, y.2 = ((i + j : Nat) : Int) ∧ s &&& l[j].1 ≠ 0 ∧ restN s l[j].1 ≠ 0 ∧ 0 ≤ (rec (s &&& l[j].1)).1 ∧ 0 ≤ (rec (restN s l[j].1)).1 ∧ y.1 = l[j].2 + max (rec (s &&& l[j].1)).1 (rec (restN s l[j].1)).1
theorem fold_ok (rec : Nat → Int × Int) (s : Nat) : ∀ (l : List (Nat × Int)) (x : Int × Int) (i : Nat), foldC rec s x i l = x ∨ OkC rec s i l (foldC rec s x i l)
  | [], x, i => .inl rfl
  | t :: l, x, i => by
    simp only [foldC]
    have hst : stepC rec s x i t = x ∨ OkC rec s i (t :: l) (stepC rec s x i t) := by
      unfold stepC
      split
      · exact .inl rfl
      · split
        · exact .inl rfl
        · split
          · exact .inl rfl
          · split
            · exact .inl rfl
            · rename_i h1 h2 h3 h4
              split
              · exact .inr ⟨0, by simp, by simp, h1, h2, by simpa using h3, by simpa using h4, rfl⟩
              · split
                · exact .inr ⟨0, by simp, by simp, h1, h2, by simpa using h3, by simpa using h4, rfl⟩
                · exact .inl rfl
    rcases fold_ok rec s l (stepC rec s x i t) (i + 1) with h | ⟨j, hj, h⟩
    · rw [h]; exact hst
    · refine .inr ⟨j + 1, by simpa using hj, ?_, h.2⟩
      rw [h.1]; omega
theorem best_ok (ts : List (Nat × Int)) (s : Nat) (hs : s < 4096) (ha : ¬ aloneB s = true) (hb : ¬ (bestS ts s).1 < 0) : OkC (bestS ts) s 0 ts (bestS ts s) := by
  have h := bestS_eq ts s hs
  rw [if_neg ha] at h
  rcases fold_ok (bestS ts) s ts (-1, -1) 0 with h1 | h1
  · rw [h, h1] at hb; exact absurd (by decide) hb
  · rw [← h] at h1; exact h1
/-! ### The tests that find a leak -/
def nextS (h : Hnt) (leak s : Nat) : Nat :=
  match (setsOf h)[(bestS (setsOf h) s).2.toNat]? with
  | some t => if t.1.testBit leak then s &&& t.1 else restN s t.1
  | none => s
def findL (h : Hnt) (leak : Nat) : Nat → Nat → List Try' × Int
  | 0, _ => ([], 0)
  | f + 1, s => if aloneB s = true then ([], 0) else
    match (setsOf h)[(bestS (setsOf h) s).2.toNat]? with
    | some t => (⟨(bestS (setsOf h) s).2, t.1.testBit leak⟩ :: (findL h leak f (if t.1.testBit leak then s &&& t.1 else restN s t.1)).1, t.2 + (findL h leak f (if t.1.testBit leak then s &&& t.1 else restN s t.1)).2)
    | none => ([], 0)
/-- tests, cost, error. -/
def findT (h : Hnt) (leak : Int) : List Try' × Int × Int :=
  if huntE h = 0 then
    if fromB leak 0 (h.suspects - 1) = true then
      if (bestS (setsOf h) (2 ^ h.suspects.toNat - 1)).1 < 0 then ([], 0, 15) else ((findL h leak.toNat (2 ^ h.suspects.toNat) (2 ^ h.suspects.toNat - 1)).1, (findL h leak.toNat (2 ^ h.suspects.toNat) (2 ^ h.suspects.toNat - 1)).2, 0)
    else ([], 0, 7)
  else ([], 0, huntE h)
/-! Enough fuel -/
theorem find_step {h : Hnt} {leak s : Nat} (hs : s < 4096) (ha : ¬ aloneB s = true) (hb : ¬ (bestS (setsOf h) s).1 < 0) :
    ∃ j, ∃ hj : j < (setsOf h).length, (bestS (setsOf h) s).2 = (j : Int) ∧ (bestS (setsOf h) s).2.toNat = j ∧ (setsOf h)[(bestS (setsOf h) s).2.toNat]? = some (setsOf h)[j] ∧
      (if (setsOf h)[j].1.testBit leak then s &&& (setsOf h)[j].1 else restN s (setsOf h)[j].1) < s ∧ (if (setsOf h)[j].1.testBit leak then s &&& (setsOf h)[j].1 else restN s (setsOf h)[j].1) ≠ 0 ∧ ¬ (bestS (setsOf h) (if (setsOf h)[j].1.testBit leak then s &&& (setsOf h)[j].1 else restN s (setsOf h)[j].1)).1 < 0 := by
  obtain ⟨j, hj, e1, e2, e3, e4, e5, e6⟩ := best_ok (setsOf h) s hs ha hb
  have ej : (bestS (setsOf h) s).2.toNat = j := by rw [e1]; omega
  refine ⟨j, hj, by rw [e1]; omega, ej, by rw [ej]; exact List.getElem?_eq_getElem hj, ?_⟩
  split
  · exact ⟨in_lt s _ hs e3, e2, by omega⟩
  · exact ⟨rest_lt s _ hs e2, e3, by omega⟩
theorem find_fuel (h : Hnt) (leak : Nat) : ∀ (s f g : Nat), s < 4096 → s < f → s < g → ¬ (bestS (setsOf h) s).1 < 0 → findL h leak f s = findL h leak g s := by
  intro s
  induction s using Nat.strongRecOn with
  | ind s ih =>
  intro f g h1 h2 h3 hb
  obtain ⟨f, rfl⟩ : ∃ k, f = k + 1 := ⟨f - 1, by omega⟩
  obtain ⟨g, rfl⟩ : ∃ k, g = k + 1 := ⟨g - 1, by omega⟩
  simp only [findL]
  by_cases ha : aloneB s = true
  · rw [if_pos ha, if_pos ha]
  · rw [if_neg ha, if_neg ha]
    obtain ⟨j, hj, e1, e2, e3, e4, e5, e6⟩ := find_step (leak := leak) h1 ha hb
    rw [e3]
    simp only
    rw [ih _ e4 f g (by omega) (by omega) (by omega) e6]
/-! Bits, as the programs look at them -/
theorem bit_u (o k : Nat) (h : o < 4096) (hk : k < 12) : decide (wrapF .u64 ((Nat.land (ib .u64 (Int.fdiv (o : Int) (Nat.pow 2 (min (k : Int).toNat (kbits .u64)) : Nat))) (ib .u64 1) : Nat) : Int) = 1) = o.testBit k := by
  have hkb : min ((k : Int).toNat) (kbits .u64) = k := by rw [Int.toNat_natCast]; exact Nat.min_eq_left (by show k ≤ 64; omega)
  rw [hkb, show Nat.pow 2 k = 2 ^ k from rfl]
  have h1 : Int.fdiv (o : Int) ((2 ^ k : Nat) : Int) = ((o / 2 ^ k : Nat) : Int) := (Int.ofNat_fdiv ..).symm
  have h2 : o / 2 ^ k < 4096 := Nat.lt_of_le_of_lt (Nat.div_le_self ..) h
  rw [h1, Nat.testBit_eq_decide_div_mod_eq]
  generalize o / 2 ^ k = q at *
  rw [ib_u q h2]
  have h3 : Nat.land q (ib .u64 1) = q % 2 := Nat.and_one_is_mod q
  rw [h3, wr_u (q % 2) (by omega)]
  have h4 : (((q % 2 : Nat) : Int) = 1) = (q % 2 = 1) := propext (by omega)
  simp only [h4]
theorem bit_i (o k : Nat) (h : o < 4096) (hk : k < 12) : decide (wrapF .i64 ((Nat.land (ib .i64 (Int.fdiv (o : Int) (Nat.pow 2 (min (k : Int).toNat (kbits .i64)) : Nat))) (ib .i64 1) : Nat) : Int) = 1) = o.testBit k := by
  have hkb : min ((k : Int).toNat) (kbits .i64) = k := by rw [Int.toNat_natCast]; exact Nat.min_eq_left (by show k ≤ 64; omega)
  rw [hkb, show Nat.pow 2 k = 2 ^ k from rfl]
  have h1 : Int.fdiv (o : Int) ((2 ^ k : Nat) : Int) = ((o / 2 ^ k : Nat) : Int) := (Int.ofNat_fdiv ..).symm
  have h2 : o / 2 ^ k < 4096 := Nat.lt_of_le_of_lt (Nat.div_le_self ..) h
  rw [h1, Nat.testBit_eq_decide_div_mod_eq]
  generalize o / 2 ^ k = q at *
  rw [ib_i q h2]
  have h3 : Nat.land q (ib .i64 1) = q % 2 := Nat.and_one_is_mod q
  rw [h3, wr_i (q % 2) (by omega)]
  have h4 : (((q % 2 : Nat) : Int) = 1) = (q % 2 = 1) := propext (by omega)
  simp only [h4]
def posB (x : Int) : Bool := match x with | .ofNat k => Nat.ble 1 k | .negSucc _ => false
theorem posB_spec {x : Int} (h : posB x = true) : 1 ≤ x := by
  cases x with
  | ofNat k =>
    have := Nat.le_of_ble_eq_true h
    show 1 ≤ ((k : Nat) : Int)
    omega
  | negSucc k => cases h
noncomputable def onePos (m : Nat) : Bool := posB (onesN m)
theorem onePos_all : allOk onePos 4095 = true := by kernel_rfl
theorem gt_one (x : Int) (p : Prop) (h : 1 ≤ x) (hp : x = 1 ↔ p) : 1 < x ↔ ¬ p := by
  rw [← hp]; omega
theorem ones_gt {m : Nat} (h1 : 1 ≤ m) (h2 : m < 4096) : 1 < onesN m ↔ ¬ aloneB m = true :=
  gt_one _ _ (posB_spec (x := onesN m) (allOk_spec onePos 4095 onePos_all m h1 (Nat.le_of_lt_succ h2))) (ones_alone h1 h2)
theorem bitU12 (n : Int) (h1 : 0 ≤ n) (h2 : n ≤ 12) : wrapF .u64 (1 * ((Nat.pow 2 (min n.toNat (kbits .u64)) : Nat) : Int)) = ((2 ^ n.toNat : Nat) : Int) := by
  obtain ⟨k, rfl⟩ : ∃ k : Nat, n = k := ⟨n.toNat, by omega⟩
  have : k ≤ 12 := by omega
  have h : ∀ k : Fin 13, wrapF .u64 (1 * ((Nat.pow 2 (min (k.val : Int).toNat (kbits .u64)) : Nat) : Int)) = ((2 ^ (k.val : Int).toNat : Nat) : Int) := by decide
  exact h ⟨k, by omega⟩
end Go.Proofs.Ytgnpnfkncbnjnaa
namespace Go.Proofs.Ytgnpnfkncbnjnaa
open Go Go.Am
attribute [local congr] tr_congr does_congr all_congr
theorem desc98 : cfg.desc 98 = some (.slice 105) := by kernel_rfl
@[go_sem] def f3V (x : List Try' × Int × Int) : AV := .tuple [.lst (x.1.map tryV), .int .i64 x.2.1, .int .i64 x.2.2]
theorem find_call (h : Hnt) (leak : Int) (K : Nat) (s : St) (hK : 6000 < K) (ho : h.Ok K) :
    acall cfg (K + 10) 56 [hntV h, .int .i64 leak] s = .ret (f3V (findT h leak), s) := by
  refine call1 mget56 fget56 (by first | rfl | simp -implicitDefEqProofs only [redoH, redo1, go_sem, Int.reduceEq, Int.reduceNeg, Nat.reduceEqDiff, Nat.reduceLT, Nat.reduceAdd, Nat.reduceSub, Nat.reduceMul, Int.reduceLE, Int.reduceLT, Int.reduceToNat, Int.toNat_natCast, Nat.reduceLeDiff, Bool.not_true, Bool.not_false]) (by first | rfl | simp -implicitDefEqProofs only [redoH, redo1, go_sem, Int.reduceEq, Int.reduceNeg, Nat.reduceEqDiff, Nat.reduceLT, Nat.reduceAdd, Nat.reduceSub, Nat.reduceMul, Int.reduceLE, Int.reduceLT, Int.reduceToNat, Int.toNat_natCast, Nat.reduceLeDiff, Bool.not_true, Bool.not_false]) (by first | rfl | simp -implicitDefEqProofs only [redoH, redo1, go_sem, Int.reduceEq, Int.reduceNeg, Nat.reduceEqDiff, Nat.reduceLT, Nat.reduceAdd, Nat.reduceSub, Nat.reduceMul, Int.reduceLE, Int.reduceLT, Int.reduceToNat, Int.toNat_natCast, Nat.reduceLeDiff, Bool.not_true, Bool.not_false]) ?_
  refine body_does rfl fun T hT' hA => ?_
  have a0 := hA 0 _ rfl
  have a1 := hA 1 _ rfl
  have hT : T.length = 87 := hT'
  clear hA hT'
  have ho' : ∀ d, h.Ok (K + d) := fun d => ⟨ho.1, fun t ht => ⟨by have := (ho.2 t ht).1; omega, (ho.2 t ht).2⟩⟩
  have hc1 := fun s => checkHunt_call h (K + 6) s (by omega) (ho' 6)
  simp only [hntV] at hc1
  unfold findT
  by_cases c1 : huntE h = 0
  · obtain ⟨hs1, hs2, hlen, htr⟩ := hunt_ok c1
    rw [if_pos c1]
    have hw0 : wrapF .i64 (h.suspects - 1) = h.suspects - 1 := wrap_i64 (by omega) (by omega)
    have hc2 := fun s => from_call leak 0 (h.suspects - 1) (K + 8) s
    simp -implicitDefEqProofs only [go_sem, Int.reduceEq, Int.reduceNeg, Nat.reduceEqDiff, Nat.reduceLT, Nat.reduceAdd, Nat.reduceSub, Nat.reduceMul, Int.reduceLE, Int.reduceLT, Int.reduceToNat, Int.toNat_natCast, Nat.reduceLeDiff, Bool.not_true, Bool.not_false, a0, a1, hT, hc1, c1, hw0, hc2]
    by_cases c2 : fromB leak 0 (h.suspects - 1) = true
    · rw [if_pos c2]
      have c2' : 0 ≤ leak ∧ leak ≤ h.suspects - 1 := by unfold fromB at c2; exact of_decide_eq_true c2
      obtain ⟨lk, rfl⟩ : ∃ k : Nat, leak = k := ⟨leak.toNat, by omega⟩
      have hlk : lk < 12 := by omega
      obtain ⟨H1, d, mm, ov, e1, hu, ho1, hmm, hfr⟩ := hunting_call h c1 (K + 6) (by omega) (ho' 6) [([0], .cells [.int .i64 h.suspects, .lst (h.trials.map triV)] true 0)] 1
      simp only [hntV] at e1
      have hb := bitU12 h.suspects (by omega) hs2
      have hN : 2 ^ h.suspects.toNat ≤ 4096 := by
        have h12 : (2 : Nat) ^ h.suspects.toNat ≤ 2 ^ 12 := Nat.pow_le_pow_right (by decide) (by omega)
        exact h12
      have hN1 : 2 ≤ 2 ^ h.suspects.toNat := by
        have h12 : (2 : Nat) ^ 1 ≤ 2 ^ h.suspects.toNat := Nat.pow_le_pow_right (by decide) (by omega)
        exact h12
      generalize 2 ^ h.suspects.toNat = N at *
      have hw1 : wrapF .u64 ((N : Int) - 1) = ((N - 1 : Nat) : Int) := by rw [wrap_u64 (by omega) (by omega)]; omega
      have hs0 : 0 ≤ h.suspects := by omega
      have g0 := (hfr 0 (by omega)).trans (hget_cons_same ..)
      obtain ⟨H2, ov', e2, hu2, ho2, hfr2⟩ := hunter_best h c1 (N - 1) (by omega) (by omega) (K + 9) (by omega) H1 (1 + 2 + d) _ _ _ hu ho1
      have g0' := (hfr2 [0] (nm_ne (by omega)) (nm_ne (by omega))).trans g0
      simp only [chV] at e2
      simp -implicitDefEqProofs only [go_sem, Int.reduceEq, Int.reduceNeg, Nat.reduceEqDiff, Nat.reduceLT, Nat.reduceAdd, Nat.reduceSub, Nat.reduceMul, Int.reduceLE, Int.reduceLT, Int.reduceToNat, Int.toNat_natCast, Nat.reduceLeDiff, Bool.not_true, Bool.not_false, a0, a1, hT, c2, e1, hb, hs0, g0, hw1, e2]
      by_cases c3 : (bestS (setsOf h) (N - 1)).1 < 0
      · rw [if_pos c3]
        simp -implicitDefEqProofs only [go_sem, Int.reduceEq, Int.reduceNeg, Nat.reduceEqDiff, Nat.reduceLT, Nat.reduceAdd, Nat.reduceSub, Nat.reduceMul, Int.reduceLE, Int.reduceLT, Int.reduceToNat, Int.toNat_natCast, Nat.reduceLeDiff, Bool.not_true, Bool.not_false, a0, a1, hT, c3, Try.results56, f3V]
      · rw [if_neg c3]
        simp -implicitDefEqProofs only [go_sem, Int.reduceEq, Int.reduceNeg, Nat.reduceEqDiff, Nat.reduceLT, Nat.reduceAdd, Nat.reduceSub, Nat.reduceMul, Int.reduceLE, Int.reduceLT, Int.reduceToNat, Int.toNat_natCast, Nat.reduceLeDiff, Bool.not_true, Bool.not_false, a0, a1, hT, c3]
        obtain ⟨hbm2, es2, hb2, hm2, hme2⟩ := hu2
        have hov2 : ov' = .lst (rowS h) ∨ (ov' = .nils ∧ h.trials = []) := ho2
        simp only [does_bind]
        refine xl_does (fun k T s' => T.length = 87 ∧ nth T 1 = some (.int .i64 lk) ∧ nth T 2 = some (.ptr [0] 0) ∧ nth T 8 = some (.ptr [1] 0) ∧ ∃ (s n c : Nat) (H : Heap) (ov : AV) (done : List Try') (x : Int), nth T 9 = some (.int .u64 s) ∧ nth T 4 = some (ownV [c, 5, 0] (done.map tryV)) ∧ nth T 5 = some (.int .i64 x) ∧ k = s ∧ s' = ⟨H, n, [], false, []⟩ ∧
          1 ≤ s ∧ s < N ∧ ¬ (bestS (setsOf h) s).1 < 0 ∧ Hunter h H [1] [mm] ov ∧ (ov = .lst (rowS h) ∨ (ov = .nils ∧ h.trials = [])) ∧ hget H [0] = some (.cells [.int .i64 h.suspects, .lst (h.trials.map triV)] true 0) ∧
          (done.map tryV ≠ [] → c < n ∧ hget H [c, 5, 0] = some (.tok (done.map tryV).length 2)) ∧ findL h lk N (N - 1) = (done ++ (findL h lk N s).1, x + (findL h lk N s).2) ∧ 0 ≤ x ∧ x ≤ 1000 * done.length ∧ done.length + s ≤ N) (k := N - 1) (by omega) ?_ ?_
        · exact ⟨by simp -implicitDefEqProofs only [go_sem, Int.reduceEq, Int.reduceNeg, Nat.reduceEqDiff, Nat.reduceLT, Nat.reduceAdd, Nat.reduceSub, Nat.reduceMul, Int.reduceLE, Int.reduceLT, Int.reduceToNat, Int.toNat_natCast, Nat.reduceLeDiff, Bool.not_true, Bool.not_false, hT], by simp -implicitDefEqProofs only [go_sem, Int.reduceEq, Int.reduceNeg, Nat.reduceEqDiff, Nat.reduceLT, Nat.reduceAdd, Nat.reduceSub, Nat.reduceMul, Int.reduceLE, Int.reduceLT, Int.reduceToNat, Int.toNat_natCast, Nat.reduceLeDiff, Bool.not_true, Bool.not_false, a1], by simp -implicitDefEqProofs only [go_sem, Int.reduceEq, Int.reduceNeg, Nat.reduceEqDiff, Nat.reduceLT, Nat.reduceAdd, Nat.reduceSub, Nat.reduceMul, Int.reduceLE, Int.reduceLT, Int.reduceToNat, Int.toNat_natCast, Nat.reduceLeDiff, Bool.not_true, Bool.not_false, hT], by simp -implicitDefEqProofs only [go_sem, Int.reduceEq, Int.reduceNeg, Nat.reduceEqDiff, Nat.reduceLT, Nat.reduceAdd, Nat.reduceSub, Nat.reduceMul, Int.reduceLE, Int.reduceLT, Int.reduceToNat, Int.toNat_natCast, Nat.reduceLeDiff, Bool.not_true, Bool.not_false, hT], N - 1, _, 0, H2, ov', [], 0, by simp -implicitDefEqProofs only [go_sem, Int.reduceEq, Int.reduceNeg, Nat.reduceEqDiff, Nat.reduceLT, Nat.reduceAdd, Nat.reduceSub, Nat.reduceMul, Int.reduceLE, Int.reduceLT, Int.reduceToNat, Int.toNat_natCast, Nat.reduceLeDiff, Bool.not_true, Bool.not_false, hT], by simp -implicitDefEqProofs only [go_sem, Int.reduceEq, Int.reduceNeg, Nat.reduceEqDiff, Nat.reduceLT, Nat.reduceAdd, Nat.reduceSub, Nat.reduceMul, Int.reduceLE, Int.reduceLT, Int.reduceToNat, Int.toNat_natCast, Nat.reduceLeDiff, Bool.not_true, Bool.not_false, hT], by simp -implicitDefEqProofs only [go_sem, Int.reduceEq, Int.reduceNeg, Nat.reduceEqDiff, Nat.reduceLT, Nat.reduceAdd, Nat.reduceSub, Nat.reduceMul, Int.reduceLE, Int.reduceLT, Int.reduceToNat, Int.toNat_natCast, Nat.reduceLeDiff, Bool.not_true, Bool.not_false, hT], rfl, rfl, by omega, by omega, c3, ⟨hbm2, es2, hb2, hm2, hme2⟩, hov2, g0', fun hx => absurd rfl hx, by simp, by omega, by simp, by simp⟩
        clear a0 a1 hT e1 e2 g0' hfr2 hb2 hm2 hme2 hov2 hu ho1 g0 hfr ho2 hb hw1
        clear H1 H2 ov ov' es2
        rintro q T s' ⟨hT, a1, a2, a8, qq, n, c, H, ov, done, x, a9, a4, a5, rfl, rfl, hk1, hk2, hbs, hu, hov, g0, htk, hfl, hx0, hx1, hdl⟩
        have hc3 := fun st => ones_call q (K + 7) st
        have hgt := ones_gt hk1 (by omega)
        simp -implicitDefEqProofs only [go_sem, Int.reduceEq, Int.reduceNeg, Nat.reduceEqDiff, Nat.reduceLT, Nat.reduceAdd, Nat.reduceSub, Nat.reduceMul, Int.reduceLE, Int.reduceLT, Int.reduceToNat, Int.toNat_natCast, Nat.reduceLeDiff, Bool.not_true, Bool.not_false, a1, a2, a4, a5, a8, a9, hT, hc3]
        by_cases hon : 1 < onesN q
        · have hal := hgt.1 hon
          simp -implicitDefEqProofs only [go_sem, Int.reduceEq, Int.reduceNeg, Nat.reduceEqDiff, Nat.reduceLT, Nat.reduceAdd, Nat.reduceSub, Nat.reduceMul, Int.reduceLE, Int.reduceLT, Int.reduceToNat, Int.toNat_natCast, Nat.reduceLeDiff, Bool.not_true, Bool.not_false, a1, a2, a4, a5, a8, a9, hT, hon]
          clear hc3 hgt hon
          obtain ⟨j, hj, e1, e2, e3, e4, e5, e6⟩ := find_step (leak := lk) (by omega) hal hbs
          have hj' : j < h.trials.length := by simpa [setsOf] using hj
          have hne : h.trials ≠ [] := by intro h0; rw [h0] at hj'; simp at hj'
          obtain ⟨H1, ov1, f1, hu1, ho1, hf1⟩ := hunter_best h c1 q hk1 (by omega) (K + 9) (by omega) H n _ _ _ hu (hov.imp id .inr)
          obtain ⟨hbm, es, hb1, hm1, hme1⟩ := hu1
          obtain rfl : ov1 = .lst (rowS h) := by
            rcases ho1 with ho1 | ⟨_, ho1⟩
            · exact ho1
            · exact absurd ho1 hne
          have g0' := (hf1 [0] (nm_ne (by omega)) (nm_ne (by omega))).trans g0
          have htk1 : done.map tryV ≠ [] → c < n ∧ hget H1 [c, 5, 0] = some (.tok (done.map tryV).length 2) := fun hx => ⟨(htk hx).1, (hf1 [c, 5, 0] (by simp) (by simp)).trans (htk hx).2⟩
          have hcost : 0 ≤ (setsOf h)[j].2 ∧ (setsOf h)[j].2 ≤ 1000 := (sets_ok c1 _ (List.getElem_mem hj)).2
          have ho4 : (setsOf h)[j].1 < 4096 := (sets_ok c1 _ (List.getElem_mem hj)).1
          have hcj : h.trials[j].cost = (setsOf h)[j].2 := by simp [setsOf]
          have hel := elemAt_map (f := fun t : Nat × Int => uV t.1) (z := 1) hj rfl
          have hel2 := elemAt_map (f := triV) (z := 2) hj' rfl
          have hrow : (setsOf h).map (fun t : Nat × Int => uV t.1) = rowS h := rfl
          rw [hrow] at hel
          simp only [uV] at hel
          have hfs : findL h lk N q = (⟨(j : Int), (setsOf h)[j].1.testBit lk⟩ :: (findL h lk N (if (setsOf h)[j].1.testBit lk then q &&& (setsOf h)[j].1 else restN q (setsOf h)[j].1)).1, (setsOf h)[j].2 + (findL h lk N (if (setsOf h)[j].1.testBit lk then q &&& (setsOf h)[j].1 else restN q (setsOf h)[j].1)).2) := by
            obtain ⟨N', rfl⟩ : ∃ k, N = k + 1 := ⟨N - 1, by omega⟩
            conv => lhs; unfold findL
            rw [if_neg hal, e3]
            simp only
            rw [e1, find_fuel h lk _ N' (N' + 1) (by omega) (by omega) (by omega) e6]
          simp only [chV] at f1
          rw [e1] at f1
          generalize (setsOf h)[j] = t at *
          obtain ⟨o, co⟩ := t
          simp only at *
          have fin : ∀ (D : Delta) (s2 : Nat), s2 = (if o.testBit lk then q &&& o else restN q o) → (∀ b, b ≠ [n, 5, 0] → b ≠ [c, 5, 0] → lkD D b = none) → lkD D [n, 5, 0] = some (some (.tok (done.length + 1) 2)) →
              hget (redoH H1 D) [1] = some (.cells [.int .i64 h.suspects, .lst (h.trials.map triV), .lst (rowS h), .map [mm]] true 0) ∧ s2 < q ∧ (
          1 ≤ s2 ∧ s2 < N ∧ ¬ (bestS (setsOf h) s2).1 < 0 ∧ Hunter h (redoH H1 D) [1] [mm] (.lst (rowS h)) ∧ ((.lst (rowS h) : AV) = .lst (rowS h) ∨ ((.lst (rowS h) : AV) = .nils ∧ h.trials = [])) ∧ hget (redoH H1 D) [0] = some (.cells [.int .i64 h.suspects, .lst (h.trials.map triV)] true 0) ∧
          ((done ++ [(⟨(j : Int), o.testBit lk⟩ : Try')]).map tryV ≠ [] → n < n + 1 ∧ hget (redoH H1 D) [n, 5, 0] = some (.tok ((done ++ [(⟨(j : Int), o.testBit lk⟩ : Try')]).map tryV).length 2)) ∧ findL h lk N (N - 1) = ((done ++ [(⟨(j : Int), o.testBit lk⟩ : Try')]) ++ (findL h lk N s2).1, (x + co) + (findL h lk N s2).2) ∧ 0 ≤ x + co ∧ x + co ≤ 1000 * (done ++ [(⟨(j : Int), o.testBit lk⟩ : Try')]).length ∧ (done ++ [(⟨(j : Int), o.testBit lk⟩ : Try')]).length + s2 ≤ N) := by
            intro D s2 hs2 hD1 hD2
            have keep : ∀ b, b ≠ [n, 5, 0] → b ≠ [c, 5, 0] → hget (redoH H1 D) b = hget H1 b := fun b h1 h2 => by rw [hget_redoH, hD1 b h1 h2]; rfl
            rw [← hs2] at e4 e5 e6 hfs
            refine ⟨(keep _ (by simp) (by simp)).trans hb1, e4, by omega, by omega, e6, ⟨hbm, es, (keep _ (by simp) (by simp)).trans hb1, (keep _ (by simp) (by simp)).trans hm1, hme1⟩, .inl rfl, (keep _ (by simp) (by simp)).trans g0', ?_, ?_, by omega, by simp; omega, by simp; omega⟩
            · intro _
              refine ⟨by omega, ?_⟩
              rw [hget_redoH, hD2]
              simp
            · rw [hfl, hfs]
              simp only [List.append_assoc, List.singleton_append, Prod.mk.injEq, true_and]
              omega
          have hwx : wrapF .i64 (x + co) = x + co := wrap_i64 (by omega) (by omega)
          have hbit := bit_u o lk ho4 hlk
          rw [Int.toNat_natCast] at hbit
          have hlk0 : (0 : Int) ≤ lk := by omega
          have hand : wrapF .u64 ((Nat.land (ib .u64 (q : Int)) (ib .u64 (o : Int)) : Nat) : Int) = ((q &&& o : Nat) : Int) := by rw [ib_u q (by omega), ib_u _ ho4]; exact wr_u _ (and_4096 q _ (by omega))
          have hrest : wrapF .u64 ((Nat.land (ib .u64 (q : Int)) (Nat.xor (ib .u64 (o : Int)) (ones .u64)) : Nat) : Int) = ((restN q o : Nat) : Int) := by
            rw [ib_u q (by omega), ib_u _ ho4]
            have : Nat.land q (Nat.xor o (ones .u64)) = restN q o := rest_64 q _ (by omega)
            rw [this]; exact wr_u _ (Nat.lt_of_le_of_lt (rest_le q _) (by omega))
          simp -implicitDefEqProofs only [go_sem, Int.reduceEq, Int.reduceNeg, Nat.reduceEqDiff, Nat.reduceLT, Nat.reduceAdd, Nat.reduceSub, Nat.reduceMul, Int.reduceLE, Int.reduceLT, Int.reduceToNat, Int.toNat_natCast, Nat.reduceLeDiff, Bool.not_true, Bool.not_false, a1, a2, a4, a5, a8, a9, hT, f1, hb1, hel, hlk0, hbit]
          by_cases hrw : done.map tryV = []
          · have hdn : done = [] := List.map_eq_nil_iff.1 hrw
            subst hdn
            have hap := fun (p : Nm) => append_abs (C := cfg.at 56) (sT := 98) (b := [c, 5, 0]) (l := []) (x := tryV ⟨(j : Int), o.testBit lk⟩) (H := H1) (n := 0) (p := p) (jr := true) (j := []) (z := 2) desc98 tget105 rfl rfl rfl rfl rfl rfl (by decide) (fun hx => absurd rfl hx)
            simp only [ownV, dropTok, tokJ, tryV, List.nil_append, List.length_nil, List.map_nil] at hap a4
            simp only [does_bind]
            refine draw_machX [[], [], [], [1, 2], [3, 1, 2], [0, 4, 3, 1, 2], [], [], [7], [], [8, 7, 9], [10, 8, 7, 9], [11, 10, 8, 7, 9], [6, 12, 11, 10, 8, 7, 9], [5, 0, 4, 3, 1, 2], [13, 6, 12, 11, 10, 8, 7, 9, 14, 5, 0, 4, 3, 1, 2]] [[], [], [], [], [], [], [], [], [], [], [], [], [], [], [], []] (by kernel_rfl) rfl rfl ?_
            simp -implicitDefEqProofs only [go_sem, Int.reduceEq, Int.reduceNeg, Nat.reduceEqDiff, Nat.reduceLT, Nat.reduceAdd, Nat.reduceSub, Nat.reduceMul, Int.reduceLE, Int.reduceLT, Int.reduceToNat, Int.toNat_natCast, Nat.reduceLeDiff, Bool.not_true, Bool.not_false, a1, a2, a4, a5, a8, a9, hT, hap, g0', hel2, hcj, hwx, desc98, sameW_self]
            have hD1 : ∀ b : Nm, b ≠ [n, 5, 0] → b ≠ [c, 5, 0] → lkD [([n, 5, 0], some (Blk.tok 1 2))] b = none := fun b h1 h2 => by simp only [lkD, if_neg (Ne.symm h1)]
            have hD2 : lkD [([n, 5, 0], some (Blk.tok 1 2))] [n, 5, 0] = some (some (.tok (([] : List Try').length + 1) 2)) := by simp only [lkD, if_true]; rfl
            by_cases hbb : o.testBit lk = true
            · obtain ⟨r1, hlt, r2⟩ := fin _ (q &&& o) (by rw [if_pos hbb]) hD1 hD2
              rw [hbb] at r2
              simp -implicitDefEqProofs only [go_sem, Int.reduceEq, Int.reduceNeg, Nat.reduceEqDiff, Nat.reduceLT, Nat.reduceAdd, Nat.reduceSub, Nat.reduceMul, Int.reduceLE, Int.reduceLT, Int.reduceToNat, Int.toNat_natCast, Nat.reduceLeDiff, Bool.not_true, Bool.not_false, a1, a2, a4, a5, a8, a9, hT, hbb, r1, hel, hand]
              exact ⟨q &&& o, hlt, trivial, trivial, trivial, trivial, q &&& o, n + 1, n, _, .lst (rowS h), [] ++ [(⟨(j : Int), true⟩ : Try')], x + co, rfl, rfl, rfl, rfl, rfl, r2⟩
            · obtain ⟨r1, hlt, r2⟩ := fin _ (restN q o) (by rw [if_neg hbb]) hD1 hD2
              rw [eq_false_of_ne_true hbb] at r2
              simp -implicitDefEqProofs only [go_sem, Int.reduceEq, Int.reduceNeg, Nat.reduceEqDiff, Nat.reduceLT, Nat.reduceAdd, Nat.reduceSub, Nat.reduceMul, Int.reduceLE, Int.reduceLT, Int.reduceToNat, Int.toNat_natCast, Nat.reduceLeDiff, Bool.not_true, Bool.not_false, a1, a2, a4, a5, a8, a9, hT, hbb, r1, hel, hrest]
              exact ⟨restN q o, hlt, trivial, trivial, trivial, trivial, restN q o, n + 1, n, _, .lst (rowS h), [] ++ [(⟨(j : Int), false⟩ : Try')], x + co, rfl, rfl, rfl, rfl, rfl, r2⟩
          · obtain ⟨hcn, htk2⟩ := htk1 hrw
            have hnc : (n = c) = False := by simp; omega
            have hap := fun (p : Nm) => append_abs (C := cfg.at 56) (sT := 98) (b := [c, 5, 0]) (l := done.map tryV) (x := tryV ⟨(j : Int), o.testBit lk⟩) (H := H1) (n := 0) (p := p) (jr := true) (j := []) (z := 2) desc98 tget105 rfl rfl rfl rfl rfl rfl (by rw [List.length_map]; show (done.length + 1) * 16 ≤ _; omega) (fun _ => htk2)
            have hln : (done.map tryV).length = done.length := by simp
            generalize hrd : done.map tryV = row at *
            have o1 : ∀ b, ownV b row = .own b row := fun b => by cases row with | nil => exact absurd rfl hrw | cons a r => rfl
            have o2 : ∀ b y, ownV b (row ++ [y]) = .own b (row ++ [y]) := fun b y => by cases row <;> rfl
            have o3 : ∀ b j, tokJ row b j = (b, none) :: j := fun b j => by cases row with | nil => exact absurd rfl hrw | cons a r => rfl
            have d0 : hget (hdel H1 [c, 5, 0]) [0] = _ := (hget_hdel_ne H1 (by simp)).trans g0'
            simp only [o1, o2, o3, tryV, hln] at hap a4
            simp only [does_bind]
            refine draw_machX [[], [], [], [1, 2], [3, 1, 2], [0, 4, 3, 1, 2], [], [], [7], [], [8, 7, 9], [10, 8, 7, 9], [11, 10, 8, 7, 9], [6, 12, 11, 10, 8, 7, 9], [5, 0, 4, 3, 1, 2], [13, 6, 12, 11, 10, 8, 7, 9, 14, 5, 0, 4, 3, 1, 2]] [[], [], [], [], [], [[c, 5, 0]], [], [], [], [], [], [], [], [], [], []] (by kernel_rfl) rfl rfl ?_
            simp -implicitDefEqProofs only [go_sem, Int.reduceEq, Int.reduceNeg, Nat.reduceEqDiff, Nat.reduceLT, Nat.reduceAdd, Nat.reduceSub, Nat.reduceMul, Int.reduceLE, Int.reduceLT, Int.reduceToNat, Int.toNat_natCast, Nat.reduceLeDiff, Bool.not_true, Bool.not_false, a1, a2, a4, a5, a8, a9, hT, hap, g0', d0, hel2, hcj, hwx, desc98, hnc, sameW_self]
            have hD1 : ∀ b : Nm, b ≠ [n, 5, 0] → b ≠ [c, 5, 0] → lkD [([n, 5, 0], some (Blk.tok (done.length + 1) 2)), ([c, 5, 0], none)] b = none := fun b h1 h2 => by simp only [lkD, if_neg (Ne.symm h1), if_neg (Ne.symm h2)]
            have hD2 : lkD [([n, 5, 0], some (Blk.tok (done.length + 1) 2)), ([c, 5, 0], none)] [n, 5, 0] = some (some (.tok (done.length + 1) 2)) := by simp only [lkD, if_true]
            by_cases hbb : o.testBit lk = true
            · obtain ⟨r1, hlt, r2⟩ := fin _ (q &&& o) (by rw [if_pos hbb]) hD1 hD2
              rw [hbb] at r2
              simp -implicitDefEqProofs only [go_sem, Int.reduceEq, Int.reduceNeg, Nat.reduceEqDiff, Nat.reduceLT, Nat.reduceAdd, Nat.reduceSub, Nat.reduceMul, Int.reduceLE, Int.reduceLT, Int.reduceToNat, Int.toNat_natCast, Nat.reduceLeDiff, Bool.not_true, Bool.not_false, a1, a2, a4, a5, a8, a9, hT, hbb, r1, hel, hand]
              rw [List.length_map] at r2
              exact ⟨q &&& o, hlt, trivial, trivial, trivial, trivial, q &&& o, n + 1, n, _, .lst (rowS h), done ++ [(⟨(j : Int), true⟩ : Try')], x + co, rfl, by rw [List.map_append, hrd]; exact congrArg some (o2 _ _).symm, rfl, rfl, rfl, r2⟩
            · obtain ⟨r1, hlt, r2⟩ := fin _ (restN q o) (by rw [if_neg hbb]) hD1 hD2
              rw [eq_false_of_ne_true hbb] at r2
              simp -implicitDefEqProofs only [go_sem, Int.reduceEq, Int.reduceNeg, Nat.reduceEqDiff, Nat.reduceLT, Nat.reduceAdd, Nat.reduceSub, Nat.reduceMul, Int.reduceLE, Int.reduceLT, Int.reduceToNat, Int.toNat_natCast, Nat.reduceLeDiff, Bool.not_true, Bool.not_false, a1, a2, a4, a5, a8, a9, hT, hbb, r1, hel, hrest]
              rw [List.length_map] at r2
              exact ⟨restN q o, hlt, trivial, trivial, trivial, trivial, restN q o, n + 1, n, _, .lst (rowS h), done ++ [(⟨(j : Int), false⟩ : Try')], x + co, rfl, by rw [List.map_append, hrd]; exact congrArg some (o2 _ _).symm, rfl, rfl, rfl, r2⟩
        · have hal : aloneB q = true := by
            rcases Bool.eq_false_or_eq_true (aloneB q) with h1 | h1
            · exact h1
            · exact absurd (hgt.2 (by rw [h1]; simp)) hon
          have hfs : findL h lk N q = ([], 0) := by
            obtain ⟨N', rfl⟩ : ∃ k, N = k + 1 := ⟨N - 1, by omega⟩
            unfold findL
            rw [if_pos hal]
          rw [hfs] at hfl
          simp only [List.append_nil, Int.add_zero] at hfl
          rw [hfl]
          simp -implicitDefEqProofs only [go_sem, Int.reduceEq, Int.reduceNeg, Nat.reduceEqDiff, Nat.reduceLT, Nat.reduceAdd, Nat.reduceSub, Nat.reduceMul, Int.reduceLE, Int.reduceLT, Int.reduceToNat, Int.toNat_natCast, Nat.reduceLeDiff, Bool.not_true, Bool.not_false, a1, a2, a4, a5, a8, a9, hT, hon, Try.results56, f3V]
    · rw [if_neg c2]
      simp -implicitDefEqProofs only [go_sem, Int.reduceEq, Int.reduceNeg, Nat.reduceEqDiff, Nat.reduceLT, Nat.reduceAdd, Nat.reduceSub, Nat.reduceMul, Int.reduceLE, Int.reduceLT, Int.reduceToNat, Int.toNat_natCast, Nat.reduceLeDiff, Bool.not_true, Bool.not_false, a0, a1, hT, c2, Try.results56, f3V]
  · rw [if_neg c1]
    simp -implicitDefEqProofs only [go_sem, Int.reduceEq, Int.reduceNeg, Nat.reduceEqDiff, Nat.reduceLT, Nat.reduceAdd, Nat.reduceSub, Nat.reduceMul, Int.reduceLE, Int.reduceLT, Int.reduceToNat, Int.toNat_natCast, Nat.reduceLeDiff, Bool.not_true, Bool.not_false, a0, a1, hT, hc1, c1, Try.results56, f3V]
end Go.Proofs.Ytgnpnfkncbnjnaa
namespace Go.Proofs.Ytgnpnfkncbnjnaa
open Go Go.Am
attribute [local congr] tr_congr does_congr all_congr
theorem rfind_call (h : Hnt) (leak : Int) (K : Nat) (s : St) (hK : 6000 < K) (ho : h.Ok K) :
    acall cfg (K + 10) 57 [hntV h, .int .i64 leak] s = .ret (f3V (findT h leak), s) := by
  refine call1 mget57 fget57 (by first | rfl | simp -implicitDefEqProofs only [redoH, redo1, go_sem, Int.reduceEq, Int.reduceNeg, Nat.reduceEqDiff, Nat.reduceLT, Nat.reduceAdd, Nat.reduceSub, Nat.reduceMul, Int.reduceLE, Int.reduceLT, Int.reduceToNat, Int.toNat_natCast, Nat.reduceLeDiff, Bool.not_true, Bool.not_false]) (by first | rfl | simp -implicitDefEqProofs only [redoH, redo1, go_sem, Int.reduceEq, Int.reduceNeg, Nat.reduceEqDiff, Nat.reduceLT, Nat.reduceAdd, Nat.reduceSub, Nat.reduceMul, Int.reduceLE, Int.reduceLT, Int.reduceToNat, Int.toNat_natCast, Nat.reduceLeDiff, Bool.not_true, Bool.not_false]) (by first | rfl | simp -implicitDefEqProofs only [redoH, redo1, go_sem, Int.reduceEq, Int.reduceNeg, Nat.reduceEqDiff, Nat.reduceLT, Nat.reduceAdd, Nat.reduceSub, Nat.reduceMul, Int.reduceLE, Int.reduceLT, Int.reduceToNat, Int.toNat_natCast, Nat.reduceLeDiff, Bool.not_true, Bool.not_false]) ?_
  refine body_does rfl fun T hT' hA => ?_
  have a0 := hA 0 _ rfl
  have a1 := hA 1 _ rfl
  have hT : T.length = 81 := hT'
  clear hA hT'
  have ho' : ∀ d, h.Ok (K + d) := fun d => ⟨ho.1, fun t ht => ⟨by have := (ho.2 t ht).1; omega, (ho.2 t ht).2⟩⟩
  have hc1 := fun s => rcheckHunt_call h (K + 6) s (by omega) (ho' 6)
  simp only [hntV] at hc1
  unfold findT
  by_cases c1 : huntE h = 0
  · obtain ⟨hs1, hs2, hlen, htr⟩ := hunt_ok c1
    rw [if_pos c1]
    have hw0 : wrapF .i64 (h.suspects - 1) = h.suspects - 1 := wrap_i64 (by omega) (by omega)
    have hc2 := fun s => within_call leak 0 (h.suspects - 1) (K + 8) s
    simp -implicitDefEqProofs only [go_sem, Int.reduceEq, Int.reduceNeg, Nat.reduceEqDiff, Nat.reduceLT, Nat.reduceAdd, Nat.reduceSub, Nat.reduceMul, Int.reduceLE, Int.reduceLT, Int.reduceToNat, Int.toNat_natCast, Nat.reduceLeDiff, Bool.not_true, Bool.not_false, a0, a1, hT, hc1, c1, hw0, hc2]
    by_cases c2 : fromB leak 0 (h.suspects - 1) = true
    · rw [if_pos c2]
      have c2' : 0 ≤ leak ∧ leak ≤ h.suspects - 1 := by unfold fromB at c2; exact of_decide_eq_true c2
      obtain ⟨lk, rfl⟩ : ∃ k : Nat, leak = k := ⟨leak.toNat, by omega⟩
      have hlk : lk < 12 := by omega
      have hc3 := fun s => write_call h c1 (K + 6) s (by omega) (ho' 6)
      simp only [hntV] at hc3
      have hb := bitI h.suspects (by omega) hs2
      have hN : 2 ^ h.suspects.toNat ≤ 4096 := by
        have h12 : (2 : Nat) ^ h.suspects.toNat ≤ 2 ^ 12 := Nat.pow_le_pow_right (by decide) (by omega)
        exact h12
      have hN1 : 2 ≤ 2 ^ h.suspects.toNat := by
        have h12 : (2 : Nat) ^ 1 ≤ 2 ^ h.suspects.toNat := Nat.pow_le_pow_right (by decide) (by omega)
        exact h12
      have hNb : (2 ^ h.suspects.toNat - 1).testBit lk = true := by
        rw [Nat.testBit_two_pow_sub_one]; simp only [decide_eq_true_eq]; omega
      generalize 2 ^ h.suspects.toNat = N at *
      have hw1 : wrapF .i64 ((N : Int) - 1) = ((N - 1 : Nat) : Int) := by rw [wrap_i64 (by omega) (by omega)]; omega
      have hs0 : 0 ≤ h.suspects := by omega
      have hA := fun (m : Nat) (hm : m < N) => tableN_at N (fun k => (bestS (setsOf h) k).1) hm
      have hB := fun (m : Nat) (hm : m < N) => tableN_at N (fun k => (bestS (setsOf h) k).2) hm
      generalize (tableN N fun k => (bestS (setsOf h) k).1).map iV = AL at *
      generalize (tableN N fun k => (bestS (setsOf h) k).2).map iV = BL at *
      have hAN := hA (N - 1) (by omega)
      simp -implicitDefEqProofs only [go_sem, Int.reduceEq, Int.reduceNeg, Nat.reduceEqDiff, Nat.reduceLT, Nat.reduceAdd, Nat.reduceSub, Nat.reduceMul, Int.reduceLE, Int.reduceLT, Int.reduceToNat, Int.toNat_natCast, Nat.reduceLeDiff, Bool.not_true, Bool.not_false, a0, a1, hT, c2]
      simp only [does_bind]
      refine draw_machX [[], [0], [], [2], [3, 2], [4, 3, 2], [], [1, 0, 6], [5, 4, 3, 2, 7, 1, 0, 6]] [[], [], [], [], [], [], [], [[1, 6, 0]], []] (by kernel_rfl) rfl rfl ?_
      simp -implicitDefEqProofs only [go_sem, Int.reduceEq, Int.reduceNeg, Nat.reduceEqDiff, Nat.reduceLT, Nat.reduceAdd, Nat.reduceSub, Nat.reduceMul, Int.reduceLE, Int.reduceLT, Int.reduceToNat, Int.toNat_natCast, Nat.reduceLeDiff, Bool.not_true, Bool.not_false, a0, a1, hT, c2, hc3, hb, hs0, hw1, redoH, redo1, hAN]
      by_cases c3 : (bestS (setsOf h) (N - 1)).1 < 0
      · rw [if_pos c3]
        simp -implicitDefEqProofs only [go_sem, Int.reduceEq, Int.reduceNeg, Nat.reduceEqDiff, Nat.reduceLT, Nat.reduceAdd, Nat.reduceSub, Nat.reduceMul, Int.reduceLE, Int.reduceLT, Int.reduceToNat, Int.toNat_natCast, Nat.reduceLeDiff, Bool.not_true, Bool.not_false, a0, a1, hT, c3, redoH, redo1, Try.results57, f3V]
      · rw [if_neg c3]
        simp -implicitDefEqProofs only [go_sem, Int.reduceEq, Int.reduceNeg, Nat.reduceEqDiff, Nat.reduceLT, Nat.reduceAdd, Nat.reduceSub, Nat.reduceMul, Int.reduceLE, Int.reduceLT, Int.reduceToNat, Int.toNat_natCast, Nat.reduceLeDiff, Bool.not_true, Bool.not_false, a0, a1, hT, c3, redoH, redo1]
        simp only [does_bind]
        refine xl_does (fun k T s' => T.length = 81 ∧ nth T 1 = some (.int .i64 lk) ∧ nth T 2 = some (.ptr [0] 0) ∧ nth T 8 = some (.ptr [1, 6, 0] 0) ∧ ∃ (s n c : Nat) (H : Heap) (done : List Try') (x : Int), nth T 9 = some (.int .i64 s) ∧ nth T 10 = some (ownV [c, 5, 0] (done.map tryV)) ∧ nth T 11 = some (.int .i64 x) ∧ k = s ∧ s' = ⟨H, n, [], false, []⟩ ∧
          1 ≤ s ∧ s < N ∧ ¬ (bestS (setsOf h) s).1 < 0 ∧ s.testBit lk = true ∧ hget H [1, 6, 0] = some (.cells [.lst AL, .lst BL] true 0) ∧ hget H [0] = some (.cells [.int .i64 h.suspects, .lst (h.trials.map triV)] true 0) ∧
          (done.map tryV ≠ [] → c < n ∧ hget H [c, 5, 0] = some (.tok (done.map tryV).length 2)) ∧ findL h lk N (N - 1) = (done ++ (findL h lk N s).1, x + (findL h lk N s).2) ∧ 0 ≤ x ∧ x ≤ 1000 * done.length ∧ done.length + s ≤ N) (k := N - 1) (by omega) ?_ ?_
        · exact ⟨by simp -implicitDefEqProofs only [go_sem, Int.reduceEq, Int.reduceNeg, Nat.reduceEqDiff, Nat.reduceLT, Nat.reduceAdd, Nat.reduceSub, Nat.reduceMul, Int.reduceLE, Int.reduceLT, Int.reduceToNat, Int.toNat_natCast, Nat.reduceLeDiff, Bool.not_true, Bool.not_false, hT], by simp -implicitDefEqProofs only [go_sem, Int.reduceEq, Int.reduceNeg, Nat.reduceEqDiff, Nat.reduceLT, Nat.reduceAdd, Nat.reduceSub, Nat.reduceMul, Int.reduceLE, Int.reduceLT, Int.reduceToNat, Int.toNat_natCast, Nat.reduceLeDiff, Bool.not_true, Bool.not_false, a1], by simp -implicitDefEqProofs only [go_sem, Int.reduceEq, Int.reduceNeg, Nat.reduceEqDiff, Nat.reduceLT, Nat.reduceAdd, Nat.reduceSub, Nat.reduceMul, Int.reduceLE, Int.reduceLT, Int.reduceToNat, Int.toNat_natCast, Nat.reduceLeDiff, Bool.not_true, Bool.not_false, hT], by simp -implicitDefEqProofs only [go_sem, Int.reduceEq, Int.reduceNeg, Nat.reduceEqDiff, Nat.reduceLT, Nat.reduceAdd, Nat.reduceSub, Nat.reduceMul, Int.reduceLE, Int.reduceLT, Int.reduceToNat, Int.toNat_natCast, Nat.reduceLeDiff, Bool.not_true, Bool.not_false, hT], N - 1, _, 0, _, [], 0, by simp -implicitDefEqProofs only [go_sem, Int.reduceEq, Int.reduceNeg, Nat.reduceEqDiff, Nat.reduceLT, Nat.reduceAdd, Nat.reduceSub, Nat.reduceMul, Int.reduceLE, Int.reduceLT, Int.reduceToNat, Int.toNat_natCast, Nat.reduceLeDiff, Bool.not_true, Bool.not_false, hT], by simp -implicitDefEqProofs only [go_sem, Int.reduceEq, Int.reduceNeg, Nat.reduceEqDiff, Nat.reduceLT, Nat.reduceAdd, Nat.reduceSub, Nat.reduceMul, Int.reduceLE, Int.reduceLT, Int.reduceToNat, Int.toNat_natCast, Nat.reduceLeDiff, Bool.not_true, Bool.not_false, hT], by simp -implicitDefEqProofs only [go_sem, Int.reduceEq, Int.reduceNeg, Nat.reduceEqDiff, Nat.reduceLT, Nat.reduceAdd, Nat.reduceSub, Nat.reduceMul, Int.reduceLE, Int.reduceLT, Int.reduceToNat, Int.toNat_natCast, Nat.reduceLeDiff, Bool.not_true, Bool.not_false, hT], rfl, rfl, by omega, by omega, c3, hNb, rfl, rfl, fun hx => absurd rfl hx, by simp, by omega, by simp, by simp⟩
        clear a0 a1 hT hw1 hb hAN
        rintro q T s' ⟨hT, a1, a2, a8, qq, n, c, H, done, x, a9, a10, a11, rfl, rfl, hk1, hk2, hbs, hqb, hb1, g0, htk, hfl, hx0, hx1, hdl⟩
        have hc4 := fun st => ralone_call q (by omega) (K + 8) st
        simp -implicitDefEqProofs only [go_sem, Int.reduceEq, Int.reduceNeg, Nat.reduceEqDiff, Nat.reduceLT, Nat.reduceAdd, Nat.reduceSub, Nat.reduceMul, Int.reduceLE, Int.reduceLT, Int.reduceToNat, Int.toNat_natCast, Nat.reduceLeDiff, Bool.not_true, Bool.not_false, a1, a2, a8, a9, a10, a11, hT, hc4]
        by_cases hal : aloneB q = true
        · have hfs : findL h lk N q = ([], 0) := by
            obtain ⟨N', rfl⟩ : ∃ k, N = k + 1 := ⟨N - 1, by omega⟩
            unfold findL
            rw [if_pos hal]
          rw [hfs] at hfl
          simp only [List.append_nil, Int.add_zero] at hfl
          rw [hfl]
          simp -implicitDefEqProofs only [go_sem, Int.reduceEq, Int.reduceNeg, Nat.reduceEqDiff, Nat.reduceLT, Nat.reduceAdd, Nat.reduceSub, Nat.reduceMul, Int.reduceLE, Int.reduceLT, Int.reduceToNat, Int.toNat_natCast, Nat.reduceLeDiff, Bool.not_true, Bool.not_false, a1, a2, a8, a9, a10, a11, hT, hal, Try.results57, f3V]
        · have hBq := hB q hk2
          have hall := eq_false_of_ne_true hal
          simp -implicitDefEqProofs only [go_sem, Int.reduceEq, Int.reduceNeg, Nat.reduceEqDiff, Nat.reduceLT, Nat.reduceAdd, Nat.reduceSub, Nat.reduceMul, Int.reduceLE, Int.reduceLT, Int.reduceToNat, Int.toNat_natCast, Nat.reduceLeDiff, Bool.not_true, Bool.not_false, a1, a2, a8, a9, a10, a11, hT, hall]
          clear hc4
          obtain ⟨j, hj, e1, e2, e3, e4, e5, e6⟩ := find_step (leak := lk) (by omega) hal hbs
          have hj' : j < h.trials.length := by simpa [setsOf] using hj
          have hcost : 0 ≤ (setsOf h)[j].2 ∧ (setsOf h)[j].2 ≤ 1000 := (sets_ok c1 _ (List.getElem_mem hj)).2
          have ho4 : (setsOf h)[j].1 < 4096 := (sets_ok c1 _ (List.getElem_mem hj)).1
          have hcj : h.trials[j].cost = (setsOf h)[j].2 := by simp [setsOf]
          have hoj : setN 0 h.trials[j].of = (setsOf h)[j].1 := by simp [setsOf]
          have hel2 := elemAt_map (f := triV) (z := 2) hj' rfl
          have hsc := fun s => set_call h.trials[j].of (K + 8) s (by have := (ho.2 _ (List.getElem_mem hj')).1; omega) (ho.2 _ (List.getElem_mem hj')).2 (fun n hn => by
            have := susp_in h.suspects h.trials[j].of (-1) (htr _ (List.getElem_mem hj')).1 n hn
            omega)
          rw [hoj] at hsc
          rw [e1] at hBq
          have hfs : findL h lk N q = (⟨(j : Int), (setsOf h)[j].1.testBit lk⟩ :: (findL h lk N (if (setsOf h)[j].1.testBit lk then q &&& (setsOf h)[j].1 else restN q (setsOf h)[j].1)).1, (setsOf h)[j].2 + (findL h lk N (if (setsOf h)[j].1.testBit lk then q &&& (setsOf h)[j].1 else restN q (setsOf h)[j].1)).2) := by
            obtain ⟨N', rfl⟩ : ∃ k, N = k + 1 := ⟨N - 1, by omega⟩
            conv => lhs; unfold findL
            rw [if_neg hal, e3]
            simp only
            rw [e1, find_fuel h lk _ N' (N' + 1) (by omega) (by omega) (by omega) e6]
          generalize (setsOf h)[j] = t at *
          obtain ⟨o, co⟩ := t
          simp only at *
          have fin : ∀ (D : Delta) (s2 : Nat), s2 = (if o.testBit lk then q &&& o else restN q o) → (∀ b, b ≠ [n, 5, 0] → b ≠ [c, 5, 0] → lkD D b = none) → lkD D [n, 5, 0] = some (some (.tok (done.length + 1) 2)) →
              s2 < q ∧ (
          1 ≤ s2 ∧ s2 < N ∧ ¬ (bestS (setsOf h) s2).1 < 0 ∧ s2.testBit lk = true ∧ hget (redoH H D) [1, 6, 0] = some (.cells [.lst AL, .lst BL] true 0) ∧ hget (redoH H D) [0] = some (.cells [.int .i64 h.suspects, .lst (h.trials.map triV)] true 0) ∧
          ((done ++ [(⟨(j : Int), o.testBit lk⟩ : Try')]).map tryV ≠ [] → n < n + 1 ∧ hget (redoH H D) [n, 5, 0] = some (.tok ((done ++ [(⟨(j : Int), o.testBit lk⟩ : Try')]).map tryV).length 2)) ∧ findL h lk N (N - 1) = ((done ++ [(⟨(j : Int), o.testBit lk⟩ : Try')]) ++ (findL h lk N s2).1, (x + co) + (findL h lk N s2).2) ∧ 0 ≤ x + co ∧ x + co ≤ 1000 * (done ++ [(⟨(j : Int), o.testBit lk⟩ : Try')]).length ∧ (done ++ [(⟨(j : Int), o.testBit lk⟩ : Try')]).length + s2 ≤ N) := by
            intro D s2 hs2 hD1 hD2
            have keep : ∀ b, b ≠ [n, 5, 0] → b ≠ [c, 5, 0] → hget (redoH H D) b = hget H b := fun b h1 h2 => by rw [hget_redoH, hD1 b h1 h2]; rfl
            rw [← hs2] at e4 e5 e6 hfs
            refine ⟨e4, by omega, by omega, e6, ?_, (keep _ (by simp) (by simp)).trans hb1, (keep _ (by simp) (by simp)).trans g0, ?_, ?_, by omega, by simp; omega, by simp; omega⟩
            · rw [hs2]
              split
              · rename_i hbt; rw [Nat.testBit_and, hqb, hbt]; rfl
              · rename_i hbt; rw [rest_bit q o lk (by omega), hqb, eq_false_of_ne_true hbt]; rfl
            · intro _
              refine ⟨by omega, ?_⟩
              rw [hget_redoH, hD2]
              simp
            · rw [hfl, hfs]
              simp only [List.append_assoc, List.singleton_append, Prod.mk.injEq, true_and]
              omega
          have hwx : wrapF .i64 (x + co) = x + co := wrap_i64 (by omega) (by omega)
          have hlk0 : (0 : Int) ≤ lk := by omega
          have hqo : q &&& o < 4096 := and_4096 q o (by omega)
          have hbit := bit_i (q &&& o) lk hqo hlk
          rw [Int.toNat_natCast, Nat.testBit_and, hqb, Bool.true_and] at hbit
          have hand : wrapF .i64 ((Nat.land (ib .i64 (q : Int)) (ib .i64 (o : Int)) : Nat) : Int) = ((q &&& o : Nat) : Int) := by rw [ib_i q (by omega), ib_i _ ho4]; exact wr_i _ (and_4096 q _ (by omega))
          have hrest : wrapF .i64 ((Nat.land (ib .i64 (q : Int)) (Nat.xor (ib .i64 ((q &&& o : Nat) : Int)) (ones .i64)) : Nat) : Int) = ((restN q o : Nat) : Int) := by
            rw [ib_i q (by omega), ib_i _ hqo]
            have : Nat.land q (Nat.xor (q &&& o) (ones .i64)) = restN q o := (rest_64 q _ (by omega)).trans (rest_in q o (by omega))
            rw [this]; exact wr_i _ (Nat.lt_of_le_of_lt (rest_le q _) (by omega))
          simp -implicitDefEqProofs only [go_sem, Int.reduceEq, Int.reduceNeg, Nat.reduceEqDiff, Nat.reduceLT, Nat.reduceAdd, Nat.reduceSub, Nat.reduceMul, Int.reduceLE, Int.reduceLT, Int.reduceToNat, Int.toNat_natCast, Nat.reduceLeDiff, Bool.not_true, Bool.not_false, a1, a2, a8, a9, a10, a11, hT, hb1, g0, hBq, hel2, hsc, hand, hlk0, hbit]
          by_cases hrw : done.map tryV = []
          · have hdn : done = [] := List.map_eq_nil_iff.1 hrw
            subst hdn
            have hap := fun (p : Nm) => append_abs (C := cfg.at 57) (sT := 98) (b := [c, 5, 0]) (l := []) (x := tryV ⟨(j : Int), o.testBit lk⟩) (H := H) (n := 0) (p := p) (jr := true) (j := []) (z := 2) desc98 tget105 rfl rfl rfl rfl rfl rfl (by decide) (fun hx => absurd rfl hx)
            simp only [ownV, dropTok, tokJ, tryV, List.nil_append, List.length_nil, List.map_nil] at hap a10
            simp only [does_bind]
            refine draw_machX [[], [], [], [1, 2], [3, 1, 2], [0, 4, 3, 1, 2], [], [], [7], [], [8, 7, 9], [10, 8, 7, 9], [11, 10, 8, 7, 9], [6, 12, 11, 10, 8, 7, 9], [5, 0, 4, 3, 1, 2], [13, 6, 12, 11, 10, 8, 7, 9, 14, 5, 0, 4, 3, 1, 2]] [[], [], [], [], [], [], [], [], [], [], [], [], [], [], [], []] (by kernel_rfl) rfl rfl ?_
            simp -implicitDefEqProofs only [go_sem, Int.reduceEq, Int.reduceNeg, Nat.reduceEqDiff, Nat.reduceLT, Nat.reduceAdd, Nat.reduceSub, Nat.reduceMul, Int.reduceLE, Int.reduceLT, Int.reduceToNat, Int.toNat_natCast, Nat.reduceLeDiff, Bool.not_true, Bool.not_false, a1, a2, a8, a9, a10, a11, hT, hap, g0, hel2, hcj, hwx, desc98, sameW_self]
            have hD1 : ∀ b : Nm, b ≠ [n, 5, 0] → b ≠ [c, 5, 0] → lkD [([n, 5, 0], some (Blk.tok 1 2))] b = none := fun b h1 h2 => by simp only [lkD, if_neg (Ne.symm h1)]
            have hD2 : lkD [([n, 5, 0], some (Blk.tok 1 2))] [n, 5, 0] = some (some (.tok (([] : List Try').length + 1) 2)) := by simp only [lkD, if_true]; rfl
            by_cases hbb : o.testBit lk = true
            · obtain ⟨hlt, r2⟩ := fin _ (q &&& o) (by rw [if_pos hbb]) hD1 hD2
              rw [hbb] at r2
              simp -implicitDefEqProofs only [go_sem, Int.reduceEq, Int.reduceNeg, Nat.reduceEqDiff, Nat.reduceLT, Nat.reduceAdd, Nat.reduceSub, Nat.reduceMul, Int.reduceLE, Int.reduceLT, Int.reduceToNat, Int.toNat_natCast, Nat.reduceLeDiff, Bool.not_true, Bool.not_false, a1, a2, a8, a9, a10, a11, hT, hbb, hand]
              exact ⟨q &&& o, hlt, trivial, trivial, trivial, trivial, q &&& o, n + 1, n, _, [] ++ [(⟨(j : Int), true⟩ : Try')], x + co, rfl, rfl, rfl, rfl, rfl, r2⟩
            · obtain ⟨hlt, r2⟩ := fin _ (restN q o) (by rw [if_neg hbb]) hD1 hD2
              rw [eq_false_of_ne_true hbb] at r2
              simp -implicitDefEqProofs only [go_sem, Int.reduceEq, Int.reduceNeg, Nat.reduceEqDiff, Nat.reduceLT, Nat.reduceAdd, Nat.reduceSub, Nat.reduceMul, Int.reduceLE, Int.reduceLT, Int.reduceToNat, Int.toNat_natCast, Nat.reduceLeDiff, Bool.not_true, Bool.not_false, a1, a2, a8, a9, a10, a11, hT, hbb, hrest]
              exact ⟨restN q o, hlt, trivial, trivial, trivial, trivial, restN q o, n + 1, n, _, [] ++ [(⟨(j : Int), false⟩ : Try')], x + co, rfl, rfl, rfl, rfl, rfl, r2⟩
          · obtain ⟨hcn, htk2⟩ := htk hrw
            have hnc : (n = c) = False := by simp; omega
            have hap := fun (p : Nm) => append_abs (C := cfg.at 57) (sT := 98) (b := [c, 5, 0]) (l := done.map tryV) (x := tryV ⟨(j : Int), o.testBit lk⟩) (H := H) (n := 0) (p := p) (jr := true) (j := []) (z := 2) desc98 tget105 rfl rfl rfl rfl rfl rfl (by rw [List.length_map]; show (done.length + 1) * 16 ≤ _; omega) (fun _ => htk2)
            have hln : (done.map tryV).length = done.length := by simp
            generalize hrd : done.map tryV = row at *
            have o1 : ∀ b, ownV b row = .own b row := fun b => by cases row with | nil => exact absurd rfl hrw | cons a r => rfl
            have o2 : ∀ b y, ownV b (row ++ [y]) = .own b (row ++ [y]) := fun b y => by cases row <;> rfl
            have o3 : ∀ b j, tokJ row b j = (b, none) :: j := fun b j => by cases row with | nil => exact absurd rfl hrw | cons a r => rfl
            have d0 : hget (hdel H [c, 5, 0]) [0] = _ := (hget_hdel_ne H (by simp)).trans g0
            simp only [o1, o2, o3, tryV, hln] at hap a10
            simp only [does_bind]
            refine draw_machX [[], [], [], [1, 2], [3, 1, 2], [0, 4, 3, 1, 2], [], [], [7], [], [8, 7, 9], [10, 8, 7, 9], [11, 10, 8, 7, 9], [6, 12, 11, 10, 8, 7, 9], [5, 0, 4, 3, 1, 2], [13, 6, 12, 11, 10, 8, 7, 9, 14, 5, 0, 4, 3, 1, 2]] [[], [], [], [], [], [[c, 5, 0]], [], [], [], [], [], [], [], [], [], []] (by kernel_rfl) rfl rfl ?_
            simp -implicitDefEqProofs only [go_sem, Int.reduceEq, Int.reduceNeg, Nat.reduceEqDiff, Nat.reduceLT, Nat.reduceAdd, Nat.reduceSub, Nat.reduceMul, Int.reduceLE, Int.reduceLT, Int.reduceToNat, Int.toNat_natCast, Nat.reduceLeDiff, Bool.not_true, Bool.not_false, a1, a2, a8, a9, a10, a11, hT, hap, g0, d0, hel2, hcj, hwx, desc98, hnc, sameW_self]
            have hD1 : ∀ b : Nm, b ≠ [n, 5, 0] → b ≠ [c, 5, 0] → lkD [([n, 5, 0], some (Blk.tok (done.length + 1) 2)), ([c, 5, 0], none)] b = none := fun b h1 h2 => by simp only [lkD, if_neg (Ne.symm h1), if_neg (Ne.symm h2)]
            have hD2 : lkD [([n, 5, 0], some (Blk.tok (done.length + 1) 2)), ([c, 5, 0], none)] [n, 5, 0] = some (some (.tok (done.length + 1) 2)) := by simp only [lkD, if_true]
            by_cases hbb : o.testBit lk = true
            · obtain ⟨hlt, r2⟩ := fin _ (q &&& o) (by rw [if_pos hbb]) hD1 hD2
              rw [hbb] at r2
              simp -implicitDefEqProofs only [go_sem, Int.reduceEq, Int.reduceNeg, Nat.reduceEqDiff, Nat.reduceLT, Nat.reduceAdd, Nat.reduceSub, Nat.reduceMul, Int.reduceLE, Int.reduceLT, Int.reduceToNat, Int.toNat_natCast, Nat.reduceLeDiff, Bool.not_true, Bool.not_false, a1, a2, a8, a9, a10, a11, hT, hbb, hand]
              rw [List.length_map] at r2
              exact ⟨q &&& o, hlt, trivial, trivial, trivial, trivial, q &&& o, n + 1, n, _, done ++ [(⟨(j : Int), true⟩ : Try')], x + co, rfl, by rw [List.map_append, hrd]; exact congrArg some (o2 _ _).symm, rfl, rfl, rfl, r2⟩
            · obtain ⟨hlt, r2⟩ := fin _ (restN q o) (by rw [if_neg hbb]) hD1 hD2
              rw [eq_false_of_ne_true hbb] at r2
              simp -implicitDefEqProofs only [go_sem, Int.reduceEq, Int.reduceNeg, Nat.reduceEqDiff, Nat.reduceLT, Nat.reduceAdd, Nat.reduceSub, Nat.reduceMul, Int.reduceLE, Int.reduceLT, Int.reduceToNat, Int.toNat_natCast, Nat.reduceLeDiff, Bool.not_true, Bool.not_false, a1, a2, a8, a9, a10, a11, hT, hbb, hrest]
              rw [List.length_map] at r2
              exact ⟨restN q o, hlt, trivial, trivial, trivial, trivial, restN q o, n + 1, n, _, done ++ [(⟨(j : Int), false⟩ : Try')], x + co, rfl, by rw [List.map_append, hrd]; exact congrArg some (o2 _ _).symm, rfl, rfl, rfl, r2⟩
    · rw [if_neg c2]
      simp -implicitDefEqProofs only [go_sem, Int.reduceEq, Int.reduceNeg, Nat.reduceEqDiff, Nat.reduceLT, Nat.reduceAdd, Nat.reduceSub, Nat.reduceMul, Int.reduceLE, Int.reduceLT, Int.reduceToNat, Int.toNat_natCast, Nat.reduceLeDiff, Bool.not_true, Bool.not_false, a0, a1, hT, c2, Try.results57, f3V]
  · rw [if_neg c1]
    simp -implicitDefEqProofs only [go_sem, Int.reduceEq, Int.reduceNeg, Nat.reduceEqDiff, Nat.reduceLT, Nat.reduceAdd, Nat.reduceSub, Nat.reduceMul, Int.reduceLE, Int.reduceLT, Int.reduceToNat, Int.toNat_natCast, Nat.reduceLeDiff, Bool.not_true, Bool.not_false, a0, a1, hT, hc1, c1, Try.results57, f3V]
end Go.Proofs.Ytgnpnfkncbnjnaa
