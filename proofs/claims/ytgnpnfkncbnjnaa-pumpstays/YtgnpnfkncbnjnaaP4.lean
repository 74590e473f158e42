/- The statement PumpStays holds for every input, without further conditions: a part of its proof (an abstract machine for the loaded code, its soundness, and what the functions answer in it). -/
import Derived.Test.YtgnpnfkncbnjnaaP3
import Derived.Test.YtgnpnfkncbnjnaaChecked
set_option linter.unusedSimpArgs false
set_option linter.unusedVariables false
set_option maxHeartbeats 4000000
set_option maxRecDepth 100000
namespace Go.Proofs.Ytgnpnfkncbnjnaa
attribute [local go_sem_proc] Int.reduceEq Int.reduceNeg Nat.reduceEqDiff Nat.reduceLT Nat.reduceAdd Nat.reduceSub Nat.reduceMul Int.reduceLE Int.reduceLT Int.reduceToNat Nat.reduceLeDiff
attribute [local go_sem] Int.toNat_natCast Bool.not_true Bool.not_false
open Go Go.Am
attribute [local congr] Zf Z9 Zc
attribute [local go_sem] Go.Am.frozen Go.Am.freezeG Go.Am.freezeGs Go.Am.minmax
structure GasG (v : Vac) (g : Gs) : Prop where
 fl : g.free.length = v.vessels.length
 bl : g.bound.length = v.vessels.length
 rl : g.room.length = v.getters.length
 f : ∀ r ∈ g.free, RgG 30000 r
 b : ∀ r ∈ g.bound, RgG 60000 r
 r : ∀ r ∈ g.room, RgG 9000 r
 m : 0 <= g.most /\ g.most <= 1000000
theorem bs50 (f : FuncId) (a b : Int) (s : St) : buildSliceA (cfg.at f) true 50 1 [(0, .agg [.int .i64 a, .int .i64 b])] s = .ret (.lst [.agg [.int .i64 a, .int .i64 b]], s) := by
 simp -implicitDefEqProofs only [redoH, redo1, go_sem, Go.Am.buildSliceA]
def gasC (F B R : AV) (m : Int) (fl : Bool) : Blk := .cells [F, B, R, .int .i64 m, .bool fl] true 0
def vacC (v : Vac) : Blk := .cells [.lst (v.vessels.map vesV), .lst (v.pipes.map pipV), .lst (v.pumps.map pmpV), .lst (v.leaks.map inlV), .lst (v.getters.map gtrV)] true 0
theorem Zcr (v : Vac) (hg : VacG v) (w : Int) (u : Nat) (K : Nat) (hK : 100 < K) :
  ∃ g w', GasG v g /\ ∀ (b : Nm) (st : St), hget st.H b = some (.cells [.int .u64 w] true u) -> acall cfg (K + 10) 70 [.ptr b 0, vacV v] st = .ret (gsV g, st.put b (.cells [.int .u64 w'] true u)) := by
 have key : ∃ g w', GasG v g /\ (bodyA (cfg.at 70) (acall cfg (K + 9)) (around cfg (K + 9)) (K + 9 + 1) Try.f70 [.ptr [0] 0, vacV v] ⟨[([0], .cells [.int .u64 w] true u)], 1, [], false, []⟩).Does fun x => x.1.shut = gsV g /\ hget x.2.H [0] = some (.cells [.int .u64 w'] true u) := by
  suffices h : (bodyA (cfg.at 70) (acall cfg (K + 9)) (around cfg (K + 9)) (K + 9 + 1) Try.f70 [.ptr [0] 0, vacV v] ⟨[([0], .cells [.int .u64 w] true u)], 1, [], false, []⟩).Does fun x => ∃ g w', GasG v g /\ x.1.shut = gsV g /\ hget x.2.H [0] = some (.cells [.int .u64 w'] true u) by
   obtain ⟨x, e, v, w', h1, h2, h3⟩ := h
   exact ⟨v, w', h1, x, e, h2, h3⟩
  refine Za rfl fun T hT' hA => ?_
  have a0 := hA 0 _ rfl
  have a1 := hA 1 _ rfl
  have hT : T.length = 69 := hT'
  clear hA hT'
  have hn4 := hg.n4
  have hng := hg.ng
  have ot := fun H m jr j hd => Zcq (H := H) (m := m) (u := u) (p := []) (jr := jr) (j := j) 2 (K + 6) hd (by decide)
  have d0 : isD u [([0], .cells [.int .u64 w] true u)] := ⟨w, rfl⟩
  simp -implicitDefEqProofs (maxDischargeDepth := 9) only [go_sem, Zl, Yb, Zo, Zx, Zp, Zy, Zq, Zz, Y0, Yc, Y1, Yd, Y2, Ye, Y3, Yf, Zk, Zn, Zr, Y4, Zs, Y5, Yg, Yv, a0, a1, hT, ot, d0]
  generalize oneB w 2 = fl at *
  generalize nextW w = w1 at *
  clear ot d0
  simp only [Z5]
  refine Tr.Does.mono (Q := fun x => ∃ (T' : List AV) (m : Nat) (H : Heap) (A0 A1 : AV) (F B : List Rg) (q : Int), x = ((AExit.exit 0, T'), (⟨H, m + 4, [], false, []⟩ : St)) /\ T'.length = 69 /\ nth T' 0 = some (.ptr [0] 0) /\ nth T' 3 = some (.ptr [1] 0) /\ nth T' 4 = some (.ptr [2] 0) /\ nth T' 5 = some (.ptr [3] 0) /\ isD u H /\ hget H [1] = some (vacC v) /\ hget H [2] = some (gasC .nils .nils .nils 0 false) /\ hget H [3] = some (gasC A0 A1 .nils q fl) /\ A0.shut = .lst (F.map rgV) /\ A1.shut = .lst (B.map rgV) /\ F.length = v.vessels.length /\ B.length = v.vessels.length /\ (∀ r ∈ F, RgG 30000 r) /\ (∀ r ∈ B, RgG 60000 r) /\ 0 <= q /\ q <= 360000) ?_ ?_
  ·refine Zu (fun k T s' => T.length = 69 /\ nth T 0 = some (.ptr [0] 0) /\ nth T 3 = some (.ptr [1] 0) /\ nth T 4 = some (.ptr [2] 0) /\ nth T 5 = some (.ptr [3] 0) /\ ∃ (i m c : Nat) (H : Heap) (F B : List Rg) (q : Int), nth T 6 = some (.int .i64 i) /\ i <= v.vessels.length /\ k = v.vessels.length - i /\ s' = ⟨H, m + 4, [], false, []⟩ /\ isD u H /\ hget H [1] = some (vacC v) /\ hget H [2] = some (gasC .nils .nils .nils 0 false) /\ hget H [3] = some (gasC (ownV [c, 5, 0] (F.map rgV)) (ownV [c, 11, 0] (B.map rgV)) .nils q fl) /\ (i ≠ 0 -> c < m + 4 /\ hget H [c, 5, 0] = some (.tok i 2) /\ hget H [c, 11, 0] = some (.tok i 2)) /\ F.length = i /\ B.length = i /\ (∀ r ∈ F, RgG 30000 r) /\ (∀ r ∈ B, RgG 60000 r) /\ 0 <= q /\ q <= 90000 * i) (k := v.vessels.length) (by omega) ?_ ?_
   ·exact ⟨by simp -implicitDefEqProofs only [redoH, redo1, go_sem, hT], by simp -implicitDefEqProofs only [redoH, redo1, go_sem, a0], by simp -implicitDefEqProofs only [redoH, redo1, go_sem, hT], by simp -implicitDefEqProofs only [redoH, redo1, go_sem, hT], by simp -implicitDefEqProofs only [redoH, redo1, go_sem, hT], 0, 0, 0, _, [], [], 0, by simp -implicitDefEqProofs only [redoH, redo1, go_sem, hT] <;> rfl, by omega, rfl, rfl, ⟨_, rfl⟩, rfl, rfl, rfl, fun h => absurd rfl h, rfl, rfl, (fun _ h => by cases h), (fun _ h => by cases h), Int.le_refl _, Int.le_refl _⟩
   clear a0 a1 hT T
   rintro k T s' ⟨hT, a0, a3, a4, a5, i, m, c, H, F, B, q, a6, hi, rfl, rfl, hd, g1, g2, g3, gt, hF, hB, hF2, hB2, hq1, hq2⟩
   simp only [vacC, gasC] at g1 g2 g3
   simp -implicitDefEqProofs only [go_sem, a0, a3, a4, a5, a6, hT, g1]
   by_cases hil : (i : Int) < (v.vessels.length : Int)
   ·have p1 : ∀ m p, acall cfg (K + 9) 87 [.ptr [0] 0, .int .i64 0, .int .i64 30000] ⟨H, m, p, true, []⟩ = .ret (rgV (rangeR (dW H) 0 30000), ⟨hset H [0] (.cells [.int .u64 (nextW (nextW (dW H)))] true u), m, p, true, [([0], some (.cells [.int .u64 (nextW (nextW (dW H)))] true u))]⟩) := fun m p => Z1l (H := H) (m := m) (u := u) (p := p) (jr := true) (j := []) 0 30000 (K + 5) (by decide) (by decide) (by decide) hd
    have hr1 := Z03 (dW H) 30000 (by decide)
    generalize rangeR (dW H) 0 30000 = r1 at *
    generalize nextW (nextW (dW H)) = w2 at *
    have p2 : ∀ H' m p, isD u H' -> dW H' = w2 -> acall cfg (K + 9) 87 [.ptr [0] 0, .int .i64 0, .int .i64 60000] ⟨H', m, p, true, []⟩ = .ret (rgV (rangeR w2 0 60000), ⟨hset H' [0] (.cells [.int .u64 (nextW (nextW w2))] true u), m, p, true, [([0], some (.cells [.int .u64 (nextW (nextW w2))] true u))]⟩) := fun H' m p h1 h2 => by
     rw [<- h2]; exact Z1l (H := H') (m := m) (u := u) (p := p) (jr := true) (j := []) 0 60000 (K + 5) (by decide) (by decide) (by decide) h1
    have hr2 := Z03 w2 60000 (by decide)
    generalize rangeR w2 0 60000 = r2 at *
    generalize nextW (nextW w2) = w3 at *
    simp only [rgV] at p1 p2
    have hi' : i < v.vessels.length := by omega
    simp -implicitDefEqProofs only [go_sem, a0, a3, a4, a5, a6, hT, g1, hil]
    simp only [Z5]
    refine Tr.Does.mono (Q := fun x => ∃ (T' : List AV) (H2 : Heap), x = (T', (⟨H2, m + 5, [], false, []⟩ : St)) /\ T'.length = 69 /\ nth T' 0 = some (.ptr [0] 0) /\ nth T' 3 = some (.ptr [1] 0) /\ nth T' 4 = some (.ptr [2] 0) /\ nth T' 5 = some (.ptr [3] 0) /\ nth T' 6 = some (.int .i64 i) /\ isD u H2 /\ hget H2 [1] = some (vacC v) /\ hget H2 [2] = some (gasC .nils .nils .nils 0 false) /\ hget H2 [3] = some (gasC (ownV [m + 4, 5, 0] ((F ++ [r1]).map rgV)) (ownV [m + 4, 11, 0] ((B ++ [r2]).map rgV)) .nils q fl) /\ hget H2 [m + 4, 5, 0] = some (.tok (i + 1) 2) /\ hget H2 [m + 4, 11, 0] = some (.tok (i + 1) 2)) ?_ ?_
    ·have hap := fun (l : List AV) (r : Rg) (n : Nat) (b p : Nm) (H : Heap) (hr : (l.length + 1) * 16 <= 140737488355328) (hg : l ≠ [] -> hget H b = some (.tok l.length 2)) => X6 (C := cfg.at 70) (sT := 50) (b := b) (l := l) (x := .agg [.int .i64 r.lo, .int .i64 r.hi]) (H := H) (n := n) (p := p) (jr := true) (j := []) (z := 2) Z7i Z5a rfl rfl rfl rfl rfl rfl hr hg
     have bs := fun a b s => bs50 70 a b s
     simp only [vacC, gasC]
     by_cases i0 : i = 0
     ·subst i0
      obtain rfl : F = [] := List.length_eq_zero_iff.1 hF
      obtain rfl : B = [] := List.length_eq_zero_iff.1 hB
      have hap0 := fun (r : Rg) (n : Nat) (p : Nm) (H : Heap) => hap [] r n [] p H (by simp) (fun h => absurd rfl h)
      simp only [ownV, dropTok, tokJ, List.nil_append, List.length_nil, List.map_nil] at hap0 g3
      have gv : hget (hdel (hdel H [0]) [0]) [3] = hget H [3] := by rw [hd11 (by decide), hd11 (by decide)]
      have gv1 : hget (hdel H [0]) [3] = hget H [3] := hd11 (by decide)
      try simp only [Z5]
      refine Zd [[], [0], [], [2], [3, 2], [1, 0, 4, 3, 2], [], [6], [], [8, 5, 1, 0, 4, 3, 2], [9, 8, 5, 1, 0, 4, 3, 2], [7, 6, 10, 9, 8, 5, 1, 0, 4, 3, 2], [5, 1, 0, 4, 3, 2, 7, 6], [12, 11, 10, 9, 8, 5, 1, 0, 4, 3, 2, 7, 6], [13, 12, 11, 10, 9, 8, 5, 1, 0, 4, 3, 2, 7, 6], [14, 13, 12, 11, 10, 9, 8, 5, 1, 0, 4, 3, 2, 7, 6]] [[], [], [], [[0]], [], [], [], [], [], [[0]], [], [], [], [[3]], [], [[3]]] (by kernel_rfl) rfl rfl ?_
      simp -implicitDefEqProofs (maxDischargeDepth := 9) only [go_sem, Z1, lkn, Z4, lk11, lk13, lk31, lk33, Zb, Option.getD_some, Option.getD_none, Zl, Yb, Zo, Zx, Zp, Zy, Zq, Zz, Y0, Yc, Y1, Yd, Y2, Ye, Y3, Yf, Zk, Zn, Zr, Y4, Zs, Y5, Yg, Yv, a0, a3, a4, a5, a6, hT, g3, gv, gv1, p1, p2, hd, bs, hap0 r1, hap0 r2, Ze]
      refine ⟨_, _, rfl, by simp -implicitDefEqProofs only [redoH, redo1, go_sem, hT], by simp -implicitDefEqProofs only [redoH, redo1, go_sem, a0], by simp -implicitDefEqProofs only [redoH, redo1, go_sem, a3], by simp -implicitDefEqProofs only [redoH, redo1, go_sem, a4], by simp -implicitDefEqProofs only [redoH, redo1, go_sem, a5], by simp -implicitDefEqProofs only [redoH, redo1, go_sem, a6], by simp only [Zl, Yb, Zo, Zx, Zp, Zy, Zq, Zz, Y0, Yc, Y1, Yd, Y2, Ye, Y3, Yf, Zk, Zn, Zr, Y4, Zs, Y5, Yg, Yv], ?_, ?_, ?_, ?_, ?_⟩
      ·simp (disch := omega) only [Z0, hc11, hc13, hc31, hc33, hs11, hs13, hs31, hs33, hd11, hd13, hd31, hd33, Z3, ht11, ht31, ne_eq, not_false_eq_true, Nat.succ_ne_zero, Z1, lkn, Z4, lk11, lk13, lk31, lk33, Zb, Option.getD_some, Option.getD_none, g1]
      ·simp (disch := omega) only [Z0, hc11, hc13, hc31, hc33, hs11, hs13, hs31, hs33, hd11, hd13, hd31, hd33, Z3, ht11, ht31, ne_eq, not_false_eq_true, Nat.succ_ne_zero, Z1, lkn, Z4, lk11, lk13, lk31, lk33, Zb, Option.getD_some, Option.getD_none, g2]
      ·simp (disch := omega) only [Z0, hc11, hc13, hc31, hc33, hs11, hs13, hs31, hs33, hd11, hd13, hd31, hd33, Z3, ht11, ht31, ne_eq, not_false_eq_true, Nat.succ_ne_zero, Z1, lkn, Z4, lk11, lk13, lk31, lk33, Zb, Option.getD_some, Option.getD_none] <;> rfl
      ·simp (disch := omega) only [Z0, hc11, hc13, hc31, hc33, hs11, hs13, hs31, hs33, hd11, hd13, hd31, hd33, Z3, ht11, ht31, ne_eq, not_false_eq_true, Nat.succ_ne_zero, Z1, lkn, Z4, lk11, lk13, lk31, lk33, Zb, Option.getD_some, Option.getD_none] <;> rfl
      ·simp (disch := omega) only [Z0, hc11, hc13, hc31, hc33, hs11, hs13, hs31, hs33, hd11, hd13, hd31, hd33, Z3, ht11, ht31, ne_eq, not_false_eq_true, Nat.succ_ne_zero, Z1, lkn, Z4, lk11, lk13, lk31, lk33, Zb, Option.getD_some, Option.getD_none] <;> rfl
     ·obtain ⟨hc, t1, t2⟩ := gt i0
      have n1 : F.map rgV ≠ [] := fun e => i0 (by rw [<- hF, <- List.length_map (f := rgV), e]; rfl)
      have n2 : B.map rgV ≠ [] := fun e => i0 (by rw [<- hB, <- List.length_map (f := rgV), e]; rfl)
      have hl1 : (F.map rgV).length = i := by rw [List.length_map]; exact hF
      have hl2 : (B.map rgV).length = i := by rw [List.length_map]; exact hB
      have m1 : (F ++ [r1]).map rgV = F.map rgV ++ [.agg [.int .i64 r1.lo, .int .i64 r1.hi]] := by rw [List.map_append]; rfl
      have m2 : (B ++ [r2]).map rgV = B.map rgV ++ [.agg [.int .i64 r2.lo, .int .i64 r2.hi]] := by rw [List.map_append]; rfl
      rw [m1, m2]
      generalize F.map rgV = RF at *
      generalize B.map rgV = RB at *
      have hapF := fun (n : Nat) (p : Nm) (H : Heap) (hg : hget H [c, 5, 0] = some (.tok i 2)) => hap RF r1 n [c, 5, 0] p H (by omega) (fun _ => by rw [hl1]; exact hg)
      have hapB := fun (n : Nat) (p : Nm) (H : Heap) (hg : hget H [c, 11, 0] = some (.tok i 2)) => hap RB r2 n [c, 11, 0] p H (by omega) (fun _ => by rw [hl2]; exact hg)
      have o1 : ∀ b, ownV b RF = .own b RF := fun b => by cases RF with | nil => exact absurd rfl n1 | cons a r => rfl
      have o2 : ∀ b, ownV b RB = .own b RB := fun b => by cases RB with | nil => exact absurd rfl n2 | cons a r => rfl
      have o3 : ∀ b j, tokJ RF b j = (b, none) :: j := fun b j => by cases RF with | nil => exact absurd rfl n1 | cons a r => rfl
      have o4 : ∀ b j, tokJ RB b j = (b, none) :: j := fun b j => by cases RB with | nil => exact absurd rfl n2 | cons a r => rfl
      have o5 : ∀ b H, dropTok RF b H = hdel H b := fun b H => by cases RF with | nil => exact absurd rfl n1 | cons a r => rfl
      have o6 : ∀ b H, dropTok RB b H = hdel H b := fun b H => by cases RB with | nil => exact absurd rfl n2 | cons a r => rfl
      simp only [o1, o2, o3, o4, o5, o6, Yn, hl1, hl2] at hapF hapB g3
      simp only [Yn]
      have gv0 : ∀ X : Heap, hget (hdel X [0]) [3] = hget X [3] := fun X => hd11 (by decide)
      have gv5 : ∀ X : Heap, hget (hdel X [c, 5, 0]) [3] = hget X [3] := fun X => hd31
      have nc : (m + 4 = c) = False := eq_false (by omega)
      try simp only [Z5]
      refine Zd [[], [0], [], [2], [3, 2], [1, 0, 4, 3, 2], [], [6], [], [8, 5, 1, 0, 4, 3, 2], [9, 8, 5, 1, 0, 4, 3, 2], [7, 6, 10, 9, 8, 5, 1, 0, 4, 3, 2], [5, 1, 0, 4, 3, 2, 7, 6], [12, 11, 10, 9, 8, 5, 1, 0, 4, 3, 2, 7, 6], [13, 12, 11, 10, 9, 8, 5, 1, 0, 4, 3, 2, 7, 6], [14, 13, 12, 11, 10, 9, 8, 5, 1, 0, 4, 3, 2, 7, 6]] [[], [], [], [[0]], [], [[c, 5, 0]], [], [], [], [[0]], [], [[c, 11, 0]], [], [[3]], [], [[3]]] (by kernel_rfl) rfl rfl ?_
      simp -implicitDefEqProofs (maxDischargeDepth := 9) only [go_sem, Z1, lkn, Z4, lk11, lk13, lk31, lk33, Zb, Option.getD_some, Option.getD_none, Zl, Yb, Zo, Zx, Zp, Zy, Zq, Zz, Y0, Yc, Y1, Yd, Y2, Ye, Y3, Yf, Zk, Zn, Zr, Y4, Zs, Y5, Yg, Yv, a0, a3, a4, a5, a6, hT, g3, gv0, gv5, t1, t2, p1, p2, hd, bs, hapF, hapB, nc, Ze]
      refine ⟨_, _, rfl, by simp -implicitDefEqProofs only [redoH, redo1, go_sem, hT], by simp -implicitDefEqProofs only [redoH, redo1, go_sem, a0], by simp -implicitDefEqProofs only [redoH, redo1, go_sem, a3], by simp -implicitDefEqProofs only [redoH, redo1, go_sem, a4], by simp -implicitDefEqProofs only [redoH, redo1, go_sem, a5], by simp -implicitDefEqProofs only [redoH, redo1, go_sem, a6], by simp only [Zl, Yb, Zo, Zx, Zp, Zy, Zq, Zz, Y0, Yc, Y1, Yd, Y2, Ye, Y3, Yf, Zk, Zn, Zr, Y4, Zs, Y5, Yg, Yv], ?_, ?_, ?_, ?_, ?_⟩
      ·simp (disch := omega) only [Z0, hc11, hc13, hc31, hc33, hs11, hs13, hs31, hs33, hd11, hd13, hd31, hd33, Z3, ht11, ht31, ne_eq, not_false_eq_true, Nat.succ_ne_zero, Z1, lkn, Z4, lk11, lk13, lk31, lk33, Zb, Option.getD_some, Option.getD_none, g1]
      ·simp (disch := omega) only [Z0, hc11, hc13, hc31, hc33, hs11, hs13, hs31, hs33, hd11, hd13, hd31, hd33, Z3, ht11, ht31, ne_eq, not_false_eq_true, Nat.succ_ne_zero, Z1, lkn, Z4, lk11, lk13, lk31, lk33, Zb, Option.getD_some, Option.getD_none, g2]
      ·simp (disch := omega) only [Z0, hc11, hc13, hc31, hc33, hs11, hs13, hs31, hs33, hd11, hd13, hd31, hd33, Z3, ht11, ht31, ne_eq, not_false_eq_true, Nat.succ_ne_zero, Z1, lkn, Z4, lk11, lk13, lk31, lk33, Zb, Option.getD_some, Option.getD_none] <;> rfl
      ·simp (disch := omega) only [Z0, hc11, hc13, hc31, hc33, hs11, hs13, hs31, hs33, hd11, hd13, hd31, hd33, Z3, ht11, ht31, ne_eq, not_false_eq_true, Nat.succ_ne_zero, Z1, lkn, Z4, lk11, lk13, lk31, lk33, Zb, Option.getD_some, Option.getD_none] <;> rfl
      ·simp (disch := omega) only [Z0, hc11, hc13, hc31, hc33, hs11, hs13, hs31, hs33, hd11, hd13, hd31, hd33, Z3, ht11, ht31, ne_eq, not_false_eq_true, Nat.succ_ne_zero, Z1, lkn, Z4, lk11, lk13, lk31, lk33, Zb, Option.getD_some, Option.getD_none] <;> rfl
    clear a0 a3 a4 a5 a6 hT T hd g1 g2 g3 gt H p1 p2
    rintro _ ⟨T, H, rfl, hT, a0, a3, a4, a5, a6, hd, g1, g2, g3, t1, t2⟩
    have e1 := Zj (f := rgV) (l := F ++ [r1]) (i := i) (z := 2) (by simp; omega) rfl
    have e2 := Zj (f := rgV) (l := B ++ [r2]) (i := i) (z := 2) (by simp; omega) rfl
    have x1 : (F ++ [r1])[i]'(by simp; omega) = r1 := by subst hF; simp
    have x2 : (B ++ [r2])[i]'(by simp; omega) = r2 := by subst hB; simp
    rw [x1] at e1
    rw [x2] at e2
    clear x1 x2
    have hF3 : ∀ r ∈ F ++ [r1], RgG 30000 r := by
     intro r hr
     rcases List.mem_append.1 hr with hr | hr
     ·exact hF2 r hr
     ·rw [List.mem_singleton] at hr; rw [hr]; exact hr1
    have hB3 : ∀ r ∈ B ++ [r2], RgG 60000 r := by
     intro r hr
     rcases List.mem_append.1 hr with hr | hr
     ·exact hB2 r hr
     ·rw [List.mem_singleton] at hr; rw [hr]; exact hr2
    have hF4 : (F ++ [r1]).length = i + 1 := by simp; omega
    have hB4 : (B ++ [r2]).length = i + 1 := by simp; omega
    have hq3 : 0 <= q + r1.hi + r2.hi := by have := hr1.lo; have := hr1.le; have := hr2.lo; have := hr2.le; omega
    have hq4 : q + r1.hi + r2.hi <= 90000 * ((i + 1 : Nat) : Int) := by have := hr1.hi; have := hr2.hi; omega
    have hkk : v.vessels.length - (i + 1) < v.vessels.length - i := by omega
    have hlt : m + 4 < (m + 2) + 4 := by omega
    rw [Xj, Xj] at g3
    have o1 : ∀ b, ownV b ((F ++ [r1]).map rgV) = .own b ((F ++ [r1]).map rgV) := fun b => Xj _ _ _ _
    have o2 : ∀ b, ownV b ((B ++ [r2]).map rgV) = .own b ((B ++ [r2]).map rgV) := fun b => Xj _ _ _ _
    generalize F ++ [r1] = FF at *
    generalize B ++ [r2] = BB at *
    have hw1 : wrapF .i64 (q + r1.hi) = q + r1.hi := Z8 (by have := hr1.lo; have := hr1.le; omega) (by have := hr1.hi; omega)
    have hw2 : wrapF .i64 (q + r1.hi + r2.hi) = q + r1.hi + r2.hi := Z8 (by omega) (by omega)
    have hw3 : wrapF .i64 ((i : Int) + 1) = ((i + 1 : Nat) : Int) := Z8 (by omega) (by omega)
    simp only [vacC, gasC, rgV] at g1 g2 g3 e1 e2
    simp -implicitDefEqProofs only [go_sem, a0, a3, a4, a5, a6, hT]
    try simp only [Z5]
    refine Zd [[], [0], [], [2], [], [3, 2, 4], [5, 3, 2, 4], [6, 5, 3, 2, 4], [1, 0, 7, 6, 5, 3, 2, 4], [], [9], [], [10, 9, 11], [12, 10, 9, 11], [13, 12, 10, 9, 11], [8, 1, 0, 7, 6, 5, 3, 2, 4, 14, 13, 12, 10, 9, 11], [15, 8, 1, 0, 7, 6, 5, 3, 2, 4, 14, 13, 12, 10, 9, 11], [16, 15, 8, 1, 0, 7, 6, 5, 3, 2, 4, 14, 13, 12, 10, 9, 11]] [[], [], [], [], [], [], [], [], [], [], [], [], [], [], [], [], [], [[3]]] (by kernel_rfl) rfl rfl ?_
    simp -implicitDefEqProofs only [go_sem, Z1, lkn, Z4, lk11, lk13, lk31, lk33, Zb, Option.getD_some, Option.getD_none, a0, a3, a4, a5, a6, hT, g3, e1, e2, hw1, hw2, hw3, Ze]
    refine ⟨v.vessels.length - (i + 1), hkk, trivial, trivial, trivial, trivial, trivial, i + 1, m + 2, m + 4, _, FF, BB, q + r1.hi + r2.hi, rfl, hi', rfl, rfl, ?_, ?_, ?_, ?_, fun _ => ⟨hlt, ?_, ?_⟩, hF4, hB4, hF3, hB3, hq3, hq4⟩
    all_goals clear hw1 hw2 hw3
    ·simp only [Zl, Yb, Zo, Zx, Zp, Zy, Zq, Zz, Y0, Yc, Y1, Yd, Y2, Ye, Y3, Yf, Zk, Zn, Zr, Y4, Zs, Y5, Yg, Yv, hd]
    ·simp (disch := omega) only [Z0, hc11, hc13, hc31, hc33, hs11, hs13, hs31, hs33, hd11, hd13, hd31, hd33, Z3, ht11, ht31, ne_eq, not_false_eq_true, Nat.succ_ne_zero, Z1, lkn, Z4, lk11, lk13, lk31, lk33, Zb, Option.getD_some, Option.getD_none, g1]; rfl
    ·simp (disch := omega) only [Z0, hc11, hc13, hc31, hc33, hs11, hs13, hs31, hs33, hd11, hd13, hd31, hd33, Z3, ht11, ht31, ne_eq, not_false_eq_true, Nat.succ_ne_zero, Z1, lkn, Z4, lk11, lk13, lk31, lk33, Zb, Option.getD_some, Option.getD_none, g2]; rfl
    ·rw [o1, o2]; simp (disch := omega) only [Z0, hc11, hc13, hc31, hc33, hs11, hs13, hs31, hs33, hd11, hd13, hd31, hd33, Z3, ht11, ht31, ne_eq, not_false_eq_true, Nat.succ_ne_zero, Z1, lkn, Z4, lk11, lk13, lk31, lk33, Zb, Option.getD_some, Option.getD_none]; rfl
    ·simp (disch := omega) only [Z0, hc11, hc13, hc31, hc33, hs11, hs13, hs31, hs33, hd11, hd13, hd31, hd33, Z3, ht11, ht31, ne_eq, not_false_eq_true, Nat.succ_ne_zero, Z1, lkn, Z4, lk11, lk13, lk31, lk33, Zb, Option.getD_some, Option.getD_none, t1]
    ·simp (disch := omega) only [Z0, hc11, hc13, hc31, hc33, hs11, hs13, hs31, hs33, hd11, hd13, hd31, hd33, Z3, ht11, ht31, ne_eq, not_false_eq_true, Nat.succ_ne_zero, Z1, lkn, Z4, lk11, lk13, lk31, lk33, Zb, Option.getD_some, Option.getD_none, t2]
   ·have hie : i = v.vessels.length := by omega
    subst hie
    simp -implicitDefEqProofs only [go_sem, a0, a3, a4, a5, a6, hT, g1, hil]
    exact ⟨_, m, H, _, _, F, B, q, rfl, by simp -implicitDefEqProofs only [redoH, redo1, go_sem, hT], by simp -implicitDefEqProofs only [redoH, redo1, go_sem, a0], by simp -implicitDefEqProofs only [redoH, redo1, go_sem, a3], by simp -implicitDefEqProofs only [redoH, redo1, go_sem, a4], by simp -implicitDefEqProofs only [redoH, redo1, go_sem, a5], hd, g1, g2, g3, X4 _ _, X4 _ _, hF, hB, hF2, hB2, hq1, by omega⟩
  clear a0 a1 hT T
  rintro _ ⟨T, m, H, A0, A1, F, B, q, rfl, hT, a0, a3, a4, a5, hd, g1, g2, g3, hA0, hA1, hF, hB, hF2, hB2, hq1, hq2⟩
  simp -implicitDefEqProofs only [go_sem, a0, a3, a4, a5, hT]
  simp only [Z5]
  refine Tr.Does.mono (Q := fun x => ∃ (T' : List AV) (m : Nat) (H : Heap) (A2 : AV) (R : List Rg), x = ((AExit.exit 2, T'), (⟨H, m + 4, [], false, []⟩ : St)) /\ T'.length = 69 /\ nth T' 0 = some (.ptr [0] 0) /\ nth T' 3 = some (.ptr [1] 0) /\ nth T' 4 = some (.ptr [2] 0) /\ nth T' 5 = some (.ptr [3] 0) /\ isD u H /\ hget H [2] = some (gasC .nils .nils .nils 0 false) /\ hget H [3] = some (gasC A0 A1 A2 q fl) /\ A2.shut = .lst (R.map rgV) /\ R.length = v.getters.length /\ (∀ r ∈ R, RgG 9000 r)) ?_ ?_
  ·refine Zu (fun k T s' => T.length = 69 /\ nth T 0 = some (.ptr [0] 0) /\ nth T 3 = some (.ptr [1] 0) /\ nth T 4 = some (.ptr [2] 0) /\ nth T 5 = some (.ptr [3] 0) /\ ∃ (i m c : Nat) (H : Heap) (R : List Rg), nth T 7 = some (.int .i64 i) /\ i <= v.getters.length /\ k = v.getters.length - i /\ s' = ⟨H, m + 4, [], false, []⟩ /\ isD u H /\ hget H [1] = some (vacC v) /\ hget H [2] = some (gasC .nils .nils .nils 0 false) /\ hget H [3] = some (gasC A0 A1 (ownV [c, 5, 0] (R.map rgV)) q fl) /\ (i ≠ 0 -> c < m + 4 /\ hget H [c, 5, 0] = some (.tok i 2)) /\ R.length = i /\ (∀ r ∈ R, RgG 9000 r)) (k := v.getters.length) (by omega) ?_ ?_
   ·exact ⟨by simp -implicitDefEqProofs only [redoH, redo1, go_sem, hT], by simp -implicitDefEqProofs only [redoH, redo1, go_sem, a0], by simp -implicitDefEqProofs only [redoH, redo1, go_sem, a3], by simp -implicitDefEqProofs only [redoH, redo1, go_sem, a4], by simp -implicitDefEqProofs only [redoH, redo1, go_sem, a5], 0, m, 0, H, [], by simp -implicitDefEqProofs only [redoH, redo1, go_sem, hT] <;> rfl, by omega, rfl, rfl, hd, g1, g2, g3, fun h => absurd rfl h, rfl, (fun _ h => by cases h)⟩
   clear a0 a3 a4 a5 hT T hd g1 g2 g3 m H
   rintro k T s' ⟨hT, a0, a3, a4, a5, i, m, c, H, R, a7, hi, rfl, rfl, hd, g1, g2, g3, gt, hR, hR2⟩
   simp only [vacC, gasC] at g1 g2 g3
   simp -implicitDefEqProofs only [go_sem, a0, a3, a4, a5, a7, hT, g1]
   by_cases hil : (i : Int) < (v.getters.length : Int)
   ·have p1 : ∀ m p, acall cfg (K + 9) 87 [.ptr [0] 0, .int .i64 0, .int .i64 9000] ⟨H, m, p, true, []⟩ = .ret (rgV (rangeR (dW H) 0 9000), ⟨hset H [0] (.cells [.int .u64 (nextW (nextW (dW H)))] true u), m, p, true, [([0], some (.cells [.int .u64 (nextW (nextW (dW H)))] true u))]⟩) := fun m p => Z1l (H := H) (m := m) (u := u) (p := p) (jr := true) (j := []) 0 9000 (K + 5) (by decide) (by decide) (by decide) hd
    have hr1 := Z03 (dW H) 9000 (by decide)
    generalize rangeR (dW H) 0 9000 = r1 at *
    generalize nextW (nextW (dW H)) = w2 at *
    simp only [rgV] at p1
    have hi' : i < v.getters.length := by omega
    simp -implicitDefEqProofs only [go_sem, a0, a3, a4, a5, a7, hT, g1, hil]
    simp only [Z5]
    refine Tr.Does.mono (Q := fun x => ∃ (T' : List AV) (H2 : Heap), x = (T', (⟨H2, m + 5, [], false, []⟩ : St)) /\ T'.length = 69 /\ nth T' 0 = some (.ptr [0] 0) /\ nth T' 3 = some (.ptr [1] 0) /\ nth T' 4 = some (.ptr [2] 0) /\ nth T' 5 = some (.ptr [3] 0) /\ nth T' 7 = some (.int .i64 i) /\ isD u H2 /\ hget H2 [1] = some (vacC v) /\ hget H2 [2] = some (gasC .nils .nils .nils 0 false) /\ hget H2 [3] = some (gasC A0 A1 (ownV [m + 4, 5, 0] ((R ++ [r1]).map rgV)) q fl) /\ hget H2 [m + 4, 5, 0] = some (.tok (i + 1) 2)) ?_ ?_
    ·have hap := fun (l : List AV) (r : Rg) (n : Nat) (b p : Nm) (H : Heap) (hr : (l.length + 1) * 16 <= 140737488355328) (hg : l ≠ [] -> hget H b = some (.tok l.length 2)) => X6 (C := cfg.at 70) (sT := 50) (b := b) (l := l) (x := .agg [.int .i64 r.lo, .int .i64 r.hi]) (H := H) (n := n) (p := p) (jr := true) (j := []) (z := 2) Z7i Z5a rfl rfl rfl rfl rfl rfl hr hg
     have bs := fun a b s => bs50 70 a b s
     have gv0 : ∀ X : Heap, hget (hdel X [0]) [3] = hget X [3] := fun X => hd11 (by decide)
     simp only [vacC, gasC]
     by_cases i0 : i = 0
     ·subst i0
      obtain rfl : R = [] := List.length_eq_zero_iff.1 hR
      have hap0 := fun (r : Rg) (n : Nat) (p : Nm) (H : Heap) => hap [] r n [] p H (by simp) (fun h => absurd rfl h)
      simp only [ownV, dropTok, tokJ, List.nil_append, List.length_nil, List.map_nil] at hap0 g3
      try simp only [Z5]
      refine Zd [[], [0], [], [2], [3, 2], [1, 0, 4, 3, 2], [5, 1, 0, 4, 3, 2], [6, 5, 1, 0, 4, 3, 2]] [[], [], [], [[0]], [], [], [], [[3]]] (by kernel_rfl) rfl rfl ?_
      simp -implicitDefEqProofs only [go_sem, Z1, lkn, Z4, lk11, lk13, lk31, lk33, Zb, Option.getD_some, Option.getD_none, a0, a3, a4, a5, a7, hT, g3, gv0, p1, bs, hap0 r1, Ze]
      refine ⟨_, _, rfl, by simp -implicitDefEqProofs only [redoH, redo1, go_sem, hT], by simp -implicitDefEqProofs only [redoH, redo1, go_sem, a0], by simp -implicitDefEqProofs only [redoH, redo1, go_sem, a3], by simp -implicitDefEqProofs only [redoH, redo1, go_sem, a4], by simp -implicitDefEqProofs only [redoH, redo1, go_sem, a5], by simp -implicitDefEqProofs only [redoH, redo1, go_sem, a7], by simp only [Zl, Yb, Zo, Zx, Zp, Zy, Zq, Zz, Y0, Yc, Y1, Yd, Y2, Ye, Y3, Yf, Zk, Zn, Zr, Y4, Zs, Y5, Yg, Yv], ?_, ?_, ?_, ?_⟩
      ·simp (disch := omega) only [Z0, hc11, hc13, hc31, hc33, hs11, hs13, hs31, hs33, hd11, hd13, hd31, hd33, Z3, ht11, ht31, ne_eq, not_false_eq_true, Nat.succ_ne_zero, Z1, lkn, Z4, lk11, lk13, lk31, lk33, Zb, Option.getD_some, Option.getD_none, g1]
      ·simp (disch := omega) only [Z0, hc11, hc13, hc31, hc33, hs11, hs13, hs31, hs33, hd11, hd13, hd31, hd33, Z3, ht11, ht31, ne_eq, not_false_eq_true, Nat.succ_ne_zero, Z1, lkn, Z4, lk11, lk13, lk31, lk33, Zb, Option.getD_some, Option.getD_none, g2]
      ·simp (disch := omega) only [Z0, hc11, hc13, hc31, hc33, hs11, hs13, hs31, hs33, hd11, hd13, hd31, hd33, Z3, ht11, ht31, ne_eq, not_false_eq_true, Nat.succ_ne_zero, Z1, lkn, Z4, lk11, lk13, lk31, lk33, Zb, Option.getD_some, Option.getD_none] <;> rfl
      ·simp (disch := omega) only [Z0, hc11, hc13, hc31, hc33, hs11, hs13, hs31, hs33, hd11, hd13, hd31, hd33, Z3, ht11, ht31, ne_eq, not_false_eq_true, Nat.succ_ne_zero, Z1, lkn, Z4, lk11, lk13, lk31, lk33, Zb, Option.getD_some, Option.getD_none] <;> rfl
     ·obtain ⟨hc, t1⟩ := gt i0
      have n1 : R.map rgV ≠ [] := fun e => i0 (by rw [<- hR, <- List.length_map (f := rgV), e]; rfl)
      have hl1 : (R.map rgV).length = i := by rw [List.length_map]; exact hR
      have m1 : (R ++ [r1]).map rgV = R.map rgV ++ [.agg [.int .i64 r1.lo, .int .i64 r1.hi]] := by rw [List.map_append]; rfl
      rw [m1]
      generalize R.map rgV = RF at *
      have hapF := fun (n : Nat) (p : Nm) (H : Heap) (hg : hget H [c, 5, 0] = some (.tok i 2)) => hap RF r1 n [c, 5, 0] p H (by omega) (fun _ => by rw [hl1]; exact hg)
      have o1 : ∀ b, ownV b RF = .own b RF := fun b => by cases RF with | nil => exact absurd rfl n1 | cons a r => rfl
      have o3 : ∀ b j, tokJ RF b j = (b, none) :: j := fun b j => by cases RF with | nil => exact absurd rfl n1 | cons a r => rfl
      have o5 : ∀ b H, dropTok RF b H = hdel H b := fun b H => by cases RF with | nil => exact absurd rfl n1 | cons a r => rfl
      simp only [o1, o3, o5, Yn, hl1] at hapF g3
      simp only [Yn]
      have nc : (m + 4 = c) = False := eq_false (by omega)
      try simp only [Z5]
      refine Zd [[], [0], [], [2], [3, 2], [1, 0, 4, 3, 2], [5, 1, 0, 4, 3, 2], [6, 5, 1, 0, 4, 3, 2]] [[], [], [], [[0]], [], [[c, 5, 0]], [], [[3]]] (by kernel_rfl) rfl rfl ?_
      simp -implicitDefEqProofs only [go_sem, Z1, lkn, Z4, lk11, lk13, lk31, lk33, Zb, Option.getD_some, Option.getD_none, a0, a3, a4, a5, a7, hT, g3, gv0, t1, p1, bs, hapF, nc, Ze]
      refine ⟨_, _, rfl, by simp -implicitDefEqProofs only [redoH, redo1, go_sem, hT], by simp -implicitDefEqProofs only [redoH, redo1, go_sem, a0], by simp -implicitDefEqProofs only [redoH, redo1, go_sem, a3], by simp -implicitDefEqProofs only [redoH, redo1, go_sem, a4], by simp -implicitDefEqProofs only [redoH, redo1, go_sem, a5], by simp -implicitDefEqProofs only [redoH, redo1, go_sem, a7], by simp only [Zl, Yb, Zo, Zx, Zp, Zy, Zq, Zz, Y0, Yc, Y1, Yd, Y2, Ye, Y3, Yf, Zk, Zn, Zr, Y4, Zs, Y5, Yg, Yv], ?_, ?_, ?_, ?_⟩
      ·simp (disch := omega) only [Z0, hc11, hc13, hc31, hc33, hs11, hs13, hs31, hs33, hd11, hd13, hd31, hd33, Z3, ht11, ht31, ne_eq, not_false_eq_true, Nat.succ_ne_zero, Z1, lkn, Z4, lk11, lk13, lk31, lk33, Zb, Option.getD_some, Option.getD_none, g1]
      ·simp (disch := omega) only [Z0, hc11, hc13, hc31, hc33, hs11, hs13, hs31, hs33, hd11, hd13, hd31, hd33, Z3, ht11, ht31, ne_eq, not_false_eq_true, Nat.succ_ne_zero, Z1, lkn, Z4, lk11, lk13, lk31, lk33, Zb, Option.getD_some, Option.getD_none, g2]
      ·simp (disch := omega) only [Z0, hc11, hc13, hc31, hc33, hs11, hs13, hs31, hs33, hd11, hd13, hd31, hd33, Z3, ht11, ht31, ne_eq, not_false_eq_true, Nat.succ_ne_zero, Z1, lkn, Z4, lk11, lk13, lk31, lk33, Zb, Option.getD_some, Option.getD_none] <;> rfl
      ·simp (disch := omega) only [Z0, hc11, hc13, hc31, hc33, hs11, hs13, hs31, hs33, hd11, hd13, hd31, hd33, Z3, ht11, ht31, ne_eq, not_false_eq_true, Nat.succ_ne_zero, Z1, lkn, Z4, lk11, lk13, lk31, lk33, Zb, Option.getD_some, Option.getD_none] <;> rfl
    clear a0 a3 a4 a5 a7 hT T hd g1 g2 g3 gt H p1
    rintro _ ⟨T, H, rfl, hT, a0, a3, a4, a5, a7, hd, g1, g2, g3, t1⟩
    have hR3 : ∀ r ∈ R ++ [r1], RgG 9000 r := by
     intro r hr
     rcases List.mem_append.1 hr with hr | hr
     ·exact hR2 r hr
     ·rw [List.mem_singleton] at hr; rw [hr]; exact hr1
    have hR4 : (R ++ [r1]).length = i + 1 := by simp; omega
    have hkk : v.getters.length - (i + 1) < v.getters.length - i := by omega
    have hlt : m + 4 < (m + 1) + 4 := by omega
    have hw3 : wrapF .i64 ((i : Int) + 1) = ((i + 1 : Nat) : Int) := Z8 (by omega) (by omega)
    simp -implicitDefEqProofs only [go_sem, a0, a3, a4, a5, a7, hT, hw3]
    clear hw3
    exact ⟨v.getters.length - (i + 1), hkk, trivial, trivial, trivial, trivial, trivial, i + 1, m + 1, m + 4, H, R ++ [r1], rfl, hi', rfl, rfl, hd, g1, g2, g3, fun _ => ⟨hlt, t1⟩, hR4, hR3⟩
   ·have hie : i = v.getters.length := by omega
    subst hie
    simp -implicitDefEqProofs only [go_sem, a0, a3, a4, a5, a7, hT, g1, hil]
    exact ⟨_, m, H, _, R, rfl, by simp -implicitDefEqProofs only [redoH, redo1, go_sem, hT], by simp -implicitDefEqProofs only [redoH, redo1, go_sem, a0], by simp -implicitDefEqProofs only [redoH, redo1, go_sem, a3], by simp -implicitDefEqProofs only [redoH, redo1, go_sem, a4], by simp -implicitDefEqProofs only [redoH, redo1, go_sem, a5], hd, g2, g3, X4 _ _, hR, hR2⟩
  clear a0 a3 a4 a5 hT T hd g1 g2 g3 m H
  rintro _ ⟨T, m, H, A2, R, rfl, hT, a0, a3, a4, a5, hd, g2, g3, hA2, hR, hR2⟩
  have ot := fun m jr j => Zcq (H := H) (m := m) (u := u) (p := []) (jr := jr) (j := j) 4 (K + 6) hd (by decide)
  generalize oneB (dW H) 4 = ob at *
  generalize nextW (dW H) = w2 at *
  have d1 : isD u (hset H [0] (.cells [.int .u64 w2] true u)) := Zl hd
  have q2 : hget (hset H [0] (.cells [.int .u64 w2] true u)) [2] = hget H [2] := hs11 (by decide)
  have q3 : hget (hset H [0] (.cells [.int .u64 w2] true u)) [3] = hget H [3] := hs11 (by decide)
  simp only [gasC] at g2 g3
  rw [g2] at q2
  rw [g3] at q3
  generalize hset H [0] (.cells [.int .u64 w2] true u) = H1 at *
  clear hd g2 g3
  have hsh : ∀ (q : Int), (AV.agg [A0, A1, A2, .int .i64 q, .bool fl]).shut = gsV ⟨F, B, R, q, fl⟩ := fun q => by
   simp only [AV.shut, shuts, hA0, hA1, hA2, gsV]
  cases ob with
  | false =>
   have e1 : ∀ Z, hget (hset H1 [2] Z) [2] = some Z := fun Z => hss q2
   have e0 : ∀ Z, hget (hset H1 [2] Z) [0] = hget H1 [0] := fun Z => hs11 (by decide)
   simp -implicitDefEqProofs only [go_sem, a0, a3, a4, a5, hT, ot, q2, q3, e1, e0, Try.results70]
   exact ⟨⟨F, B, R, q, fl⟩, dW H1, ⟨hF, hB, hR, hF2, hB2, hR2, hq1, by show q <= _; omega⟩, hsh q, Ja d1⟩
  | true =>
   have ut := fun m jr j => Z04 (H := H1) (m := m) (u := u) (p := []) (jr := jr) (j := j) 40000 (K + 7) d1 (by decide)
   have hur := Yk (dW H1) 40000 (by decide)
   generalize uptoN (dW H1) 40000 = q9 at *
   generalize nextW (dW H1) = w3 at *
   have d2 : isD u (hset H1 [0] (.cells [.int .u64 w3] true u)) := Zl d1
   have x2 : hget (hset H1 [0] (.cells [.int .u64 w3] true u)) [2] = hget H1 [2] := hs11 (by decide)
   have x3 : hget (hset H1 [0] (.cells [.int .u64 w3] true u)) [3] = hget H1 [3] := hs11 (by decide)
   rw [q2] at x2
   rw [q3] at x3
   generalize hset H1 [0] (.cells [.int .u64 w3] true u) = H2 at *
   have x3' : ∀ Z, hget (hset H2 [3] Z) [3] = some Z := fun Z => hss x3
   have x2' : ∀ Z, hget (hset H2 [3] Z) [2] = hget H2 [2] := fun Z => hs11 (by decide)
   have e1 : ∀ Z Y, hget (hset (hset H2 [3] Y) [2] Z) [2] = some Z := fun Z Y => hss ((hs11 (by decide)).trans x2)
   have e0 : ∀ Z Y, hget (hset (hset H2 [3] Y) [2] Z) [0] = hget H2 [0] := fun Z Y => (hs11 (by decide)).trans (hs11 (by decide))
   simp -implicitDefEqProofs only [go_sem, a0, a3, a4, a5, hT, ot, ut, x2, x3, x2', x3', e1, e0, Try.results70]
   exact ⟨⟨F, B, R, q9, fl⟩, dW H2, ⟨hF, hB, hR, hF2, hB2, hR2, hur.1, by show q9 <= _; omega⟩, hsh q9, Ja d2⟩
 obtain ⟨g, w', hg, hd⟩ := key
 refine ⟨g, w', hg, fun b st hb => ?_⟩
 exact Z2e (v := gsV g) Zj8 Zj7 hb rfl (by simp only [vacV, renV, renVs, Z0j, Z0k, Z0l, Z0m, Z0n]) rfl rfl rfl rfl (by rfl) (by simp only [gsV, renV, renVs, Z4l]) hd
end Go.Proofs.Ytgnpnfkncbnjnaa
namespace Go.Am
open Go
noncomputable def putsH : List Nm -> List Blk -> Heap -> Heap
 | b :: r, x :: q, H => putsH r q (hset H b x)
 | _, _, H => H
theorem Zcs {H : Heap} {b c : Nm} {x : Blk} (h : ∃ y, hget H c = some y) (hb : ∃ y, hget H b = some y) : ∃ y, hget (hset H b x) c = some y := by
 by_cases e : b = c
 ·subst e; obtain ⟨y, h⟩ := h; exact ⟨_, Zv _ h⟩
 ·rw [Z7 _ _ e]; exact h
theorem Z4a : ∀ (bs : List Nm) (ys : List Blk) (H : Heap) (n : Nat) (p : Nm) (j : Delta), bs.length = ys.length -> (∀ b ∈ bs, ∃ x, hget H b = some x) -> putAll bs ys ⟨H, n, p, false, j⟩ = .ret ((), ⟨putsH bs ys H, n, p, false, j⟩)
 | [], [], H, n, p, j, _, _ => rfl
 | b :: r, x :: q, H, n, p, j, hl, h => by
  obtain ⟨y, hy⟩ := h b List.mem_cons_self
  unfold putAll
  rw [Zg, Xy]
  simp only [hy, Tr.bind_ret]
  show putAll r q ⟨hset H b x, n, p, false, j⟩ = _
  rw [Z4a r q (hset H b x) n p j (by simpa using hl) (fun c hc => Zcs (h c (List.mem_cons_of_mem _ hc)) ⟨y, hy⟩)]
  rfl
 | [], _ :: _, _, _, _, _, hl, _ => by simp at hl
 | _ :: _, [], _, _, _, _, hl, _ => by simp at hl
section
variable {C : Cfg} {K : Nat}
theorem Z5i {f : FuncId} {fn : Func} {args args' : List AV} {bs : List Nm} {xs xs0 ys ys' : List Blk} {v : AV} {H : Heap} {n : Nat} {p : Nm} {j : Delta}
  (hm : C.mode.get f = some 3) (hf : C.fn.get f = some fn)
  (hl : lendM 200 (namesVs false args []) [] [] ⟨H, n, p, false, j⟩ = .ret ((bs, xs), ⟨H, n, p, false, j⟩)) (hnd : nodupN bs = true) (hcalm : calm xs = true)
  (hra : renVs (zipN bs (namesFrom [] 0 bs.length)) args = some args') (hrx : renBs (zipN bs (namesFrom [] 0 bs.length)) xs = some xs0)
  (hvn : namesV true v (namesBs true ys []) = namesBs true ys []) (hvr : ∀ mp, renV mp v = some v)
  (hmem : ∀ b ∈ namesBs true ys [], memNm b (namesFrom [] 0 bs.length) = true) (hmk : (namesBs true ys []).length < 200) (hnd2 : nodupN (namesFrom [] 0 bs.length) = true)
  (hback : renBs (zipN (namesFrom [] 0 bs.length) bs) ys = some ys') (hlen : bs.length = ys'.length) (hex : ∀ b ∈ bs, ∃ x, hget H b = some x)
  (hd : (bodyA (C.at f) (acall C K) (around C K) (K + 1) fn args' ⟨zipB (namesFrom [] 0 bs.length) xs0, bs.length, [], false, []⟩).Does fun x => x.1 = v /\ getAll x.2.H (namesFrom [] 0 bs.length) = some ys) :
  acall C (K + 1) f args ⟨H, n, p, false, j⟩ = .ret (v, ⟨putsH bs ys' H, n, p, false, j⟩) := by
 refine Z20 (bs := bs) (xs := xs) (xs0 := xs0) (ys' := ys') (zs' := []) hm hf hl hnd hcalm hra hrx ?_ (Z4a bs ys' H n p j hlen hex) rfl
 refine hd.mono ?_
 rintro ⟨v1, s1⟩ ⟨rfl, e2⟩
 simp only at e2
 refine ⟨ys, namesFrom [] 0 bs.length, [], e2, ?_, hnd2, hvr _, ?_, rfl⟩
 ·rw [hvn]; exact Z1j s1.H _ _ 200 hmem hmk
 ·have hap : bs ++ namesFrom p n ([] : List Blk).length = bs := by show bs ++ [] = bs; rw [List.append_nil]
  rw [hap]; exact hback
end
end Go.Am
namespace Go.Proofs.Ytgnpnfkncbnjnaa
open Go Go.Am
attribute [local congr] Zf Z9 Zc
attribute [local go_sem] Go.Am.frozen Go.Am.freezeG Go.Am.freezeGs Go.Am.minmax
class Emp (E : AV) : Prop where
 out : E = .nils \/ E = .lst []
instance : Emp .nils := ⟨.inl rfl⟩
instance : Emp (.lst []) := ⟨.inr rfl⟩
def rowX (E : AV) (b : Nm) : Nat -> AV
 | 0 => E
 | n + 1 => .slice b 0 (n + 1) (n + 1) false
def rgB (L : List Rg) : Blk := .cells (L.flatMap rgC) true 2
def sysB (E : AV) (v : Vac) (f b r : Nm) (g : Gs) : Blk := .cells [.lst (v.vessels.map vesV), .lst (v.pipes.map pipV), .lst (v.pumps.map pmpV), .lst (v.leaks.map inlV), .lst (v.getters.map gtrV), .slice f 0 g.free.length g.free.length false, .slice b 0 g.bound.length g.bound.length false, rowX E r g.room.length, .int .i64 g.most, .bool g.flashed] true 0
structure SysAt (E : AV) (H : Heap) (X f b r : Nm) (v : Vac) (g : Gs) : Prop where
 x : hget H X = some (sysB E v f b r g)
 f : hget H f = some (rgB g.free)
 b : hget H b = some (rgB g.bound)
 r : g.room ≠ [] -> hget H r = some (rgB g.room)
structure Apart (X f b r : Nm) : Prop where
 xf : X ≠ f
 xb : X ≠ b
 xr : X ≠ r
 fb : f ≠ b
 fr : f ≠ r
 br : b ≠ r
noncomputable def sysPut (E : AV) (X f b r : Nm) (v : Vac) (g : Gs) (H : Heap) : Heap := match g.room with
 | [] => putsH [X, f, b] [sysB E v f b r g, rgB g.free, rgB g.bound] H
 | _ :: _ => putsH [X, f, b, r] [sysB E v f b r g, rgB g.free, rgB g.bound, rgB g.room] H
variable {E : AV}
theorem Jp {H : Heap} {X f b r : Nm} {v : Vac} {g g' : Gs} (h : SysAt E H X f b r v g) (ha : Apart X f b r) (hr : g'.room.length = g.room.length) : SysAt E (sysPut E X f b r v g' H) X f b r v g' := by
 unfold sysPut
 cases hg : g'.room with
 | nil =>
  show SysAt E (hset (hset (hset H X _) f _) b _) X f b r v g'
  exact ⟨by rw [Z7 _ _ (Ne.symm ha.xb), Z7 _ _ (Ne.symm ha.xf)]; exact hss h.x, by rw [Z7 _ _ (Ne.symm ha.fb)]; exact hss ((Z7 _ _ ha.xf).trans h.f), hss ((Z7 _ _ ha.fb).trans ((Z7 _ _ ha.xb).trans h.b)), fun e => absurd hg e⟩
 | cons a l =>
  have hr2 := h.r (fun e => by rw [hg, e] at hr; simp at hr)
  show SysAt E (hset (hset (hset (hset H X _) f _) b _) r _) X f b r v g'
  exact ⟨by rw [Z7 _ _ (Ne.symm ha.xr), Z7 _ _ (Ne.symm ha.xb), Z7 _ _ (Ne.symm ha.xf)]; exact hss h.x, by rw [Z7 _ _ (Ne.symm ha.fr), Z7 _ _ (Ne.symm ha.fb)]; exact hss ((Z7 _ _ ha.xf).trans h.f), by rw [Z7 _ _ (Ne.symm ha.br)]; exact hss ((Z7 _ _ ha.fb).trans ((Z7 _ _ ha.xb).trans h.b)),
   fun _ => by rw [hg]; exact hss ((Z7 _ _ ha.br).trans ((Z7 _ _ ha.fr).trans ((Z7 _ _ ha.xr).trans hr2)))⟩
theorem Z7m (mp : List (Nm × Nm)) (L : List Rg) : renB mp (rgB L) = some (rgB L) := Jo (Xs L)
theorem Z13 [hE : Emp E] {F : FuncId} {fn : Func} {K : Nat} {X f b r : Nm} {v : Vac} {g g' : Gs} {s : Bk} {H : Heap} {n : Nat} {p : Nm} {j : Delta} (hm : cfg.mode.get F = some 3) (hf : cfg.fn.get F = some fn)
  (h : SysAt E H X f b r v g) (ha : Apart X f b r) (h1 : g.free ≠ []) (h2 : g.bound ≠ []) (hl1 : g'.free.length = g.free.length) (hl2 : g'.bound.length = g.bound.length) (hl3 : g'.room.length = g.room.length)
  (hd : ∀ H0 m, SysAt E H0 [0] [1] [2] [3] v g -> (g.room ≠ [] -> 1 <= m) -> (bodyA (cfg.at F) (acall cfg K) (around cfg K) (K + 1) fn [.ptr [0] 0, bkV s] ⟨H0, m + 3, [], false, []⟩).Does fun x => x.1 = .tuple [] /\ SysAt E x.2.H [0] [1] [2] [3] v g') :
  acall cfg (K + 1) F [.ptr X 0, bkV s] ⟨H, n, p, false, j⟩ = .ret (.tuple [], ⟨sysPut E X f b r v g' H, n, p, false, j⟩) := by
 have exf := Zi ha.xf
 have exb := Zi ha.xb
 have exr := Zi ha.xr
 have efb := Zi ha.fb
 have efr := Zi ha.fr
 have ebr := Zi ha.br
 have efx := Zi (Ne.symm ha.xf)
 have ebx := Zi (Ne.symm ha.xb)
 have erx := Zi (Ne.symm ha.xr)
 have ebf := Zi (Ne.symm ha.fb)
 have erf := Zi (Ne.symm ha.fr)
 have erb := Zi (Ne.symm ha.br)
 have nb : ∀ op L r, namesB op (rgB L) r = r := fun op L r => (Xs L).nm op r
 have hx := h.x
 unfold sysPut
 cases hg : g.room with
 | nil =>
  have hg' : g'.room = [] := List.length_eq_zero_iff.1 (by rw [hl3, hg]; rfl)
  rw [hg']
  simp only
  have hl0 : rowX E r g.room.length = E := by rw [hg]; rfl
  have hl0' : ∀ q, rowX E q g'.room.length = E := fun q => by rw [hg']; rfl
  have hn1 : namesB false (sysB E v f b r g) [] = [f, b] := by
   unfold sysB
   rw [hl0]; rcases hE.out with e | e <;> rw [e] <;> rfl
  have hn2 : namesBs true [sysB E v [1] [2] [3] g', rgB g'.free, rgB g'.bound] [] = [[1], [2]] := by
   show namesB true (sysB E v [1] [2] [3] g') (namesB true (rgB g'.free) (namesB true (rgB g'.bound) [])) = _
   rw [nb, nb]
   unfold sysB
   rw [hl0']; rcases hE.out with e | e <;> rw [e] <;> rfl
  have hx0 : ∀ mp l1 l2 : List (Nm × Nm), ∀ a c d : Nm, lookN f mp = some a -> lookN b mp = some c -> renB mp (sysB E v f b r g) = some (sysB E v a c d g) := fun mp _ _ a c d e1 e2 => by
   have hl0'' : rowX E d g.room.length = E := by rw [hg]; rfl
   unfold sysB
   rw [hl0, hl0'']
   rcases hE.out with e | e <;> rw [e] <;> simp only [renB, renVs, renV, e1, e2, Z0j, Z0k, Z0l, Z0m, Z0n, flats]
  have hx1 : ∀ mp : List (Nm × Nm), lookN [1] mp = some f -> lookN [2] mp = some b -> renB mp (sysB E v [1] [2] [3] g') = some (sysB E v f b r g') := fun mp e1 e2 => by
   unfold sysB
   rw [hl0', hl0']
   rcases hE.out with e | e <;> rw [e] <;> simp only [renB, renVs, renV, e1, e2, Z0j, Z0k, Z0l, Z0m, Z0n, flats]
  refine Z5i (bs := [X, f, b]) (xs := [sysB E v f b r g, rgB g.free, rgB g.bound]) (args' := [.ptr [0] 0, bkV s]) (xs0 := [sysB E v [1] [2] [3] g, rgB g.free, rgB g.bound]) (ys := [sysB E v [1] [2] [3] g', rgB g'.free, rgB g'.bound]) hm hf ?_ ?_ rfl ?_ ?_ rfl (fun _ => rfl) ?_ ?_ rfl ?_ rfl ?_ ?_
  ·show lendM (199 + 1) [X] [] [] _ = _
   rw [X8 199 rfl hx, hn1]
   show lendM (198 + 1) [f, b] [X] [_] _ = _
   rw [X8 198 (by simp only [memNm, efx]) h.f, nb]
   show lendM (197 + 1) [b] [X, f] [_, _] _ = _
   rw [X8 197 (by simp only [memNm, ebx, ebf]) h.b, nb]
   exact Yr 196 _ _ _
  ·simp only [nodupN, memNm, exf, exb, efb]
  ·show renVs [(X, [0]), (f, [1]), (b, [2])] _ = _
   simp only [renVs, renV, bkV, lookN, Zh, fl_i]
  ·show renBs [(X, [0]), (f, [1]), (b, [2])] _ = _
   simp only [renBs, Z7m, hx0 [(X, [0]), (f, [1]), (b, [2])] [] [] [1] [2] [3] (by simp only [lookN, efx, Zh]) (by simp only [lookN, ebx, ebf, Zh])]
  ·rw [hn2]
   intro q hq
   simp only [List.mem_cons, List.not_mem_nil, or_false] at hq
   rcases hq with rfl | rfl <;> rfl
  ·rw [hn2]; decide
  ·show renBs [([0], X), ([1], f), ([2], b)] _ = _
   simp only [renBs, Z7m, hx1 [([0], X), ([1], f), ([2], b)] rfl rfl]
  ·intro q hq
   simp only [List.mem_cons, List.not_mem_nil, or_false] at hq
   rcases hq with rfl | rfl | rfl
   ·exact ⟨_, hx⟩
   ·exact ⟨_, h.f⟩
   ·exact ⟨_, h.b⟩
  ·refine (hd _ 0 ⟨rfl, rfl, rfl, fun e => absurd hg e⟩ fun e => absurd hg e).mono ?_
   rintro x ⟨h1, h2⟩
   refine ⟨h1, ?_⟩
   show getAll x.2.H [[0], [1], [2]] = _
   simp only [getAll, h2.x, h2.f, h2.b]
 | cons a l =>
  have hrn : g.room ≠ [] := by rw [hg]; simp
  obtain ⟨a', l', hg'⟩ : ∃ a' l', g'.room = a' :: l' := by
   cases hq : g'.room with
   | nil => rw [hq, hg] at hl3; simp at hl3
   | cons a' l' => exact ⟨a', l', rfl⟩
  have hlm : ∃ m, g.room.length = m + 1 := ⟨l.length, by rw [hg]; rfl⟩
  obtain ⟨m, hlm⟩ := hlm
  have hl0 : ∀ q, rowX E q g.room.length = .slice q 0 (m + 1) (m + 1) false := fun q => by rw [hlm]; rfl
  have hl0' : ∀ q, rowX E q g'.room.length = .slice q 0 (m + 1) (m + 1) false := fun q => by rw [hl3, hlm]; rfl
  have hr := h.r hrn
  have hn1 : namesB false (sysB E v f b r g) [] = [f, b, r] := by
   unfold sysB
   rw [hl0]; rfl
  have hn2 : namesBs true [sysB E v [1] [2] [3] g', rgB g'.free, rgB g'.bound, rgB g'.room] [] = [[1], [2], [3]] := by
   show namesB true (sysB E v [1] [2] [3] g') (namesB true (rgB g'.free) (namesB true (rgB g'.bound) (namesB true (rgB g'.room) []))) = _
   rw [nb, nb, nb]
   unfold sysB
   rw [hl0']; rfl
  have hx0 : ∀ mp : List (Nm × Nm), lookN f mp = some [1] -> lookN b mp = some [2] -> lookN r mp = some [3] -> renB mp (sysB E v f b r g) = some (sysB E v [1] [2] [3] g) := fun mp e1 e2 e3 => by
   unfold sysB
   rw [hl0, hl0]
   simp only [renB, renVs, renV, e1, e2, e3, Z0j, Z0k, Z0l, Z0m, Z0n]
  have hx1 : ∀ mp : List (Nm × Nm), lookN [1] mp = some f -> lookN [2] mp = some b -> lookN [3] mp = some r -> renB mp (sysB E v [1] [2] [3] g') = some (sysB E v f b r g') := fun mp e1 e2 e3 => by
   unfold sysB
   rw [hl0', hl0']
   simp only [renB, renVs, renV, e1, e2, e3, Z0j, Z0k, Z0l, Z0m, Z0n]
  rw [hg']
  simp only
  rw [<- hg']
  refine Z5i (bs := [X, f, b, r]) (xs := [sysB E v f b r g, rgB g.free, rgB g.bound, rgB g.room]) (args' := [.ptr [0] 0, bkV s]) (xs0 := [sysB E v [1] [2] [3] g, rgB g.free, rgB g.bound, rgB g.room]) (ys := [sysB E v [1] [2] [3] g', rgB g'.free, rgB g'.bound, rgB g'.room]) hm hf ?_ ?_ rfl ?_ ?_ rfl (fun _ => rfl) ?_ ?_ rfl ?_ rfl ?_ ?_
  ·show lendM (199 + 1) [X] [] [] _ = _
   rw [X8 199 rfl hx, hn1]
   show lendM (198 + 1) [f, b, r] [X] [_] _ = _
   rw [X8 198 (by simp only [memNm, efx]) h.f, nb]
   show lendM (197 + 1) [b, r] [X, f] [_, _] _ = _
   rw [X8 197 (by simp only [memNm, ebx, ebf]) h.b, nb]
   show lendM (196 + 1) [r] [X, f, b] [_, _, _] _ = _
   rw [X8 196 (by simp only [memNm, erx, erf, erb]) hr, nb]
   exact Yr 195 _ _ _
  ·simp only [nodupN, memNm, exf, exb, exr, efb, efr, ebr]
  ·show renVs [(X, [0]), (f, [1]), (b, [2]), (r, [3])] _ = _
   simp only [renVs, renV, bkV, lookN, Zh, fl_i]
  ·show renBs [(X, [0]), (f, [1]), (b, [2]), (r, [3])] _ = _
   simp only [renBs, Z7m, hx0 [(X, [0]), (f, [1]), (b, [2]), (r, [3])] (by simp only [lookN, efx, Zh]) (by simp only [lookN, ebx, ebf, Zh]) (by simp only [lookN, erx, erf, erb, Zh])]
  ·rw [hn2]
   intro q hq
   simp only [List.mem_cons, List.not_mem_nil, or_false] at hq
   rcases hq with rfl | rfl | rfl <;> rfl
  ·rw [hn2]; decide
  ·show renBs [([0], X), ([1], f), ([2], b), ([3], r)] _ = _
   simp only [renBs, Z7m, hx1 [([0], X), ([1], f), ([2], b), ([3], r)] rfl rfl rfl]
  ·intro q hq
   simp only [List.mem_cons, List.not_mem_nil, or_false] at hq
   rcases hq with rfl | rfl | rfl | rfl
   ·exact ⟨_, hx⟩
   ·exact ⟨_, h.f⟩
   ·exact ⟨_, h.b⟩
   ·exact ⟨_, hr⟩
  ·refine (hd _ 1 ⟨rfl, rfl, rfl, fun e => rfl⟩ fun e => Nat.le_refl 1).mono ?_
   rintro x ⟨h1, h2⟩
   refine ⟨h1, ?_⟩
   show getAll x.2.H [[0], [1], [2], [3]] = _
   simp only [getAll, h2.x, h2.f, h2.b, h2.r (by rw [hg']; simp)]
end Go.Proofs.Ytgnpnfkncbnjnaa
namespace Go.Proofs.Ytgnpnfkncbnjnaa
attribute [local go_sem_proc] Int.reduceEq Int.reduceNeg Nat.reduceEqDiff Nat.reduceLT Nat.reduceAdd Nat.reduceSub Nat.reduceMul Int.reduceLE Int.reduceLT Int.reduceToNat Nat.reduceLeDiff
attribute [local go_sem] Int.toNat_natCast Bool.not_true Bool.not_false
open Go Go.Am
attribute [local congr] Zf Z9 Zc
attribute [local go_sem] Go.Am.frozen Go.Am.freezeG Go.Am.freezeGs
variable {E : AV}
def min2 (a b : Int) : Int := if b < a then b else a
def max2 (a b : Int) : Int := if a < b then b else a
theorem Z5j (a b : Int) : minmax false (.int .i64 a) [.int .i64 b] = some (.int .i64 (min2 a b)) := by
 unfold min2
 by_cases c : b < a
 ·simp -implicitDefEqProofs only [redoH, redo1, go_sem, Go.Am.minmax, c, if_true]
 ·simp -implicitDefEqProofs only [redoH, redo1, go_sem, Go.Am.minmax, c, if_false]
theorem Zf4 (a b : Int) : minmax true (.int .i64 a) [.int .i64 b] = some (.int .i64 (max2 a b)) := by
 unfold max2
 by_cases c : a < b
 ·simp -implicitDefEqProofs only [redoH, redo1, go_sem, Go.Am.minmax, c, if_true]
 ·simp -implicitDefEqProofs only [redoH, redo1, go_sem, Go.Am.minmax, c, if_false]
def leakF : Int -> List Inl -> Int
 | m, [] => m
 | m, l :: r => leakF (min2 68719476736 (wrapF .i64 (m + l.gas.hi))) r
def beginT (v : Vac) (g : Gs) (s : Bk) : Gs := ⟨g.free, g.bound, g.room, leakF g.most v.leaks, g.flashed || s.flash⟩
theorem Z8y [hE : Emp E] {K : Nat} {X f b r : Nm} {v : Vac} {g : Gs} {s : Bk} {H : Heap} {n : Nat} {p : Nm} {j : Delta} (h : SysAt E H X f b r v g) (ha : Apart X f b r) (h1 : g.free ≠ []) (h2 : g.bound ≠ []) (hK : v.leaks.length < K) (hl : v.leaks.length <= 1000000) :
  acall cfg (K + 1) 147 [.ptr X 0, bkV s] ⟨H, n, p, false, j⟩ = .ret (.tuple [], ⟨sysPut E X f b r v (beginT v g s) H, n, p, false, j⟩) := by
 refine Z13 Zgp Zgo h ha h1 h2 rfl rfl rfl fun H0 m hs hm => ?_
 refine Za rfl fun T hT' hA => ?_
 have a0 := hA 0 _ rfl
 have a1 := hA 1 _ rfl
 have hT : T.length = 44 := hT'
 clear hA hT'
 have g0 := hs.x
 unfold sysB at g0
 have hb := hs.b
 have hf := hs.f
 have hr := hs.r
 simp -implicitDefEqProofs only [go_sem, a0, a1, hT, g0]
 have k0 : ∀ X, hget (([m + 3], X) :: H0) [0] = hget H0 [0] := fun X => hc11 (by omega)
 have k0' : ∀ Z, hget (hset H0 [0] Z) [0] = some Z := fun Z => hss g0
 unfold beginT
 cases hfl : g.flashed with
 | true =>
  simp -implicitDefEqProofs only [go_sem, a0, a1, hT, g0, hfl, k0, k0', Bool.true_or, Bool.false_or]
  simp only [Z5]
  refine Zu (fun k T s' => T.length = 44 /\ nth T 0 = some (.ptr [0] 0) /\ nth T 23 = some (.lst (v.leaks.map inlV)) /\ nth T 24 = some (.int .i64 v.leaks.length) /\ ∃ (i m : Nat) (H : Heap) (q : Int), nth T 25 = some (.int .i64 i) /\ i <= v.leaks.length /\ k = v.leaks.length - i /\ s' = ⟨H, m + 3, [], false, []⟩ /\ hget H [0] = some (.cells [.lst (v.vessels.map vesV), .lst (v.pipes.map pipV), .lst (v.pumps.map pmpV), .lst (v.leaks.map inlV), .lst (v.getters.map gtrV), .slice [1] 0 g.free.length g.free.length false, .slice [2] 0 g.bound.length g.bound.length false, rowX E [3] g.room.length, .int .i64 q, .bool true] true 0) /\ hget H [1] = some (rgB g.free) /\ hget H [2] = some (rgB g.bound) /\ (g.room ≠ [] -> 1 <= m /\ hget H [3] = some (rgB g.room)) /\ leakF g.most v.leaks = leakF q (v.leaks.drop i)) (k := v.leaks.length) (by omega) ?_ ?_
  ·exact ⟨by simp -implicitDefEqProofs only [redoH, redo1, go_sem, hT], by simp -implicitDefEqProofs only [redoH, redo1, go_sem, a0], by simp -implicitDefEqProofs only [redoH, redo1, go_sem, hT], by simp -implicitDefEqProofs only [redoH, redo1, go_sem, hT], 0, m + 1, _, g.most, by simp -implicitDefEqProofs only [redoH, redo1, go_sem, hT] <;> rfl, by omega, rfl, rfl, (hc11 (by omega)).trans (k0' _), (hc11 (by omega)).trans ((hs11 (by decide)).trans hf), (hc11 (by omega)).trans ((hs11 (by decide)).trans hb), fun e => ⟨by omega, (hc11 (by have := hm e; omega)).trans ((hs11 (by decide)).trans (hr e))⟩, rfl⟩
  clear a0 a1 hT T g0 k0 k0' hb hf hr hs hm m H0
  rintro k T s' ⟨hT, a0, a23, a24, i, m, H0, q, a25, hi, rfl, rfl, g0, hf, hb, hr, he⟩
  simp -implicitDefEqProofs only [go_sem, a0, a23, a24, a25, hT]
  by_cases hil : (i : Int) < (v.leaks.length : Int)
  ·have hi' : i < v.leaks.length := by omega
   have e1 := Zj (f := inlV) (l := v.leaks) (i := i) (z := 3) hi' rfl
   have hkk : v.leaks.length - (i + 1) < v.leaks.length - i := by omega
   rw [List.drop_eq_getElem_cons hi'] at he
   generalize v.leaks[i] = x at *
   simp only [leakF] at he
   have hw1 : wrapF .i64 ((i : Int) + 1) = ((i + 1 : Nat) : Int) := Z8 (by omega) (by omega)
   have k0 : ∀ X, hget (([m + 3], X) :: H0) [0] = hget H0 [0] := fun X => hc11 (by omega)
   have k3 : ∀ X, hget (([m + 3], X) :: H0) [m + 3] = some X := fun X => Z0 ..
   simp only [inlV] at e1
   simp -implicitDefEqProofs only [go_sem, a0, a23, a24, a25, hT, hil, e1]
   try simp only [Z5]
   refine Zd [[], [], [1], [2, 1], [3, 2, 1], [4, 3, 2, 1], [], [6], [7, 6], [5, 4, 3, 2, 1, 8, 7, 6], [9, 5, 4, 3, 2, 1, 8, 7, 6], [0, 10, 9, 5, 4, 3, 2, 1, 8, 7, 6], [11, 0, 10, 9, 5, 4, 3, 2, 1, 8, 7, 6], [12, 11, 0, 10, 9, 5, 4, 3, 2, 1, 8, 7, 6], [13, 12, 11, 0, 10, 9, 5, 4, 3, 2, 1, 8, 7, 6]] [[], [], [], [], [], [], [], [], [], [], [], [], [], [], [[0]]] (by kernel_rfl) rfl rfl ?_
   simp -implicitDefEqProofs only [go_sem, Z1, lkn, Z4, lk11, lk13, lk31, lk33, Zb, Option.getD_some, Option.getD_none, a0, a23, a24, a25, hT, hil, e1, k0, k3, g0, Z5j, hw1, Ze]
   refine ⟨v.leaks.length - (i + 1), hkk, trivial, trivial, trivial, trivial, i + 1, m + 2, _, min2 68719476736 (wrapF .i64 (q + x.gas.hi)), rfl, hi', rfl, rfl, ?_, ?_, ?_, fun e => ⟨by omega, ?_⟩, he⟩
   all_goals clear hw1
   ·simp (disch := omega) only [Z0, hc11, hc13, hc31, hc33, hs11, hs13, hs31, hs33, hd11, hd13, hd31, hd33, Z3, ht11, ht31, ne_eq, not_false_eq_true, Nat.succ_ne_zero, Z1, lkn, Z4, lk11, lk13, lk31, lk33, Zb, Option.getD_some, Option.getD_none]
   ·simp (disch := omega) only [Z0, hc11, hc13, hc31, hc33, hs11, hs13, hs31, hs33, hd11, hd13, hd31, hd33, Z3, ht11, ht31, ne_eq, not_false_eq_true, Nat.succ_ne_zero, Z1, lkn, Z4, lk11, lk13, lk31, lk33, Zb, Option.getD_some, Option.getD_none, hf]
   ·simp (disch := omega) only [Z0, hc11, hc13, hc31, hc33, hs11, hs13, hs31, hs33, hd11, hd13, hd31, hd33, Z3, ht11, ht31, ne_eq, not_false_eq_true, Nat.succ_ne_zero, Z1, lkn, Z4, lk11, lk13, lk31, lk33, Zb, Option.getD_some, Option.getD_none, hb]
   ·have := (hr e).1
    simp (disch := omega) only [Z0, hc11, hc13, hc31, hc33, hs11, hs13, hs31, hs33, hd11, hd13, hd31, hd33, Z3, ht11, ht31, ne_eq, not_false_eq_true, Nat.succ_ne_zero, Z1, lkn, Z4, lk11, lk13, lk31, lk33, Zb, Option.getD_some, Option.getD_none, (hr e).2]
  ·have hie : i = v.leaks.length := by omega
   subst hie
   rw [List.drop_length] at he
   simp only [leakF] at he
   simp -implicitDefEqProofs only [go_sem, a0, a23, a24, a25, hT, hil, Try.results147]
   rw [he]
   exact ⟨trivial, ⟨g0, hf, hb, fun e => (hr e).2⟩⟩
 | false =>
  simp -implicitDefEqProofs only [go_sem, a0, a1, hT, g0, hfl, k0, k0', Bool.true_or, Bool.false_or]
  simp only [Z5]
  refine Zu (fun k T s' => T.length = 44 /\ nth T 0 = some (.ptr [0] 0) /\ nth T 23 = some (.lst (v.leaks.map inlV)) /\ nth T 24 = some (.int .i64 v.leaks.length) /\ ∃ (i m : Nat) (H : Heap) (q : Int), nth T 25 = some (.int .i64 i) /\ i <= v.leaks.length /\ k = v.leaks.length - i /\ s' = ⟨H, m + 3, [], false, []⟩ /\ hget H [0] = some (.cells [.lst (v.vessels.map vesV), .lst (v.pipes.map pipV), .lst (v.pumps.map pmpV), .lst (v.leaks.map inlV), .lst (v.getters.map gtrV), .slice [1] 0 g.free.length g.free.length false, .slice [2] 0 g.bound.length g.bound.length false, rowX E [3] g.room.length, .int .i64 q, .bool s.flash] true 0) /\ hget H [1] = some (rgB g.free) /\ hget H [2] = some (rgB g.bound) /\ (g.room ≠ [] -> 1 <= m /\ hget H [3] = some (rgB g.room)) /\ leakF g.most v.leaks = leakF q (v.leaks.drop i)) (k := v.leaks.length) (by omega) ?_ ?_
  ·exact ⟨by simp -implicitDefEqProofs only [redoH, redo1, go_sem, hT], by simp -implicitDefEqProofs only [redoH, redo1, go_sem, a0], by simp -implicitDefEqProofs only [redoH, redo1, go_sem, hT], by simp -implicitDefEqProofs only [redoH, redo1, go_sem, hT], 0, m + 1, _, g.most, by simp -implicitDefEqProofs only [redoH, redo1, go_sem, hT] <;> rfl, by omega, rfl, rfl, (hc11 (by omega)).trans (k0' _), (hc11 (by omega)).trans ((hs11 (by decide)).trans hf), (hc11 (by omega)).trans ((hs11 (by decide)).trans hb), fun e => ⟨by omega, (hc11 (by have := hm e; omega)).trans ((hs11 (by decide)).trans (hr e))⟩, rfl⟩
  clear a0 a1 hT T g0 k0 k0' hb hf hr hs hm m H0
  rintro k T s' ⟨hT, a0, a23, a24, i, m, H0, q, a25, hi, rfl, rfl, g0, hf, hb, hr, he⟩
  simp -implicitDefEqProofs only [go_sem, a0, a23, a24, a25, hT]
  by_cases hil : (i : Int) < (v.leaks.length : Int)
  ·have hi' : i < v.leaks.length := by omega
   have e1 := Zj (f := inlV) (l := v.leaks) (i := i) (z := 3) hi' rfl
   have hkk : v.leaks.length - (i + 1) < v.leaks.length - i := by omega
   rw [List.drop_eq_getElem_cons hi'] at he
   generalize v.leaks[i] = x at *
   simp only [leakF] at he
   have hw1 : wrapF .i64 ((i : Int) + 1) = ((i + 1 : Nat) : Int) := Z8 (by omega) (by omega)
   have k0 : ∀ X, hget (([m + 3], X) :: H0) [0] = hget H0 [0] := fun X => hc11 (by omega)
   have k3 : ∀ X, hget (([m + 3], X) :: H0) [m + 3] = some X := fun X => Z0 ..
   simp only [inlV] at e1
   simp -implicitDefEqProofs only [go_sem, a0, a23, a24, a25, hT, hil, e1]
   try simp only [Z5]
   refine Zd [[], [], [1], [2, 1], [3, 2, 1], [4, 3, 2, 1], [], [6], [7, 6], [5, 4, 3, 2, 1, 8, 7, 6], [9, 5, 4, 3, 2, 1, 8, 7, 6], [0, 10, 9, 5, 4, 3, 2, 1, 8, 7, 6], [11, 0, 10, 9, 5, 4, 3, 2, 1, 8, 7, 6], [12, 11, 0, 10, 9, 5, 4, 3, 2, 1, 8, 7, 6], [13, 12, 11, 0, 10, 9, 5, 4, 3, 2, 1, 8, 7, 6]] [[], [], [], [], [], [], [], [], [], [], [], [], [], [], [[0]]] (by kernel_rfl) rfl rfl ?_
   simp -implicitDefEqProofs only [go_sem, Z1, lkn, Z4, lk11, lk13, lk31, lk33, Zb, Option.getD_some, Option.getD_none, a0, a23, a24, a25, hT, hil, e1, k0, k3, g0, Z5j, hw1, Ze]
   refine ⟨v.leaks.length - (i + 1), hkk, trivial, trivial, trivial, trivial, i + 1, m + 2, _, min2 68719476736 (wrapF .i64 (q + x.gas.hi)), rfl, hi', rfl, rfl, ?_, ?_, ?_, fun e => ⟨by omega, ?_⟩, he⟩
   all_goals clear hw1
   ·simp (disch := omega) only [Z0, hc11, hc13, hc31, hc33, hs11, hs13, hs31, hs33, hd11, hd13, hd31, hd33, Z3, ht11, ht31, ne_eq, not_false_eq_true, Nat.succ_ne_zero, Z1, lkn, Z4, lk11, lk13, lk31, lk33, Zb, Option.getD_some, Option.getD_none]
   ·simp (disch := omega) only [Z0, hc11, hc13, hc31, hc33, hs11, hs13, hs31, hs33, hd11, hd13, hd31, hd33, Z3, ht11, ht31, ne_eq, not_false_eq_true, Nat.succ_ne_zero, Z1, lkn, Z4, lk11, lk13, lk31, lk33, Zb, Option.getD_some, Option.getD_none, hf]
   ·simp (disch := omega) only [Z0, hc11, hc13, hc31, hc33, hs11, hs13, hs31, hs33, hd11, hd13, hd31, hd33, Z3, ht11, ht31, ne_eq, not_false_eq_true, Nat.succ_ne_zero, Z1, lkn, Z4, lk11, lk13, lk31, lk33, Zb, Option.getD_some, Option.getD_none, hb]
   ·have := (hr e).1
    simp (disch := omega) only [Z0, hc11, hc13, hc31, hc33, hs11, hs13, hs31, hs33, hd11, hd13, hd31, hd33, Z3, ht11, ht31, ne_eq, not_false_eq_true, Nat.succ_ne_zero, Z1, lkn, Z4, lk11, lk13, lk31, lk33, Zb, Option.getD_some, Option.getD_none, (hr e).2]
  ·have hie : i = v.leaks.length := by omega
   subst hie
   rw [List.drop_length] at he
   simp only [leakF] at he
   simp -implicitDefEqProofs only [go_sem, a0, a23, a24, a25, hT, hil, Try.results147]
   rw [he]
   exact ⟨trivial, ⟨g0, hf, hb, fun e => (hr e).2⟩⟩
end Go.Proofs.Ytgnpnfkncbnjnaa
namespace Go.Proofs.Ytgnpnfkncbnjnaa
attribute [local go_sem_proc] Int.reduceEq Int.reduceNeg Nat.reduceEqDiff Nat.reduceLT Nat.reduceAdd Nat.reduceSub Nat.reduceMul Int.reduceLE Int.reduceLT Int.reduceToNat Nat.reduceLeDiff
attribute [local go_sem] Int.toNat_natCast Bool.not_true Bool.not_false
open Go Go.Am
attribute [local congr] Zf Z9 Zc
attribute [local go_sem] Go.Am.frozen Go.Am.freezeG Go.Am.freezeGs
variable {E : AV}
def cutR (q : Int) (r : Rg) : Rg := ⟨min2 r.lo q, min2 r.hi q⟩
def cutT (v : Vac) (g : Gs) (s : Bk) : Gs := ⟨g.free.map (cutR g.most), g.bound.map (cutR g.most), g.room, g.most, g.flashed⟩
theorem J1 (L : List Rg) {c : Nat} (h : c < L.length) : nth (L.flatMap rgC) (c * 2) = some (.int .i64 L[c].lo) := Z7e (g := rgC) (z := 2) Z1k L h (k := 0) (by decide)
theorem J2 (L : List Rg) {c : Nat} (h : c < L.length) : nth (L.flatMap rgC) (c * 2 + 1) = some (.int .i64 L[c].hi) := Z7e (g := rgC) (z := 2) Z1k L h (k := 1) (by decide)
theorem Zk2 (L : List Rg) {c : Nat} (h : c < L.length) (y : Rg) : writeN (L.flatMap rgC) (c * 2) [.int .i64 y.lo, .int .i64 y.hi] = some ((L.set c y).flatMap rgC) := Zdw (g := rgC) (z := 2) Z1k L h y
theorem Z02 (cs : List AV) (c : Nat) (v : AV) : nth (setNth cs (c * 2) v) (c * 2 + 1) = nth cs (c * 2 + 1) := Zaj cs v (by omega)
theorem Z2h (L : List Rg) {c : Nat} (h : c < L.length) (y : Rg) : setNth (setNth (L.flatMap rgC) (c * 2) (.int .i64 y.lo)) (c * 2 + 1) (.int .i64 y.hi) = (L.set c y).flatMap rgC := by
 have e := Zk2 L h y
 simp only [writeN, J1 L h, Z02, J2 L h] at e
 injection e
theorem Z2i {v : Vac} {a b c : Nm} {g g' : Gs} (h1 : g'.free.length = g.free.length) (h2 : g'.bound.length = g.bound.length) (h3 : g'.room.length = g.room.length) (h4 : g'.most = g.most) (h5 : g'.flashed = g.flashed) : sysB E v a b c g' = sysB E v a b c g := by
 unfold sysB
 rw [h1, h2, h3, h4, h5]
theorem Zeh [hE : Emp E] {K : Nat} {X f b r : Nm} {v : Vac} {g : Gs} {s : Bk} {H : Heap} {n : Nat} {p : Nm} {j : Delta} (h : SysAt E H X f b r v g) (ha : Apart X f b r) (h1 : g.free ≠ []) (h2 : g.bound ≠ []) (hK : g.free.length + g.bound.length + 2 < K) (hl : g.free.length + g.bound.length <= 1000000) :
  acall cfg (K + 1) 151 [.ptr X 0, bkV s] ⟨H, n, p, false, j⟩ = .ret (.tuple [], ⟨sysPut E X f b r v (cutT v g s) H, n, p, false, j⟩) := by
 refine Z13 Zgx Zgw h ha h1 h2 (List.length_map ..) (List.length_map ..) rfl fun H0 m hs hm => ?_
 refine Za rfl fun T hT' hA => ?_
 have a0 := hA 0 _ rfl
 have a1 := hA 1 _ rfl
 have hT : T.length = 51 := hT'
 clear hA hT'
 have g0 := hs.x
 unfold sysB at g0
 have k0 : ∀ X, hget (([m + 3], X) :: H0) [0] = hget H0 [0] := fun X => hc11 (by omega)
 simp -implicitDefEqProofs only [go_sem, a0, a1, hT, g0]
 try simp only [Z5]
 refine Zd [[], [0], [1, 0], [2, 1, 0], [3, 2, 1, 0], [], [5], [6, 5], [7, 6, 5], [8, 7, 6, 5], [4, 3, 2, 1, 0, 9, 8, 7, 6, 5], []] [[], [], [], [], [], [], [], [], [], [], [], []] (by kernel_rfl) rfl rfl ?_
 simp -implicitDefEqProofs only [go_sem, Z1, lkn, Z4, lk11, lk13, lk31, lk33, Zb, Option.getD_some, Option.getD_none, a0, a1, hT, g0, k0, Ze]
 simp only [Z5]
 refine Zu (fun k T s' => T.length = 51 /\ nth T 0 = some (.ptr [0] 0) /\ nth T 18 = some (.agg [.slice [1] 0 g.free.length g.free.length false, .slice [2] 0 g.bound.length g.bound.length false]) /\ ∃ (i m : Nat) (H : Heap) (F B : List Rg), nth T 19 = some (.int .i64 i) /\ i <= 2 /\ k = 2 - i /\ s' = ⟨H, m + 3, [], false, []⟩ /\ (g.room ≠ [] -> 1 <= m) /\ SysAt E H [0] [1] [2] [3] v ⟨F, B, g.room, g.most, g.flashed⟩ /\ F = (if i = 0 then g.free else g.free.map (cutR g.most)) /\ B = (if i = 2 then g.bound.map (cutR g.most) else g.bound)) (k := 2) (by omega) ?_ ?_
 ·exact ⟨by simp -implicitDefEqProofs only [redoH, redo1, go_sem, hT], by simp -implicitDefEqProofs only [redoH, redo1, go_sem, a0], by simp -implicitDefEqProofs only [redoH, redo1, go_sem, hT], 0, m + 2, _, g.free, g.bound, by simp -implicitDefEqProofs only [redoH, redo1, go_sem, hT] <;> rfl, by omega, rfl, rfl, fun e => by omega, ⟨by simp (disch := omega) only [Z0, hc11, hc13, hc31, hc33, hs11, hs13, hs31, hs33, hd11, hd13, hd31, hd33, Z3, ht11, ht31, ne_eq, not_false_eq_true, Nat.succ_ne_zero, Z1, lkn, Z4, lk11, lk13, lk31, lk33, Zb, Option.getD_some, Option.getD_none]; exact hs.x, by simp (disch := omega) only [Z0, hc11, hc13, hc31, hc33, hs11, hs13, hs31, hs33, hd11, hd13, hd31, hd33, Z3, ht11, ht31, ne_eq, not_false_eq_true, Nat.succ_ne_zero, Z1, lkn, Z4, lk11, lk13, lk31, lk33, Zb, Option.getD_some, Option.getD_none]; exact hs.f, by simp (disch := omega) only [Z0, hc11, hc13, hc31, hc33, hs11, hs13, hs31, hs33, hd11, hd13, hd31, hd33, Z3, ht11, ht31, ne_eq, not_false_eq_true, Nat.succ_ne_zero, Z1, lkn, Z4, lk11, lk13, lk31, lk33, Zb, Option.getD_some, Option.getD_none]; exact hs.b, fun e => by have := hm e; simp (disch := omega) only [Z0, hc11, hc13, hc31, hc33, hs11, hs13, hs31, hs33, hd11, hd13, hd31, hd33, Z3, ht11, ht31, ne_eq, not_false_eq_true, Nat.succ_ne_zero, Z1, lkn, Z4, lk11, lk13, lk31, lk33, Zb, Option.getD_some, Option.getD_none]; exact hs.r e⟩, rfl, rfl⟩
 clear a0 a1 hT T g0 k0 hs hm m H0
 rintro k T s' ⟨hT, a0, a18, i, m, H0, F, B, a19, hi, rfl, rfl, hm, hs, rfl, rfl⟩
 rcases (show i = 0 \/ i = 1 \/ i = 2 by omega) with rfl | rfl | rfl
 ·simp only [if_true, Nat.zero_ne_one, if_false] at hs
  have hs : SysAt E H0 [0] [1] [2] [3] v ⟨g.free, g.bound, g.room, g.most, g.flashed⟩ := hs
  have b19 : nth T 19 = some (.int .i64 0) := a19
  clear a19 hi
  have hin : inR 0 2 = some 0 := rfl
  simp -implicitDefEqProofs only [go_sem, a0, a18, b19, hT, hin]
  simp only [Z5]
  refine Tr.Does.mono (Q := fun x => ∃ (T' : List AV) (m' : Nat) (H' : Heap), x = ((AExit.exit 2, T'), (⟨H', m' + 3, [], false, []⟩ : St)) /\ m <= m' /\ T'.length = 51 /\ nth T' 0 = some (.ptr [0] 0) /\ nth T' 18 = some (.agg [.slice [1] 0 g.free.length g.free.length false, .slice [2] 0 g.bound.length g.bound.length false]) /\ nth T' 19 = some (.int .i64 0) /\ hget H' [1] = some (rgB (g.free.map (cutR g.most))) /\ ∀ k, k < m + 3 -> k ≠ 1 -> hget H' [k] = hget H0 [k]) ?_ ?_
  ·refine Zu (fun k T s' => T.length = 51 /\ nth T 0 = some (.ptr [0] 0) /\ nth T 18 = some (.agg [.slice [1] 0 g.free.length g.free.length false, .slice [2] 0 g.bound.length g.bound.length false]) /\ nth T 19 = some (.int .i64 0) /\ nth T 5 = some (.slice [1] 0 g.free.length g.free.length false) /\ nth T 22 = some (.slice [1] 0 g.free.length g.free.length false) /\ nth T 23 = some (.int .i64 g.free.length) /\ ∃ (c m' : Nat) (H' : Heap), nth T 24 = some (.int .i64 c) /\ c <= g.free.length /\ k = g.free.length - c /\ s' = ⟨H', m' + 3, [], false, []⟩ /\ m <= m' /\ hget H' [1] = some (rgB ((g.free.take c).map (cutR g.most) ++ g.free.drop c)) /\ ∀ k, k < m + 3 -> k ≠ 1 -> hget H' [k] = hget H0 [k]) (k := g.free.length) (by omega) ?_ ?_
   ·exact ⟨by simp -implicitDefEqProofs only [redoH, redo1, go_sem, hT], by simp -implicitDefEqProofs only [redoH, redo1, go_sem, a0], by simp -implicitDefEqProofs only [redoH, redo1, go_sem, a18], by simp -implicitDefEqProofs only [redoH, redo1, go_sem, b19], by simp -implicitDefEqProofs only [redoH, redo1, go_sem, hT], by simp -implicitDefEqProofs only [redoH, redo1, go_sem, hT], by simp -implicitDefEqProofs only [redoH, redo1, go_sem, hT], 0, m, H0, by simp -implicitDefEqProofs only [redoH, redo1, go_sem, hT] <;> rfl, by omega, rfl, rfl, Nat.le_refl _, hs.f, fun _ _ _ => rfl⟩
   clear a0 a18 b19 hT T
   rintro k T s' ⟨hT, a0, a18, a19, a5, a22, a23, c, m', H', a24, hc, rfl, rfl, hmm, hb, hfr⟩
   have g0 := (hfr 0 (by omega) (by decide)).trans hs.x
   unfold sysB at g0
   simp only at g0
   simp -implicitDefEqProofs only [go_sem, a0, a18, a19, a5, a22, a23, a24, hT]
   by_cases hcl : (c : Int) < (g.free.length : Int)
   ·have hc' : c < g.free.length := by omega
    have hinr : inR (c : Int) g.free.length = some c := Z0h hc'
    obtain ⟨R, hR⟩ : ∃ R, R = (g.free.take c).map (cutR g.most) ++ g.free.drop c := ⟨_, rfl⟩
    have hRl : R.length = g.free.length := by rw [hR, List.length_append, List.length_map, List.length_take, List.length_drop]; omega
    have hRc : c < R.length := by omega
    have hRx : R[c] = g.free[c] := by subst hR; rw [List.getElem_append_right (by simp; omega)]; simp; congr 1; omega
    have hRs : R.set c (cutR g.most g.free[c]) = (g.free.take (c + 1)).map (cutR g.most) ++ g.free.drop (c + 1) := by
     subst hR
     rw [List.set_append_right _ _ (by simp; omega), List.take_succ_eq_append_getElem hc', List.map_append]
     have e : c - ((g.free.take c).map (cutR g.most)).length = 0 := by simp; omega
     rw [e, List.drop_eq_getElem_cons hc', List.set_cons_zero]
     simp
    have n0 := J1 R hRc
    have n1 := J2 R hRc
    have wr := Z2h R hRc (cutR g.most g.free[c])
    rw [hRs] at wr
    rw [<- hR] at hb
    rw [hRx] at n0 n1
    clear hR hRx
    generalize g.free[c] = x at *
    unfold rgB at hb
    have k1 : ∀ X, hget (([m' + 3], X) :: H') [1] = hget H' [1] := fun X => hc11 (by omega)
    have k2 : ∀ X, hget (([m' + 3], X) :: H') [0] = hget H' [0] := fun X => hc11 (by omega)
    simp -implicitDefEqProofs only [go_sem, a0, a18, a19, a5, a22, a23, a24, hT, hcl, hinr, hb, n0, n1]
    have hkk : g.free.length - (c + 1) < g.free.length - c := by omega
    have k3 : ∀ X, hget (([m' + 3], X) :: H') [m' + 3] = some X := fun X => Z0 ..
    have hw1 : wrapF .i64 ((c : Int) + 1) = ((c + 1 : Nat) : Int) := Z8 (by omega) (by omega)
    simp only [cutR] at wr
    try simp only [Z5]
    refine Zd [[], [], [], [2], [], [4], [5, 4], [6, 5, 4], [7, 6, 5, 4], [3, 2, 8, 7, 6, 5, 4], [], [10], [], [12], [13, 12], [14, 13, 12], [15, 14, 13, 12], [11, 10, 16, 15, 14, 13, 12], [9, 3, 2, 8, 7, 6, 5, 4, 17, 11, 10, 16, 15, 14, 13, 12], [0, 1, 18, 9, 3, 2, 8, 7, 6, 5, 4, 17, 11, 10, 16, 15, 14, 13, 12], [19, 0, 1, 18, 9, 3, 2, 8, 7, 6, 5, 4, 17, 11, 10, 16, 15, 14, 13, 12]] [[], [], [], [], [], [], [], [], [], [], [], [], [], [], [], [], [], [], [], [], [[1]]] (by kernel_rfl) rfl rfl ?_
    simp -implicitDefEqProofs only [go_sem, Z1, lkn, Z4, lk11, lk13, lk31, lk33, Zb, Option.getD_some, Option.getD_none, a0, a18, a19, a5, a22, a23, a24, hT, hinr, hb, g0, k1, k2, k3, Z5j, Z02, n0, n1, wr, hw1, Ze]
    refine ⟨g.free.length - (c + 1), hkk, trivial, trivial, trivial, trivial, trivial, trivial, trivial, c + 1, m' + 2, _, rfl, hc', rfl, rfl, by omega, ?_, fun k hk hne => ?_⟩
    all_goals clear hw1
    ·simp (disch := omega) only [Z0, hc11, hc13, hc31, hc33, hs11, hs13, hs31, hs33, hd11, hd13, hd31, hd33, Z3, ht11, ht31, ne_eq, not_false_eq_true, Nat.succ_ne_zero, Z1, lkn, Z4, lk11, lk13, lk31, lk33, Zb, Option.getD_some, Option.getD_none]; rfl
    ·simp (disch := omega) only [Z0, hc11, hc13, hc31, hc33, hs11, hs13, hs31, hs33, hd11, hd13, hd31, hd33, Z3, ht11, ht31, ne_eq, not_false_eq_true, Nat.succ_ne_zero, Z1, lkn, Z4, lk11, lk13, lk31, lk33, Zb, Option.getD_some, Option.getD_none]; exact hfr k hk hne
   ·have hce : c = g.free.length := by omega
    subst hce
    rw [List.take_length, List.drop_length, List.append_nil] at hb
    simp -implicitDefEqProofs only [go_sem, a0, a18, a19, a5, a22, a23, a24, hT, hcl]
    exact ⟨_, m', H', rfl, hmm, by simp -implicitDefEqProofs only [redoH, redo1, go_sem, hT], by simp -implicitDefEqProofs only [redoH, redo1, go_sem, a0], by simp -implicitDefEqProofs only [redoH, redo1, go_sem, a18], by simp -implicitDefEqProofs only [redoH, redo1, go_sem, a19], hb, hfr⟩
  clear a0 a18 b19 hT T
  rintro _ ⟨T, m', H', rfl, hmm, hT, a0, a18, a19, hb, hfr⟩
  simp -implicitDefEqProofs only [go_sem, a0, a18, a19, hT]
  refine ⟨2 - (0 + 1), by omega, trivial, trivial, trivial, 0 + 1, m', H', g.free.map (cutR g.most), g.bound, rfl, by omega, rfl, rfl, fun e => Nat.le_trans (hm e) hmm, ⟨?_, ?_, ?_, fun e => ?_⟩, rfl, rfl⟩
  ·exact (hfr 0 (by omega) (by decide)).trans (hs.x.trans (congrArg some (Z2i (List.length_map ..).symm rfl rfl rfl rfl)))
  ·exact hb
  ·exact (hfr 2 (by omega) (by decide)).trans hs.b
  ·have := hm e
   exact (hfr 3 (by omega) (by decide)).trans (hs.r e)
 ·have hs : SysAt E H0 [0] [1] [2] [3] v ⟨g.free.map (cutR g.most), g.bound, g.room, g.most, g.flashed⟩ := hs
  have b19 : nth T 19 = some (.int .i64 1) := a19
  clear a19 hi
  have hin : inR 1 2 = some 1 := rfl
  simp -implicitDefEqProofs only [go_sem, a0, a18, b19, hT, hin]
  simp only [Z5]
  refine Tr.Does.mono (Q := fun x => ∃ (T' : List AV) (m' : Nat) (H' : Heap), x = ((AExit.exit 2, T'), (⟨H', m' + 3, [], false, []⟩ : St)) /\ m <= m' /\ T'.length = 51 /\ nth T' 0 = some (.ptr [0] 0) /\ nth T' 18 = some (.agg [.slice [1] 0 g.free.length g.free.length false, .slice [2] 0 g.bound.length g.bound.length false]) /\ nth T' 19 = some (.int .i64 1) /\ hget H' [2] = some (rgB (g.bound.map (cutR g.most))) /\ ∀ k, k < m + 3 -> k ≠ 2 -> hget H' [k] = hget H0 [k]) ?_ ?_
  ·refine Zu (fun k T s' => T.length = 51 /\ nth T 0 = some (.ptr [0] 0) /\ nth T 18 = some (.agg [.slice [1] 0 g.free.length g.free.length false, .slice [2] 0 g.bound.length g.bound.length false]) /\ nth T 19 = some (.int .i64 1) /\ nth T 5 = some (.slice [2] 0 g.bound.length g.bound.length false) /\ nth T 22 = some (.slice [2] 0 g.bound.length g.bound.length false) /\ nth T 23 = some (.int .i64 g.bound.length) /\ ∃ (c m' : Nat) (H' : Heap), nth T 24 = some (.int .i64 c) /\ c <= g.bound.length /\ k = g.bound.length - c /\ s' = ⟨H', m' + 3, [], false, []⟩ /\ m <= m' /\ hget H' [2] = some (rgB ((g.bound.take c).map (cutR g.most) ++ g.bound.drop c)) /\ ∀ k, k < m + 3 -> k ≠ 2 -> hget H' [k] = hget H0 [k]) (k := g.bound.length) (by omega) ?_ ?_
   ·exact ⟨by simp -implicitDefEqProofs only [redoH, redo1, go_sem, hT], by simp -implicitDefEqProofs only [redoH, redo1, go_sem, a0], by simp -implicitDefEqProofs only [redoH, redo1, go_sem, a18], by simp -implicitDefEqProofs only [redoH, redo1, go_sem, b19], by simp -implicitDefEqProofs only [redoH, redo1, go_sem, hT], by simp -implicitDefEqProofs only [redoH, redo1, go_sem, hT], by simp -implicitDefEqProofs only [redoH, redo1, go_sem, hT], 0, m, H0, by simp -implicitDefEqProofs only [redoH, redo1, go_sem, hT] <;> rfl, by omega, rfl, rfl, Nat.le_refl _, hs.b, fun _ _ _ => rfl⟩
   clear a0 a18 b19 hT T
   rintro k T s' ⟨hT, a0, a18, a19, a5, a22, a23, c, m', H', a24, hc, rfl, rfl, hmm, hb, hfr⟩
   have g0 := (hfr 0 (by omega) (by decide)).trans hs.x
   unfold sysB at g0
   simp only at g0
   simp -implicitDefEqProofs only [go_sem, a0, a18, a19, a5, a22, a23, a24, hT]
   by_cases hcl : (c : Int) < (g.bound.length : Int)
   ·have hc' : c < g.bound.length := by omega
    have hinr : inR (c : Int) g.bound.length = some c := Z0h hc'
    obtain ⟨R, hR⟩ : ∃ R, R = (g.bound.take c).map (cutR g.most) ++ g.bound.drop c := ⟨_, rfl⟩
    have hRl : R.length = g.bound.length := by rw [hR, List.length_append, List.length_map, List.length_take, List.length_drop]; omega
    have hRc : c < R.length := by omega
    have hRx : R[c] = g.bound[c] := by subst hR; rw [List.getElem_append_right (by simp; omega)]; simp; congr 1; omega
    have hRs : R.set c (cutR g.most g.bound[c]) = (g.bound.take (c + 1)).map (cutR g.most) ++ g.bound.drop (c + 1) := by
     subst hR
     rw [List.set_append_right _ _ (by simp; omega), List.take_succ_eq_append_getElem hc', List.map_append]
     have e : c - ((g.bound.take c).map (cutR g.most)).length = 0 := by simp; omega
     rw [e, List.drop_eq_getElem_cons hc', List.set_cons_zero]
     simp
    have n0 := J1 R hRc
    have n1 := J2 R hRc
    have wr := Z2h R hRc (cutR g.most g.bound[c])
    rw [hRs] at wr
    rw [<- hR] at hb
    rw [hRx] at n0 n1
    clear hR hRx
    generalize g.bound[c] = x at *
    unfold rgB at hb
    have k1 : ∀ X, hget (([m' + 3], X) :: H') [2] = hget H' [2] := fun X => hc11 (by omega)
    have k2 : ∀ X, hget (([m' + 3], X) :: H') [0] = hget H' [0] := fun X => hc11 (by omega)
    simp -implicitDefEqProofs only [go_sem, a0, a18, a19, a5, a22, a23, a24, hT, hcl, hinr, hb, n0, n1]
    have hkk : g.bound.length - (c + 1) < g.bound.length - c := by omega
    have k3 : ∀ X, hget (([m' + 3], X) :: H') [m' + 3] = some X := fun X => Z0 ..
    have hw1 : wrapF .i64 ((c : Int) + 1) = ((c + 1 : Nat) : Int) := Z8 (by omega) (by omega)
    simp only [cutR] at wr
    try simp only [Z5]
    refine Zd [[], [], [], [2], [], [4], [5, 4], [6, 5, 4], [7, 6, 5, 4], [3, 2, 8, 7, 6, 5, 4], [], [10], [], [12], [13, 12], [14, 13, 12], [15, 14, 13, 12], [11, 10, 16, 15, 14, 13, 12], [9, 3, 2, 8, 7, 6, 5, 4, 17, 11, 10, 16, 15, 14, 13, 12], [0, 1, 18, 9, 3, 2, 8, 7, 6, 5, 4, 17, 11, 10, 16, 15, 14, 13, 12], [19, 0, 1, 18, 9, 3, 2, 8, 7, 6, 5, 4, 17, 11, 10, 16, 15, 14, 13, 12]] [[], [], [], [], [], [], [], [], [], [], [], [], [], [], [], [], [], [], [], [], [[2]]] (by kernel_rfl) rfl rfl ?_
    simp -implicitDefEqProofs only [go_sem, Z1, lkn, Z4, lk11, lk13, lk31, lk33, Zb, Option.getD_some, Option.getD_none, a0, a18, a19, a5, a22, a23, a24, hT, hinr, hb, g0, k1, k2, k3, Z5j, Z02, n0, n1, wr, hw1, Ze]
    refine ⟨g.bound.length - (c + 1), hkk, trivial, trivial, trivial, trivial, trivial, trivial, trivial, c + 1, m' + 2, _, rfl, hc', rfl, rfl, by omega, ?_, fun k hk hne => ?_⟩
    all_goals clear hw1
    ·simp (disch := omega) only [Z0, hc11, hc13, hc31, hc33, hs11, hs13, hs31, hs33, hd11, hd13, hd31, hd33, Z3, ht11, ht31, ne_eq, not_false_eq_true, Nat.succ_ne_zero, Z1, lkn, Z4, lk11, lk13, lk31, lk33, Zb, Option.getD_some, Option.getD_none]; rfl
    ·simp (disch := omega) only [Z0, hc11, hc13, hc31, hc33, hs11, hs13, hs31, hs33, hd11, hd13, hd31, hd33, Z3, ht11, ht31, ne_eq, not_false_eq_true, Nat.succ_ne_zero, Z1, lkn, Z4, lk11, lk13, lk31, lk33, Zb, Option.getD_some, Option.getD_none]; exact hfr k hk hne
   ·have hce : c = g.bound.length := by omega
    subst hce
    rw [List.take_length, List.drop_length, List.append_nil] at hb
    simp -implicitDefEqProofs only [go_sem, a0, a18, a19, a5, a22, a23, a24, hT, hcl]
    exact ⟨_, m', H', rfl, hmm, by simp -implicitDefEqProofs only [redoH, redo1, go_sem, hT], by simp -implicitDefEqProofs only [redoH, redo1, go_sem, a0], by simp -implicitDefEqProofs only [redoH, redo1, go_sem, a18], by simp -implicitDefEqProofs only [redoH, redo1, go_sem, a19], hb, hfr⟩
  clear a0 a18 b19 hT T
  rintro _ ⟨T, m', H', rfl, hmm, hT, a0, a18, a19, hb, hfr⟩
  simp -implicitDefEqProofs only [go_sem, a0, a18, a19, hT]
  refine ⟨2 - (1 + 1), by omega, trivial, trivial, trivial, 1 + 1, m', H', g.free.map (cutR g.most), g.bound.map (cutR g.most), rfl, by omega, rfl, rfl, fun e => Nat.le_trans (hm e) hmm, ⟨?_, ?_, ?_, fun e => ?_⟩, rfl, rfl⟩
  ·exact (hfr 0 (by omega) (by decide)).trans (hs.x.trans (congrArg some (Z2i rfl (List.length_map ..).symm rfl rfl rfl)))
  ·exact (hfr 1 (by omega) (by decide)).trans hs.f
  ·exact hb
  ·have := hm e
   exact (hfr 3 (by omega) (by decide)).trans (hs.r e)
 ·have hs : SysAt E H0 [0] [1] [2] [3] v ⟨g.free.map (cutR g.most), g.bound.map (cutR g.most), g.room, g.most, g.flashed⟩ := hs
  have b19 : nth T 19 = some (.int .i64 2) := a19
  simp -implicitDefEqProofs only [go_sem, a0, a18, b19, hT, Try.results151]
  exact ⟨trivial, hs⟩
end Go.Proofs.Ytgnpnfkncbnjnaa
namespace Go.Proofs.Ytgnpnfkncbnjnaa
attribute [local go_sem_proc] Int.reduceEq Int.reduceNeg Nat.reduceEqDiff Nat.reduceLT Nat.reduceAdd Nat.reduceSub Nat.reduceMul Int.reduceLE Int.reduceLT Int.reduceToNat Nat.reduceLeDiff
attribute [local go_sem] Int.toNat_natCast Bool.not_true Bool.not_false
open Go Go.Am
attribute [local congr] Zf Z9 Zc
attribute [local go_sem] Go.Am.frozen Go.Am.freezeG Go.Am.freezeGs
variable {E : AV}
theorem Z6g {α : Type} {G F : List α} (h : G.length = F.length) (i : Nat) : (G.take i ++ F.drop i).length = F.length := by
 rw [List.length_append, List.length_take, List.length_drop]; omega
theorem Zct {α : Type} {G F : List α} (h : G.length = F.length) {i : Nat} (hi : i < F.length) (hi2 : i < (G.take i ++ F.drop i).length) : (G.take i ++ F.drop i)[i] = F[i] := by
 rw [List.getElem_append_right (by rw [List.length_take]; omega), List.getElem_drop]
 congr 1
 rw [List.length_take]; omega
theorem Zhu {α : Type} {G F : List α} (h : G.length = F.length) {i : Nat} (hi : i < F.length) (hg : i < G.length) : (G.take i ++ F.drop i).set i G[i] = G.take (i + 1) ++ F.drop (i + 1) := by
 rw [List.set_append_right _ _ (by rw [List.length_take]; omega), List.take_succ_eq_append_getElem hg]
 have e : i - (G.take i).length = 0 := by rw [List.length_take]; omega
 rw [e, List.drop_eq_getElem_cons hi, List.set_cons_zero, List.append_assoc]
 rfl
theorem Z8z {G F : List Rg} (h : G.length = F.length) {i : Nat} (hi : i < F.length) (y : Rg) (hy : ∀ h2 : i < G.length, G[i] = y) : ∃ R, R = G.take i ++ F.drop i /\ R.length = F.length /\ nth (R.flatMap rgC) (i * 2) = some (.int .i64 F[i].lo) /\ nth (R.flatMap rgC) (i * 2 + 1) = some (.int .i64 F[i].hi) /\ setNth (setNth (R.flatMap rgC) (i * 2) (.int .i64 y.lo)) (i * 2 + 1) (.int .i64 y.hi) = (G.take (i + 1) ++ F.drop (i + 1)).flatMap rgC := by
 have hg : i < G.length := by omega
 have hl := Z6g h i
 have hi2 : i < (G.take i ++ F.drop i).length := by omega
 refine ⟨_, rfl, hl, ?_, ?_, ?_⟩
 ·rw [J1 _ hi2, Zct h hi hi2]
 ·rw [J2 _ hi2, Zct h hi hi2]
 ·rw [Z2h _ hi2, <- hy hg, Zhu h hi hg]
def rateP (h : Int) : Rg -> List Rel -> Rg
 | q, [] => q
 | q, b :: r => if h < b.frm then q else rateP h b.rate r
def relFr (h : Int) (x : Ves) (f b : Rg) : Rg := plusR f ⟨downN b.lo (rateP h ⟨0, 0⟩ x.bands).lo, upN b.hi (rateP h ⟨0, 0⟩ x.bands).hi⟩
def relBo (h : Int) (x : Ves) (b : Rg) : Rg := ⟨downN b.lo (wrapF .i64 (1000000 - (rateP h ⟨0, 0⟩ x.bands).hi)), upN b.hi (wrapF .i64 (1000000 - (rateP h ⟨0, 0⟩ x.bands).lo))⟩
def relF (h : Int) (vs : List Ves) (F B : List Rg) : List Rg := (vs.zip (F.zip B)).map fun t => relFr h t.1 t.2.1 t.2.2
def relB (h : Int) (vs : List Ves) (B : List Rg) : List Rg := (vs.zip B).map fun t => relBo h t.1 t.2
def relT (v : Vac) (g : Gs) (s : Bk) : Gs := ⟨relF s.heat v.vessels g.free g.bound, relB s.heat v.vessels g.bound, g.room, g.most, g.flashed⟩
theorem Z6h {h : Int} {vs : List Ves} {F B : List Rg} (h1 : F.length = vs.length) (h2 : B.length = vs.length) : (relF h vs F B).length = vs.length := by
 simp [relF, h1, h2]
theorem Z6i {h : Int} {vs : List Ves} {B : List Rg} (h2 : B.length = vs.length) : (relB h vs B).length = vs.length := by
 simp [relB, h2]
theorem Zei {h : Int} {vs : List Ves} {F B : List Rg} {i : Nat} (h0 : i < (relF h vs F B).length) (h1 : i < vs.length) (h2 : i < F.length) (h3 : i < B.length) : (relF h vs F B)[i] = relFr h vs[i] F[i] B[i] := by
 simp [relF]
theorem Z9v {h : Int} {vs : List Ves} {B : List Rg} {i : Nat} (h0 : i < (relB h vs B).length) (h1 : i < vs.length) (h3 : i < B.length) : (relB h vs B)[i] = relBo h vs[i] B[i] := by
 simp [relB]
theorem Z7n [hE : Emp E] {K : Nat} {X f b r : Nm} {v : Vac} {g : Gs} {s : Bk} {H : Heap} {n : Nat} {p : Nm} {j : Delta} (h : SysAt E H X f b r v g) (ha : Apart X f b r) (h1 : g.free ≠ []) (hl1 : g.free.length = v.vessels.length) (hl2 : g.bound.length = v.vessels.length) (hK : v.vessels.length + 20 < K) (hl : v.vessels.length <= 1000000) (hbd : ∀ x ∈ v.vessels, x.bands.length <= 8) :
  acall cfg (K + 2) 148 [.ptr X 0, bkV s] ⟨H, n, p, false, j⟩ = .ret (.tuple [], ⟨sysPut E X f b r v (relT v g s) H, n, p, false, j⟩) := by
 have hGF := Z6h (h := s.heat) hl1 hl2
 have hGB := Z6i (h := s.heat) hl2
 have h2 : g.bound ≠ [] := fun e => h1 (List.length_eq_zero_iff.1 (by rw [hl1, <- hl2, e]; rfl))
 refine Z13 Zgr Zgq h ha h1 h2 (by show (relF _ _ _ _).length = _; omega) (by show (relB _ _ _).length = _; omega) rfl fun H0 m hs hm => ?_
 refine Za rfl fun T hT' hA => ?_
 have a0 := hA 0 _ rfl
 have a1 := hA 1 _ rfl
 have hT : T.length = 92 := hT'
 clear hA hT'
 have g0 := hs.x
 unfold sysB at g0
 have k0 : ∀ X, hget (([m + 3], X) :: H0) [0] = hget H0 [0] := fun X => hc11 (by omega)
 simp -implicitDefEqProofs only [go_sem, a0, a1, hT, g0, k0]
 simp only [Z5]
 unfold relT
 refine Zu (fun k T s' => T.length = 92 /\ nth T 0 = some (.ptr [0] 0) /\ nth T 3 = some (.ptr [m + 3] 0) /\ nth T 14 = some (.lst (v.vessels.map vesV)) /\ nth T 15 = some (.int .i64 v.vessels.length) /\ ∃ (i m' : Nat) (H' : Heap), nth T 16 = some (.int .i64 i) /\ i <= v.vessels.length /\ k = v.vessels.length - i /\ s' = ⟨H', m' + 3, [], false, []⟩ /\ m < m' /\ hget H' [m + 3] = some (.cells [.int .i64 s.ticks, .int .i64 s.heat, .lst (s.shut.map iV), .bool s.flash] true 0) /\ SysAt E H' [0] [1] [2] [3] v ⟨(relF s.heat v.vessels g.free g.bound).take i ++ g.free.drop i, (relB s.heat v.vessels g.bound).take i ++ g.bound.drop i, g.room, g.most, g.flashed⟩) (k := v.vessels.length) (by omega) ?_ ?_
 ·exact ⟨by simp -implicitDefEqProofs only [redoH, redo1, go_sem, hT], by simp -implicitDefEqProofs only [redoH, redo1, go_sem, a0], by simp -implicitDefEqProofs only [redoH, redo1, go_sem, hT], by simp -implicitDefEqProofs only [redoH, redo1, go_sem, hT], by simp -implicitDefEqProofs only [redoH, redo1, go_sem, hT], 0, m + 1, _, by simp -implicitDefEqProofs only [redoH, redo1, go_sem, hT] <;> rfl, by omega, rfl, rfl, by omega, Z0 .., ⟨(k0 _).trans hs.x, (hc11 (by omega)).trans hs.f, (hc11 (by omega)).trans hs.b, fun e => (hc11 (by have := hm e; omega)).trans (hs.r e)⟩⟩
 clear a0 a1 hT T g0 k0 hs H0
 rintro k T s' ⟨hT, a0, a3, a14, a15, i, m', H0, a16, hi, rfl, rfl, hmm, hbk, hs⟩
 simp -implicitDefEqProofs only [go_sem, a0, a3, a14, a15, a16, hT]
 by_cases hil : (i : Int) < (v.vessels.length : Int)
 ·have hi' : i < v.vessels.length := by omega
  have e1 := Zj (f := vesV) (l := v.vessels) (i := i) (z := 6) hi' rfl
  have hkk : v.vessels.length - (i + 1) < v.vessels.length - i := by omega
  have hbx := hbd _ (List.getElem_mem hi')
  obtain ⟨F, hF, lF, f0, f1, fw⟩ := Z8z (G := relF s.heat v.vessels g.free g.bound) (F := g.free) (by omega) (show i < g.free.length by omega) _ (fun h0 => Zei h0 hi' (by omega) (by omega))
  obtain ⟨B, hB, lB, b0, b1, bw⟩ := Z8z (G := relB s.heat v.vessels g.bound) (F := g.bound) (by omega) (show i < g.bound.length by omega) _ (fun h0 => Z9v h0 hi' (by omega))
  rw [<- hF, <- hB] at hs
  clear hF hB
  generalize hF' : (relF s.heat v.vessels g.free g.bound).take (i + 1) ++ g.free.drop (i + 1) = F' at fw
  generalize hB' : (relB s.heat v.vessels g.bound).take (i + 1) ++ g.bound.drop (i + 1) = B' at bw
  generalize v.vessels[i] = x at *
  generalize g.free[i] = fi at *
  generalize g.bound[i] = bi at *
  simp only [vesV] at e1
  have k1 : ∀ X Y, hget (([m' + 4], X) :: ([m' + 3], Y) :: H0) [m' + 3] = some Y := fun X Y => (hc11 (by omega)).trans (Z0 ..)
  simp -implicitDefEqProofs only [go_sem, a0, a3, a14, a15, a16, hT, hil, e1, k1]
  simp only [Z5]
  refine Tr.Does.mono (Q := fun x' => ∃ (T' : List AV) (m2 : Nat) (H2 : Heap), x' = ((AExit.exit 2, T'), (⟨H2, m2 + 5, [], false, []⟩ : St)) /\ m' <= m2 /\ T'.length = 92 /\ nth T' 0 = some (.ptr [0] 0) /\ nth T' 3 = some (.ptr [m + 3] 0) /\ nth T' 4 = some (.int .i64 i) /\ nth T' 6 = some (.ptr [m' + 4] 0) /\ nth T' 14 = some (.lst (v.vessels.map vesV)) /\ nth T' 15 = some (.int .i64 v.vessels.length) /\ nth T' 16 = some (.int .i64 i) /\ hget H2 [m' + 4] = some (.cells [.int .i64 (rateP s.heat ⟨0, 0⟩ x.bands).lo, .int .i64 (rateP s.heat ⟨0, 0⟩ x.bands).hi] true 0) /\ ∀ k, k < m' + 3 -> hget H2 [k] = hget H0 [k]) ?_ ?_
  ·refine Zu (fun k T s' => T.length = 92 /\ nth T 0 = some (.ptr [0] 0) /\ nth T 3 = some (.ptr [m + 3] 0) /\ nth T 4 = some (.int .i64 i) /\ nth T 6 = some (.ptr [m' + 4] 0) /\ nth T 14 = some (.lst (v.vessels.map vesV)) /\ nth T 15 = some (.int .i64 v.vessels.length) /\ nth T 16 = some (.int .i64 i) /\ nth T 22 = some (.lst (x.bands.map relV)) /\ nth T 23 = some (.int .i64 x.bands.length) /\ ∃ (c m2 : Nat) (H2 : Heap) (q : Rg), nth T 24 = some (.int .i64 c) /\ c <= x.bands.length /\ k = x.bands.length - c /\ s' = ⟨H2, m2 + 5, [], false, []⟩ /\ m' <= m2 /\ hget H2 [m' + 4] = some (.cells [.int .i64 q.lo, .int .i64 q.hi] true 0) /\ (∀ k, k < m' + 3 -> hget H2 [k] = hget H0 [k]) /\ rateP s.heat ⟨0, 0⟩ x.bands = rateP s.heat q (x.bands.drop c)) (k := x.bands.length) (by omega) ?_ ?_
   ·exact ⟨by simp -implicitDefEqProofs only [redoH, redo1, go_sem, hT], by simp -implicitDefEqProofs only [redoH, redo1, go_sem, a0], by simp -implicitDefEqProofs only [redoH, redo1, go_sem, a3], by simp -implicitDefEqProofs only [redoH, redo1, go_sem, hT], by simp -implicitDefEqProofs only [redoH, redo1, go_sem, hT], by simp -implicitDefEqProofs only [redoH, redo1, go_sem, a14], by simp -implicitDefEqProofs only [redoH, redo1, go_sem, a15], by simp -implicitDefEqProofs only [redoH, redo1, go_sem, a16], by simp -implicitDefEqProofs only [redoH, redo1, go_sem, hT], by simp -implicitDefEqProofs only [redoH, redo1, go_sem, hT], 0, m', _, ⟨0, 0⟩, by simp -implicitDefEqProofs only [redoH, redo1, go_sem, hT] <;> rfl, by omega, rfl, rfl, Nat.le_refl _, Z0 .., fun k hk => (hc11 (by omega)).trans (hc11 (by omega)), rfl⟩
   clear a0 a3 a14 a15 a16 hT T k1
   rintro k T s' ⟨hT, a0, a3, a4, a6, a14, a15, a16, a22, a23, c, m2, H2, q, a24, hc, rfl, rfl, hm2, hq, hfr, hra⟩
   simp -implicitDefEqProofs only [go_sem, a0, a3, a4, a6, a14, a15, a16, a22, a23, a24, hT]
   by_cases hcl : (c : Int) < (x.bands.length : Int)
   ·have hc' : c < x.bands.length := by omega
    have e2 := Zj (f := relV) (l := x.bands) (i := c) (z := 3) hc' rfl
    have hk2 : x.bands.length - (c + 1) < x.bands.length - c := by omega
    rw [List.drop_eq_getElem_cons hc'] at hra
    generalize x.bands[c] = y at *
    simp only [rateP] at hra
    simp only [relV] at e2
    have k5 : ∀ X, hget (([m2 + 5], X) :: H2) [m2 + 5] = some X := fun X => Z0 ..
    have k3 : ∀ X, hget (([m2 + 5], X) :: H2) [m + 3] = _ := fun X => (hc11 (by omega)).trans ((hfr _ (by omega)).trans hbk)
    have k4 : ∀ X, hget (([m2 + 5], X) :: H2) [m' + 4] = _ := fun X => (hc11 (by omega)).trans hq
    by_cases cq : s.heat < y.frm
    ·rw [if_pos cq] at hra
     simp -implicitDefEqProofs only [go_sem, a0, a3, a4, a6, a14, a15, a16, a22, a23, a24, hT, hcl, e2, k5, k3, cq]
     exact ⟨_, m2 + 1, _, rfl, by omega, by simp -implicitDefEqProofs only [redoH, redo1, go_sem, hT], by simp -implicitDefEqProofs only [redoH, redo1, go_sem, a0], by simp -implicitDefEqProofs only [redoH, redo1, go_sem, a3], by simp -implicitDefEqProofs only [redoH, redo1, go_sem, a4], by simp -implicitDefEqProofs only [redoH, redo1, go_sem, a6], by simp -implicitDefEqProofs only [redoH, redo1, go_sem, a14], by simp -implicitDefEqProofs only [redoH, redo1, go_sem, a15], by simp -implicitDefEqProofs only [redoH, redo1, go_sem, a16], by rw [k4, hra], fun k hk => (hc11 (by omega)).trans (hfr k hk)⟩
    ·rw [if_neg cq] at hra
     have hw1 : wrapF .i64 ((c : Int) + 1) = ((c + 1 : Nat) : Int) := Z8 (by omega) (by omega)
     have nm4 : (m2 + 5 = m' + 4) = False := eq_false (by omega)
     simp -implicitDefEqProofs only [go_sem, a0, a3, a4, a6, a14, a15, a16, a22, a23, a24, hT, hcl, e2, k5, k3, k4, cq, hw1, nm4]
     exact ⟨x.bands.length - (c + 1), hk2, trivial, trivial, trivial, trivial, trivial, trivial, trivial, trivial, trivial, trivial, c + 1, m2 + 1, _, y.rate, rfl, hc', rfl, rfl, by omega, (hc11 (by omega)).trans (hss hq), fun k hk => (hc11 (by omega)).trans ((hs11 (by omega)).trans (hfr k hk)), hra⟩
   ·have hce : c = x.bands.length := by omega
    subst hce
    rw [List.drop_length] at hra
    simp only [rateP] at hra
    simp -implicitDefEqProofs only [go_sem, a0, a3, a4, a6, a14, a15, a16, a22, a23, a24, hT, hcl]
    exact ⟨_, m2, H2, rfl, hm2, by simp -implicitDefEqProofs only [redoH, redo1, go_sem, hT], by simp -implicitDefEqProofs only [redoH, redo1, go_sem, a0], by simp -implicitDefEqProofs only [redoH, redo1, go_sem, a3], by simp -implicitDefEqProofs only [redoH, redo1, go_sem, a4], by simp -implicitDefEqProofs only [redoH, redo1, go_sem, a6], by simp -implicitDefEqProofs only [redoH, redo1, go_sem, a14], by simp -implicitDefEqProofs only [redoH, redo1, go_sem, a15], by simp -implicitDefEqProofs only [redoH, redo1, go_sem, a16], by rw [hra]; exact hq, hfr⟩
  clear a0 a3 a14 a15 a16 hT T k1
  rintro _ ⟨T, m2, H2, rfl, hm2, hT, a0, a3, a4, a6, a14, a15, a16, hq, hfr⟩
  simp only [relFr, relBo] at fw bw
  generalize rateP s.heat ⟨0, 0⟩ x.bands = q at *
  have hinF : inR (i : Int) F.length = some i := Z0h (by omega)
  have hinB : inR (i : Int) B.length = some i := Z0h (by omega)
  have x0 := (hfr 0 (by omega)).trans hs.x
  have x1 := (hfr 1 (by omega)).trans hs.f
  have x2 := (hfr 2 (by omega)).trans hs.b
  have x3 := fun e => (hfr 3 (by have := hm e; omega)).trans (hs.r e)
  have xk := (hfr (m + 3) (by omega)).trans hbk
  have lF' : F'.length = F.length := by rw [<- hF', Z6g (by omega)]; omega
  have lB' : B'.length = B.length := by rw [<- hB', Z6g (by omega)]; omega
  have y0 : hget H2 [0] = some (sysB E v [1] [2] [3] ⟨F', B', g.room, g.most, g.flashed⟩) := x0.trans (congrArg some (Z2i lF'.symm lB'.symm rfl rfl rfl))
  clear hs hbk hfr
  unfold sysB at x0
  unfold rgB at x1 x2
  simp only at x0 x1 x2
  have k0 : ∀ X, hget (([m2 + 5], X) :: H2) [0] = hget H2 [0] := fun X => hc11 (by omega)
  have k1 : ∀ X, hget (([m2 + 5], X) :: H2) [1] = hget H2 [1] := fun X => hc11 (by omega)
  have k2 : ∀ X, hget (([m2 + 5], X) :: H2) [2] = hget H2 [2] := fun X => hc11 (by omega)
  have k4 : ∀ X, hget (([m2 + 5], X) :: H2) [m' + 4] = hget H2 [m' + 4] := fun X => hc11 (by omega)
  have k5 : ∀ X, hget (([m2 + 5], X) :: H2) [m2 + 5] = some X := fun X => Z0 ..
  have c1 := fun a b s => Z7b a b K s
  have c2 := fun a b s => Zc9 a b K s
  have c3 := fun a b s => Z1v ⟨fi.lo, fi.hi⟩ ⟨a, b⟩ K s
  simp only [rgV] at c3
  have hw1 : wrapF .i64 ((i : Int) + 1) = ((i + 1 : Nat) : Int) := Z8 (by omega) (by omega)
  have nm4 : ∀ x r, lkD (([1], x) :: r) [m' + 4] = lkD r [m' + 4] := fun x r => lk11 (by omega)
  have nm5 : ∀ x r, lkD (([1], x) :: r) [m2 + 5] = lkD r [m2 + 5] := fun x r => lk11 (by omega)
  simp -implicitDefEqProofs only [go_sem, a0, a3, a4, a6, a14, a15, a16, hT, x0, x2, hinB, b0, b1]
  try simp only [Z5]
  refine Zd [[], [0], [1, 0], [2, 1, 0], [3, 2, 1, 0], [], [], [6], [7, 6], [8, 7, 6], [9, 8, 7, 6], [], [10, 9, 8, 7, 6, 11], [12, 10, 9, 8, 7, 6, 11], [], [14], [], [16], [15, 14, 17, 16], [], [19], [], [21], [20, 19, 22, 21, 18, 15, 14, 17, 16], [23, 20, 19, 22, 21, 18, 15, 14, 17, 16], [13, 12, 10, 9, 8, 7, 6, 11, 24, 23, 20, 19, 22, 21, 18, 15, 14, 17, 16], [4, 3, 2, 1, 0, 5, 25, 13, 12, 10, 9, 8, 7, 6, 11, 24, 23, 20, 19, 22, 21, 18, 15, 14, 17, 16], [26, 4, 3, 2, 1, 0, 5, 25, 13, 12, 10, 9, 8, 7, 6, 11, 24, 23, 20, 19, 22, 21, 18, 15, 14, 17, 16]] [[], [], [], [], [], [], [], [], [], [], [], [], [], [], [], [], [], [], [], [], [], [], [], [], [], [], [], [[1]]] (by kernel_rfl) rfl rfl ?_
  simp -implicitDefEqProofs only [go_sem, Z1, lkn, Z4, lk11, lk13, lk31, lk33, Zb, Option.getD_some, Option.getD_none, a0, a3, a4, a6, a14, a15, a16, hT, x0, x1, hq, k0, k1, k4, k5, hinF, f0, f1, c1, c2, c3, Z02, fw, Ze]
  try simp only [Z5]
  refine Zd [[], [0], [1, 0], [2, 1, 0], [3, 2, 1, 0], [], [], [6], [], [8], [9, 8], [7, 6, 10, 9, 8], [], [12], [], [14], [15, 14], [13, 12, 16, 15, 14, 11, 7, 6, 10, 9, 8], [17, 13, 12, 16, 15, 14, 11, 7, 6, 10, 9, 8], [4, 3, 2, 1, 0, 5, 18, 17, 13, 12, 16, 15, 14, 11, 7, 6, 10, 9, 8], [19, 4, 3, 2, 1, 0, 5, 18, 17, 13, 12, 16, 15, 14, 11, 7, 6, 10, 9, 8]] [[], [], [], [], [], [], [], [], [], [], [], [], [], [], [], [], [], [], [], [], [[2]]] (by kernel_rfl) rfl rfl ?_
  simp -implicitDefEqProofs only [go_sem, Z1, lkn, Z4, lk11, lk13, lk31, lk33, Zb, Option.getD_some, Option.getD_none, a0, a3, a4, a6, a14, a15, a16, hT, x0, x2, hq, k0, k2, k4, k5, nm4, nm5, hinB, b0, b1, c1, c2, Z02, bw, hw1, Ze]
  refine ⟨v.vessels.length - (i + 1), hkk, trivial, trivial, trivial, trivial, trivial, i + 1, m2 + 5, _, rfl, hi', rfl, rfl, by omega, ?_, ?_⟩
  all_goals clear hw1
  ·simp (disch := omega) only [Z0, hc11, hc13, hc31, hc33, hs11, hs13, hs31, hs33, hd11, hd13, hd31, hd33, Z3, ht11, ht31, ne_eq, not_false_eq_true, Nat.succ_ne_zero, Z1, lkn, Z4, lk11, lk13, lk31, lk33, Zb, Option.getD_some, Option.getD_none]; exact xk
  ·rw [hF', hB']
   refine ⟨?_, ?_, ?_, fun e => ?_⟩
   ·simp (disch := omega) only [Z0, hc11, hc13, hc31, hc33, hs11, hs13, hs31, hs33, hd11, hd13, hd31, hd33, Z3, ht11, ht31, ne_eq, not_false_eq_true, Nat.succ_ne_zero, Z1, lkn, Z4, lk11, lk13, lk31, lk33, Zb, Option.getD_some, Option.getD_none]; exact y0
   ·simp (disch := omega) only [Z0, hc11, hc13, hc31, hc33, hs11, hs13, hs31, hs33, hd11, hd13, hd31, hd33, Z3, ht11, ht31, ne_eq, not_false_eq_true, Nat.succ_ne_zero, Z1, lkn, Z4, lk11, lk13, lk31, lk33, Zb, Option.getD_some, Option.getD_none]; rfl
   ·simp (disch := omega) only [Z0, hc11, hc13, hc31, hc33, hs11, hs13, hs31, hs33, hd11, hd13, hd31, hd33, Z3, ht11, ht31, ne_eq, not_false_eq_true, Nat.succ_ne_zero, Z1, lkn, Z4, lk11, lk13, lk31, lk33, Zb, Option.getD_some, Option.getD_none]; rfl
   ·have := hm e
    simp (disch := omega) only [Z0, hc11, hc13, hc31, hc33, hs11, hs13, hs31, hs33, hd11, hd13, hd31, hd33, Z3, ht11, ht31, ne_eq, not_false_eq_true, Nat.succ_ne_zero, Z1, lkn, Z4, lk11, lk13, lk31, lk33, Zb, Option.getD_some, Option.getD_none]; exact x3 e
 ·have hie : i = v.vessels.length := by omega
  subst hie
  simp -implicitDefEqProofs only [go_sem, a0, a3, a14, a15, a16, hT, hil, Try.results148]
  have e1 : (relF s.heat v.vessels g.free g.bound).take v.vessels.length ++ g.free.drop v.vessels.length = relF s.heat v.vessels g.free g.bound := by
   rw [List.drop_of_length_le (by omega), List.append_nil, List.take_of_length_le (by omega)]
  have e2 : (relB s.heat v.vessels g.bound).take v.vessels.length ++ g.bound.drop v.vessels.length = relB s.heat v.vessels g.bound := by
   rw [List.drop_of_length_le (by omega), List.append_nil, List.take_of_length_le (by omega)]
  rw [e1, e2] at hs
  exact ⟨trivial, hs⟩
end Go.Proofs.Ytgnpnfkncbnjnaa
namespace Go.Proofs.Ytgnpnfkncbnjnaa
attribute [local go_sem_proc] Int.reduceEq Int.reduceNeg Nat.reduceEqDiff Nat.reduceLT Nat.reduceAdd Nat.reduceSub Nat.reduceMul Int.reduceLE Int.reduceLT Int.reduceToNat Nat.reduceLeDiff
attribute [local go_sem] Int.toNat_natCast Bool.not_true Bool.not_false
open Go Go.Am
attribute [local congr] Zf Z9 Zc
attribute [local go_sem] Go.Am.frozen Go.Am.freezeG Go.Am.freezeGs
variable {E : AV}
def getFr (t : Gtr) (f r : Rg) : Rg := ⟨wrapF .i64 (f.lo - min2 (upN f.lo t.part.hi) r.hi), wrapF .i64 (f.hi - min2 (downN f.hi t.part.lo) r.lo)⟩
def getRo (t : Gtr) (f r : Rg) : Rg := ⟨max2 0 (wrapF .i64 (r.lo - upN f.hi t.part.hi)), max2 0 (wrapF .i64 (r.hi - downN f.lo t.part.lo))⟩
def getF : List Gtr -> Nat -> List Rg -> List Rg -> List Rg × List Rg
 | [], _, F, R => (F, R)
 | t :: ts, i, F, R => getF ts (i + 1) (F.set t.at'.toNat (getFr t (F[t.at'.toNat]?.getD ⟨0, 0⟩) (R[i]?.getD ⟨0, 0⟩))) (R.set i (getRo t (F[t.at'.toNat]?.getD ⟨0, 0⟩) (R[i]?.getD ⟨0, 0⟩)))
theorem Z6j : ∀ (l : List Gtr) (i : Nat) (F R : List Rg), (getF l i F R).1.length = F.length /\ (getF l i F R).2.length = R.length
 | [], _, _, _ => ⟨rfl, rfl⟩
 | t :: ts, i, F, R => by
  unfold getF
  have := Z6j ts (i + 1) (F.set t.at'.toNat (getFr t (F[t.at'.toNat]?.getD ⟨0, 0⟩) (R[i]?.getD ⟨0, 0⟩))) (R.set i (getRo t (F[t.at'.toNat]?.getD ⟨0, 0⟩) (R[i]?.getD ⟨0, 0⟩)))
  simpa using this
def getT (v : Vac) (g : Gs) (s : Bk) : Gs := if g.flashed = true then ⟨(getF v.getters 0 g.free g.room).1, g.bound, (getF v.getters 0 g.free g.room).2, g.most, g.flashed⟩ else g
theorem Z9w {b : Nm} {n : Nat} (h : 0 < n) : rowX E b n = .slice b 0 n n false := by cases n with | zero => omega | succ n => rfl
theorem Zej [hE : Emp E] {K : Nat} {X f b r : Nm} {v : Vac} {g : Gs} {s : Bk} {H : Heap} {n : Nat} {p : Nm} {j : Delta} (h : SysAt E H X f b r v g) (ha : Apart X f b r) (h1 : g.free ≠ []) (h2 : g.bound ≠ []) (hl1 : g.free.length = v.vessels.length) (hl3 : g.room.length = v.getters.length) (hK : v.getters.length + 20 < K) (hl : v.getters.length <= 1000000) (hat : ∀ t ∈ v.getters, 0 <= t.at' /\ t.at' < v.vessels.length) :
  acall cfg (K + 2) 150 [.ptr X 0, bkV s] ⟨H, n, p, false, j⟩ = .ret (.tuple [], ⟨sysPut E X f b r v (getT v g s) H, n, p, false, j⟩) := by
 have hgl := Z6j v.getters 0 g.free g.room
 refine Z13 Zgv Zgu h ha h1 h2 (by unfold getT; split <;> simp [hgl]) (by unfold getT; split <;> rfl) (by unfold getT; split <;> simp [hgl]) fun H0 m hs hm => ?_
 refine Za rfl fun T hT' hA => ?_
 have a0 := hA 0 _ rfl
 have a1 := hA 1 _ rfl
 have hT : T.length = 104 := hT'
 clear hA hT'
 have g0 := hs.x
 unfold sysB at g0
 have k0 : ∀ X, hget (([m + 3], X) :: H0) [0] = hget H0 [0] := fun X => hc11 (by omega)
 have hs' : ∀ X, SysAt E (([m + 3], X) :: H0) [0] [1] [2] [3] v g := fun X => ⟨(k0 _).trans hs.x, (hc11 (by omega)).trans hs.f, (hc11 (by omega)).trans hs.b, fun e => (hc11 (by have := hm e; omega)).trans (hs.r e)⟩
 unfold getT
 cases hfl : g.flashed with
 | false =>
  simp -implicitDefEqProofs only [go_sem, a0, a1, hT, g0, k0, hfl, Try.results150]
  exact ⟨trivial, hs' _⟩
 | true =>
  rw [if_pos rfl]
  simp -implicitDefEqProofs only [go_sem, a0, a1, hT, g0, k0, hfl]
  simp only [Z5]
  refine Zu (fun k T s' => T.length = 104 /\ nth T 0 = some (.ptr [0] 0) /\ nth T 18 = some (.lst (v.getters.map gtrV)) /\ nth T 19 = some (.int .i64 v.getters.length) /\ ∃ (i m' : Nat) (H' : Heap) (F R : List Rg), nth T 20 = some (.int .i64 i) /\ i <= v.getters.length /\ k = v.getters.length - i /\ s' = ⟨H', m' + 3, [], false, []⟩ /\ 1 <= m' /\ SysAt E H' [0] [1] [2] [3] v ⟨F, g.bound, R, g.most, true⟩ /\ F.length = g.free.length /\ R.length = g.room.length /\ getF v.getters 0 g.free g.room = getF (v.getters.drop i) i F R) (k := v.getters.length) (by omega) ?_ ?_
  ·exact ⟨by simp -implicitDefEqProofs only [redoH, redo1, go_sem, hT], by simp -implicitDefEqProofs only [redoH, redo1, go_sem, a0], by simp -implicitDefEqProofs only [redoH, redo1, go_sem, hT], by simp -implicitDefEqProofs only [redoH, redo1, go_sem, hT], 0, m + 1, _, g.free, g.room, by simp -implicitDefEqProofs only [redoH, redo1, go_sem, hT] <;> rfl, by omega, rfl, rfl, by omega, by have e := hs' (.cells [.int .i64 s.ticks, .int .i64 s.heat, .lst (s.shut.map iV), .bool s.flash] true 0); rw [show g = ⟨g.free, g.bound, g.room, g.most, true⟩ from by rw [<- hfl]] at e; exact e, rfl, rfl, rfl⟩
  clear a0 a1 hT T g0 k0 hs hs' H0
  rintro k T s' ⟨hT, a0, a18, a19, i, m', H0, F, R, a20, hi, rfl, rfl, hmm, hs, lF, lR, he⟩
  simp -implicitDefEqProofs only [go_sem, a0, a18, a19, a20, hT]
  by_cases hil : (i : Int) < (v.getters.length : Int)
  ·have hi' : i < v.getters.length := by omega
   have e1 := Zj (f := gtrV) (l := v.getters) (i := i) (z := 5) hi' rfl
   have hkk : v.getters.length - (i + 1) < v.getters.length - i := by omega
   have hax := hat _ (List.getElem_mem hi')
   rw [List.drop_eq_getElem_cons hi'] at he
   generalize v.getters[i] = x at *
   obtain ⟨a, hxa⟩ : ∃ a : Nat, x.at' = a := ⟨x.at'.toNat, by omega⟩
   have haF : a < F.length := by omega
   have hiR : i < R.length := by omega
   simp only [getF] at he
   rw [hxa, Int.toNat_natCast, List.getElem?_eq_getElem haF, List.getElem?_eq_getElem hiR, Option.getD_some, Option.getD_some] at he
   have f0 := J1 F haF
   have f1 := J2 F haF
   have fw := Z2h F haF (getFr x F[a] R[i])
   have r0 := J1 R hiR
   have r1 := J2 R hiR
   have rw' := Z2h R hiR (getRo x F[a] R[i])
   generalize F[a] = fi at *
   generalize R[i] = ri at *
   generalize hF' : F.set a (getFr x fi ri) = F' at *
   generalize hR' : R.set i (getRo x fi ri) = R' at *
   have lF' : F'.length = F.length := by rw [<- hF']; simp
   have lR' : R'.length = R.length := by rw [<- hR']; simp
   simp only [getFr, getRo] at fw rw'
   have hinF : inR (a : Int) F.length = some a := Z0h haF
   have hinR : inR (i : Int) R.length = some i := Z0h hiR
   have hrow : rowX E [3] R.length = .slice [3] 0 R.length R.length false := Z9w (by omega)
   have hrne : R ≠ [] := fun e => by rw [e] at hiR; simp at hiR
   have x0 := hs.x
   have x1 := hs.f
   have x2 := hs.b
   have x3 := hs.r hrne
   have y0 : hget H0 [0] = some (sysB E v [1] [2] [3] ⟨F', g.bound, R', g.most, true⟩) := x0.trans (congrArg some (Z2i lF'.symm rfl lR'.symm rfl rfl))
   unfold sysB at x0
   unfold rgB at x1 x3
   simp only at x0 x1 x2 x3
   rw [hrow] at x0
   simp only [gtrV] at e1
   rw [hxa] at e1
   have c1 := fun a b s => Z7b a b K s
   have c2 := fun a b s => Zc9 a b K s
   have k0 : ∀ X, hget (([m' + 3], X) :: H0) [0] = hget H0 [0] := fun X => hc11 (by omega)
   have k1 : ∀ X, hget (([m' + 3], X) :: H0) [1] = hget H0 [1] := fun X => hc11 (by omega)
   have k3 : ∀ X, hget (([m' + 3], X) :: H0) [3] = hget H0 [3] := fun X => hc11 (by omega)
   have k5 : ∀ X, hget (([m' + 3], X) :: H0) [m' + 3] = some X := fun X => Z0 ..
   have hw1 : wrapF .i64 ((i : Int) + 1) = ((i + 1 : Nat) : Int) := Z8 (by omega) (by omega)
   have hm0 : (m' = 0) = False := eq_false (by omega)
   have nm1 : ∀ x r, lkD (([1], x) :: r) [m' + 3] = lkD r [m' + 3] := fun x r => lk11 (by omega)
   simp -implicitDefEqProofs only [go_sem, a0, a18, a19, a20, hT, hil, e1]
   try simp only [Z5]
   refine Zd [[], [0], [1, 0], [2, 1, 0], [3, 2, 1, 0], [], [5], [4, 3, 2, 1, 0, 6, 5], [7, 4, 3, 2, 1, 0, 6, 5], [], [9], [10, 9], [11, 10, 9], [12, 11, 10, 9], [], [13, 12, 11, 10, 9, 14], [15, 13, 12, 11, 10, 9, 14], [], [], [8, 7, 4, 3, 2, 1, 0, 6, 5, 17, 18], [16, 15, 13, 12, 11, 10, 9, 14, 19, 8, 7, 4, 3, 2, 1, 0, 6, 5, 17, 18]] [[], [], [], [], [], [], [], [], [], [], [], [], [], [], [], [], [], [], [], [[m' + 4, 17, 0]], [[m' + 4, 18, 0]]] (by kernel_rfl) rfl rfl ?_
   simp -implicitDefEqProofs only [go_sem, Z1, lkn, Z4, lk11, lk13, lk31, lk33, Zb, Option.getD_some, Option.getD_none, a0, a18, a19, a20, hT, x0, x1, x3, k0, k1, k3, k5, hinF, hinR, f0, f1, r0, r1, hd31, hm0, Ze]
   try simp only [Z5]
   refine Zd [[], [0], [1, 0], [2, 1, 0], [3, 2, 1, 0], [], [5], [], [7], [], [9], [], [11], [12, 11], [10, 9, 13, 12, 11], [], [15], [14, 10, 9, 13, 12, 11, 16, 15], [8, 7, 17, 14, 10, 9, 13, 12, 11, 16, 15], [], [19], [], [21], [], [23], [24, 23], [22, 21, 25, 24, 23, 14, 10, 9, 13, 12, 11], [], [27], [26, 22, 21, 25, 24, 23, 14, 10, 9, 13, 12, 11, 28, 27], [20, 19, 29, 26, 22, 21, 25, 24, 23, 14, 10, 9, 13, 12, 11, 28, 27], [18, 8, 7, 17, 16, 15, 30, 20, 19, 29, 26, 22, 21, 25, 24, 23, 14, 10, 9, 13, 12, 11, 28, 27], [4, 3, 2, 1, 0, 6, 5, 31, 18, 8, 7, 17, 16, 15, 30, 20, 19, 29, 26, 22, 21, 25, 24, 23, 14, 10, 9, 13, 12, 11, 28, 27], [32, 4, 3, 2, 1, 0, 6, 5, 31, 18, 8, 7, 17, 16, 15, 30, 20, 19, 29, 26, 22, 21, 25, 24, 23, 14, 10, 9, 13, 12, 11, 28, 27]] [[], [], [], [], [], [], [], [], [], [], [], [], [], [], [], [], [], [], [], [], [], [], [], [], [], [], [], [], [], [], [], [], [], [[1]]] (by kernel_rfl) rfl rfl ?_
   simp -implicitDefEqProofs only [go_sem, Z1, lkn, Z4, lk11, lk13, lk31, lk33, Zb, Option.getD_some, Option.getD_none, a0, a18, a19, a20, hT, x0, x1, x3, k0, k1, k3, k5, nm1, hd31, hm0, hinF, hinR, f0, f1, r0, r1, c1, c2, Z5j, Zf4, Z02, fw, Ze]
   try simp only [Z5]
   refine Zd [[], [0], [1, 0], [2, 1, 0], [3, 2, 1, 0], [], [], [6], [], [8], [], [10], [11, 10], [9, 8, 12, 11, 10], [7, 6, 13, 9, 8, 12, 11, 10], [14, 7, 6, 13, 9, 8, 12, 11, 10], [], [16], [], [18], [], [20], [21, 20], [19, 18, 22, 21, 20, 13, 9, 8, 12, 11, 10], [17, 16, 23, 19, 18, 22, 21, 20, 13, 9, 8, 12, 11, 10], [24, 17, 16, 23, 19, 18, 22, 21, 20, 13, 9, 8, 12, 11, 10], [15, 14, 7, 6, 25, 24, 17, 16, 23, 19, 18, 22, 21, 20, 13, 9, 8, 12, 11, 10], [4, 3, 2, 1, 0, 5, 26, 15, 14, 7, 6, 25, 24, 17, 16, 23, 19, 18, 22, 21, 20, 13, 9, 8, 12, 11, 10], [27, 4, 3, 2, 1, 0, 5, 26, 15, 14, 7, 6, 25, 24, 17, 16, 23, 19, 18, 22, 21, 20, 13, 9, 8, 12, 11, 10]] [[], [], [], [], [], [], [], [], [], [], [], [], [], [], [], [], [], [], [], [], [], [], [], [], [], [], [], [], [[3]]] (by kernel_rfl) rfl rfl ?_
   simp -implicitDefEqProofs only [go_sem, Z1, lkn, Z4, lk11, lk13, lk31, lk33, Zb, Option.getD_some, Option.getD_none, a0, a18, a19, a20, hT, x0, x1, x3, k0, k1, k3, k5, nm1, hd31, hm0, hinF, hinR, f0, f1, r0, r1, c1, c2, Z5j, Zf4, Z02, rw', hw1, Ze]
   refine ⟨v.getters.length - (i + 1), hkk, trivial, trivial, trivial, trivial, i + 1, m' + 4, _, F', R', rfl, hi', rfl, rfl, by omega, ?_, by rw [lF']; exact lF, by rw [lR']; exact lR, he⟩
   all_goals clear hw1
   refine ⟨?_, ?_, ?_, fun e => ?_⟩
   ·simp (disch := omega) only [Z0, hc11, hc13, hc31, hc33, hs11, hs13, hs31, hs33, hd11, hd13, hd31, hd33, Z3, ht11, ht31, ne_eq, not_false_eq_true, Nat.succ_ne_zero, Z1, lkn, Z4, lk11, lk13, lk31, lk33, Zb, Option.getD_some, Option.getD_none]; exact y0
   ·simp (disch := omega) only [Z0, hc11, hc13, hc31, hc33, hs11, hs13, hs31, hs33, hd11, hd13, hd31, hd33, Z3, ht11, ht31, ne_eq, not_false_eq_true, Nat.succ_ne_zero, Z1, lkn, Z4, lk11, lk13, lk31, lk33, Zb, Option.getD_some, Option.getD_none]; rfl
   ·simp (disch := omega) only [Z0, hc11, hc13, hc31, hc33, hs11, hs13, hs31, hs33, hd11, hd13, hd31, hd33, Z3, ht11, ht31, ne_eq, not_false_eq_true, Nat.succ_ne_zero, Z1, lkn, Z4, lk11, lk13, lk31, lk33, Zb, Option.getD_some, Option.getD_none]; exact x2
   ·simp (disch := omega) only [Z0, hc11, hc13, hc31, hc33, hs11, hs13, hs31, hs33, hd11, hd13, hd31, hd33, Z3, ht11, ht31, ne_eq, not_false_eq_true, Nat.succ_ne_zero, Z1, lkn, Z4, lk11, lk13, lk31, lk33, Zb, Option.getD_some, Option.getD_none]; rfl
  ·have hie : i = v.getters.length := by omega
   subst hie
   rw [List.drop_length] at he
   simp only [getF] at he
   rw [he]
   simp -implicitDefEqProofs only [go_sem, a0, a18, a19, a20, hT, hil, Try.results150]
   exact ⟨trivial, hs⟩
end Go.Proofs.Ytgnpnfkncbnjnaa
namespace Go.Proofs.Ytgnpnfkncbnjnaa
attribute [local go_sem_proc] Int.reduceEq Int.reduceNeg Nat.reduceEqDiff Nat.reduceLT Nat.reduceAdd Nat.reduceSub Nat.reduceMul Int.reduceLE Int.reduceLT Int.reduceToNat Nat.reduceLeDiff
attribute [local go_sem] Int.toNat_natCast Bool.not_true Bool.not_false
open Go Go.Am
attribute [local congr] Zf Z9 Zc
attribute [local go_sem] Go.Am.frozen Go.Am.freezeG Go.Am.freezeGs
variable {E : AV}
def mulR (f r : Rg) : Rg := ⟨wrapF .i64 (f.lo * r.lo), wrapF .i64 (f.hi * r.hi)⟩
theorem Z7o (x y : Int) (a : Nat) (r : Rg) (c2 c5 M : Nat) (es : List (Int × Rg)) (cs : List AV) (F : List Rg) (K : Nat) (H : Heap) (n : Nat) (hy : y = a) (ha : a < F.length) (h2 : hget H [c2] = some (.cells [.ptr [0] 0] true 0)) (h5 : hget H [c5] = some (.cells [.map [M]] true 0)) (hM : hget H [M] = some (.map (encE es) false)) (h0 : hget H [0] = some (.cells cs true 0)) (hcs : nth cs 5 = some (.slice [1] 0 F.length F.length false)) (h1 : hget H [1] = some (rgB F)) (l2 : c2 < n) (l5 : c5 < n) (lM : M < n) (l1 : 1 < n) (nM0 : M ≠ 0) (nM1 : M ≠ 1) (nM2 : M ≠ c2) (nM5 : M ≠ c5) :
  ∃ H' n', acall cfg (K + 2) 180 [.int .i64 x, .int .i64 y, rgV r, .ptr [c2] 0, .ptr [c5] 0] ⟨H, n, [], false, []⟩ = .ret (.tuple [], ⟨H', n', [], false, []⟩) /\ n <= n' /\ hget H' [M] = some (.map (encE (setS es x (plusR (getS es x) (mulR F[a] r)))) false) /\ (∀ k, k < n -> k ≠ M -> hget H' [k] = hget H [k]) /\ ∀ k a b, hget H' [k, a, b] = hget H [k, a, b] := by
 suffices h : (acall cfg (K + 2) 180 [.int .i64 x, .int .i64 y, rgV r, .ptr [c2] 0, .ptr [c5] 0] ⟨H, n, [], false, []⟩).Does fun q => ∃ H' n', q = (.tuple [], ⟨H', n', [], false, []⟩) /\ n <= n' /\ hget H' [M] = some (.map (encE (setS es x (plusR (getS es x) (mulR F[a] r)))) false) /\ (∀ k, k < n -> k ≠ M -> hget H' [k] = hget H [k]) /\ ∀ k a b, hget H' [k, a, b] = hget H [k, a, b] by
  obtain ⟨q, e, H', n', rfl, h⟩ := h
  exact ⟨H', n', e, h⟩
 subst hy
 rw [Z68 Zhj Zhi]
 refine Za rfl fun T hT' hA => ?_
 have a0 := hA 0 _ rfl
 have a1 := hA 1 _ rfl
 have a2 := hA 2 _ rfl
 have a3 := hA 3 _ rfl
 have a4 := hA 4 _ rfl
 have hT : T.length = 34 := hT'
 clear hA hT'
 have f0 := J1 F ha
 have f1 := J2 F ha
 have hin : inR (a : Int) F.length = some a := Z0h ha
 generalize F[a] = f at *
 unfold rgB at h1
 have k2 : ∀ X, hget (([n], X) :: H) [c2] = hget H [c2] := fun X => hc11 (by omega)
 have k0 : ∀ X, hget (([n], X) :: H) [0] = hget H [0] := fun X => hc11 (by omega)
 have k1 : ∀ X, hget (([n], X) :: H) [1] = hget H [1] := fun X => hc11 (by omega)
 have e2 : ∀ X Y, hget (([n + 1], Y) :: ([n], X) :: H) [c5] = hget H [c5] := fun X Y => (hc11 (by omega)).trans (hc11 (by omega))
 have e3 : ∀ X Y, hget (([n + 1], Y) :: ([n], X) :: H) [M] = hget H [M] := fun X Y => (hc11 (by omega)).trans (hc11 (by omega))
 have e4 : ∀ X Y, hget (([n + 1], Y) :: ([n], X) :: H) [n] = some X := fun X Y => (hc11 (by omega)).trans (Z0 ..)
 have e5 : ∀ X Y, hget (([n + 1], Y) :: ([n], X) :: H) [n + 1] = some Y := fun X Y => Z0 ..
 have hlk := fun (s : St) (hg : hget s.H [M] = some (.map (encE es) false)) => Z9p (C := cfg.at 180) rfl (k := x) hg
 have hup := fun (s : St) (hg : hget s.H [M] = some (.map (encE es) false)) => Zhn (C := cfg.at 180) rfl (k := x) (x := plusR (getS es x) (mulR f r)) hg
 have hpl := fun s => Z1v (getS es x) (mulR f r) K s
 generalize hE : setS es x (plusR (getS es x) (mulR f r)) = es2 at *
 generalize plusR (getS es x) (mulR f r) = pp at *
 simp only [rgV, mulR] at hlk hup hpl
 simp -implicitDefEqProofs only [go_sem, a0, a1, a2, a3, a4, hT, k2, h2, k0, h0, hcs, hin, k1, h1, f0, f1]
 have ip : isPre [n + 1 + 1, 17] [M] = false := Go.Am.Je _ _ (by omega)
 try simp only [Z5]
 refine Zd [[], [], [], [], [2, 3], [], [5], [], [7], [6, 5, 8, 7], [], [10], [], [12], [11, 10, 13, 12], [9, 6, 5, 8, 7, 14, 11, 10, 13, 12], [4, 2, 3, 15, 9, 6, 5, 8, 7, 14, 11, 10, 13, 12], [0, 1, 16, 4, 2, 3, 15, 9, 6, 5, 8, 7, 14, 11, 10, 13, 12]] [[], [], [], [], [], [], [], [], [], [], [], [], [], [], [], [], [], [[M]]] (by kernel_rfl) rfl rfl ?_
 simp -implicitDefEqProofs only [go_sem, Z1, lkn, Z4, lk11, lk13, lk31, lk33, Zb, Option.getD_some, Option.getD_none, a0, a1, a2, a3, a4, hT, e2, e3, e4, e5, h5, hM, hlk, hup, hpl, ip, Ze, Try.results180]
 refine ⟨_, _, rfl, by omega, ?_, fun k hk hne => ?_, fun k a b => ?_⟩
 ·simp (disch := omega) only [Z0, hc11, hc13, hc31, hc33, hs11, hs13, hs31, hs33, hd11, hd13, hd31, hd33, Z3, ht11, ht31, ne_eq, not_false_eq_true, Nat.succ_ne_zero, Z1, lkn, Z4, lk11, lk13, lk31, lk33, Zb, Option.getD_some, Option.getD_none]
 ·simp (disch := omega) only [Z0, hc11, hc13, hc31, hc33, hs11, hs13, hs31, hs33, hd11, hd13, hd31, hd33, Z3, ht11, ht31, ne_eq, not_false_eq_true, Nat.succ_ne_zero, Z1, lkn, Z4, lk11, lk13, lk31, lk33, Zb, Option.getD_some, Option.getD_none]
 ·simp (disch := omega) only [Z0, hc11, hc13, hc31, hc33, hs11, hs13, hs31, hs33, hd11, hd13, hd31, hd33, Z3, ht11, ht31, ne_eq, not_false_eq_true, Nat.succ_ne_zero, Z1, lkn, Z4, lk11, lk13, lk31, lk33, Zb, Option.getD_some, Option.getD_none]
end Go.Proofs.Ytgnpnfkncbnjnaa
namespace Go.Proofs.Ytgnpnfkncbnjnaa
attribute [local go_sem_proc] Int.reduceEq Int.reduceNeg Nat.reduceEqDiff Nat.reduceLT Nat.reduceAdd Nat.reduceSub Nat.reduceMul Int.reduceLE Int.reduceLT Int.reduceToNat Nat.reduceLeDiff
attribute [local go_sem] Int.toNat_natCast Bool.not_true Bool.not_false
open Go Go.Am
attribute [local congr] Zf Z9 Zc
attribute [local go_sem] Go.Am.frozen Go.Am.freezeG Go.Am.freezeGs
variable {E : AV}
def atR (F : List Rg) (a : Int) : Rg := F[a.toNat]?.getD ⟨0, 0⟩
theorem Jg (F : List Rg) {a : Nat} (h : a < F.length) : atR F a = F[a] := by
 unfold atR; rw [Int.toNat_natCast, List.getElem?_eq_getElem h]; rfl
def begR (v : Vac) (shut : List Int) (F : List Rg) (i : Int) : Rg := mulR (atR F i) ⟨wrapF .i64 (1000000 - (outR v i shut).hi), wrapF .i64 (1000000 - (outR v i shut).lo)⟩
def flowS (F : List Rg) (shut : List Int) (x : Int) : Nat -> Rg -> List Pip -> Rg
 | _, acc, [] => acc
 | k, acc, p :: r => if (k : Int) ∈ shut then flowS F shut x (k + 1) acc r else
  flowS F shut x (k + 1) (if x = p.a then plusR (if x = p.b then plusR acc (mulR (atR F p.a) p.out) else acc) (mulR (atR F p.b) p.back) else (if x = p.b then plusR acc (mulR (atR F p.a) p.out) else acc)) r
def quoR (r : Rg) : Rg := ⟨wrapF .i64 (r.lo.tdiv 1000000), wrapF .i64 ((wrapF .i64 (wrapF .i64 (r.hi + 1000000) - 1)).tdiv 1000000)⟩
def flowG (v : Vac) (shut : List Int) (F : List Rg) : List Rg := (List.range F.length).map fun (i : Nat) => quoR (flowS F shut i 0 (begR v shut F i) v.pipes)
def leakR : List Rg -> List Inl -> List Rg
 | R, [] => R
 | R, l :: r => leakR (R.set l.at'.toNat (plusR (atR R l.at') l.gas)) r
theorem Z4b : ∀ (l : List Inl) (R : List Rg), (leakR R l).length = R.length
 | [], _ => rfl
 | x :: l, R => by unfold leakR; rw [Z4b l]; simp
theorem Jq (v : Vac) (shut : List Int) (F : List Rg) : (flowG v shut F).length = F.length := by simp [flowG]
def flowT (v : Vac) (g : Gs) (s : Bk) : Gs := ⟨leakR (flowG v s.shut g.free) v.leaks, g.bound, g.room, g.most, g.flashed⟩
structure Fl (E : AV) (m : Nat) (v : Vac) (g : Gs) (s : Bk) (H : Heap) : Prop where
 p : hget H [m + 3] = some (.cells [.ptr [0] 0] true 0)
 k : hget H [m + 4] = some (.cells [.int .i64 s.ticks, .int .i64 s.heat, .lst (s.shut.map iV), .bool s.flash] true 0)
 c : hget H [m + 7] = some (.cells [.map [m + 6]] true 0)
 l : hget H [m + 5, 6, 0] = some (.map (encE (leaveL v s.shut)) false)
 s : SysAt E H [0] [1] [2] [3] v g
theorem Fl.of {m : Nat} {v : Vac} {g : Gs} {s : Bk} {H H' : Heap} (h : Fl E m v g s H) (e : ∀ k, k < m + 8 -> k ≠ m + 6 -> hget H' [k] = hget H [k]) (e2 : hget H' [m + 5, 6, 0] = hget H [m + 5, 6, 0]) (hm : g.room ≠ [] -> 1 <= m) (h3 : 3 <= m + 3) : Fl E m v g s H' :=
 ⟨(e _ (by omega) (by omega)).trans h.p, (e _ (by omega) (by omega)).trans h.k, (e _ (by omega) (by omega)).trans h.c, e2.trans h.l,
  ⟨(e 0 (by omega) (by omega)).trans h.s.x, (e 1 (by omega) (by omega)).trans h.s.f, (e 2 (by omega) (by omega)).trans h.s.b, fun q => (e 3 (by omega) (by omega)).trans (h.s.r q)⟩⟩
theorem Zcu [hE : Emp E] {K : Nat} {X f b r : Nm} {v : Vac} {g : Gs} {s : Bk} {H : Heap} {n : Nat} {p : Nm} {j : Delta} (h : SysAt E H X f b r v g) (ha : Apart X f b r) (h1 : g.free ≠ []) (h2 : g.bound ≠ []) (hl1 : g.free.length = v.vessels.length) (hK : v.vessels.length + 100 < K) (hl : v.vessels.length <= 1000000) (hv : v.Lens K) (hsh : s.shut.length < K) (hsh2 : s.shut.length <= 9223372036854775807)
  (hpp : ∀ q ∈ v.pipes, (0 <= q.a /\ q.a < v.vessels.length) /\ 0 <= q.b /\ q.b < v.vessels.length) (hll : ∀ q ∈ v.leaks, 0 <= q.at' /\ q.at' < v.vessels.length) :
  acall cfg (K + 4) 149 [.ptr X 0, bkV s] ⟨H, n, p, false, j⟩ = .ret (.tuple [], ⟨sysPut E X f b r v (flowT v g s) H, n, p, false, j⟩) := by
 refine Z13 Zgt Zgs h ha h1 h2 (by show (leakR _ _).length = _; rw [Z4b, Jq]) rfl rfl fun H0 m hs hm => ?_
 refine Za rfl fun T hT' hA => ?_
 have a0 := hA 0 _ rfl
 have a1 := hA 1 _ rfl
 have hT : T.length = 148 := hT'
 clear hA hT'
 have g0 := hs.x
 unfold sysB at g0
 have q0 : ∀ X Y, hget (([m + 4], X) :: ([m + 3], Y) :: H0) [0] = hget H0 [0] := fun X Y => (hc11 (by omega)).trans (hc11 (by omega))
 have q3 : ∀ X Y, hget (([m + 4], X) :: ([m + 3], Y) :: H0) [m + 3] = some Y := fun X Y => (hc11 (by omega)).trans (Z0 ..)
 have q4 : ∀ X Y, hget (([m + 4], X) :: ([m + 3], Y) :: H0) [m + 4] = some X := fun X Y => Z0 ..
 have u1 : (m + 4 = m) = False := eq_false (by omega)
 have u2 : (m + 3 = m) = False := eq_false (by omega)
 have hlv := fun s' => Z2r v s.shut K s' hv hsh hsh2
 simp only [vacV] at hlv
 simp -implicitDefEqProofs only [go_sem, a0, a1, hT]
 try simp only [Z5]
 refine Zd [[], [0], [1, 0], [2, 1, 0], [], [4], [3, 2, 1, 0, 5, 4], [6, 3, 2, 1, 0, 5, 4]] [[], [], [], [], [], [], [], []] (by kernel_rfl) rfl rfl ?_
 simp -implicitDefEqProofs only [go_sem, Z1, lkn, Z4, lk11, lk13, lk31, lk33, Zb, Option.getD_some, Option.getD_none, a0, a1, hT, g0, q0, q3, q4, hlv, u1, u2, Ze]
 have hF1 : ∀ B1 : Blk, Fl E m v g s (([m + 7], .cells [.map [m + 6]] true 0) :: ([m + 6], B1) :: redoH (([m + 4], .cells [.int .i64 s.ticks, .int .i64 s.heat, .lst (s.shut.map iV), .bool s.flash] true 0) :: ([m + 3], .cells [.ptr [0] 0] true 0) :: H0) [([m + 5, 6, 0], some (.map (encE (leaveL v s.shut)) false))]) := fun B1 =>
  ⟨by simp (disch := omega) only [Z0, hc11, hc13, hc31, hc33, hs11, hs13, hs31, hs33, hd11, hd13, hd31, hd33, Z3, ht11, ht31, ne_eq, not_false_eq_true, Nat.succ_ne_zero, Z1, lkn, Z4, lk11, lk13, lk31, lk33, Zb, Option.getD_some, Option.getD_none], by simp (disch := omega) only [Z0, hc11, hc13, hc31, hc33, hs11, hs13, hs31, hs33, hd11, hd13, hd31, hd33, Z3, ht11, ht31, ne_eq, not_false_eq_true, Nat.succ_ne_zero, Z1, lkn, Z4, lk11, lk13, lk31, lk33, Zb, Option.getD_some, Option.getD_none], Z0 .., by simp (disch := omega) only [Z0, hc11, hc13, hc31, hc33, hs11, hs13, hs31, hs33, hd11, hd13, hd31, hd33, Z3, ht11, ht31, ne_eq, not_false_eq_true, Nat.succ_ne_zero, Z1, lkn, Z4, lk11, lk13, lk31, lk33, Zb, Option.getD_some, Option.getD_none], ⟨by simp (disch := omega) only [Z0, hc11, hc13, hc31, hc33, hs11, hs13, hs31, hs33, hd11, hd13, hd31, hd33, Z3, ht11, ht31, ne_eq, not_false_eq_true, Nat.succ_ne_zero, Z1, lkn, Z4, lk11, lk13, lk31, lk33, Zb, Option.getD_some, Option.getD_none]; exact hs.x, by simp (disch := omega) only [Z0, hc11, hc13, hc31, hc33, hs11, hs13, hs31, hs33, hd11, hd13, hd31, hd33, Z3, ht11, ht31, ne_eq, not_false_eq_true, Nat.succ_ne_zero, Z1, lkn, Z4, lk11, lk13, lk31, lk33, Zb, Option.getD_some, Option.getD_none]; exact hs.f, by simp (disch := omega) only [Z0, hc11, hc13, hc31, hc33, hs11, hs13, hs31, hs33, hd11, hd13, hd31, hd33, Z3, ht11, ht31, ne_eq, not_false_eq_true, Nat.succ_ne_zero, Z1, lkn, Z4, lk11, lk13, lk31, lk33, Zb, Option.getD_some, Option.getD_none]; exact hs.b, fun e => by have := hm e; simp (disch := omega) only [Z0, hc11, hc13, hc31, hc33, hs11, hs13, hs31, hs33, hd11, hd13, hd31, hd33, Z3, ht11, ht31, ne_eq, not_false_eq_true, Nat.succ_ne_zero, Z1, lkn, Z4, lk11, lk13, lk31, lk33, Zb, Option.getD_some, Option.getD_none]; exact hs.r e⟩⟩
 simp only [Z5]
 refine Tr.Does.mono (Q := fun x => ∃ (T' : List AV) (m' : Nat) (H' : Heap) (es : List (Int × Rg)), x = ((AExit.exit 0, T'), (⟨H', m' + 8, [], false, []⟩ : St)) /\ m <= m' /\ T'.length = 148 /\ nth T' 2 = some (.ptr [m + 3] 0) /\ nth T' 3 = some (.ptr [m + 4] 0) /\ nth T' 5 = some (.ptr [m + 7] 0) /\ Fl E m v g s H' /\ hget H' [m + 6] = some (.map (encE es) false) /\ ∀ q : Nat, q < g.free.length -> getS es q = begR v s.shut g.free q) ?_ ?_
 ·refine Zu (fun k T s' => T.length = 148 /\ nth T 2 = some (.ptr [m + 3] 0) /\ nth T 3 = some (.ptr [m + 4] 0) /\ nth T 4 = some (.map [m + 5, 6, 0]) /\ nth T 5 = some (.ptr [m + 7] 0) /\ nth T 26 = some (.slice [1] 0 g.free.length g.free.length false) /\ nth T 27 = some (.int .i64 g.free.length) /\ ∃ (i m' : Nat) (H' : Heap) (es : List (Int × Rg)), nth T 28 = some (.int .i64 i) /\ i <= g.free.length /\ k = g.free.length - i /\ s' = ⟨H', m' + 8, [], false, []⟩ /\ m <= m' /\ Fl E m v g s H' /\ hget H' [m + 6] = some (.map (encE es) false) /\ ∀ q : Nat, q < i -> getS es q = begR v s.shut g.free q) (k := g.free.length) (by omega) ?_ ?_
  ·exact ⟨by simp -implicitDefEqProofs only [redoH, redo1, go_sem, hT], by simp -implicitDefEqProofs only [redoH, redo1, go_sem, hT], by simp -implicitDefEqProofs only [redoH, redo1, go_sem, hT], by simp -implicitDefEqProofs only [redoH, redo1, go_sem, hT], by simp -implicitDefEqProofs only [redoH, redo1, go_sem, hT], by simp -implicitDefEqProofs only [redoH, redo1, go_sem, hT], by simp -implicitDefEqProofs only [redoH, redo1, go_sem, hT], 0, m, _, [], by simp -implicitDefEqProofs only [redoH, redo1, go_sem, hT] <;> rfl, by omega, rfl, rfl, Nat.le_refl _, hF1 _, by simp (disch := omega) only [Z0, hc11, hc13, hc31, hc33, hs11, hs13, hs31, hs33, hd11, hd13, hd31, hd33, Z3, ht11, ht31, ne_eq, not_false_eq_true, Nat.succ_ne_zero, Z1, lkn, Z4, lk11, lk13, lk31, lk33, Zb, Option.getD_some, Option.getD_none]; rfl, fun q hq => absurd hq (by omega)⟩
  clear a0 a1 hT T g0 q0 q3 q4 hs H0 hF1
  rintro k T s' ⟨hT, a2, a3, a4, a5, a26, a27, i, m', H0, es, a28, hi, rfl, rfl, hmm, hF, hM, hq⟩
  simp -implicitDefEqProofs only [go_sem, a2, a3, a4, a5, a26, a27, a28, hT]
  by_cases hil : (i : Int) < (g.free.length : Int)
  ·have hi' : i < g.free.length := by omega
   have hkk : g.free.length - (i + 1) < g.free.length - i := by omega
   have f0 := J1 g.free hi'
   have f1 := J2 g.free hi'
   have hin : inR (i : Int) g.free.length = some i := Z0h hi'
   have hbg : begR v s.shut g.free i = mulR g.free[i] ⟨wrapF .i64 (1000000 - (outR v i s.shut).hi), wrapF .i64 (1000000 - (outR v i s.shut).lo)⟩ := by unfold begR; rw [Jg _ hi']
   generalize g.free[i] = fi at *
   have x1 := hF.s.f
   unfold rgB at x1
   have hc := hF.c
   have hlL := hF.l
   have z1 : (m' + 1 = m) = False := eq_false (by omega)
   have z2 : (m' + 2 = m) = False := eq_false (by omega)
   have z4 : (m' + 4 = m) = False := eq_false (by omega)
   have z5 : (m' + 5 = m) = False := eq_false (by omega)
   have hlk := fun (st : St) (hg : hget st.H [m + 5, 6, 0] = some (.map (encE (leaveL v s.shut)) false)) => Z9p (C := cfg.at 149) rfl (k := (i : Int)) hg
   rw [Z45] at hlk
   have hup := fun (st : St) (hg : hget st.H [m + 6] = some (.map (encE es) false)) => Zhn (C := cfg.at 149) rfl (k := (i : Int)) (x := begR v s.shut g.free i) hg
   have hes : ∀ q : Nat, q < i + 1 -> getS (setS es i (begR v s.shut g.free i)) q = begR v s.shut g.free q := fun q hq2 => by
    rw [Z01]
    by_cases e : (q : Int) = i
    ·rw [if_pos e, e]
    ·rw [if_neg e]; exact hq q (by omega)
   rw [hbg] at hup
   have hw1 : wrapF .i64 ((i : Int) + 1) = ((i + 1 : Nat) : Int) := Z8 (by omega) (by omega)
   simp only [rgV, mulR] at hlk hup
   simp -implicitDefEqProofs only [go_sem, a2, a3, a4, a5, a26, a27, a28, hT, hil, hin, x1, f0, f1, hc, hM, hlL, z1, z2, z4, z5, hlk, hup, hw1]
   exact ⟨g.free.length - (i + 1), hkk, trivial, trivial, trivial, trivial, trivial, trivial, trivial, i + 1, m' + 1, _, setS es i (begR v s.shut g.free i), rfl, hi', rfl, rfl, by omega, hF.of (fun k hk hne => (hc11 (by omega)).trans (hs11 (by omega))) (hc13.trans hs13) hm (by omega), (hc11 (by omega)).trans (by rw [hbg]; exact hss hM), hes⟩
  ·have hie : i = g.free.length := by omega
   subst hie
   simp -implicitDefEqProofs only [go_sem, a2, a3, a4, a5, a26, a27, a28, hT, hil]
   exact ⟨_, m', H0, es, rfl, hmm, by simp -implicitDefEqProofs only [redoH, redo1, go_sem, hT], by simp -implicitDefEqProofs only [redoH, redo1, go_sem, a2], by simp -implicitDefEqProofs only [redoH, redo1, go_sem, a3], by simp -implicitDefEqProofs only [redoH, redo1, go_sem, a5], hF, hM, hq⟩
 clear a0 a1 hT T g0 q0 q3 q4 hs H0 hF1
 rintro _ ⟨T, m', H0, es, rfl, hmm, hT, a2, a3, a5, hF, hM, hq⟩
 have x0 := hF.s.x
 have hp := hF.p
 have hpc := hF.c
 unfold sysB at x0
 simp -implicitDefEqProofs only [go_sem, a2, a3, a5, hT, hp, x0]
 simp only [Z5]
 refine Tr.Does.mono (Q := fun x => ∃ (T' : List AV) (m' : Nat) (H' : Heap) (es : List (Int × Rg)), x = ((AExit.exit 2, T'), (⟨H', m' + 8, [], false, []⟩ : St)) /\ m <= m' /\ T'.length = 148 /\ nth T' 2 = some (.ptr [m + 3] 0) /\ nth T' 5 = some (.ptr [m + 7] 0) /\ Fl E m v g s H' /\ hget H' [m + 6] = some (.map (encE es) false) /\ ∀ q : Nat, q < g.free.length -> getS es q = flowS g.free s.shut q 0 (begR v s.shut g.free q) v.pipes) ?_ ?_
 ·refine Zu (fun k T s' => T.length = 148 /\ nth T 2 = some (.ptr [m + 3] 0) /\ nth T 3 = some (.ptr [m + 4] 0) /\ nth T 5 = some (.ptr [m + 7] 0) /\ nth T 8 = some (.func 180 [.ptr [m + 3] 0, .ptr [m + 7] 0]) /\ nth T 58 = some (.lst (v.pipes.map pipV)) /\ nth T 59 = some (.int .i64 v.pipes.length) /\ ∃ (i m' : Nat) (H' : Heap) (es : List (Int × Rg)), nth T 60 = some (.int .i64 i) /\ i <= v.pipes.length /\ k = v.pipes.length - i /\ s' = ⟨H', m' + 8, [], false, []⟩ /\ m <= m' /\ Fl E m v g s H' /\ hget H' [m + 6] = some (.map (encE es) false) /\ ∀ q : Nat, q < g.free.length -> flowS g.free s.shut q 0 (begR v s.shut g.free q) v.pipes = flowS g.free s.shut q i (getS es q) (v.pipes.drop i)) (k := v.pipes.length) (by have := hv.pip.1; omega) ?_ ?_
  ·exact ⟨by simp -implicitDefEqProofs only [redoH, redo1, go_sem, hT], by simp -implicitDefEqProofs only [redoH, redo1, go_sem, a2], by simp -implicitDefEqProofs only [redoH, redo1, go_sem, a3], by simp -implicitDefEqProofs only [redoH, redo1, go_sem, a5], by simp -implicitDefEqProofs only [redoH, redo1, go_sem, hT], by simp -implicitDefEqProofs only [redoH, redo1, go_sem, hT], by simp -implicitDefEqProofs only [redoH, redo1, go_sem, hT], 0, m', _, es, by simp -implicitDefEqProofs only [redoH, redo1, go_sem, hT] <;> rfl, by omega, rfl, rfl, hmm, hF, hM, fun q hq2 => by rw [hq q hq2]; rfl⟩
  clear a2 a3 a5 hT T x0 hp hpc hF hM hq H0 hmm
  rintro k T s' ⟨hT, a2, a3, a5, a8, a58, a59, i, m', H0, es, a60, hi, rfl, rfl, hmm, hF, hM, hq⟩
  simp -implicitDefEqProofs only [go_sem, a2, a3, a5, a8, a58, a59, a60, hT]
  by_cases hil : (i : Int) < (v.pipes.length : Int)
  ·have hi' : i < v.pipes.length := by omega
   have e1 := Zj (f := pipV) (l := v.pipes) (i := i) (z := 6) hi' rfl
   have hkk : v.pipes.length - (i + 1) < v.pipes.length - i := by omega
   have hpx := hpp _ (List.getElem_mem hi')
   rw [List.drop_eq_getElem_cons hi'] at hq
   generalize v.pipes[i] = x at *
   simp only [flowS] at hq
   have hkc := hF.k
   have z4 : (m' + 4 = m) = False := eq_false (by omega)
   have z1 : (m' + 1 = m) = False := eq_false (by omega)
   have hco := fun st => Z1y s.shut i (K + 1) st (by omega) hsh2
   simp only [pipV] at e1
   have hw1 : wrapF .i64 ((i : Int) + 1) = ((i + 1 : Nat) : Int) := Z8 (by have := hv.pip.2; omega) (by have := hv.pip.2; omega)
   simp -implicitDefEqProofs only [go_sem, a2, a3, a5, a8, a58, a59, a60, hT, hil, e1, hkc, z4, z1, hco]
   by_cases hin : (i : Int) ∈ s.shut
   ·simp only [if_pos hin] at hq
    simp -implicitDefEqProofs only [go_sem, a2, a3, a5, a8, a58, a59, a60, hT, hin, hw1]
    exact ⟨v.pipes.length - (i + 1), hkk, trivial, trivial, trivial, trivial, trivial, trivial, trivial, i + 1, m' + 1, _, es, rfl, hi', rfl, rfl, by omega, hF.of (fun k hk hne => hc11 (by omega)) hc13 hm (by omega), (hc11 (by omega)).trans hM, hq⟩
   ·simp only [if_neg hin] at hq
    obtain ⟨pa, hpa⟩ : ∃ q : Nat, x.a = q := ⟨x.a.toNat, by omega⟩
    obtain ⟨pb, hpb⟩ : ∃ q : Nat, x.b = q := ⟨x.b.toNat, by omega⟩
    have ha' : pa < g.free.length := by omega
    have hb' : pb < g.free.length := by omega
    have hF1 := hF.of (H' := ([m' + 8], .cells [.int .i64 x.a, .int .i64 x.b, .int .i64 x.out.lo, .int .i64 x.out.hi, .int .i64 x.back.lo, .int .i64 x.back.hi] true 0) :: H0) (fun k hk hne => hc11 (by omega)) hc13 hm (by omega)
    have hM1 : hget (([m' + 8], .cells [.int .i64 x.a, .int .i64 x.b, .int .i64 x.out.lo, .int .i64 x.out.hi, .int .i64 x.back.lo, .int .i64 x.back.hi] true 0) :: H0) [m + 6] = some (.map (encE es) false) := (hc11 (by omega)).trans hM
    have hx1 := hF1.s.x
    unfold sysB at hx1
    obtain ⟨H2, n2, hca, hn2, hM2, hfr, hfr3⟩ := Z7o x.b x.a pa x.out (m + 3) (m + 7) (m + 6) es _ g.free (K + 1) _ (m' + 9) hpa ha' hF1.p hF1.c hM1 hx1 rfl hF1.s.f (by omega) (by omega) (by omega) (by omega) (by omega) (by omega) (by omega) (by omega)
    have hF2 := hF1.of (H' := H2) (fun k hk hne => hfr k (by omega) hne) (hfr3 _ _ _) hm (by omega)
    have hP2 : hget H2 [m' + 8] = some (.cells [.int .i64 x.a, .int .i64 x.b, .int .i64 x.out.lo, .int .i64 x.out.hi, .int .i64 x.back.lo, .int .i64 x.back.hi] true 0) := (hfr _ (by omega) (by omega)).trans (Z0 ..)
    have hx2 := hF2.s.x
    unfold sysB at hx2
    obtain ⟨H3, n3, hcb, hn3, hM3, hfr', hfr3'⟩ := Z7o x.a x.b pb x.back (m + 3) (m + 7) (m + 6) _ _ g.free (K + 1) H2 n2 hpb hb' hF2.p hF2.c hM2 hx2 rfl hF2.s.f (by omega) (by omega) (by omega) (by omega) (by omega) (by omega) (by omega) (by omega)
    have hF3 := hF2.of (H' := H3) (fun k hk hne => hfr' k (by omega) hne) (hfr3' _ _ _) hm (by omega)
    obtain ⟨m3, rfl⟩ : ∃ q, n3 = q + 8 := ⟨n3 - 8, by omega⟩
    have hq2 : ∀ q : Nat, q < g.free.length -> flowS g.free s.shut q 0 (begR v s.shut g.free q) v.pipes = flowS g.free s.shut q (i + 1) (getS (setS (setS es x.b (plusR (getS es x.b) (mulR g.free[pa] x.out))) x.a (plusR (getS (setS es x.b (plusR (getS es x.b) (mulR g.free[pa] x.out))) x.a) (mulR g.free[pb] x.back))) q) (v.pipes.drop (i + 1)) := fun q hq2 => by
     rw [hq q hq2, Z01, hpa, hpb, Jg _ ha', Jg _ hb']
     by_cases e1 : (q : Int) = (pa : Int)
     ·rw [if_pos e1, if_pos e1, Z01, e1]
      by_cases e2 : (pa : Int) = (pb : Int)
      ·rw [if_pos e2, if_pos e2, e2]
      ·rw [if_neg e2, if_neg e2]
     ·rw [if_neg e1, if_neg e1, Z01]
      by_cases e2 : (q : Int) = (pb : Int)
      ·rw [if_pos e2, if_pos e2, e2]
      ·rw [if_neg e2, if_neg e2]
    simp only [rgV] at hca hcb
    clear hfr hfr' hfr3 hfr3' hx1 hx2 hF1 hF2 hM1 hM2 hq
    simp -implicitDefEqProofs only [go_sem, a2, a3, a5, a8, a58, a59, a60, hT, hin, hca, hP2, hcb, hw1]
    exact ⟨v.pipes.length - (i + 1), hkk, trivial, trivial, trivial, trivial, trivial, trivial, trivial, i + 1, m3, H3, _, rfl, hi', rfl, rfl, by omega, hF3, hM3, hq2⟩
  ·have hie : i = v.pipes.length := by omega
   subst hie
   rw [List.drop_length] at hq
   simp -implicitDefEqProofs only [go_sem, a2, a3, a5, a8, a58, a59, a60, hT, hil]
   exact ⟨_, m', H0, es, rfl, hmm, by simp -implicitDefEqProofs only [redoH, redo1, go_sem, hT], by simp -implicitDefEqProofs only [redoH, redo1, go_sem, a2], by simp -implicitDefEqProofs only [redoH, redo1, go_sem, a5], hF, hM, fun q hq2 => by rw [hq q hq2]; rfl⟩
 rintro _ ⟨T, m', H0, es, rfl, hmm, hT, a2, a5, hF, hM, hq⟩
 have x0 := hF.s.x
 have hp := hF.p
 unfold sysB at x0
 simp -implicitDefEqProofs only [go_sem, a2, a5, hT, hp, x0]
 simp only [Z5]
 refine Tr.Does.mono (Q := fun x => ∃ (T' : List AV) (m' : Nat) (H' : Heap), x = ((AExit.exit 4, T'), (⟨H', m' + 8, [], false, []⟩ : St)) /\ m <= m' /\ T'.length = 148 /\ nth T' 2 = some (.ptr [m + 3] 0) /\ hget H' [m + 3] = some (.cells [.ptr [0] 0] true 0) /\ SysAt E H' [0] [1] [2] [3] v ⟨flowG v s.shut g.free, g.bound, g.room, g.most, g.flashed⟩) ?_ ?_
 ·have hGl := Jq v s.shut g.free
  refine Zu (fun k T s' => T.length = 148 /\ nth T 2 = some (.ptr [m + 3] 0) /\ nth T 5 = some (.ptr [m + 7] 0) /\ nth T 91 = some (.slice [1] 0 g.free.length g.free.length false) /\ nth T 92 = some (.int .i64 g.free.length) /\ ∃ (i m' : Nat) (H' : Heap), nth T 93 = some (.int .i64 i) /\ i <= g.free.length /\ k = g.free.length - i /\ s' = ⟨H', m' + 8, [], false, []⟩ /\ m <= m' /\ hget H' [m + 3] = some (.cells [.ptr [0] 0] true 0) /\ hget H' [m + 7] = some (.cells [.map [m + 6]] true 0) /\ hget H' [m + 6] = some (.map (encE es) false) /\ SysAt E H' [0] [1] [2] [3] v ⟨(flowG v s.shut g.free).take i ++ g.free.drop i, g.bound, g.room, g.most, g.flashed⟩) (k := g.free.length) (by omega) ?_ ?_
  ·exact ⟨by simp -implicitDefEqProofs only [redoH, redo1, go_sem, hT], by simp -implicitDefEqProofs only [redoH, redo1, go_sem, a2], by simp -implicitDefEqProofs only [redoH, redo1, go_sem, a5], by simp -implicitDefEqProofs only [redoH, redo1, go_sem, hT], by simp -implicitDefEqProofs only [redoH, redo1, go_sem, hT], 0, m', _, by simp -implicitDefEqProofs only [redoH, redo1, go_sem, hT] <;> rfl, by omega, rfl, rfl, hmm, hF.p, hF.c, hM, hF.s⟩
  clear a2 a5 hT T x0 hp hF hM hmm H0
  rintro k T s' ⟨hT, a2, a5, a91, a92, i, m', H0, a93, hi, rfl, rfl, hmm, hp, hc, hM, hs⟩
  simp -implicitDefEqProofs only [go_sem, a2, a5, a91, a92, a93, hT]
  by_cases hil : (i : Int) < (g.free.length : Int)
  ·have hi' : i < g.free.length := by omega
   have hkk : g.free.length - (i + 1) < g.free.length - i := by omega
   obtain ⟨F, hF, lF, f0, f1, fw⟩ := Z8z (G := flowG v s.shut g.free) (F := g.free) hGl hi' (quoR (getS es i)) (fun h0 => by rw [hq i hi']; simp [flowG])
   rw [<- hF] at hs
   clear hF
   generalize hF' : (flowG v s.shut g.free).take (i + 1) ++ g.free.drop (i + 1) = F' at fw
   have lF' : F'.length = F.length := by rw [<- hF', Z6g hGl, lF]
   have x0 := hs.x
   have x1 := hs.f
   have x2 := hs.b
   have x3 := hs.r
   have y0 : hget H0 [0] = some (sysB E v [1] [2] [3] ⟨F', g.bound, g.room, g.most, g.flashed⟩) := x0.trans (congrArg some (Z2i lF'.symm rfl rfl rfl rfl))
   unfold sysB at x0
   unfold rgB at x1
   simp only at x0 x1 x2 x3
   have hin : inR (i : Int) F.length = some i := Z0h (by omega)
   have hlk := fun (st : St) (hg : hget st.H [m + 6] = some (.map (encE es) false)) => Z9p (C := cfg.at 149) rfl (k := (i : Int)) hg
   have hw1 : wrapF .i64 ((i : Int) + 1) = ((i + 1 : Nat) : Int) := Z8 (by omega) (by omega)
   generalize getS es i = q at *
   simp only [rgV] at hlk
   simp only [quoR] at fw
   simp -implicitDefEqProofs only [go_sem, a2, a5, a91, a92, a93, hT, hil]
   try simp only [Z5]
   refine Zd [[], [0], [1, 0], [2, 1, 0], [3, 2, 1, 0], [], [], [], [6, 7], [8, 6, 7], [9, 8, 6, 7], [], [], [11, 12], [13, 11, 12], [14, 13, 11, 12], [15, 14, 13, 11, 12], [16, 15, 14, 13, 11, 12], [10, 9, 8, 6, 7, 17, 16, 15, 14, 13, 11, 12], [4, 3, 2, 1, 0, 5, 18, 10, 9, 8, 6, 7, 17, 16, 15, 14, 13, 11, 12], [19, 4, 3, 2, 1, 0, 5, 18, 10, 9, 8, 6, 7, 17, 16, 15, 14, 13, 11, 12]] [[], [], [], [], [], [], [], [], [], [], [], [], [], [], [], [], [], [], [], [], [[1]]] (by kernel_rfl) rfl rfl ?_
   simp -implicitDefEqProofs only [go_sem, Z1, lkn, Z4, lk11, lk13, lk31, lk33, Zb, Option.getD_some, Option.getD_none, a2, a5, a91, a92, a93, hT, hp, hc, hM, x0, x1, hin, f0, f1, hlk, Z02, fw, hw1, Ze]
   refine ⟨g.free.length - (i + 1), hkk, trivial, trivial, trivial, trivial, trivial, i + 1, m' + 1, _, rfl, hi', rfl, rfl, by omega, ?_, ?_, ?_, ?_⟩
   all_goals clear hw1
   ·simp (disch := omega) only [Z0, hc11, hc13, hc31, hc33, hs11, hs13, hs31, hs33, hd11, hd13, hd31, hd33, Z3, ht11, ht31, ne_eq, not_false_eq_true, Nat.succ_ne_zero, Z1, lkn, Z4, lk11, lk13, lk31, lk33, Zb, Option.getD_some, Option.getD_none, hp]
   ·simp (disch := omega) only [Z0, hc11, hc13, hc31, hc33, hs11, hs13, hs31, hs33, hd11, hd13, hd31, hd33, Z3, ht11, ht31, ne_eq, not_false_eq_true, Nat.succ_ne_zero, Z1, lkn, Z4, lk11, lk13, lk31, lk33, Zb, Option.getD_some, Option.getD_none, hc]
   ·simp (disch := omega) only [Z0, hc11, hc13, hc31, hc33, hs11, hs13, hs31, hs33, hd11, hd13, hd31, hd33, Z3, ht11, ht31, ne_eq, not_false_eq_true, Nat.succ_ne_zero, Z1, lkn, Z4, lk11, lk13, lk31, lk33, Zb, Option.getD_some, Option.getD_none, hM]
   ·rw [hF']
    refine ⟨?_, ?_, ?_, fun e => ?_⟩
    ·simp (disch := omega) only [Z0, hc11, hc13, hc31, hc33, hs11, hs13, hs31, hs33, hd11, hd13, hd31, hd33, Z3, ht11, ht31, ne_eq, not_false_eq_true, Nat.succ_ne_zero, Z1, lkn, Z4, lk11, lk13, lk31, lk33, Zb, Option.getD_some, Option.getD_none]; exact y0
    ·simp (disch := omega) only [Z0, hc11, hc13, hc31, hc33, hs11, hs13, hs31, hs33, hd11, hd13, hd31, hd33, Z3, ht11, ht31, ne_eq, not_false_eq_true, Nat.succ_ne_zero, Z1, lkn, Z4, lk11, lk13, lk31, lk33, Zb, Option.getD_some, Option.getD_none]; rfl
    ·simp (disch := omega) only [Z0, hc11, hc13, hc31, hc33, hs11, hs13, hs31, hs33, hd11, hd13, hd31, hd33, Z3, ht11, ht31, ne_eq, not_false_eq_true, Nat.succ_ne_zero, Z1, lkn, Z4, lk11, lk13, lk31, lk33, Zb, Option.getD_some, Option.getD_none]; exact x2
    ·have := hm e
     simp (disch := omega) only [Z0, hc11, hc13, hc31, hc33, hs11, hs13, hs31, hs33, hd11, hd13, hd31, hd33, Z3, ht11, ht31, ne_eq, not_false_eq_true, Nat.succ_ne_zero, Z1, lkn, Z4, lk11, lk13, lk31, lk33, Zb, Option.getD_some, Option.getD_none]; exact x3 e
  ·have hie : i = g.free.length := by omega
   subst hie
   have e1 : (flowG v s.shut g.free).take g.free.length ++ g.free.drop g.free.length = flowG v s.shut g.free := by
    rw [List.drop_of_length_le (Nat.le_refl _), List.append_nil, List.take_of_length_le (by omega)]
   rw [e1] at hs
   simp -implicitDefEqProofs only [go_sem, a2, a5, a91, a92, a93, hT, hil]
   exact ⟨_, m', H0, rfl, hmm, by simp -implicitDefEqProofs only [redoH, redo1, go_sem, hT], by simp -implicitDefEqProofs only [redoH, redo1, go_sem, a2], hp, hs⟩
 clear a2 a5 hT T x0 hp hF hM hmm H0 hq es m'
 rintro _ ⟨T, m', H0, rfl, hmm, hT, a2, hp, hs⟩
 have x0 := hs.x
 unfold sysB at x0
 have hGl := Jq v s.shut g.free
 unfold flowT
 generalize flowG v s.shut g.free = G at *
 simp -implicitDefEqProofs only [go_sem, a2, hT, hp, x0]
 simp only [Z5]
 refine Zu (fun k T s' => T.length = 148 /\ nth T 2 = some (.ptr [m + 3] 0) /\ nth T 121 = some (.lst (v.leaks.map inlV)) /\ nth T 122 = some (.int .i64 v.leaks.length) /\ ∃ (i m' : Nat) (H' : Heap) (F : List Rg), nth T 123 = some (.int .i64 i) /\ i <= v.leaks.length /\ k = v.leaks.length - i /\ s' = ⟨H', m' + 8, [], false, []⟩ /\ m <= m' /\ hget H' [m + 3] = some (.cells [.ptr [0] 0] true 0) /\ SysAt E H' [0] [1] [2] [3] v ⟨F, g.bound, g.room, g.most, g.flashed⟩ /\ F.length = G.length /\ leakR G v.leaks = leakR F (v.leaks.drop i)) (k := v.leaks.length) (by have := hv.inl.1; omega) ?_ ?_
 ·exact ⟨by simp -implicitDefEqProofs only [redoH, redo1, go_sem, hT], by simp -implicitDefEqProofs only [redoH, redo1, go_sem, a2], by simp -implicitDefEqProofs only [redoH, redo1, go_sem, hT], by simp -implicitDefEqProofs only [redoH, redo1, go_sem, hT], 0, m', H0, G, by simp -implicitDefEqProofs only [redoH, redo1, go_sem, hT] <;> rfl, by omega, rfl, rfl, hmm, hp, hs, rfl, rfl⟩
 clear a2 hT T x0 hp hs hmm H0
 rintro k T s' ⟨hT, a2, a121, a122, i, m', H0, F, a123, hi, rfl, rfl, hmm, hp, hs, lF, he⟩
 simp -implicitDefEqProofs only [go_sem, a2, a121, a122, a123, hT]
 by_cases hil : (i : Int) < (v.leaks.length : Int)
 ·have hi' : i < v.leaks.length := by omega
  have e1 := Zj (f := inlV) (l := v.leaks) (i := i) (z := 3) hi' rfl
  have hkk : v.leaks.length - (i + 1) < v.leaks.length - i := by omega
  have hlx := hll _ (List.getElem_mem hi')
  rw [List.drop_eq_getElem_cons hi'] at he
  generalize v.leaks[i] = x at *
  obtain ⟨a, hxa⟩ : ∃ q : Nat, x.at' = q := ⟨x.at'.toNat, by omega⟩
  have haF : a < F.length := by omega
  simp only [leakR] at he
  rw [hxa, Int.toNat_natCast, Jg _ haF] at he
  have f0 := J1 F haF
  have f1 := J2 F haF
  have fw := Z2h F haF (plusR F[a] x.gas)
  have hin : inR (a : Int) F.length = some a := Z0h haF
  have hpl := fun st => Z1v F[a] x.gas (K + 2) st
  generalize F[a] = fi at *
  generalize hF' : F.set a (plusR fi x.gas) = F' at *
  have lF' : F'.length = F.length := by rw [<- hF']; simp
  generalize plusR fi x.gas = pp at *
  have x0 := hs.x
  have x1 := hs.f
  have x2 := hs.b
  have x3 := hs.r
  have y0 : hget H0 [0] = some (sysB E v [1] [2] [3] ⟨F', g.bound, g.room, g.most, g.flashed⟩) := x0.trans (congrArg some (Z2i lF'.symm rfl rfl rfl rfl))
  unfold sysB at x0
  unfold rgB at x1
  simp only at x0 x1 x2 x3
  simp only [inlV] at e1
  rw [hxa] at e1
  simp only [rgV] at hpl
  have hw1 : wrapF .i64 ((i : Int) + 1) = ((i + 1 : Nat) : Int) := Z8 (by have := hv.inl.2; omega) (by have := hv.inl.2; omega)
  have k3 : ∀ X, hget (([m' + 8], X) :: H0) [m + 3] = hget H0 [m + 3] := fun X => hc11 (by omega)
  have z5 : (m' + 5 = m) = False := eq_false (by omega)
  simp -implicitDefEqProofs only [go_sem, a2, a121, a122, a123, hT, hil, e1]
  try simp only [Z5]
  refine Zd [[], [0], [1, 0], [2, 1, 0], [3, 2, 1, 0], [], [5], [], [7], [8, 7], [9, 8, 7], [10, 9, 8, 7], [], [12], [11, 10, 9, 8, 7, 13, 12], [14, 11, 10, 9, 8, 7, 13, 12], [], [16], [15, 14, 11, 10, 9, 8, 7, 13, 12, 17, 16], [4, 3, 2, 1, 0, 6, 5, 18, 15, 14, 11, 10, 9, 8, 7, 13, 12, 17, 16], [19, 4, 3, 2, 1, 0, 6, 5, 18, 15, 14, 11, 10, 9, 8, 7, 13, 12, 17, 16]] [[], [], [], [], [], [], [], [], [], [], [], [], [], [], [], [], [], [], [], [], [[1]]] (by kernel_rfl) rfl rfl ?_
  simp -implicitDefEqProofs only [go_sem, Z1, lkn, Z4, lk11, lk13, lk31, lk33, Zb, Option.getD_some, Option.getD_none, a2, a121, a122, a123, hT, hp, k3, z5, x0, x1, hin, f0, f1, hpl, Z02, fw, hw1, Ze]
  refine ⟨v.leaks.length - (i + 1), hkk, trivial, trivial, trivial, trivial, i + 1, m' + 2, _, F', rfl, hi', rfl, rfl, by omega, ?_, ?_, by omega, he⟩
  all_goals clear hw1
  ·simp (disch := omega) only [Z0, hc11, hc13, hc31, hc33, hs11, hs13, hs31, hs33, hd11, hd13, hd31, hd33, Z3, ht11, ht31, ne_eq, not_false_eq_true, Nat.succ_ne_zero, Z1, lkn, Z4, lk11, lk13, lk31, lk33, Zb, Option.getD_some, Option.getD_none, hp]
  ·refine ⟨?_, ?_, ?_, fun e => ?_⟩
   ·simp (disch := omega) only [Z0, hc11, hc13, hc31, hc33, hs11, hs13, hs31, hs33, hd11, hd13, hd31, hd33, Z3, ht11, ht31, ne_eq, not_false_eq_true, Nat.succ_ne_zero, Z1, lkn, Z4, lk11, lk13, lk31, lk33, Zb, Option.getD_some, Option.getD_none]; exact y0
   ·simp (disch := omega) only [Z0, hc11, hc13, hc31, hc33, hs11, hs13, hs31, hs33, hd11, hd13, hd31, hd33, Z3, ht11, ht31, ne_eq, not_false_eq_true, Nat.succ_ne_zero, Z1, lkn, Z4, lk11, lk13, lk31, lk33, Zb, Option.getD_some, Option.getD_none]; rfl
   ·simp (disch := omega) only [Z0, hc11, hc13, hc31, hc33, hs11, hs13, hs31, hs33, hd11, hd13, hd31, hd33, Z3, ht11, ht31, ne_eq, not_false_eq_true, Nat.succ_ne_zero, Z1, lkn, Z4, lk11, lk13, lk31, lk33, Zb, Option.getD_some, Option.getD_none]; exact x2
   ·have := hm e
    simp (disch := omega) only [Z0, hc11, hc13, hc31, hc33, hs11, hs13, hs31, hs33, hd11, hd13, hd31, hd33, Z3, ht11, ht31, ne_eq, not_false_eq_true, Nat.succ_ne_zero, Z1, lkn, Z4, lk11, lk13, lk31, lk33, Zb, Option.getD_some, Option.getD_none]; exact x3 e
 ·have hie : i = v.leaks.length := by omega
  subst hie
  rw [List.drop_length] at he
  simp only [leakR] at he
  rw [he]
  simp -implicitDefEqProofs only [go_sem, a2, a121, a122, a123, hT, hil, Try.results149]
  exact ⟨trivial, hs⟩
end Go.Proofs.Ytgnpnfkncbnjnaa
namespace Go.Proofs.Ytgnpnfkncbnjnaa
attribute [local go_sem_proc] Int.reduceEq Int.reduceNeg Nat.reduceEqDiff Nat.reduceLT Nat.reduceAdd Nat.reduceSub Nat.reduceMul Int.reduceLE Int.reduceLT Int.reduceToNat Nat.reduceLeDiff
attribute [local go_sem] Int.toNat_natCast Bool.not_true Bool.not_false
open Go Go.Am
attribute [local congr] Zf Z9 Zc
attribute [local go_sem] Go.Am.frozen Go.Am.freezeG Go.Am.freezeGs
variable {E : AV}
theorem Jr {H : Heap} {X f b r q : Nm} {v : Vac} {g : Gs} (h1 : X ≠ q) (h2 : f ≠ q) (h3 : b ≠ q) (h4 : g.room ≠ [] -> r ≠ q) : hget (sysPut E X f b r v g H) q = hget H q := by
 unfold sysPut
 cases hg : g.room with
 | nil =>
  show hget (hset (hset (hset H X _) f _) b _) q = _
  rw [Z7 _ _ h3, Z7 _ _ h2, Z7 _ _ h1]
 | cons a l =>
  show hget (hset (hset (hset (hset H X _) f _) b _) r _) q = _
  rw [Z7 _ _ (h4 (by rw [hg]; simp)), Z7 _ _ h3, Z7 _ _ h2, Z7 _ _ h1]
theorem Zek {v : Vac} (h : checkE v = 0) : firstE vesE v.vessels = 0 /\ partsE v = 0 := by
 unfold checkE at h
 split at h
 ·exact absurd h (by decide)
 ·split at h
  ·exact absurd h (by decide)
  ·split at h
   ·rename_i h2
    split at h
    ·rename_i h3; exact ⟨h2, h3⟩
    ·rename_i h3; exact absurd h h3
   ·rename_i h2; exact absurd h h2
structure Valid (v : Vac) : Prop where
 n1 : 1 <= v.vessels.length
 n8 : v.vessels.length <= 8
 p16 : v.pipes.length <= 16
 m8 : v.pumps.length <= 8
 l8 : v.leaks.length <= 8
 g8 : v.getters.length <= 8
 bd : ∀ x ∈ v.vessels, x.bands.length <= 8
 pip : ∀ q ∈ v.pipes, (0 <= q.a /\ q.a < v.vessels.length) /\ 0 <= q.b /\ q.b < v.vessels.length
 inl : ∀ q ∈ v.leaks, 0 <= q.at' /\ q.at' < v.vessels.length
 gtr : ∀ q ∈ v.getters, 0 <= q.at' /\ q.at' < v.vessels.length
theorem Zel {v : Vac} (h : checkE v = 0) : Valid v := by
 obtain ⟨n1, n2, n3, n4, n5, n6⟩ := Z6f h
 obtain ⟨h1, h2⟩ := Zek h
 have hb : ∀ x ∈ v.vessels, x.bands.length <= 8 := fun x hx => by
  have h3 := X7 h1 x hx
  unfold vesE at h3
  split at h3
  ·split at h3
   ·split at h3
    ·split at h3
     ·exact absurd h3 (by decide)
     ·omega
    ·rename_i h4; exact absurd h3 h4
   ·rename_i h4; exact absurd h3 h4
  ·exact absurd h3 (by decide)
 unfold partsE at h2
 split at h2
 ·rename_i p1
  split at h2
  ·rename_i p2
   split at h2
   ·rename_i p3
    refine ⟨n1, n2, n3, n4, n5, n6, hb, fun q hq => ?_, fun q hq => ?_, fun q hq => ?_⟩
    ·have := Z6b (X7 p1 q hq); exact ⟨this.1, this.2.1⟩
    ·exact Z8s (X7 p3 q hq)
    ·have h4 := X7 h2 q hq
     unfold getE at h4
     split at h4
     ·rename_i h5; exact Z8s h5
     ·rename_i h5; exact absurd h4 h5
   ·rename_i p3; exact absurd h2 p3
  ·rename_i p2; exact absurd h2 p2
 ·rename_i p1; exact absurd h2 p1
theorem Valid.lens {v : Vac} (h : Valid v) (K : Nat) (hK : 20 < K) : v.Lens K :=
 ⟨⟨by have := h.n8; omega, by have := h.n8; omega⟩, ⟨by have := h.p16; omega, by have := h.p16; omega⟩, ⟨by have := h.m8; omega, by have := h.m8; omega⟩, ⟨by have := h.l8; omega, by have := h.l8; omega⟩, ⟨by have := h.g8; omega, by have := h.g8; omega⟩, fun x hx => by have := h.bd x hx; omega⟩
structure Fits (v : Vac) (g : Gs) : Prop where
 f : g.free.length = v.vessels.length
 b : g.bound.length = v.vessels.length
 r : g.room.length = v.getters.length
theorem Z5k {v : Vac} {g : Gs} (h : Fits v g) (s : Bk) : Fits v (beginT v g s) := ⟨h.f, h.b, h.r⟩
theorem Z9x {v : Vac} {g : Gs} (h : Fits v g) (s : Bk) : Fits v (relT v g s) := ⟨Z6h h.f h.b, Z6i h.b, h.r⟩
theorem Z7p {v : Vac} {g : Gs} (h : Fits v g) (s : Bk) : Fits v (flowT v g s) := ⟨by show (leakR _ _).length = _; rw [Z4b, Jq]; exact h.f, h.b, h.r⟩
theorem Z9y {v : Vac} {g : Gs} (h : Fits v g) (s : Bk) : Fits v (getT v g s) := by
 have e := Z6j v.getters 0 g.free g.room
 unfold getT
 split
 ·exact ⟨e.1.trans h.f, h.b, e.2.trans h.r⟩
 ·exact h
theorem Z9z {v : Vac} {g : Gs} (h : Fits v g) (s : Bk) : Fits v (cutT v g s) := ⟨by show (List.map _ _).length = _; rw [List.length_map]; exact h.f, by show (List.map _ _).length = _; rw [List.length_map]; exact h.b, h.r⟩
def tickT (v : Vac) (g : Gs) (s : Bk) : Gs := cutT v (getT v (flowT v (relT v (beginT v g s) s) s) s) s
theorem Z4c {v : Vac} {g : Gs} (h : Fits v g) (s : Bk) : Fits v (tickT v g s) := Z9z (Z9y (Z7p (Z9x (Z5k h s) s) s) s) s
theorem Fits.ne {v : Vac} {g : Gs} (h : Fits v g) (hv : Valid v) : g.free ≠ [] /\ g.bound ≠ [] :=
 ⟨fun e => by have := h.f; rw [e] at this; have := hv.n1; simp at *; omega, fun e => by have := h.b; rw [e] at this; have := hv.n1; simp at *; omega⟩
def stepT (v : Vac) (g : Gs) (s : Bk) : Nat -> Gs
 | 0 => g
 | 1 => beginT v g s
 | 2 => relT v (beginT v g s) s
 | 3 => flowT v (relT v (beginT v g s) s) s
 | 4 => getT v (flowT v (relT v (beginT v g s) s) s) s
 | _ => tickT v g s
theorem Z18 : Apart [0] [1] [2] [3] := ⟨by decide, by decide, by decide, by decide, by decide, by decide⟩
theorem Zcv [hE : Emp E] {K : Nat} {X f b r : Nm} {v : Vac} {g : Gs} {s : Bk} {H : Heap} {n : Nat} {p : Nm} {j : Delta} (h : SysAt E H X f b r v g) (ha : Apart X f b r) (hv : Valid v) (hf : Fits v g) (hK : 200 < K) (hsh : s.shut.length < K) (hsh2 : s.shut.length <= 9223372036854775807) :
  acall cfg (K + 6) 97 [.ptr X 0, bkV s] ⟨H, n, p, false, j⟩ = .ret (.tuple [], ⟨sysPut E X f b r v (tickT v g s) H, n, p, false, j⟩) := by
 have hft := Z4c hf s
 obtain ⟨hn1, hn2⟩ := hf.ne hv
 refine Z13 Zjm Zjl h ha hn1 hn2 (by rw [hft.f, hf.f]) (by rw [hft.b, hf.b]) (by rw [hft.r, hf.r]) fun H0 m hs hm => ?_
 refine Za rfl fun T hT' hA => ?_
 have a0 := hA 0 _ rfl
 have a1 := hA 1 _ rfl
 have hT : T.length = 15 := hT'
 clear hA hT'
 simp -implicitDefEqProofs only [go_sem, a0, a1, hT]
 simp only [Z5]
 refine Zu (fun k T s' => T.length = 15 /\ nth T 0 = some (.ptr [0] 0) /\ nth T 3 = some (.ptr [m + 3] 0) /\ nth T 6 = some (.agg [.func 147 [], .func 148 [], .func 149 [], .func 150 [], .func 151 []]) /\ ∃ (i : Nat) (H' : Heap), nth T 7 = some (.int .i64 i) /\ i <= 5 /\ k = 5 - i /\ s' = ⟨H', m + 4, [], false, []⟩ /\ hget H' [m + 3] = some (.cells [.int .i64 s.ticks, .int .i64 s.heat, .lst (s.shut.map iV), .bool s.flash] true 0) /\ Fits v (stepT v g s i) /\ SysAt E H' [0] [1] [2] [3] v (stepT v g s i)) (k := 5) (by omega) ?_ ?_
 ·exact ⟨by simp -implicitDefEqProofs only [redoH, redo1, go_sem, hT], by simp -implicitDefEqProofs only [redoH, redo1, go_sem, a0], by simp -implicitDefEqProofs only [redoH, redo1, go_sem, hT], by simp -implicitDefEqProofs only [redoH, redo1, go_sem, hT], 0, _, by simp -implicitDefEqProofs only [redoH, redo1, go_sem, hT] <;> rfl, by omega, rfl, rfl, Z0 .., hf, ⟨(hc11 (by omega)).trans hs.x, (hc11 (by omega)).trans hs.f, (hc11 (by omega)).trans hs.b, fun e => (hc11 (by have := hm e; omega)).trans (hs.r e)⟩⟩
 have hroom : ∀ i, (stepT v g s i).room.length = v.getters.length -> ((stepT v g s i).room ≠ [] -> 1 <= m) := fun i e hne => hm fun e2 => hne (List.length_eq_zero_iff.1 (by rw [e, <- hf.r, e2]; rfl))
 clear a0 a1 hT T hs H0 hn1 hn2 hft
 rintro k T s' ⟨hT, a0, a3, a6, i, H0, a7, hi, rfl, rfl, hbk, hf', hs⟩
 obtain ⟨hn1, hn2⟩ := hf'.ne hv
 have hrm := hroom i hf'.r
 rcases (show i = 0 \/ i = 1 \/ i = 2 \/ i = 3 \/ i = 4 \/ i = 5 by omega) with rfl | rfl | rfl | rfl | rfl | rfl
 ·have b7 : nth T 7 = some (.int .i64 0) := a7
  have hin : inR 0 5 = some 0 := rfl
  have hw1 : wrapF .i64 (0 + 1) = 1 := rfl
  have hfn : Fits v (stepT v g s (0 + 1)) := Z5k hf' s
  have hsn : SysAt E (sysPut E [0] [1] [2] [3] v (stepT v g s (0 + 1)) H0) [0] [1] [2] [3] v (stepT v g s (0 + 1)) := Jp hs Z18 (by rw [hfn.r, hf'.r])
  have hbn : hget (sysPut E [0] [1] [2] [3] v (stepT v g s (0 + 1)) H0) [m + 3] = hget H0 [m + 3] := Jr (n11 (by omega)) (n11 (by omega)) (n11 (by omega)) (fun e => n11 (by have := hroom (0 + 1) hfn.r e; omega))
  rw [hbk] at hbn
  have hc' : ∀ n p j, acall cfg (K + 5) 147 [.ptr [0] 0, bkV s] ⟨H0, n, p, false, j⟩ = .ret (.tuple [], ⟨sysPut E [0] [1] [2] [3] v (stepT v g s (0 + 1)) H0, n, p, false, j⟩) := fun n p j => (Z8y hs Z18 hn1 hn2 (K := K + 4) (by have := hv.l8; omega) (by have := hv.l8; omega))
  generalize sysPut E [0] [1] [2] [3] v (stepT v g s (0 + 1)) H0 = H1 at *
  simp only [bkV] at hc'
  simp -implicitDefEqProofs only [go_sem, a0, a3, b7, a6, hT, hin, hbk, hc', hw1]
  exact ⟨5 - (0 + 1), by omega, trivial, trivial, trivial, trivial, 0 + 1, H1, rfl, by omega, rfl, rfl, hbn, hfn, hsn⟩
 ·have b7 : nth T 7 = some (.int .i64 1) := a7
  have hin : inR 1 5 = some 1 := rfl
  have hw1 : wrapF .i64 (1 + 1) = 2 := rfl
  have hfn : Fits v (stepT v g s (1 + 1)) := Z9x hf' s
  have hsn : SysAt E (sysPut E [0] [1] [2] [3] v (stepT v g s (1 + 1)) H0) [0] [1] [2] [3] v (stepT v g s (1 + 1)) := Jp hs Z18 (by rw [hfn.r, hf'.r])
  have hbn : hget (sysPut E [0] [1] [2] [3] v (stepT v g s (1 + 1)) H0) [m + 3] = hget H0 [m + 3] := Jr (n11 (by omega)) (n11 (by omega)) (n11 (by omega)) (fun e => n11 (by have := hroom (1 + 1) hfn.r e; omega))
  rw [hbk] at hbn
  have hc' : ∀ n p j, acall cfg (K + 5) 148 [.ptr [0] 0, bkV s] ⟨H0, n, p, false, j⟩ = .ret (.tuple [], ⟨sysPut E [0] [1] [2] [3] v (stepT v g s (1 + 1)) H0, n, p, false, j⟩) := fun n p j => (Z7n hs Z18 hn1 hf'.f hf'.b (K := K + 3) (by have := hv.n8; omega) (by have := hv.n8; omega) hv.bd)
  generalize sysPut E [0] [1] [2] [3] v (stepT v g s (1 + 1)) H0 = H1 at *
  simp only [bkV] at hc'
  simp -implicitDefEqProofs only [go_sem, a0, a3, b7, a6, hT, hin, hbk, hc', hw1]
  exact ⟨5 - (1 + 1), by omega, trivial, trivial, trivial, trivial, 1 + 1, H1, rfl, by omega, rfl, rfl, hbn, hfn, hsn⟩
 ·have b7 : nth T 7 = some (.int .i64 2) := a7
  have hin : inR 2 5 = some 2 := rfl
  have hw1 : wrapF .i64 (2 + 1) = 3 := rfl
  have hfn : Fits v (stepT v g s (2 + 1)) := Z7p hf' s
  have hsn : SysAt E (sysPut E [0] [1] [2] [3] v (stepT v g s (2 + 1)) H0) [0] [1] [2] [3] v (stepT v g s (2 + 1)) := Jp hs Z18 (by rw [hfn.r, hf'.r])
  have hbn : hget (sysPut E [0] [1] [2] [3] v (stepT v g s (2 + 1)) H0) [m + 3] = hget H0 [m + 3] := Jr (n11 (by omega)) (n11 (by omega)) (n11 (by omega)) (fun e => n11 (by have := hroom (2 + 1) hfn.r e; omega))
  rw [hbk] at hbn
  have hc' : ∀ n p j, acall cfg (K + 5) 149 [.ptr [0] 0, bkV s] ⟨H0, n, p, false, j⟩ = .ret (.tuple [], ⟨sysPut E [0] [1] [2] [3] v (stepT v g s (2 + 1)) H0, n, p, false, j⟩) := fun n p j => (Zcu hs Z18 hn1 hn2 hf'.f (K := K + 1) (by have := hv.n8; omega) (by have := hv.n8; omega) (hv.lens _ (by omega)) (by omega) hsh2 hv.pip hv.inl)
  generalize sysPut E [0] [1] [2] [3] v (stepT v g s (2 + 1)) H0 = H1 at *
  simp only [bkV] at hc'
  simp -implicitDefEqProofs only [go_sem, a0, a3, b7, a6, hT, hin, hbk, hc', hw1]
  exact ⟨5 - (2 + 1), by omega, trivial, trivial, trivial, trivial, 2 + 1, H1, rfl, by omega, rfl, rfl, hbn, hfn, hsn⟩
 ·have b7 : nth T 7 = some (.int .i64 3) := a7
  have hin : inR 3 5 = some 3 := rfl
  have hw1 : wrapF .i64 (3 + 1) = 4 := rfl
  have hfn : Fits v (stepT v g s (3 + 1)) := Z9y hf' s
  have hsn : SysAt E (sysPut E [0] [1] [2] [3] v (stepT v g s (3 + 1)) H0) [0] [1] [2] [3] v (stepT v g s (3 + 1)) := Jp hs Z18 (by rw [hfn.r, hf'.r])
  have hbn : hget (sysPut E [0] [1] [2] [3] v (stepT v g s (3 + 1)) H0) [m + 3] = hget H0 [m + 3] := Jr (n11 (by omega)) (n11 (by omega)) (n11 (by omega)) (fun e => n11 (by have := hroom (3 + 1) hfn.r e; omega))
  rw [hbk] at hbn
  have hc' : ∀ n p j, acall cfg (K + 5) 150 [.ptr [0] 0, bkV s] ⟨H0, n, p, false, j⟩ = .ret (.tuple [], ⟨sysPut E [0] [1] [2] [3] v (stepT v g s (3 + 1)) H0, n, p, false, j⟩) := fun n p j => (Zej hs Z18 hn1 hn2 hf'.f hf'.r (K := K + 3) (by have := hv.g8; omega) (by have := hv.g8; omega) hv.gtr)
  generalize sysPut E [0] [1] [2] [3] v (stepT v g s (3 + 1)) H0 = H1 at *
  simp only [bkV] at hc'
  simp -implicitDefEqProofs only [go_sem, a0, a3, b7, a6, hT, hin, hbk, hc', hw1]
  exact ⟨5 - (3 + 1), by omega, trivial, trivial, trivial, trivial, 3 + 1, H1, rfl, by omega, rfl, rfl, hbn, hfn, hsn⟩
 ·have b7 : nth T 7 = some (.int .i64 4) := a7
  have hin : inR 4 5 = some 4 := rfl
  have hw1 : wrapF .i64 (4 + 1) = 5 := rfl
  have hfn : Fits v (stepT v g s (4 + 1)) := Z9z hf' s
  have hsn : SysAt E (sysPut E [0] [1] [2] [3] v (stepT v g s (4 + 1)) H0) [0] [1] [2] [3] v (stepT v g s (4 + 1)) := Jp hs Z18 (by rw [hfn.r, hf'.r])
  have hbn : hget (sysPut E [0] [1] [2] [3] v (stepT v g s (4 + 1)) H0) [m + 3] = hget H0 [m + 3] := Jr (n11 (by omega)) (n11 (by omega)) (n11 (by omega)) (fun e => n11 (by have := hroom (4 + 1) hfn.r e; omega))
  rw [hbk] at hbn
  have hc' : ∀ n p j, acall cfg (K + 5) 151 [.ptr [0] 0, bkV s] ⟨H0, n, p, false, j⟩ = .ret (.tuple [], ⟨sysPut E [0] [1] [2] [3] v (stepT v g s (4 + 1)) H0, n, p, false, j⟩) := fun n p j => (Zeh (g := stepT v g s 4) hs Z18 hn1 hn2 (K := K + 4) (by have := hf'.f; have := hf'.b; have := hv.n8; omega) (by have := hf'.f; have := hf'.b; have := hv.n8; omega))
  generalize sysPut E [0] [1] [2] [3] v (stepT v g s (4 + 1)) H0 = H1 at *
  simp only [bkV] at hc'
  simp -implicitDefEqProofs only [go_sem, a0, a3, b7, a6, hT, hin, hbk, hc', hw1]
  exact ⟨5 - (4 + 1), by omega, trivial, trivial, trivial, trivial, 4 + 1, H1, rfl, by omega, rfl, rfl, hbn, hfn, hsn⟩
 ·have b7 : nth T 7 = some (.int .i64 5) := a7
  simp -implicitDefEqProofs only [go_sem, a0, a3, b7, a6, hT, Try.results97]
  exact ⟨trivial, hs⟩
end Go.Proofs.Ytgnpnfkncbnjnaa
namespace Go.Proofs.Ytgnpnfkncbnjnaa
attribute [local go_sem_proc] Int.reduceEq Int.reduceNeg Nat.reduceEqDiff Nat.reduceLT Nat.reduceAdd Nat.reduceSub Nat.reduceMul Int.reduceLE Int.reduceLT Int.reduceToNat Nat.reduceLeDiff
attribute [local go_sem] Int.toNat_natCast Bool.not_true Bool.not_false
open Go Go.Am
attribute [local congr] Zf Z9 Zc
theorem Zcw (K : Nat) (s : St) : acall cfg (K + 5) 146 [.lst []] s = .ret (.lst [], s) := by
 obtain ⟨H, n, p, jr, j⟩ := s
 kernel_rfl
theorem Zem (L : List Rg) (h : L.length <= 1000000) : roomy 0 L.length ty26.bytes = true := by
 unfold roomy
 have h16 : ty26.bytes = 16 := rfl
 rw [h16, Nat.ble_eq_true_of_le (show (0 + L.length) * 16 <= 140737488355328 by omega)]
theorem Z7q (L : List Rg) (hne : L ≠ []) (h : L.length <= 1000000) (C : Cfg) (hC : C.ty = cfg.ty) (v : AV) (hv : v = .empty \/ v = .nils) (s : St) : appendA C false 50 50 v (.lst (L.map rgV)) s = .ret (.slice s.name 0 L.length L.length false, s.new (rgB L)) := by
 have hd : C.desc 50 = some (.slice 26) := by unfold Cfg.desc; rw [hC]; exact Z7i
 have hi : C.ty.get 26 = some ty26 := by rw [hC]; exact Z5a
 unfold appendA
 rw [hd]; simp only
 rw [hi]; simp only
 have hz : ty26.zero = some (.agg [.int .i64 0, .int .i64 0]) := rfl
 rw [hz]; simp only
 have hb : Nat.beq (AV.agg [.int .i64 0, .int .i64 0]).cells.length ty26.size = true := rfl
 rw [hb]; simp only
 have hs : srcA ty26 (.agg [.int .i64 0, .int .i64 0]) (.slice 26) (.lst (L.map rgV)) = M.ret (L.length, L.flatMap rgC) := by
  show (match okZ 2 (L.map rgV) with | true => M.ret ((L.map rgV).length, flatA (L.map rgV)) | false => M.fail) = _
  rw [z_rg, Z9u, List.length_map]
 rw [hs, Zg, Xi, Tr.bind_ret]
 have hr := Zem L h
 cases L with
 | nil => exact absurd rfl hne
 | cons a l =>
  have hm : (a :: l).length = l.length + 1 := rfl
  rw [hm] at hr ⊢
  rcases hv with rfl | rfl
  ·unfold appendTo
   simp only [hr]
   unfold grow
   rw [Zg, Xz, Tr.bind_ret]
   rfl
  ·unfold appendTo
   simp only [hr]
   unfold grow
   rw [Zg, Xz, Tr.bind_ret]
   rfl
theorem Z2j (L : List Rg) (hne : L ≠ []) (h : L.length <= 1000000) (K : Nat) (H : Heap) (n : Nat) (p : Nm) (jr : Bool) (j : Delta) : acall cfg (K + 1) 146 [.lst (L.map rgV)] ⟨H, n, p, jr, j⟩ = .ret (.slice (p ++ [n]) 0 L.length L.length false, St.new ⟨H, n, p, jr, j⟩ (rgB L)) := by
 refine Z20 (bs := []) (args' := [.lst (L.map rgV)]) (xs := []) (xs0 := []) (ys' := []) (zs' := [rgB L]) Zgn Zgm rfl rfl rfl (by show renVs [] _ = _; simp only [renVs, renV, Z4l]) rfl ?_ rfl rfl
 refine Tr.Does.mono (Q := fun x => ∃ b, x.1 = .slice b 0 L.length L.length false /\ hget x.2.H b = some (rgB L)) ?_ ?_
 ·refine Za rfl fun T hT' hA => ?_
  have a0 := hA 0 _ rfl
  have hT : T.length = 8 := hT'
  clear hA hT'
  have hbs : ∀ s, buildSliceA (cfg.at 146) true 50 0 [] s = .ret (.empty, s) := fun s => by simp -implicitDefEqProofs only [redoH, redo1, go_sem, Go.Am.buildSliceA]
  have hap := fun s => Z7q L hne h (cfg.at 146) rfl .empty (.inl rfl) s
  obtain ⟨a, l, rfl⟩ : ∃ a l, L = a :: l := by cases L with | nil => exact absurd rfl hne | cons a l => exact ⟨a, l, rfl⟩
  have hn : ∀ (x : AV) (l : List AV) s, nilOp .eql (.lst (x :: l)) s = .ret (.bool false, s) := fun _ _ _ => rfl
  simp only [List.map_cons, rgV] at a0 hap
  simp -implicitDefEqProofs only [redoH, redo1, go_sem, a0, hT, hbs, hn, hap, Try.results146]
  exact ⟨_, rfl, rfl⟩
 ·rintro ⟨v1, s1⟩ ⟨b, rfl, hb⟩
  refine ⟨[], [b], [rgB L], rfl, ?_, rfl, ?_, rfl, by simp only [renBs, Z7m]⟩
  ·show reachL s1.H (199 + 1) [b] [] [] = _
   rw [rgB] at hb
   rw [Jn rfl hb (Xs L)]
   rfl
  ·show renV [(b, p ++ [n])] _ = _
   simp only [renV, lookN, Zh]
noncomputable def copyS (s : St) (g : Gs) : St := match g.room with
 | [] => (s.new (rgB g.free)).new (rgB g.bound)
 | _ :: _ => ((s.new (rgB g.free)).new (rgB g.bound)).new (rgB g.room)
theorem Z90 (g : Gs) (h1 : g.free ≠ []) (h2 : g.bound ≠ []) (l1 : g.free.length <= 1000000) (l2 : g.bound.length <= 1000000) (l3 : g.room.length <= 1000000) (K : Nat) (H : Heap) (n : Nat) (p : Nm) (jr : Bool) (j : Delta) :
  acall cfg (K + 6) 96 [gsV g] ⟨H, n, p, jr, j⟩ = .ret (.agg [.slice (p ++ [n]) 0 g.free.length g.free.length false, .slice (p ++ [n + 1]) 0 g.bound.length g.bound.length false, rowX (.lst []) (p ++ [n + 2]) g.room.length, .int .i64 g.most, .bool g.flashed], copyS ⟨H, n, p, jr, j⟩ g) := by
 have c1 := fun H n p jr j => Z2j g.free h1 l1 (K + 4) H n p jr j
 have c2 := fun H n p jr j => Z2j g.bound h2 l2 (K + 4) H n p jr j
 unfold copyS
 cases hr : g.room with
 | nil =>
  have c3 := fun s => Zcw K s
  refine Z8u (tl := [.lst [], .int .i64 g.most, .bool g.flashed]) Zf2 Zf1 rfl (by simp only [renVs, renV, gsV, Z4l]) (Xs _) (Xs _) ⟨fun _ _ => rfl, fun _ => rfl⟩ ?_
  refine Za rfl fun T hT' hA => ?_
  have a0 := hA 0 _ rfl
  have hT : T.length = 16 := hT'
  clear hA hT'
  simp only [rgB] at c1 c2
  simp -implicitDefEqProofs only [go_sem, a0, hT, hr, List.map_nil]
  try simp only [Z5]
  refine Zd [[], [0], [1, 0], [], [3], [4, 3, 2, 1, 0], [], [6], [7, 6, 5, 4, 3, 2, 1, 0], [2, 1, 0, 4, 3, 7, 6], [9, 8, 5, 2, 1, 0, 4, 3, 7, 6], [10, 9, 8, 5, 2, 1, 0, 4, 3, 7, 6], [11, 10, 9, 8, 5, 2, 1, 0, 4, 3, 7, 6], [12, 11, 10, 9, 8, 5, 2, 1, 0, 4, 3, 7, 6], [13, 12, 11, 10, 9, 8, 5, 2, 1, 0, 4, 3, 7, 6]] [[], [], [], [], [], [], [], [], [], [], [[0]], [], [[0]], [], [[0]]] (by kernel_rfl) rfl rfl ?_
  simp -implicitDefEqProofs only [go_sem, Z1, lkn, Z4, lk11, lk13, lk31, lk33, Zb, Option.getD_some, Option.getD_none, a0, hT, hr, List.map_nil, c1, c2, c3, Ze]
  simp -implicitDefEqProofs only [redoH, redo1, go_sem, a0, hT, Try.results96]
  exact ⟨[2, 2, 0], [2, 5, 0], rfl, rfl, rfl, rfl, rfl⟩
 | cons a l =>
  have hrn : g.room ≠ [] := by rw [hr]; simp
  have c3 := fun H n p jr j => Z2j g.room hrn l3 (K + 4) H n p jr j
  show _ = Tr.ret (_, (((St.new ⟨H, n, p, jr, j⟩ (rgB g.free)).new (rgB g.bound)).new (rgB (a :: l))))
  rw [<- hr]
  have hx : rowX (.lst []) (p ++ [n + 2]) g.room.length = .slice (p ++ [n + 2]) 0 g.room.length g.room.length false := Z9w (by rw [hr]; simp)
  rw [hx]
  refine Z8t (tl := [.int .i64 g.most, .bool g.flashed]) Zf2 Zf1 rfl (by simp only [renVs, renV, gsV, Z4l]) (Xs _) (Xs _) (Xs _) ⟨fun _ _ => rfl, fun _ => rfl⟩ ?_
  refine Za rfl fun T hT' hA => ?_
  have a0 := hA 0 _ rfl
  have hT : T.length = 16 := hT'
  clear hA hT' hx
  simp only [rgB] at c1 c2 c3
  simp -implicitDefEqProofs only [go_sem, a0, hT]
  try simp only [Z5]
  refine Zd [[], [0], [1, 0], [], [3], [4, 3, 2, 1, 0], [], [6], [7, 6, 5, 4, 3, 2, 1, 0], [2, 1, 0, 4, 3, 7, 6], [9, 8, 5, 2, 1, 0, 4, 3, 7, 6], [10, 9, 8, 5, 2, 1, 0, 4, 3, 7, 6], [11, 10, 9, 8, 5, 2, 1, 0, 4, 3, 7, 6], [12, 11, 10, 9, 8, 5, 2, 1, 0, 4, 3, 7, 6], [13, 12, 11, 10, 9, 8, 5, 2, 1, 0, 4, 3, 7, 6]] [[], [], [], [], [], [], [], [], [], [], [[0]], [], [[0]], [], [[0]]] (by kernel_rfl) rfl rfl ?_
  simp -implicitDefEqProofs only [go_sem, Z1, lkn, Z4, lk11, lk13, lk31, lk33, Zb, Option.getD_some, Option.getD_none, a0, hT, c1, c2, c3, Ze]
  simp -implicitDefEqProofs only [redoH, redo1, go_sem, a0, hT, Try.results96]
  exact ⟨[2, 2, 0], [2, 5, 0], [2, 8, 0], rfl, rfl, rfl, rfl, rfl, rfl, rfl, rfl, rfl, rfl⟩
end Go.Proofs.Ytgnpnfkncbnjnaa
namespace Go.Proofs.Ytgnpnfkncbnjnaa
attribute [local go_sem_proc] Int.reduceEq Int.reduceNeg Nat.reduceEqDiff Nat.reduceLT Nat.reduceAdd Nat.reduceSub Nat.reduceMul Int.reduceLE Int.reduceLT Int.reduceToNat Nat.reduceLeDiff
attribute [local go_sem] Int.toNat_natCast Bool.not_true Bool.not_false
open Go Go.Am
attribute [local congr] Zf Z9 Zc
theorem Zhv {H : Heap} {d : Nat} {b : Nm} (l : List Rg) (hb : l ≠ [] -> hget H b = some (rgB l)) : freezeG (freezeD H (d + 1)) H (rowX (.lst []) b l.length) = some (.lst (l.map rgV)) := by
 cases l with
 | nil => rfl
 | cons a r => exact Z2c (g := rgC) (z := 2) Z1k (by decide) (f := rgV) (fun _ => rfl) (row := freezeD H (d + 1)) (H := H) (a :: r) (Zco _) (hb (by simp)) (a :: r).length false
theorem Za0 {H : Heap} {d : Nat} {b : Nm} (l : List Rg) (hb : hget H b = some (rgB l)) : freezeG (freezeD H (d + 1)) H (.slice b 0 l.length l.length false) = some (.lst (l.map rgV)) := by
 cases l with
 | nil => rfl
 | cons a r => exact Z2c (g := rgC) (z := 2) Z1k (by decide) (f := rgV) (fun _ => rfl) (row := freezeD H (d + 1)) (H := H) (a :: r) (Zco _) hb (a :: r).length false
theorem Z5l {H : Heap} {f b r : Nm} {g : Gs} {e : Int} (h1 : hget H f = some (rgB g.free)) (h2 : hget H b = some (rgB g.bound)) (h3 : g.room ≠ [] -> hget H r = some (rgB g.room)) : Go.Am.frozen H (.tuple [.agg [.slice f 0 g.free.length g.free.length false, .slice b 0 g.bound.length g.bound.length false, rowX (.lst []) r g.room.length, .int .i64 g.most, .bool g.flashed], .int .i64 e]) = some (.tuple [gsV g, .int .i64 e]) := by
 have h4 : freezeG (freezeD H 6) H (.tuple [.agg [.slice f 0 g.free.length g.free.length false, .slice b 0 g.bound.length g.bound.length false, rowX (.lst []) r g.room.length, .int .i64 g.most, .bool g.flashed], .int .i64 e]) = some (.tuple [gsV g, .int .i64 e]) := by
  show (match freezeGs (freezeD H 6) H [.agg [.slice f 0 g.free.length g.free.length false, .slice b 0 g.bound.length g.bound.length false, rowX (.lst []) r g.room.length, .int .i64 g.most, .bool g.flashed], .int .i64 e] with | some l => some (AV.tuple l) | none => none) = _
  have h5 : freezeG (freezeD H 6) H (.agg [.slice f 0 g.free.length g.free.length false, .slice b 0 g.bound.length g.bound.length false, rowX (.lst []) r g.room.length, .int .i64 g.most, .bool g.flashed]) = some (gsV g) := by
   show (match freezeGs (freezeD H 6) H [.slice f 0 g.free.length g.free.length false, .slice b 0 g.bound.length g.bound.length false, rowX (.lst []) r g.room.length, .int .i64 g.most, .bool g.flashed] with | some l => some (AV.agg l) | none => none) = _
   simp only [freezeGs, Za0 g.free h1, Za0 g.bound h2, Zhv g.room h3]
   rfl
  simp only [freezeGs, h5]
  rfl
 unfold Go.Am.frozen
 rw [h4]
 have h5 : (AV.tuple [gsV g, .int .i64 e]).flat = true := by simp only [gsV, AV.flat, flats, Z4l]
 simp only [h5]
def tickE (v : Vac) (g : Gs) (s : Bk) : Gs × Int := if belongsE v g = 0 then if stageE v s = 0 then (tickT v g s, 0) else (zeroG, stageE v s) else (zeroG, belongsE v g)
def gasP (p : Gs × Int) : AV := .tuple [gsV p.1, .int .i64 p.2]
@[go_sem] theorem Zk3 (p : Gs × Int) : (gasP p).flat = true := by
 unfold gasP; simp only [gsV, AV.flat, flats, Z4l]
theorem Z4d (H : Heap) (e : Int) : Go.Am.frozen H (.tuple [.agg [.nils, .nils, .nils, .int .i64 0, .bool false], .int .i64 e]) = some (gasP (zeroG, e)) := rfl
theorem Z7r {v : Vac} {g : Gs} (h : belongsE v g = 0) : Fits v g := by
 obtain ⟨_, h1, h2, h3, _⟩ := Z0p h
 exact ⟨h1, h2, h3⟩
theorem Zcx (v : Vac) (g : Gs) (b : Bk) (K : Nat) (s : St) (hK : 300 < K) (hv : v.Lens K) (hg : g.Lens) (hsh : b.shut.length < K) (hsh2 : b.shut.length <= 9223372036854775807) : acall cfg (K + 12) 31 [vacV v, gsV g, bkV b] s = .ret (gasP (tickE v g b), s) := by
 refine Z2y Zj2 Zj1 (by first | rfl | simp -implicitDefEqProofs only [redoH, redo1, go_sem]) (by first | rfl | simp -implicitDefEqProofs only [redoH, redo1, go_sem]) (by first | rfl | simp -implicitDefEqProofs only [redoH, redo1, go_sem]) ?_
 refine Za rfl fun T hT' hA => ?_
 have a0 := hA 0 _ rfl
 have a1 := hA 1 _ rfl
 have a2 := hA 2 _ rfl
 have hT : T.length = 37 := hT'
 clear hA hT'
 have hb := fun s => Z2w v g K s (by omega) hv hg
 have hst := fun s => Zao v b (K + 9) s (by omega) hsh2 hv.pip.2
 simp only [vacV, gsV, bkV] at hb hst
 unfold tickE
 by_cases c0 : belongsE v g = 0
 ·have hf := Z7r c0
  have hva := Zel (Z0p c0).1
  obtain ⟨hn1, hn2⟩ := hf.ne hva
  rw [if_pos c0]
  by_cases c1 : stageE v b = 0
  ·rw [if_pos c1]
   have hco := fun H n p jr j => Z90 g hn1 hn2 (by have := hf.f; have := hva.n8; omega) (by have := hf.b; have := hva.n8; omega) (by have := hf.r; have := hva.g8; omega) (K + 5) H n p jr j
   simp only [gsV] at hco
   have hft := Z4c hf b
   have key : ∀ H, SysAt (.lst []) H [4, 4, 0] [4, 2, 0] [4, 2, 1] [4, 2, 2] v g -> hget H [3] = some (.cells [.nils, .nils, .nils, .int .i64 0, .bool false] true 0) -> hget H [2] = some (.cells [.int .i64 b.ticks, .int .i64 b.heat, .lst (b.shut.map iV), .bool b.flash] true 0) -> ∃ H2, (∀ n, acall cfg (K + 11) 97 [.ptr [4, 4, 0] 0, bkV b] ⟨H, n, [], false, []⟩ = .ret (.tuple [], ⟨H2, n, [], false, []⟩)) /\ SysAt (.lst []) H2 [4, 4, 0] [4, 2, 0] [4, 2, 1] [4, 2, 2] v (tickT v g b) /\ hget H2 [3] = some (.cells [.nils, .nils, .nils, .int .i64 0, .bool false] true 0) := fun H h h3 _ =>
    ⟨_, fun n => Zcv (K := K + 5) h ⟨by decide, by decide, by decide, by decide, by decide, by decide⟩ hva hf (by omega) (by omega) hsh2, Jp h ⟨by decide, by decide, by decide, by decide, by decide, by decide⟩ (by rw [hft.r, hf.r]), (Jr (by decide) (by decide) (by decide) (fun _ => by decide)).trans h3⟩
   simp -implicitDefEqProofs only [go_sem, a0, a1, a2, hT, hb, c0, hst, c1]
   rcases (show g.room = [] \/ ∃ a l, g.room = a :: l from by cases g.room with | nil => exact .inl rfl | cons a l => exact .inr ⟨a, l, rfl⟩) with hr | ⟨a, l, hr⟩
   ·have hcp : ∀ s, copyS s g = (s.new (rgB g.free)).new (rgB g.bound) := fun s => by unfold copyS; rw [hr]
    simp only [hcp] at hco
    clear hcp
    try simp only [Z5]
    refine Zd [[], [], [1], [0, 2, 1], [3, 0, 2, 1], [4, 3, 0, 2, 1]] [[], [], [], [], [], []] (by kernel_rfl) rfl rfl ?_
    simp -implicitDefEqProofs only [go_sem, Z1, lkn, Z4, lk11, lk13, lk31, lk33, Zb, Option.getD_some, Option.getD_none, a0, a1, a2, hT, hco, Ze]
    obtain ⟨H2, hc, hs2, h32⟩ := key (redoH [([3], .cells [.nils, .nils, .nils, .int .i64 0, .bool false] true 0), ([2], .cells [.int .i64 b.ticks, .int .i64 b.heat, .lst (b.shut.map iV), .bool b.flash] true 0), ([1], .cells [.lst (g.free.map rgV), .lst (g.bound.map rgV), .lst (g.room.map rgV), .int .i64 g.most, .bool g.flashed] true 0), ([0], .cells [.lst (v.vessels.map vesV), .lst (v.pipes.map pipV), .lst (v.pumps.map pmpV), .lst (v.leaks.map inlV), .lst (v.getters.map gtrV)] true 0)] [([4, 4, 0], some (sysB (.lst []) v [4, 2, 0] [4, 2, 1] [4, 2, 2] g)), ([4, 2, 1], some (rgB g.bound)), ([4, 2, 0], some (rgB g.free))]) ⟨rfl, rfl, rfl, fun e => absurd hr e⟩ rfl rfl
    unfold sysB at hc
    simp only [bkV] at hc
    have g4 := hs2.x
    unfold sysB at g4
    have e3 : ∀ Z, hget (hset H2 [3] Z) [3] = some Z := fun Z => hss h32
    simp -implicitDefEqProofs only [go_sem, Z1, lkn, Z4, lk11, lk13, lk31, lk33, Zb, Option.getD_some, Option.getD_none, a0, a1, a2, hT, hc, g4, h32, e3, Try.results31]
    exact Z5l (hs13.trans hs2.f) (hs13.trans hs2.b) (fun e => hs13.trans (hs2.r e))
   ·have hcp : ∀ s, copyS s g = ((s.new (rgB g.free)).new (rgB g.bound)).new (rgB g.room) := fun s => by unfold copyS; rw [hr]
    simp only [hcp] at hco
    clear hcp
    try simp only [Z5]
    refine Zd [[], [], [1], [0, 2, 1], [3, 0, 2, 1], [4, 3, 0, 2, 1]] [[], [], [], [], [], []] (by kernel_rfl) rfl rfl ?_
    simp -implicitDefEqProofs only [go_sem, Z1, lkn, Z4, lk11, lk13, lk31, lk33, Zb, Option.getD_some, Option.getD_none, a0, a1, a2, hT, hco, Ze]
    obtain ⟨H2, hc, hs2, h32⟩ := key (redoH [([3], .cells [.nils, .nils, .nils, .int .i64 0, .bool false] true 0), ([2], .cells [.int .i64 b.ticks, .int .i64 b.heat, .lst (b.shut.map iV), .bool b.flash] true 0), ([1], .cells [.lst (g.free.map rgV), .lst (g.bound.map rgV), .lst (g.room.map rgV), .int .i64 g.most, .bool g.flashed] true 0), ([0], .cells [.lst (v.vessels.map vesV), .lst (v.pipes.map pipV), .lst (v.pumps.map pmpV), .lst (v.leaks.map inlV), .lst (v.getters.map gtrV)] true 0)] [([4, 4, 0], some (sysB (.lst []) v [4, 2, 0] [4, 2, 1] [4, 2, 2] g)), ([4, 2, 2], some (rgB g.room)), ([4, 2, 1], some (rgB g.bound)), ([4, 2, 0], some (rgB g.free))]) ⟨rfl, rfl, rfl, fun _ => rfl⟩ rfl rfl
    unfold sysB at hc
    simp only [bkV] at hc
    have g4 := hs2.x
    unfold sysB at g4
    have e3 : ∀ Z, hget (hset H2 [3] Z) [3] = some Z := fun Z => hss h32
    simp -implicitDefEqProofs only [go_sem, Z1, lkn, Z4, lk11, lk13, lk31, lk33, Zb, Option.getD_some, Option.getD_none, a0, a1, a2, hT, hc, g4, h32, e3, Try.results31]
    exact Z5l (hs13.trans hs2.f) (hs13.trans hs2.b) (fun e => hs13.trans (hs2.r e))
  ·rw [if_neg c1]
   simp -implicitDefEqProofs only [redoH, redo1, go_sem, a0, a1, a2, hT, hb, c0, hst, c1, Try.results31]
   exact Z4d _ _
 ·rw [if_neg c0]
  simp -implicitDefEqProofs only [redoH, redo1, go_sem, a0, a1, a2, hT, hb, c0, Try.results31]
  exact Z4d _ _
end Go.Proofs.Ytgnpnfkncbnjnaa
namespace Go.Proofs.Ytgnpnfkncbnjnaa
open Go Go.Am
attribute [local congr] Zf Z9 Zc
end Go.Proofs.Ytgnpnfkncbnjnaa
namespace Go.Proofs.Ytgnpnfkncbnjnaa
open Go Go.Am
attribute [local congr] Zf Z9 Zc
noncomputable def gasPut (f b r : Nm) (g : Gs) (H : Heap) : Heap := match g.room with
 | [] => putsH [f, b] [rgB g.free, rgB g.bound] H
 | _ :: _ => putsH [f, b, r] [rgB g.free, rgB g.bound, rgB g.room] H
structure Apart3 (f b r : Nm) : Prop where
 fb : f ≠ b
 fr : f ≠ r
 br : b ≠ r
theorem Zcy {H : Heap} {f b r : Nm} {g g' : Gs} (h : GasAt H f b r g) (ha : Apart3 f b r) (h1 : g.free ≠ []) (h2 : g.bound ≠ []) (hr : g'.room.length = g.room.length) : GasAt (gasPut f b r g' H) f b r g' := by
 have hf := h.f h1
 have hb := h.b h2
 unfold gasPut
 cases hg : g'.room with
 | nil =>
  show GasAt (hset (hset H f _) b _) f b r g'
  exact ⟨fun _ => by rw [Z7 _ _ (Ne.symm ha.fb)]; exact hss hf, fun _ => hss ((Z7 _ _ ha.fb).trans hb), fun e => absurd hg e⟩
 | cons a l =>
  have hr2 := h.r (fun e => by rw [hg, e] at hr; simp at hr)
  show GasAt (hset (hset (hset H f _) b _) r _) f b r g'
  exact ⟨fun _ => by rw [Z7 _ _ (Ne.symm ha.fr), Z7 _ _ (Ne.symm ha.fb)]; exact hss hf, fun _ => by rw [Z7 _ _ (Ne.symm ha.br)]; exact hss ((Z7 _ _ ha.fb).trans hb),
   fun _ => by rw [hg]; exact hss ((Z7 _ _ ha.br).trans ((Z7 _ _ ha.fr).trans hr2))⟩
theorem Zcz {H : Heap} {f b r q : Nm} {g : Gs} (h2 : f ≠ q) (h3 : b ≠ q) (h4 : g.room ≠ [] -> r ≠ q) : hget (gasPut f b r g H) q = hget H q := by
 unfold gasPut
 cases hg : g.room with
 | nil =>
  show hget (hset (hset H f _) b _) q = _
  rw [Z7 _ _ h3, Z7 _ _ h2]
 | cons a l =>
  show hget (hset (hset (hset H f _) b _) r _) q = _
  rw [Z7 _ _ (h4 (by rw [hg]; simp)), Z7 _ _ h3, Z7 _ _ h2]
end Go.Proofs.Ytgnpnfkncbnjnaa
namespace Go.Proofs.Ytgnpnfkncbnjnaa
open Go Go.Am
attribute [local congr] Zf Z9 Zc
end Go.Proofs.Ytgnpnfkncbnjnaa
namespace Go.Proofs.Ytgnpnfkncbnjnaa
open Go Go.Am
attribute [local congr] Zf Z9 Zc
end Go.Proofs.Ytgnpnfkncbnjnaa
namespace Go.Proofs.Ytgnpnfkncbnjnaa
open Go Go.Am
attribute [local congr] Zf Z9 Zc
end Go.Proofs.Ytgnpnfkncbnjnaa
namespace Go.Proofs.Ytgnpnfkncbnjnaa
open Go Go.Am
attribute [local congr] Zf Z9 Zc
structure RAt (H : Heap) (f b r : Nm) (v : Vac) (g : Gs) (s : Bk) : Prop where
 v : hget H [0] = some (vacC v)
 c : hget H [1] = some (.cells [mutV f g.free.length, mutV b g.bound.length, mutV r g.room.length, .int .i64 g.most, .bool g.flashed] true 0)
 k : hget H [2] = some (.cells [.int .i64 s.ticks, .int .i64 s.heat, .lst (s.shut.map iV), .bool s.flash] true 0)
 z : hget H [3] = some (.cells [.nils, .nils, .nils, .int .i64 0, .bool false] true 0)
 g : GasAt H f b r g
theorem RAt.put {H : Heap} {f b r : Nm} {v : Vac} {g g' : Gs} {s : Bk} (h : RAt H f b r v g s) (ha : Apart3 f b r) (h1 : g.free ≠ []) (h2 : g.bound ≠ []) (l1 : g'.free.length = g.free.length) (l2 : g'.bound.length = g.bound.length) (l3 : g'.room.length = g.room.length) (e1 : g'.most = g.most) (e2 : g'.flashed = g.flashed) (n0 : ∀ i, i < 4 -> f ≠ [i] /\ b ≠ [i] /\ r ≠ [i]) : RAt (gasPut f b r g' H) f b r v g' s := by
 have q : ∀ i, i < 4 -> hget (gasPut f b r g' H) [i] = hget H [i] := fun i hi => Zcz (n0 i hi).1 (n0 i hi).2.1 (fun _ => (n0 i hi).2.2)
 exact ⟨(q 0 (by omega)).trans h.v, by rw [l1, l2, l3, e1, e2]; exact (q 1 (by omega)).trans h.c, (q 2 (by omega)).trans h.k, (q 3 (by omega)).trans h.z, Zcy h.g ha h1 h2 l3⟩
end Go.Proofs.Ytgnpnfkncbnjnaa
namespace Go.Proofs.Ytgnpnfkncbnjnaa
open Go Go.Am
attribute [local congr] Zf Z9 Zc
end Go.Proofs.Ytgnpnfkncbnjnaa
namespace Go.Proofs.Ytgnpnfkncbnjnaa
attribute [local go_sem_proc] Int.reduceEq Int.reduceNeg Nat.reduceEqDiff Nat.reduceLT Nat.reduceAdd Nat.reduceSub Nat.reduceMul Int.reduceLE Int.reduceLT Int.reduceToNat Nat.reduceLeDiff
attribute [local go_sem] Int.toNat_natCast Bool.not_true Bool.not_false
open Go Go.Am
attribute [local congr] Zf Z9 Zc
structure StgG (k : Int) (q : Nat) (s : Bk) : Prop where
 t : 0 <= s.ticks /\ s.ticks <= k
 h : 0 <= s.heat /\ s.heat < 900
 n : s.shut.length <= q
 o : s.shut.Pairwise (· < ·)
 s : ∀ x ∈ s.shut, 0 <= x /\ x < q
def Asc (n : Int) (l : List Int) : Prop := (∀ x ∈ l, 0 <= x /\ x < n) /\ l.Pairwise (· < ·)
theorem Zen {n n' : Int} {l : List Int} (h : Asc n l) (hn : n <= n') : Asc n' l := ⟨fun x hx => by have := h.1 x hx; omega, h.2⟩
theorem Zeo {n n' : Int} {l : List Int} (h : Asc n l) (h0 : 0 <= n) (hn : n < n') : Asc n' (l ++ [n]) := by
 refine ⟨fun x hx => ?_, List.pairwise_append.2 ⟨h.2, List.pairwise_singleton .., fun a ha b hb => ?_⟩⟩
 ·rcases List.mem_append.1 hx with hx | hx
  ·have := h.1 x hx; omega
  ·rw [List.mem_singleton] at hx; omega
 ·rw [List.mem_singleton] at hb; have := h.1 a ha; omega
theorem bs22 (f : FuncId) (a : Int) (s : St) : buildSliceA (cfg.at f) true 22 1 [(0, .int .i64 a)] s = .ret (.lst [.int .i64 a], s) := by
 simp -implicitDefEqProofs only [redoH, redo1, go_sem, Go.Am.buildSliceA]
theorem Z7s (v : Vac) (hp : v.pipes.length <= 1000000) (k : Int) (hk : 0 <= k /\ k <= 1000000) (w : Int) (u : Nat) (K : Nat) (hK : v.pipes.length + 20 < K) :
  ∃ s w', StgG k v.pipes.length s /\ ∀ (b : Nm) (st : St), hget st.H b = some (.cells [.int .u64 w] true u) -> acall cfg (K + 10) 24 [.ptr b 0, vacV v, .int .i64 k] st = .ret (bkV s, st.put b (.cells [.int .u64 w'] true u)) := by
 have key : ∃ s w', StgG k v.pipes.length s /\ (bodyA (cfg.at 24) (acall cfg (K + 9)) (around cfg (K + 9)) (K + 9 + 1) Try.f24 [.ptr [0] 0, vacV v, .int .i64 k] ⟨[([0], .cells [.int .u64 w] true u)], 1, [], false, []⟩).Does fun x => x.1.shut = bkV s /\ hget x.2.H [0] = some (.cells [.int .u64 w'] true u) := by
  suffices h : (bodyA (cfg.at 24) (acall cfg (K + 9)) (around cfg (K + 9)) (K + 9 + 1) Try.f24 [.ptr [0] 0, vacV v, .int .i64 k] ⟨[([0], .cells [.int .u64 w] true u)], 1, [], false, []⟩).Does fun x => ∃ s w', StgG k v.pipes.length s /\ x.1.shut = bkV s /\ hget x.2.H [0] = some (.cells [.int .u64 w'] true u) by
   obtain ⟨x, e, s, w', h1, h2, h3⟩ := h
   exact ⟨s, w', h1, x, e, h2, h3⟩
  refine Za rfl fun T hT' hA => ?_
  have a0 := hA 0 _ rfl
  have a1 := hA 1 _ rfl
  have a2 := hA 2 _ rfl
  have hT : T.length = 34 := hT'
  clear hA hT'
  have hk1 : wrapF .i64 (k + 1) = k + 1 := Z8 (by omega) (by omega)
  have ut1 := fun H m jr j hd => Z04 (H := H) (m := m) (u := u) (p := []) (jr := jr) (j := j) (k + 1) (K + 7) hd (by omega)
  have ut2 := fun H m jr j hd => Z04 (H := H) (m := m) (u := u) (p := []) (jr := jr) (j := j) 900 (K + 7) hd (by decide)
  have ot := fun H m jr j hd => Zcq (H := H) (m := m) (u := u) (p := []) (jr := jr) (j := j) 4 (K + 6) hd (by decide)
  have d0 : isD u [([0], .cells [.int .u64 w] true u)] := ⟨w, rfl⟩
  simp -implicitDefEqProofs (maxDischargeDepth := 9) only [go_sem, Zl, Yb, Zo, Zx, Zp, Zy, Zq, Zz, Y0, Yc, Y1, Yd, Y2, Ye, Y3, Yf, Zk, Zn, Zr, Y4, Zs, Y5, Yg, Yv, a0, a1, a2, hT, hk1, ut1, ut2, ot, d0]
  have r1 := Yk w (k + 1) (by omega)
  have r2 := Yk (nextW w) 900 (by decide)
  generalize uptoN w (k + 1) = tk at *
  generalize uptoN (nextW w) 900 = ht at *
  generalize oneB (nextW (nextW w)) 4 = fl at *
  generalize nextW (nextW (nextW w)) = w1 at *
  clear ut1 ut2 ot d0 hk1
  simp only [Z5]
  refine Zu (fun l T s' => T.length = 34 /\ nth T 0 = some (.ptr [0] 0) /\ nth T 4 = some (.ptr [1] 0) /\ nth T 6 = some (.ptr [2] 0) /\ nth T 7 = some (.ptr [3] 0) /\ ∃ (i m c : Nat) (H : Heap) (row : List Int), nth T 8 = some (.int .i64 i) /\ i <= v.pipes.length /\ l = v.pipes.length - i /\ s' = ⟨H, m + 4, [], false, []⟩ /\ isD u H /\ hget H [1] = some (vacC v) /\ hget H [2] = some (.cells [.int .i64 0, .int .i64 0, .nils, .bool false] true 0) /\ hget H [3] = some (.cells [.int .i64 tk, .int .i64 ht, ownV [c + 4] (row.map iV), .bool fl] true 0) /\ (row.map iV ≠ [] -> c < m /\ hget H [c + 4] = some (.tok row.length 1)) /\ row.length <= i /\ Asc i row) (k := v.pipes.length) (by omega) ?_ ?_
  ·exact ⟨by simp -implicitDefEqProofs only [redoH, redo1, go_sem, hT], by simp -implicitDefEqProofs only [redoH, redo1, go_sem, a0], by simp -implicitDefEqProofs only [redoH, redo1, go_sem, hT], by simp -implicitDefEqProofs only [redoH, redo1, go_sem, hT], by simp -implicitDefEqProofs only [redoH, redo1, go_sem, hT], 0, 0, 0, _, [], by simp -implicitDefEqProofs only [redoH, redo1, go_sem, hT] <;> rfl, by omega, rfl, rfl, ⟨_, rfl⟩, rfl, rfl, rfl, fun e => absurd rfl e, Nat.le_refl _, (fun x hx => nomatch hx), List.Pairwise.nil⟩
  clear a0 a1 a2 hT T
  rintro l T s' ⟨hT, a0, a4, a6, a7, i, m, c, H, row, a8, hi, rfl, rfl, hd, g1, g2, g3, gt, hrl, hrx⟩
  unfold vacC at g1
  simp -implicitDefEqProofs only [go_sem, a0, a4, a6, a7, a8, hT, g1]
  by_cases hil : (i : Int) < (v.pipes.length : Int)
  ·have hi' : i < v.pipes.length := by omega
   have hkk : v.pipes.length - (i + 1) < v.pipes.length - i := by omega
   have ot := Zcq (H := H) (m := m + 4) (u := u) (p := []) (jr := false) (j := []) 4 (K + 6) hd (by decide)
   generalize oneB (dW H) 4 = ob at *
   generalize nextW (dW H) = w2 at *
   have hd2 : isD u (hset H [0] (.cells [.int .u64 w2] true u)) := Zl hd
   have q1 : hget (hset H [0] (.cells [.int .u64 w2] true u)) [1] = hget H [1] := hs11 (by decide)
   have q2 : hget (hset H [0] (.cells [.int .u64 w2] true u)) [2] = hget H [2] := hs11 (by decide)
   have q3 : hget (hset H [0] (.cells [.int .u64 w2] true u)) [3] = hget H [3] := hs11 (by decide)
   have qt : ∀ c, hget (hset H [0] (.cells [.int .u64 w2] true u)) [c + 4] = hget H [c + 4] := fun c => hs11 (by omega)
   rw [g1] at q1
   rw [g2] at q2
   rw [g3] at q3
   have qt' : row.map iV ≠ [] -> c < m /\ hget (hset H [0] (.cells [.int .u64 w2] true u)) [c + 4] = some (.tok row.length 1) := fun e => ⟨(gt e).1, (qt c).trans (gt e).2⟩
   generalize hset H [0] (.cells [.int .u64 w2] true u) = H1 at *
   clear hd g1 g2 g3 gt qt
   have hroom : (row.length + 1) * 8 <= 140737488355328 := by omega
   have hrl2 : row.length <= i + 1 := by omega
   have hw1 : wrapF .i64 ((i : Int) + 1) = ((i + 1 : Nat) : Int) := Z8 (by omega) (by omega)
   have bs := fun a s => bs22 24 a s
   cases ob with
   | false =>
    simp -implicitDefEqProofs only [go_sem, a0, a4, a6, a7, a8, hT, hil, ot, hw1]
    exact ⟨v.pipes.length - (i + 1), hkk, trivial, trivial, trivial, trivial, trivial, i + 1, m, c, H1, row, rfl, hi', rfl, rfl, hd2, q1, q2, q3, qt', hrl2, Zen hrx (by clear hw1; omega)⟩
   | true =>
    have hap := X6 (C := cfg.at 24) (sT := 22) (b := [c + 4]) (l := row.map iV) (x := iV i) (H := H1) (n := m + 4) (p := []) (jr := false) (j := []) (z := 1) Zjo Zpv rfl rfl rfl rfl rfl rfl (by rw [List.length_map]; exact hroom) (fun hx => by rw [List.length_map]; exact (qt' hx).2)
    have hown : ∀ b, ownV b (row.map iV ++ [iV i]) = .own b (row.map iV ++ [iV i]) := fun b => by cases row.map iV <;> rfl
    have hrm : (row ++ [(i : Int)]).map iV = row.map iV ++ [iV i] := by simp
    simp only [List.nil_append, List.length_map] at hap
    rw [hown] at hap
    have x3 : hget (dropTok (row.map iV) [c + 4] H1) [3] = hget H1 [3] := Yw _ _ (n11 (by clear hw1; omega))
    have x0 : hget (dropTok (row.map iV) [c + 4] H1) [0] = hget H1 [0] := Yw _ _ (n11 (by clear hw1; omega))
    have x1 : hget (dropTok (row.map iV) [c + 4] H1) [1] = hget H1 [1] := Yw _ _ (n11 (by clear hw1; omega))
    have x2 : hget (dropTok (row.map iV) [c + 4] H1) [2] = hget H1 [2] := Yw _ _ (n11 (by clear hw1; omega))
    generalize dropTok (row.map iV) [c + 4] H1 = H2 at *
    rw [q3] at x3
    have k3 : ∀ q X, hget (([q + 4], X) :: H2) [3] = hget H2 [3] := fun q X => hc11 (by clear hw1; omega)
    simp only [iV] at hap
    simp -implicitDefEqProofs only [go_sem, a0, a4, a6, a7, a8, hT, hil, ot, bs, q3, hap, x3, k3, hw1]
    refine ⟨v.pipes.length - (i + 1), hkk, trivial, trivial, trivial, trivial, trivial, i + 1, m + 1, m, _, row ++ [(i : Int)], rfl, hi', rfl, rfl, ?_, ?_, ?_, ?_, fun _ => ⟨by omega, ?_⟩, ?_, ?_⟩
    all_goals clear hw1
    ·obtain ⟨w9, hw9⟩ := hd2
     exact ⟨w9, (hc11 (by omega)).trans ((hs11 (by decide)).trans (x0.trans hw9))⟩
    ·exact (hc11 (by omega)).trans ((hs11 (by decide)).trans (x1.trans q1))
    ·exact (hc11 (by omega)).trans ((hs11 (by decide)).trans (x2.trans q2))
    ·rw [hrm, hown]; exact (hc11 (by omega)).trans (hss x3)
    ·rw [List.length_append]; exact Z0 ..
    ·simp; omega
    ·exact Zeo hrx (by omega) (by omega)
  ·have e2 : ∀ Z, hget (hset H [2] Z) [2] = some Z := fun Z => hss g2
   have e0 : ∀ Z, hget (hset H [2] Z) [0] = hget H [0] := fun Z => hs11 (by decide)
   have hsh : ∀ b, (ownV b (row.map iV)).shut = .lst (row.map iV) := fun b => X4 b _
   simp -implicitDefEqProofs only [go_sem, a0, a4, a6, a7, a8, hT, hil, g3, g2, e2, e0, hsh, Try.results24]
   exact ⟨⟨tk, ht, row, fl⟩, dW H, ⟨⟨r1.1, by show tk <= k; omega⟩, r2, by show row.length <= _; omega, hrx.2, fun x hx => by have := hrx.1 x hx; omega⟩, rfl, Ja hd⟩
 obtain ⟨s, w', hg, hd⟩ := key
 refine ⟨s, w', hg, fun b st hb => ?_⟩
 exact Z2e (v := bkV s) Ziy Zix hb rfl (by simp only [vacV, renV, renVs, Z0j, Z0k, Z0l, Z0m, Z0n]) rfl rfl rfl rfl (by rfl) (by simp only [bkV, renV, renVs, fl_i]) hd
end Go.Proofs.Ytgnpnfkncbnjnaa
namespace Go.Proofs.Ytgnpnfkncbnjnaa
open Go Go.Am
theorem Zd0 (k : Nat) (s : St) : acall cfg (k + 300) 39 [] s = .ret (.bool true, s) := by kernel_rfl
end Go.Proofs.Ytgnpnfkncbnjnaa
namespace Go.Proofs.Ytgnpnfkncbnjnaa
open Go Go.Am
def I64 (n : Int) : Prop := -9223372036854775808 <= n /\ n <= 9223372036854775807
def Arg {α : Type} (t : TypeId) (d : Nat) (cells : α -> List AV) (ok : α -> Prop) : Prop := ∀ cs, Content Try.prog d t cs -> ∃ a, cs = cells a /\ ok a
theorem Zhw (d : Nat) : Arg 3 (d + 1) (fun n => [iV n]) I64 := by
 intro cs h
 unfold Content at h
 rw [show Try.prog.underlying 3 = some (.int .i64) by kernel_rfl] at h
 obtain ⟨n, rfl, hn⟩ := h
 refine ⟨n, rfl, ?_⟩
 simp only [Lit.wf, Bool.and_eq_true, decide_eq_true_eq] at hn
 exact hn
theorem Zd1 {α : Type} {e z : Nat} {d : Nat} {cells : α -> List AV} {ok : α -> Prop} {f : α -> AV} (he : Arg e d cells ok) (hf : ∀ a, rowA z (cells a) = f a) : ∀ rows : List (List AV), (∀ r ∈ rows, r.length = z /\ Content Try.prog d e r) ->
  ∃ l : List α, rows.map (rowA z) = l.map f /\ l.length = rows.length /\ ∀ a ∈ l, ok a
 | [], _ => ⟨[], rfl, rfl, fun a h => by cases h⟩
 | r :: rows, h => by
  obtain ⟨a, rfl, ha⟩ := he r (h r List.mem_cons_self).2
  obtain ⟨l, h1, h2, h3⟩ := Zd1 he hf rows fun r hr => h r (List.mem_cons_of_mem _ hr)
  refine ⟨a :: l, by simp [h1, hf], by simp [h2], fun b hb => ?_⟩
  rcases List.mem_cons.1 hb with rfl | hb
  ·exact ha
  ·exact h3 b hb
theorem Zd2 {α : Type} {t e z : Nat} {d : Nat} {cells : α -> List AV} {ok : α -> Prop} {f : α -> AV} (hu : Try.prog.underlying t = some (.slice e)) (hz : Try.prog.cellsOf e = z) (he : Arg e d cells ok) (hf : ∀ a, rowA z (cells a) = f a) :
  Arg t (d + 1) (fun l : List α => [.lst (l.map f)]) (fun l => l.length <= 9223372036854775807 /\ ∀ a ∈ l, ok a) := by
 intro cs h
 unfold Content at h
 rw [hu] at h
 obtain ⟨rows, rfl, hl, hr⟩ := h
 rw [hz] at hr ⊢
 obtain ⟨l, h1, h2, h3⟩ := Zd1 he hf rows hr
 refine ⟨l, by rw [h1], ?_, h3⟩
 rw [h2]; exact hl
theorem Arg.to {α β : Type} {t d : Nat} {c : α -> List AV} {k : α -> Prop} (h : Arg t d c k) (g : α -> β) {c' : β -> List AV} {k' : β -> Prop} (hc : ∀ a, c a = c' (g a)) (hk : ∀ a, k a -> k' (g a)) : Arg t d c' k' := fun cs hx => by
 obtain ⟨a, rfl, ha⟩ := h cs hx
 exact ⟨g a, hc a, hk a ha⟩
def Len {α : Type} (l : List α) : Prop := l.length <= 9223372036854775807
theorem Zep (d : Nat) : Arg 22 (d + 2) (fun l : List Int => [.lst (l.map iV)]) (fun l => Len l /\ ∀ a ∈ l, I64 a) := Zd2 (z := 1) (by kernel_rfl) (by kernel_rfl) (Zhw d) fun _ => rfl
def Tri.I (t : Tri) : Prop := (Len t.of /\ ∀ a ∈ t.of, I64 a) /\ I64 t.cost
def Hnt.I (h : Hnt) : Prop := I64 h.suspects /\ Len h.trials /\ ∀ t ∈ h.trials, t.I
def Rg.I (r : Rg) : Prop := I64 r.lo /\ I64 r.hi
def Rel.I (x : Rel) : Prop := I64 x.frm /\ x.rate.I
def Ves.I (x : Ves) : Prop := I64 x.vol /\ x.free.I /\ x.bound.I /\ Len x.bands /\ ∀ a ∈ x.bands, a.I
def Pip.I (x : Pip) : Prop := I64 x.a /\ I64 x.b /\ x.out.I /\ x.back.I
def Pmp.I (x : Pmp) : Prop := I64 x.at' /\ x.part.I
def Inl.I (x : Inl) : Prop := I64 x.at' /\ x.gas.I
def Gtr.I (x : Gtr) : Prop := I64 x.at' /\ x.part.I /\ x.room.I
def Vac.I (v : Vac) : Prop := (Len v.vessels /\ ∀ a ∈ v.vessels, a.I) /\ (Len v.pipes /\ ∀ a ∈ v.pipes, a.I) /\ (Len v.pumps /\ ∀ a ∈ v.pumps, a.I) /\ (Len v.leaks /\ ∀ a ∈ v.leaks, a.I) /\ (Len v.getters /\ ∀ a ∈ v.getters, a.I)
def Bk.I (s : Bk) : Prop := I64 s.ticks /\ I64 s.heat /\ (Len s.shut /\ ∀ a ∈ s.shut, I64 a)
def Gs.I (g : Gs) : Prop := (Len g.free /\ ∀ a ∈ g.free, a.I) /\ (Len g.bound /\ ∀ a ∈ g.bound, a.I) /\ (Len g.room /\ ∀ a ∈ g.room, a.I) /\ I64 g.most
end Go.Proofs.Ytgnpnfkncbnjnaa
namespace Go.Proofs.Ytgnpnfkncbnjnaa
open Go Go.Am
attribute [local congr] Zf Z9 Zc
attribute [local go_sem] Go.Am.frozen Go.Am.freezeG Go.Am.freezeGs Go.Am.minmax
theorem VacG.lens {v : Vac} (h : VacG v) (K : Nat) (hK : 10 < K) : v.Lens K :=
 ⟨⟨by have := h.n4; omega, by have := h.n4; omega⟩, ⟨by have := h.np; omega, by have := h.np; omega⟩, ⟨by have := h.nm; omega, by have := h.nm; omega⟩, ⟨by have := h.nl; omega, by have := h.nl; omega⟩, ⟨by have := h.ng; omega, by have := h.ng; omega⟩, fun x hx => by have := (h.ves x hx).len; omega⟩
theorem Vac.I.lens {v : Vac} (h : v.I) (K : Nat) (h1 : v.vessels.length < K) (h2 : v.pipes.length < K) (h3 : v.pumps.length < K) (h4 : v.leaks.length < K) (h5 : v.getters.length < K) : v.Lens K :=
 ⟨⟨h1, h.1.1⟩, ⟨h2, h.2.1.1⟩, ⟨h3, h.2.2.1.1⟩, ⟨h4, h.2.2.2.1.1⟩, ⟨h5, h.2.2.2.2.1⟩, fun x hx => (h.1.2 x hx).2.2.2.1⟩
end Go.Proofs.Ytgnpnfkncbnjnaa
namespace Go.Proofs.Ytgnpnfkncbnjnaa
open Go Go.Am
attribute [local congr] Zf Z9 Zc
attribute [local go_sem] Go.Am.frozen Go.Am.freezeG Go.Am.freezeGs
end Go.Proofs.Ytgnpnfkncbnjnaa
namespace Go.Proofs.Ytgnpnfkncbnjnaa
open Go Go.Am
theorem Yt {r : Rg} {m : Int} : spansE r m = 0 ↔ RgG m r := by
 unfold spansE
 constructor
 ·intro h
  split at h
  ·exact absurd h (by decide)
  ·split at h
   ·exact absurd h (by decide)
   ·split at h
    ·exact absurd h (by decide)
    ·exact ⟨by omega, by omega, by omega⟩
 ·rintro ⟨h1, h2, h3⟩
  rw [if_neg (by omega), if_neg (by omega), if_neg (by omega)]
theorem Yz {n lo hi : Int} : fromB n lo hi = true ↔ lo <= n /\ n <= hi := by unfold fromB; rw [decide_eq_true_iff]
theorem X0 {α : Type} {f : α -> Int} : ∀ {l : List α}, firstE f l = 0 ↔ ∀ a ∈ l, f a = 0
 | [] => ⟨(fun _ _ h => nomatch h), fun _ => rfl⟩
 | a :: r => by
  unfold firstE
  by_cases h : f a = 0
  ·rw [if_pos h, X0]; simp [h]
  ·rw [if_neg h]; simp [h]
theorem Z5m {n a most : Int} {r : Rg} : atE n a r most = 0 ↔ (0 <= a /\ a < n) /\ RgG most r := by
 unfold atE
 by_cases h : fromB a 0 (n - 1) = true
 ·rw [if_pos h, Yt]
  rw [Yz] at h
  constructor
  ·intro g; exact ⟨by omega, g⟩
  ·exact And.right
 ·rw [if_neg h]
  rw [Yz] at h
  constructor
  ·intro g; exact absurd g (by decide)
  ·rintro ⟨g, _⟩; exact absurd (show 0 <= a /\ a <= n - 1 by omega) h
structure PipB (n : Int) (p : Pip) : Prop where
 a : 0 <= p.a /\ p.a < n
 b : 0 <= p.b /\ p.b < n
 ab : p.a ≠ p.b
 out : RgG 1000000 p.out
 back : RgG 1000000 p.back
theorem Zd3 {n : Int} {p : Pip} : pipE n p = 0 ↔ PipB n p := by
 unfold pipE
 by_cases h : fromB p.a 0 (n - 1) = true /\ fromB p.b 0 (n - 1) = true
 ·rw [if_pos h]
  rw [Yz, Yz] at h
  by_cases e : p.a = p.b
  ·rw [if_pos e]
   constructor
   ·intro g; exact absurd g (by decide)
   ·intro g; exact absurd e g.ab
  ·rw [if_neg e]
   by_cases g : spansE p.out 1000000 = 0
   ·rw [if_pos g, Yt]
    exact ⟨fun k => ⟨by omega, by omega, e, Yt.1 g, k⟩, fun k => k.back⟩
   ·rw [if_neg g]
    exact ⟨fun k => absurd k g, fun k => absurd (Yt.2 k.out) g⟩
 ·rw [if_neg h]
  constructor
  ·intro g; exact absurd g (by decide)
  ·intro g; exact absurd ⟨Yz.2 (by have := g.a; omega), Yz.2 (by have := g.b; omega)⟩ h
def BandsB : Bool -> Int -> List Rel -> Prop
 | _, _, [] => True
 | first, last, b :: r => (0 <= b.frm /\ b.frm <= 2000) /\ (first = false -> last < b.frm) /\ RgG 1000000 b.rate /\ BandsB false b.frm r
theorem Z7t : ∀ {l : List Rel} {i : Nat} {last : Int}, bandsE i last l = 0 ↔ BandsB (decide (i = 0)) last l
 | [], _, _ => ⟨fun _ => trivial, fun _ => rfl⟩
 | b :: r, i, last => by
  unfold bandsE BandsB
  by_cases h : fromB b.frm 0 2000 = true
  ·rw [if_pos h]
   rw [Yz] at h
   by_cases e : 0 < i /\ b.frm <= last
   ·rw [if_pos e]
    constructor
    ·intro g; exact absurd g (by decide)
    ·rintro ⟨_, g, _⟩
     have := g (by simp; omega)
     omega
   ·rw [if_neg e]
    by_cases g : spansE b.rate 1000000 = 0
    ·rw [if_pos g, Z7t]
     rw [show decide (i + 1 = 0) = false by simp]
     constructor
     ·intro k; exact ⟨h, fun q => by simp at q; omega, Yt.1 g, k⟩
     ·rintro ⟨_, _, _, k⟩; exact k
    ·rw [if_neg g]
     constructor
     ·intro k; exact absurd k g
     ·rintro ⟨_, _, k, _⟩; exact absurd (Yt.2 k) g
  ·rw [if_neg h]
   constructor
   ·intro g; exact absurd g (by decide)
   ·rintro ⟨k, _⟩; exact absurd (Yz.2 k) h
structure VesB (x : Ves) : Prop where
 vol : 1 <= x.vol /\ x.vol <= 1000000
 free : RgG 1000000000 x.free
 bound : RgG 1000000000 x.bound
 len : x.bands.length <= 8
 bands : BandsB true 0 x.bands
theorem Zd4 {x : Ves} : vesE x = 0 ↔ VesB x := by
 unfold vesE
 by_cases h : fromB x.vol 1 1000000 = true
 ·rw [if_pos h]
  rw [Yz] at h
  by_cases h1 : spansE x.free 1000000000 = 0
  ·rw [if_pos h1]
   by_cases h2 : spansE x.bound 1000000000 = 0
   ·rw [if_pos h2]
    by_cases h3 : 8 < x.bands.length
    ·rw [if_pos h3]
     constructor
     ·intro g; exact absurd g (by decide)
     ·intro g; have := g.len; omega
    ·rw [if_neg h3, Z7t]
     exact ⟨fun g => ⟨h, Yt.1 h1, Yt.1 h2, by omega, g⟩, fun g => g.bands⟩
   ·rw [if_neg h2]
    exact ⟨fun g => absurd g h2, fun g => absurd (Yt.2 g.bound) h2⟩
  ·rw [if_neg h1]
   exact ⟨fun g => absurd g h1, fun g => absurd (Yt.2 g.free) h1⟩
 ·rw [if_neg h]
  constructor
  ·intro g; exact absurd g (by decide)
  ·intro g; exact absurd (Yz.2 g.vol) h
def sumI {α : Type} (f : α -> Int) : List α -> Int
 | [] => 0
 | a :: r => f a + sumI f r
theorem Yu {α : Type} (f : α -> Int) (a : α) (r : List α) : sumI f (a :: r) = f a + sumI f r := rfl
theorem Jb {α : Type} {f : α -> Int} : ∀ {l : List α}, (∀ a ∈ l, 0 <= f a) -> 0 <= sumI f l
 | [], _ => Int.le_refl _
 | a :: r, h => by have := Jb (l := r) fun b hb => h b (List.mem_cons_of_mem _ hb); have := h a List.mem_cons_self; simp only [Yu]; omega
theorem Z4e {α : Type} {f g : α -> Int} : ∀ {l : List α}, (∀ a ∈ l, f a <= g a) -> sumI f l <= sumI g l
 | [], _ => Int.le_refl _
 | a :: r, h => by have := Z4e (l := r) fun b hb => h b (List.mem_cons_of_mem _ hb); have := h a List.mem_cons_self; simp only [Yu]; omega
theorem Z0q {α : Type} {f : α -> Int} {q : Int} : ∀ {l : List α}, (∀ a ∈ l, f a <= q) -> sumI f l <= q * l.length
 | [], _ => by simp [sumI]
 | a :: r, h => by
  have h1 := Z0q (l := r) fun b hb => h b (List.mem_cons_of_mem _ hb)
  have h2 := h a List.mem_cons_self
  rw [Yu, List.length_cons, Int.natCast_add, Int.mul_add]; simp only [Int.natCast_one, Int.mul_one]; omega
def openP (shut : List Int) : Nat -> List Pip -> List Pip
 | _, [] => []
 | k, p :: r => if (k : Int) ∈ shut then openP shut (k + 1) r else p :: openP shut (k + 1) r
theorem Z0r {shut : List Int} : ∀ {k : Nat} {l : List Pip} {p : Pip}, p ∈ openP shut k l -> p ∈ l
 | k, [], p, h => h
 | k, q :: r, p, h => by
  unfold openP at h
  split at h
  ·exact List.mem_cons_of_mem _ (Z0r h)
  ·rcases List.mem_cons.1 h with rfl | h
   ·exact List.mem_cons_self
   ·exact List.mem_cons_of_mem _ (Z0r h)
theorem Z4f {shut : List Int} : ∀ (k : Nat) (l : List Pip), (openP shut k l).length <= l.length
 | k, [] => Nat.le_refl _
 | k, q :: r => by
  unfold openP
  have := Z4f (shut := shut) (k + 1) r
  split
  ·rw [List.length_cons]; omega
  ·rw [List.length_cons, List.length_cons]; omega
theorem Z4g : ∀ (k : Nat) (l : List Pip), openP [] k l = l
 | k, [] => rfl
 | k, q :: r => by unfold openP; rw [if_neg (by simp), Z4g]
theorem Z7u {shut : List Int} {f : Pip -> Int} : ∀ {k : Nat} {l : List Pip}, (∀ p ∈ l, 0 <= f p) -> sumI f (openP shut k l) <= sumI f l
 | k, [], _ => Int.le_refl _
 | k, q :: r, h => by
  have h1 := Z7u (shut := shut) (k := k + 1) (l := r) fun b hb => h b (List.mem_cons_of_mem _ hb)
  have h2 := h q List.mem_cons_self
  unfold openP
  split
  ·simp only [Yu]; omega
  ·simp only [Yu]; omega
def pLo (x : Int) (p : Pip) : Int := (if p.a = x then p.out.lo else 0) + (if p.b = x then p.back.lo else 0)
def pHi (x : Int) (p : Pip) : Int := (if p.a = x then p.out.hi else 0) + (if p.b = x then p.back.hi else 0)
def mLo (x : Int) (p : Pmp) : Int := if p.at' = x then p.part.lo else 0
def mHi (x : Int) (p : Pmp) : Int := if p.at' = x then p.part.hi else 0
theorem pb {n : Int} {p : Pip} (h : PipB n p) (x : Int) : 0 <= pLo x p /\ pLo x p <= pHi x p /\ pHi x p <= 2000000 := by
 have := h.out; have := h.back
 obtain ⟨a1, a2, a3⟩ := h.out
 obtain ⟨b1, b2, b3⟩ := h.back
 unfold pLo pHi
 split <;> split <;> omega
theorem mb {p : Pmp} (h : RgG 1000000 p.part) (x : Int) : 0 <= mLo x p /\ mLo x p <= mHi x p /\ mHi x p <= 1000000 := by
 obtain ⟨a1, a2, a3⟩ := h
 unfold mLo mHi
 split <;> omega
theorem Jf {a b : Rg} (h1 : 0 <= a.lo) (h2 : 0 <= a.hi) (h3 : 0 <= b.lo) (h4 : 0 <= b.hi) (h5 : a.lo + b.lo <= 9223372036854775807) (h6 : a.hi + b.hi <= 9223372036854775807) : plusR a b = ⟨a.lo + b.lo, a.hi + b.hi⟩ := by
 unfold plusR
 rw [Z8 (by omega) h5, Z8 (by omega) h6]
theorem Z2k {n x : Int} {shut : List Int} : ∀ {l : List Pip} {k : Nat} {acc : Rg}, (∀ p ∈ l, PipB n p) -> 0 <= acc.lo -> acc.lo <= acc.hi -> acc.hi + 2000000 * l.length <= 1000000000000 -> outP x shut k acc l = ⟨acc.lo + sumI (pLo x) (openP shut k l), acc.hi + sumI (pHi x) (openP shut k l)⟩
 | [], k, acc, _, _, _, _ => by simp [outP, openP, sumI]
 | p :: r, k, acc, h, h1, h2, h3 => by
  have hr : ∀ q ∈ r, PipB n q := fun q hq => h q (List.mem_cons_of_mem _ hq)
  have hp := h p List.mem_cons_self
  obtain ⟨a1, a2, a3⟩ := hp.out
  obtain ⟨b1, b2, b3⟩ := hp.back
  rw [List.length_cons, Int.natCast_add] at h3
  simp only [Int.natCast_one] at h3
  unfold outP openP
  by_cases c : (k : Int) ∈ shut
  ·rw [if_pos c, if_pos c]
   exact Z2k hr h1 h2 (by omega)
  ·rw [if_neg c, if_neg c]
   have e1 : plusR acc p.out = ⟨acc.lo + p.out.lo, acc.hi + p.out.hi⟩ := Jf h1 (by omega) a1 (by omega) (by omega) (by omega)
   by_cases c1 : p.a = x
   ·by_cases c2 : p.b = x
    ·rw [if_pos c2, if_pos c1, e1]
     rw [Jf (by show 0 <= acc.lo + p.out.lo; omega) (by show 0 <= acc.hi + p.out.hi; omega) b1 (by omega) (by show acc.lo + p.out.lo + _ <= _; omega) (by show acc.hi + p.out.hi + _ <= _; omega)]
     rw [Z2k hr (by show 0 <= acc.lo + p.out.lo + p.back.lo; omega) (by show acc.lo + p.out.lo + p.back.lo <= acc.hi + p.out.hi + p.back.hi; omega) (by show acc.hi + p.out.hi + p.back.hi + _ <= _; omega)]
     simp only [Yu, pLo, pHi]
     rw [if_pos c1, if_pos c2, if_pos c1, if_pos c2]
     congr 1 <;> (try simp only) <;> omega
    ·rw [if_neg c2, if_pos c1, e1]
     rw [Z2k hr (by show 0 <= acc.lo + p.out.lo; omega) (by show acc.lo + p.out.lo <= acc.hi + p.out.hi; omega) (by show acc.hi + p.out.hi + _ <= _; omega)]
     simp only [Yu, pLo, pHi]
     rw [if_pos c1, if_neg c2, if_pos c1, if_neg c2]
     congr 1 <;> (try simp only) <;> omega
   ·by_cases c2 : p.b = x
    ·rw [if_pos c2, if_neg c1]
     rw [Jf h1 (by omega) b1 (by omega) (by omega) (by omega)]
     rw [Z2k hr (by show 0 <= acc.lo + p.back.lo; omega) (by show acc.lo + p.back.lo <= acc.hi + p.back.hi; omega) (by show acc.hi + p.back.hi + _ <= _; omega)]
     simp only [Yu, pLo, pHi]
     rw [if_neg c1, if_pos c2, if_neg c1, if_pos c2]
     congr 1 <;> (try simp only) <;> omega
    ·rw [if_neg c2, if_neg c1]
     rw [Z2k hr h1 h2 (by omega)]
     simp only [Yu, pLo, pHi]
     rw [if_neg c1, if_neg c2, if_neg c1, if_neg c2]
     congr 1 <;> (try simp only) <;> omega
theorem Z91 {x : Int} : ∀ {l : List Pmp} {acc : Rg}, (∀ p ∈ l, RgG 1000000 p.part) -> 0 <= acc.lo -> acc.lo <= acc.hi -> acc.hi + 1000000 * l.length <= 1000000000000 -> outM x acc l = ⟨acc.lo + sumI (mLo x) l, acc.hi + sumI (mHi x) l⟩
 | [], acc, _, _, _, _ => by simp [outM, sumI]
 | p :: r, acc, h, h1, h2, h3 => by
  have hr : ∀ q ∈ r, RgG 1000000 q.part := fun q hq => h q (List.mem_cons_of_mem _ hq)
  obtain ⟨a1, a2, a3⟩ := h p List.mem_cons_self
  rw [List.length_cons, Int.natCast_add] at h3
  simp only [Int.natCast_one] at h3
  unfold outM
  by_cases c1 : p.at' = x
  ·rw [if_pos c1, Jf h1 (by omega) a1 (by omega) (by omega) (by omega)]
   rw [Z91 hr (by show 0 <= acc.lo + p.part.lo; omega) (by show acc.lo + p.part.lo <= acc.hi + p.part.hi; omega) (by show acc.hi + p.part.hi + _ <= _; omega)]
   simp only [Yu, mLo, mHi]
   rw [if_pos c1, if_pos c1]
   congr 1 <;> (try simp only) <;> omega
  ·rw [if_neg c1]
   rw [Z91 hr h1 h2 (by omega)]
   simp only [Yu, mLo, mHi]
   rw [if_neg c1, if_neg c1]
   congr 1 <;> (try simp only) <;> omega
def outLo (v : Vac) (x : Int) (ps : List Pip) : Int := sumI (pLo x) ps + sumI (mLo x) v.pumps
def outHi (v : Vac) (x : Int) (ps : List Pip) : Int := sumI (pHi x) ps + sumI (mHi x) v.pumps
structure VB (v : Vac) : Prop where
 n1 : 1 <= v.vessels.length
 n8 : v.vessels.length <= 8
 p16 : v.pipes.length <= 16
 m8 : v.pumps.length <= 8
 l8 : v.leaks.length <= 8
 g8 : v.getters.length <= 8
 ves : ∀ x ∈ v.vessels, VesB x
 pip : ∀ p ∈ v.pipes, PipB v.vessels.length p
 pmp : ∀ q ∈ v.pumps, (0 <= q.at' /\ q.at' < v.vessels.length) /\ RgG 1000000 q.part
 inl : ∀ q ∈ v.leaks, (0 <= q.at' /\ q.at' < v.vessels.length) /\ RgG 100000 q.gas
 gtr : ∀ q ∈ v.getters, ((0 <= q.at' /\ q.at' < v.vessels.length) /\ RgG 1000000 q.part) /\ RgG 1000000000 q.room
 out : ∀ i : Nat, i < v.vessels.length -> outHi v i v.pipes <= 1000000
theorem Zd5 {v : Vac} {n x : Int} {shut : List Int} (h1 : ∀ p ∈ v.pipes, PipB n p) (h2 : ∀ q ∈ v.pumps, RgG 1000000 q.part) (h3 : v.pipes.length <= 16) (h4 : v.pumps.length <= 8) : outR v x shut = ⟨outLo v x (openP shut 0 v.pipes), outHi v x (openP shut 0 v.pipes)⟩ := by
 unfold outR
 have hm : ∀ p ∈ openP shut 0 v.pipes, PipB n p := fun p hp => h1 p (Z0r hp)
 have b1 : 0 <= sumI (pLo x) (openP shut 0 v.pipes) := Jb fun p hp => (pb (hm p hp) x).1
 have b2 : sumI (pLo x) (openP shut 0 v.pipes) <= sumI (pHi x) (openP shut 0 v.pipes) := Z4e fun p hp => (pb (hm p hp) x).2.1
 have b3 : sumI (pHi x) (openP shut 0 v.pipes) <= 2000000 * (openP shut 0 v.pipes).length := Z0q fun p hp => (pb (hm p hp) x).2.2
 have b4 := Z4f (shut := shut) 0 v.pipes
 rw [Z2k h1 (Int.le_refl _) (Int.le_refl _) (by show 0 + _ <= _; omega)]
 rw [Z91 h2 (by show 0 <= 0 + _; omega) (by show 0 + _ <= 0 + _; omega) (by show 0 + _ + _ <= _; omega)]
 unfold outLo outHi
 congr 1 <;> (try simp only) <;> omega
theorem VB.outR_eq {v : Vac} (h : VB v) (x : Int) (shut : List Int) : outR v x shut = ⟨outLo v x (openP shut 0 v.pipes), outHi v x (openP shut 0 v.pipes)⟩ :=
 Zd5 h.pip (fun q hq => (h.pmp q hq).2) h.p16 h.m8
theorem Z2l {v : Vac} : ∀ {k i : Nat}, outB v i k = false ↔ ∀ j : Nat, i <= j -> j < i + k -> (outR v j []).hi <= 1000000
 | 0, i => ⟨fun _ j h1 h2 => absurd h2 (by omega), fun _ => rfl⟩
 | k + 1, i => by
  unfold outB
  rw [Bool.or_eq_false_iff, Z2l]
  constructor
  ·rintro ⟨h1, h2⟩ j h3 h4
   rw [decide_eq_false_iff_not] at h1
   by_cases e : j = i
   ·subst e; omega
   ·exact h2 j (by omega) (by omega)
  ·intro h
   exact ⟨by rw [decide_eq_false_iff_not]; have := h i (Nat.le_refl _) (by omega); omega, fun j h1 h2 => h j (by omega) (by omega)⟩
theorem Z7v {v : Vac} : checkE v = 0 ↔ VB v := by
 constructor
 ·intro h
  obtain ⟨h1, h2, h3, h4, h5, h6⟩ := Z6f h
  unfold checkE at h
  rw [if_neg (by omega)] at h
  split at h
  ·exact absurd h (by decide)
  ·split at h
   ·rename_i g1
    split at h
    ·rename_i g2
     unfold partsE at g2
     split at g2
     ·rename_i p1
      split at g2
      ·rename_i p2
       split at g2
       ·rename_i p3
        have q1 := fun p hp => Zd3.1 (X0.1 p1 p hp)
        have q2 := fun p hp => Z5m.1 (X0.1 p2 p hp)
        have q3 := fun p hp => Z5m.1 (X0.1 p3 p hp)
        have q4 : ∀ p ∈ v.getters, ((0 <= p.at' /\ p.at' < v.vessels.length) /\ RgG 1000000 p.part) /\ RgG 1000000000 p.room := fun p hp => by
         have := X0.1 g2 p hp
         unfold getE at this
         split at this
         ·rename_i k1; exact ⟨Z5m.1 k1, Yt.1 this⟩
         ·rename_i k1; exact absurd this k1
        refine ⟨h1, h2, h3, h4, h5, h6, fun x hx => Zd4.1 (X0.1 g1 x hx), q1, q2, q3, q4, fun i hi => ?_⟩
        split at h
        ·exact absurd h (by decide)
        ·rename_i k1
         have k2 := Z2l.1 (Bool.not_eq_true _ ▸ k1) i (Nat.zero_le _) (by omega)
         rw [Zd5 q1 (fun q hq => (q2 q hq).2) h3 h4, Z4g] at k2
         exact k2
       ·rename_i p3; exact absurd g2 p3
      ·rename_i p2; exact absurd g2 p2
     ·rename_i p1; exact absurd g2 p1
    ·rename_i g2; exact absurd h g2
   ·rename_i g1; exact absurd h g1
 ·intro h
  have h0 := h.n1; have h1 := h.n8; have h2 := h.p16; have h3 := h.m8; have h4 := h.l8; have h5 := h.g8
  unfold checkE
  rw [if_neg (by omega), if_neg (by unfold overB; simp only [Bool.or_eq_true, decide_eq_true_eq]; omega), if_pos (X0.2 fun x hx => Zd4.2 (h.ves x hx))]
  have hp : partsE v = 0 := by
   unfold partsE
   rw [if_pos (X0.2 fun p hp => Zd3.2 (h.pip p hp)), if_pos (X0.2 fun p hp => Z5m.2 (h.pmp p hp)), if_pos (X0.2 fun p hp => Z5m.2 (h.inl p hp))]
   refine X0.2 fun p hp => ?_
   unfold getE
   rw [if_pos (Z5m.2 (h.gtr p hp).1)]
   exact Yt.2 (h.gtr p hp).2
  rw [if_pos hp, if_neg]
  rw [Bool.not_eq_true]
  refine Z2l.2 fun j _ hj => ?_
  rw [h.outR_eq, Z4g]
  exact h.out j (by omega)
theorem Z7w {k : Int} (hk : k <= 2001) : ∀ {l : List Rel} {first : Bool} {last : Int}, BandsG k l -> (first = false -> ∀ b ∈ l, last < b.frm) -> BandsB first last l
 | [], _, _, _, _ => trivial
 | b :: r, first, last, ⟨g1, g2, g3, g4, g5⟩, h => ⟨⟨g1, by omega⟩, fun e => h e b List.mem_cons_self, ⟨g4.lo, g4.le, by have := g4.hi; omega⟩, Z7w hk g5 fun _ b hb => g3 b hb⟩
theorem Zat {v : Vac} (h : VacG v) : VB v := by
 have hq : ∀ p ∈ v.pipes, PipB v.vessels.length p := fun p hp => by
  have := h.pip p hp
  exact ⟨this.a, this.b, this.ab, ⟨this.out.lo, this.out.le, by have := this.out.hi; omega⟩, ⟨this.back.lo, this.back.le, by have := this.back.hi; omega⟩⟩
 have hm : ∀ p ∈ v.pumps, (0 <= p.at' /\ p.at' < v.vessels.length) /\ RgG 1000000 p.part := fun p hp => by
  have := h.pmp p hp
  exact ⟨this.at', ⟨this.part.lo, this.part.le, by have := this.part.hi; omega⟩⟩
 refine ⟨h.n1, by have := h.n4; omega, by have := h.np; omega, by have := h.nm; omega, by have := h.nl; omega, by have := h.ng; omega, fun x hx => ?_, hq, hm, fun p hp => ?_, fun p hp => ?_, fun i hi => ?_⟩
 ·have := h.ves x hx
  exact ⟨by have := this.vol; omega, ⟨this.free.lo, this.free.le, by have := this.free.hi; omega⟩, ⟨this.bound.lo, this.bound.le, by have := this.bound.hi; omega⟩, by have := this.len; omega, Z7w (by decide) this.bands fun e => by cases e⟩
 ·have := h.inl p hp
  exact ⟨this.at', ⟨this.gas.lo, this.gas.le, by have := this.gas.hi; omega⟩⟩
 ·have := h.gtr p hp
  exact ⟨⟨this.at', ⟨this.part.lo, this.part.le, by have := this.part.hi; omega⟩⟩, ⟨this.room.lo, this.room.le, by have := this.room.hi; omega⟩⟩
 ·have h1 : sumI (pHi i) v.pipes <= 120000 * v.pipes.length := Z0q fun p hp => by
   have := h.pip p hp
   have a1 := this.out.hi
   have a2 := this.back.hi
   have a3 := this.out.lo; have a4 := this.out.le; have a5 := this.back.lo; have a6 := this.back.le
   have a7 := this.ab
   unfold pHi
   split
   ·rw [if_neg (by omega)]; omega
   ·split <;> omega
  have h2 : sumI (mHi i) v.pumps <= 200000 * v.pumps.length := Z0q fun p hp => by
   have := (h.pmp p hp).part.hi
   have := (h.pmp p hp).part.lo
   have := (h.pmp p hp).part.le
   unfold mHi
   split <;> omega
  have := h.np
  have := h.nm
  unfold outHi
  omega
theorem Z92 {v : Vac} {g : Gs} : belongsE v g = 0 ↔ VB v /\ Fits v g /\ (∀ r ∈ g.free, RgG 68719476736 r) /\ (∀ r ∈ g.bound, RgG 68719476736 r) /\ (∀ r ∈ g.room, RgG 68719476736 r) /\ 0 <= g.most /\ g.most <= 68719476736 := by
 constructor
 ·intro h
  obtain ⟨h1, h2, h3, h4, h5, h6⟩ := Z0p h
  have h7 := fun r hr => Yt.1 (h5 r hr)
  refine ⟨Z7v.1 h1, ⟨h2, h3, h4⟩, fun r hr => h7 r ?_, fun r hr => h7 r ?_, fun r hr => h7 r ?_, Yz.1 h6⟩
  all_goals (unfold gasL; simp [hr])
 ·rintro ⟨h1, ⟨h2, h3, h4⟩, h5, h6, h7, h8⟩
  unfold belongsE
  rw [if_pos (Z7v.2 h1), if_neg (by rintro (h | h | h) <;> contradiction), if_pos (X0.2 fun r hr => Yt.2 ?_), if_pos (Yz.2 h8)]
  unfold gasL at hr
  rcases List.mem_append.1 hr with hr | hr
  ·rcases List.mem_append.1 hr with hr | hr
   ·exact h5 r hr
   ·exact h6 r hr
  ·exact h7 r hr
end Go.Proofs.Ytgnpnfkncbnjnaa
namespace Go.Proofs.Ytgnpnfkncbnjnaa
open Go Go.Am
def dn (n q : Int) : Int := n * q / 1000000
def ups (n q : Int) : Int := (n * q + 999999) / 1000000
theorem Z7x {n q N : Int} (h0 : 0 <= n) (h1 : n <= N) (q0 : 0 <= q) (q1 : q <= 1000000) : 0 <= n * q /\ n * q <= N * 1000000 :=
 ⟨Int.mul_nonneg h0 q0, Int.mul_le_mul h1 q1 q0 (by omega)⟩
theorem Z5n {n q : Int} (h0 : 0 <= n) (q0 : 0 <= q) (q1 : q <= 1000000) : 0 <= n * q /\ n * q <= n * 1000000 := Z7x h0 (Int.le_refl _) q0 q1
theorem Zau {n q : Int} (h0 : 0 <= n) (q0 : 0 <= q) (q1 : q <= 1000000) : 0 <= dn n q /\ dn n q <= n := by
 have := Z5n h0 q0 q1
 unfold dn
 omega
theorem Z7y {n q : Int} (h0 : 0 <= n) (q0 : 0 <= q) (q1 : q <= 1000000) : 0 <= ups n q /\ ups n q <= n := by
 have := Z5n h0 q0 q1
 unfold ups
 omega
theorem Za1 {n n' q q' : Int} (h0 : 0 <= n) (h1 : n <= n') (q0 : 0 <= q) (q1 : q <= q') : dn n q <= ups n' q' := by
 have : n * q <= n' * q' := Int.mul_le_mul h1 q1 q0 (by omega)
 unfold dn ups
 omega
theorem Z37 {n q : Int} (h0 : 0 <= n) (h1 : n <= 5000000000000) (q0 : 0 <= q) (q1 : q <= 1000000) : downN n q = dn n q := by
 have hb := Z7x h0 h1 q0 q1
 have hd := Zau h0 q0 q1
 unfold downN
 rw [Z8 (x := n * q) (by omega) (by omega), Int.tdiv_eq_ediv_of_nonneg hb.1]
 unfold dn at *
 exact Z8 (by omega) (by omega)
theorem Za2 {n q : Int} (h0 : 0 <= n) (h1 : n <= 5000000000000) (q0 : 0 <= q) (q1 : q <= 1000000) : upN n q = ups n q := by
 have hb := Z7x h0 h1 q0 q1
 have hd := Z7y h0 q0 q1
 unfold upN
 rw [Z8 (x := n * q) (by omega) (by omega), Z8 (x := n * q + 1000000) (by omega) (by omega), Z8 (x := n * q + 1000000 - 1) (by omega) (by omega)]
 rw [show n * q + 1000000 - 1 = n * q + 999999 by omega, Int.tdiv_eq_ediv_of_nonneg (by omega)]
 unfold ups at *
 exact Z8 (by omega) (by omega)
def Row (m : Int) (F : List Rg) : Prop := ∀ r ∈ F, RgG m r
theorem Row.at {m : Int} {F : List Rg} (h : Row m F) (hm : 0 <= m) (a : Int) : RgG m (atR F a) := by
 unfold atR
 cases e : F[a.toNat]? with
 | none => exact Zee m hm
 | some r => exact h r (List.mem_of_getElem? e)
theorem RgG.mono {m m' : Int} {r : Rg} (h : RgG m r) (hm : m <= m') : RgG m' r := ⟨h.lo, h.le, Int.le_trans h.hi hm⟩
theorem Zd6 {h : Int} : ∀ {l : List Rel} {q : Rg} {f : Bool} {last : Int}, RgG 1000000 q -> BandsB f last l -> RgG 1000000 (rateP h q l)
 | [], q, _, _, hq, _ => hq
 | b :: r, q, f, last, hq, ⟨_, _, h3, h4⟩ => by
  unfold rateP
  split
  ·exact hq
  ·exact Zd6 h3 h4
theorem Zeq {h : Int} {x : Ves} {f b : Rg} (hx : VesB x) (hf : RgG 68719476736 f) (hb : RgG 68719476736 b) : relFr h x f b = ⟨f.lo + dn b.lo (rateP h ⟨0, 0⟩ x.bands).lo, f.hi + ups b.hi (rateP h ⟨0, 0⟩ x.bands).hi⟩ /\ RgG 137438953472 (relFr h x f b) := by
 obtain ⟨q1, q2, q3⟩ := Zd6 (h := h) (Zee 1000000 (by decide)) hx.bands
 unfold relFr
 generalize rateP h ⟨0, 0⟩ x.bands = q at *
 obtain ⟨f1, f2, f3⟩ := hf
 obtain ⟨b1, b2, b3⟩ := hb
 have d1 := Zau b1 q1 (by omega)
 have d2 := Z7y (n := b.hi) (q := q.hi) (by omega) (by omega) q3
 have d3 := Za1 b1 b2 q1 q2
 rw [Z37 b1 (by omega) q1 (by omega), Za2 (by omega) (by omega) (by omega) q3]
 rw [Jf f1 (by omega) d1.1 d2.1 (by show f.lo + dn _ _ <= _; omega) (by show f.hi + ups _ _ <= _; omega)]
 exact ⟨rfl, by show 0 <= f.lo + dn _ _; omega, by show f.lo + dn _ _ <= f.hi + ups _ _; omega, by show f.hi + ups _ _ <= _; omega⟩
theorem Za3 {h : Int} {x : Ves} {b : Rg} (hx : VesB x) (hb : RgG 68719476736 b) : relBo h x b = ⟨dn b.lo (1000000 - (rateP h ⟨0, 0⟩ x.bands).hi), ups b.hi (1000000 - (rateP h ⟨0, 0⟩ x.bands).lo)⟩ /\ RgG 68719476736 (relBo h x b) /\ (relBo h x b).lo <= b.lo /\ (relBo h x b).hi <= b.hi := by
 obtain ⟨q1, q2, q3⟩ := Zd6 (h := h) (Zee 1000000 (by decide)) hx.bands
 unfold relBo
 generalize rateP h ⟨0, 0⟩ x.bands = q at *
 obtain ⟨b1, b2, b3⟩ := hb
 rw [Z8 (x := 1000000 - q.hi) (by omega) (by omega), Z8 (x := 1000000 - q.lo) (by omega) (by omega)]
 have d1 := Zau (n := b.lo) (q := 1000000 - q.hi) b1 (by omega) (by omega)
 have d2 := Z7y (n := b.hi) (q := 1000000 - q.lo) (by omega) (by omega) (by omega)
 have d3 := Za1 (n := b.lo) (n' := b.hi) (q := 1000000 - q.hi) (q' := 1000000 - q.lo) b1 b2 (by omega) (by omega)
 rw [Z37 b1 (by omega) (by omega) (by omega), Za2 (by omega) (by omega) (by omega) (by omega)]
 exact ⟨rfl, ⟨d1.1, d3, by show ups _ _ <= _; omega⟩, d1.2, d2.2⟩
theorem Za4 : ∀ {l : List Inl} {m : Int}, (∀ q ∈ l, RgG 100000 q.gas) -> 0 <= m -> m <= 68719476736 -> m <= leakF m l /\ leakF m l <= 68719476736
 | [], m, _, _, h => ⟨Int.le_refl _, h⟩
 | q :: r, m, hg, h0, h1 => by
  obtain ⟨g1, g2, g3⟩ := hg q List.mem_cons_self
  unfold leakF
  rw [Z8 (x := m + q.gas.hi) (by omega) (by omega)]
  have hm : m <= min2 68719476736 (m + q.gas.hi) /\ min2 68719476736 (m + q.gas.hi) <= 68719476736 := by unfold min2; split <;> omega
  have := Za4 (l := r) (m := min2 68719476736 (m + q.gas.hi)) (fun q hq => hg q (List.mem_cons_of_mem _ hq)) (by omega) hm.2
  omega
def fLo (F : List Rg) (x : Int) (p : Pip) : Int := (if x = p.b then (atR F p.a).lo * p.out.lo else 0) + (if x = p.a then (atR F p.b).lo * p.back.lo else 0)
def fHi (F : List Rg) (x : Int) (p : Pip) : Int := (if x = p.b then (atR F p.a).hi * p.out.hi else 0) + (if x = p.a then (atR F p.b).hi * p.back.hi else 0)
theorem Z4h {f r : Rg} (hf : RgG 137438953472 f) (hr : RgG 1000000 r) : mulR f r = ⟨f.lo * r.lo, f.hi * r.hi⟩ /\ RgG 137438953472000000 (mulR f r) := by
 obtain ⟨f1, f2, f3⟩ := hf
 obtain ⟨r1, r2, r3⟩ := hr
 have b1 := Z7x f1 (show f.lo <= 137438953472 by omega) r1 (by omega)
 have b2 := Z7x (show 0 <= f.hi by omega) f3 (show 0 <= r.hi by omega) r3
 have b3 : f.lo * r.lo <= f.hi * r.hi := Int.mul_le_mul f2 r2 r1 (by omega)
 unfold mulR
 rw [Z8 (x := f.lo * r.lo) (by omega) (by omega), Z8 (x := f.hi * r.hi) (by omega) (by omega)]
 exact ⟨rfl, b1.1, b3, b2.2⟩
theorem fb {n : Int} {F : List Rg} {p : Pip} (hF : Row 137438953472 F) (hp : PipB n p) (x : Int) : 0 <= fLo F x p /\ fLo F x p <= fHi F x p /\ fHi F x p <= 137438953472000000 := by
 obtain ⟨e1, a1, a2, a3⟩ := Z4h (hF.at (by decide) p.a) hp.out
 obtain ⟨e2, b1, b2, b3⟩ := Z4h (hF.at (by decide) p.b) hp.back
 rw [e1] at a1 a2 a3
 rw [e2] at b1 b2 b3
 simp only at a1 a2 a3 b1 b2 b3
 have := hp.ab
 unfold fLo fHi
 split
 ·rw [if_neg (by omega), if_neg (by omega)]; omega
 ·split <;> omega
theorem Z23 {n x : Int} {F : List Rg} {shut : List Int} (hF : Row 137438953472 F) : ∀ {l : List Pip} {k : Nat} {acc : Rg}, (∀ p ∈ l, PipB n p) -> 0 <= acc.lo -> acc.lo <= acc.hi -> acc.hi + 137438953472000000 * l.length <= 9223372036854775807 -> flowS F shut x k acc l = ⟨acc.lo + sumI (fLo F x) (openP shut k l), acc.hi + sumI (fHi F x) (openP shut k l)⟩
 | [], k, acc, _, _, _, _ => by simp [flowS, openP, sumI]
 | p :: r, k, acc, h, h1, h2, h3 => by
  have hr : ∀ q ∈ r, PipB n q := fun q hq => h q (List.mem_cons_of_mem _ hq)
  have hp := h p List.mem_cons_self
  obtain ⟨e1, a1, a2, a3⟩ := Z4h (hF.at (by decide) p.a) hp.out
  obtain ⟨e2, b1, b2, b3⟩ := Z4h (hF.at (by decide) p.b) hp.back
  rw [e1] at a1 a2 a3
  rw [e2] at b1 b2 b3
  simp only at a1 a2 a3 b1 b2 b3
  have hab := hp.ab
  rw [List.length_cons, Int.natCast_add] at h3
  simp only [Int.natCast_one] at h3
  unfold flowS openP
  by_cases c : (k : Int) ∈ shut
  ·rw [if_pos c, if_pos c]
   exact Z23 hF hr h1 h2 (by omega)
  ·rw [if_neg c, if_neg c, e1, e2]
   by_cases c1 : x = p.a
   ·have c2 : ¬ x = p.b := by omega
    rw [if_pos c1, if_neg c2]
    rw [Jf h1 (by omega) b1 (by show 0 <= (atR F p.b).hi * _; omega) (by show acc.lo + (atR F p.b).lo * _ <= _; omega) (by show acc.hi + (atR F p.b).hi * _ <= _; omega)]
    rw [Z23 hF hr (by show 0 <= acc.lo + (atR F p.b).lo * _; omega) (by show acc.lo + (atR F p.b).lo * _ <= acc.hi + (atR F p.b).hi * _; omega) (by show acc.hi + (atR F p.b).hi * _ + _ <= _; omega)]
    simp only [Yu, fLo, fHi]
    rw [if_neg c2, if_pos c1, if_neg c2, if_pos c1]
    congr 1 <;> (try simp only) <;> omega
   ·rw [if_neg c1]
    by_cases c2 : x = p.b
    ·rw [if_pos c2]
     rw [Jf h1 (by omega) a1 (by show 0 <= (atR F p.a).hi * _; omega) (by show acc.lo + (atR F p.a).lo * _ <= _; omega) (by show acc.hi + (atR F p.a).hi * _ <= _; omega)]
     rw [Z23 hF hr (by show 0 <= acc.lo + (atR F p.a).lo * _; omega) (by show acc.lo + (atR F p.a).lo * _ <= acc.hi + (atR F p.a).hi * _; omega) (by show acc.hi + (atR F p.a).hi * _ + _ <= _; omega)]
     simp only [Yu, fLo, fHi]
     rw [if_pos c2, if_neg c1, if_pos c2, if_neg c1]
     congr 1 <;> (try simp only) <;> omega
    ·rw [if_neg c2]
     rw [Z23 hF hr h1 h2 (by omega)]
     simp only [Yu, fLo, fHi]
     rw [if_neg c2, if_neg c1, if_neg c2, if_neg c1]
     congr 1 <;> (try simp only) <;> omega
def floLo (v : Vac) (ps : List Pip) (F : List Rg) (x : Int) : Int := (atR F x).lo * (1000000 - outHi v x ps) + sumI (fLo F x) ps
def floHi (v : Vac) (ps : List Pip) (F : List Rg) (x : Int) : Int := (atR F x).hi * (1000000 - outLo v x ps) + sumI (fHi F x) ps
theorem VB.outs {v : Vac} (h : VB v) (shut : List Int) {i : Nat} (hi : i < v.vessels.length) : 0 <= outLo v i (openP shut 0 v.pipes) /\ outLo v i (openP shut 0 v.pipes) <= outHi v i (openP shut 0 v.pipes) /\ outHi v i (openP shut 0 v.pipes) <= 1000000 := by
 have hm : ∀ p ∈ openP shut 0 v.pipes, PipB v.vessels.length p := fun p hp => h.pip p (Z0r hp)
 have b1 : 0 <= sumI (pLo i) (openP shut 0 v.pipes) := Jb fun p hp => (pb (hm p hp) i).1
 have b2 : sumI (pLo i) (openP shut 0 v.pipes) <= sumI (pHi i) (openP shut 0 v.pipes) := Z4e fun p hp => (pb (hm p hp) i).2.1
 have b3 : sumI (pHi i) (openP shut 0 v.pipes) <= sumI (pHi i) v.pipes := Z7u fun p hp => by have := pb (h.pip p hp) i; omega
 have c1 : 0 <= sumI (mLo i) v.pumps := Jb fun p hp => (mb (h.pmp p hp).2 i).1
 have c2 : sumI (mLo i) v.pumps <= sumI (mHi i) v.pumps := Z4e fun p hp => (mb (h.pmp p hp).2 i).2.1
 have := h.out i hi
 unfold outLo outHi at *
 omega
theorem Zhx {v : Vac} (h : VB v) {F : List Rg} (hF : Row 137438953472 F) (hl : F.length = v.vessels.length) (shut : List Int) {i : Nat} (hi : i < F.length) :
  (flowG v shut F)[i]? = some ⟨floLo v (openP shut 0 v.pipes) F i / 1000000, (floHi v (openP shut 0 v.pipes) F i + 999999) / 1000000⟩ /\ 0 <= floLo v (openP shut 0 v.pipes) F i /\ floLo v (openP shut 0 v.pipes) F i <= floHi v (openP shut 0 v.pipes) F i /\ floHi v (openP shut 0 v.pipes) F i <= 4600000000000000000 := by
 obtain ⟨o1, o2, o3⟩ := h.outs shut (show i < v.vessels.length by omega)
 have hm : ∀ p ∈ openP shut 0 v.pipes, PipB v.vessels.length p := fun p hp => h.pip p (Z0r hp)
 have b1 : 0 <= sumI (fLo F i) (openP shut 0 v.pipes) := Jb fun p hp => (fb hF (hm p hp) i).1
 have b2 : sumI (fLo F i) (openP shut 0 v.pipes) <= sumI (fHi F i) (openP shut 0 v.pipes) := Z4e fun p hp => (fb hF (hm p hp) i).2.1
 have b3 : sumI (fHi F i) (openP shut 0 v.pipes) <= 137438953472000000 * (openP shut 0 v.pipes).length := Z0q fun p hp => (fb hF (hm p hp) i).2.2
 have b4 := Z4f (shut := shut) 0 v.pipes
 have b5 := h.p16
 have hg : (flowG v shut F)[i]? = some (quoR (flowS F shut i 0 (begR v shut F i) v.pipes)) := by
  unfold flowG
  rw [List.getElem?_map, List.getElem?_range hi]; rfl
 rw [hg]
 have hb : begR v shut F i = ⟨(atR F i).lo * (1000000 - outHi v i (openP shut 0 v.pipes)), (atR F i).hi * (1000000 - outLo v i (openP shut 0 v.pipes))⟩ /\ RgG 137438953472000000 (begR v shut F i) := by
  unfold begR
  rw [h.outR_eq]
  simp only
  rw [Z8 (x := 1000000 - outHi v i (openP shut 0 v.pipes)) (by omega) (by omega), Z8 (x := 1000000 - outLo v i (openP shut 0 v.pipes)) (by omega) (by omega)]
  exact Z4h (hF.at (by decide) i) ⟨by show 0 <= 1000000 - _; omega, by show 1000000 - _ <= 1000000 - _; omega, by show 1000000 - _ <= _; omega⟩
 obtain ⟨e1, c1, c2, c3⟩ := hb
 rw [Z23 hF h.pip c1 c2 (by omega), e1]
 rw [e1] at c1 c2 c3
 simp only at c1 c2 c3
 unfold floLo floHi
 simp only
 generalize (atR F i).lo * (1000000 - outHi v i (openP shut 0 v.pipes)) = A at *
 generalize (atR F i).hi * (1000000 - outLo v i (openP shut 0 v.pipes)) = B at *
 generalize sumI (fLo F i) (openP shut 0 v.pipes) = C at *
 generalize sumI (fHi F i) (openP shut 0 v.pipes) = D at *
 refine ⟨?_, by omega, by omega, by omega⟩
 unfold quoR
 simp only
 rw [Z8 (x := B + D + 1000000) (by omega) (by omega), Z8 (x := B + D + 1000000 - 1) (by omega) (by omega), show B + D + 1000000 - 1 = B + D + 999999 by omega, Int.tdiv_eq_ediv_of_nonneg (by omega), Int.tdiv_eq_ediv_of_nonneg (by omega)]
 rw [Z8 (x := (A + C) / 1000000) (by omega) (by omega), Z8 (x := (B + D + 999999) / 1000000) (by omega) (by omega)]
theorem Zer {v : Vac} (h : VB v) {F : List Rg} (hF : Row 137438953472 F) (hl : F.length = v.vessels.length) (shut : List Int) : Row 4600000000000 (flowG v shut F) := by
 intro r hr
 obtain ⟨i, hi, e⟩ := List.mem_iff_getElem.1 hr
 rw [Jq] at hi
 obtain ⟨e1, c1, c2, c3⟩ := Zhx h hF hl shut hi
 rw [List.getElem?_eq_getElem (by rw [Jq]; exact hi), e] at e1
 injection e1 with e1
 subst e1
 refine ⟨?_, ?_, ?_⟩ <;> simp only <;> omega
theorem Z7z {n : Nat} : ∀ {l : List Inl} {R : List Rg} {m : Int}, (∀ q ∈ l, (0 <= q.at' /\ q.at' < n) /\ RgG 100000 q.gas) -> 0 <= m -> m + 100000 * l.length <= 5000000000000 -> Row m R -> Row (m + 100000 * l.length) (leakR R l)
 | [], R, m, _, _, _, h => fun r hr => (h r hr).mono (by simp)
 | q :: l, R, m, hq, hm, hb, h => by
  have h1 := (hq q List.mem_cons_self).2
  have h2 := h.at hm q.at'
  unfold leakR
  rw [List.length_cons, Int.natCast_add] at hb ⊢
  simp only [Int.natCast_one] at hb ⊢
  obtain ⟨a1, a2, a3⟩ := h1
  obtain ⟨b1, b2, b3⟩ := h2
  have e := Jf (a := atR R q.at') (b := q.gas) b1 (by omega) a1 (by omega) (by omega) (by omega)
  refine fun r hr => (Z7z (l := l) (m := m + 100000) (fun p hp => hq p (List.mem_cons_of_mem _ hp)) (by omega) (by omega) ?_ r hr).mono (by omega)
  intro r hr
  rcases List.mem_or_eq_of_mem_set hr with hr | rfl
  ·exact (h r hr).mono (by omega)
  ·rw [e]; exact ⟨by show 0 <= (atR R q.at').lo + _; omega, by show (atR R q.at').lo + _ <= (atR R q.at').hi + _; omega, by show (atR R q.at').hi + _ <= _; omega⟩
theorem Zes {t : Gtr} {f r : Rg} (ht : RgG 1000000 t.part) (hf : RgG 5000000000000 f) (hr : RgG 68719476736 r) : getFr t f r = ⟨f.lo - min2 (ups f.lo t.part.hi) r.hi, f.hi - min2 (dn f.hi t.part.lo) r.lo⟩ /\ RgG 5000000000000 (getFr t f r) := by
 obtain ⟨t1, t2, t3⟩ := ht
 obtain ⟨f1, f2, f3⟩ := hf
 obtain ⟨r1, r2, r3⟩ := hr
 have u1 := Z7y (n := f.lo) (q := t.part.hi) f1 (by omega) t3
 have d1 := Zau (n := f.hi) (q := t.part.lo) (by omega) t1 (by omega)
 have d2 := Zau (n := f.lo) (q := t.part.lo) (by omega) t1 (by omega)
 have d3 : dn f.lo t.part.lo <= ups f.lo t.part.hi := Za1 f1 (Int.le_refl _) t1 t2
 have d4 : f.lo - dn f.lo t.part.lo <= f.hi - dn f.hi t.part.lo := by
  have hm : (f.hi - f.lo) * t.part.lo <= (f.hi - f.lo) * 1000000 := Int.mul_le_mul_of_nonneg_left (by omega) (by omega)
  rw [Int.sub_mul, Int.sub_mul] at hm
  unfold dn
  omega
 unfold getFr
 rw [Za2 f1 (by omega) (by omega) t3, Z37 (by omega) f3 t1 (by omega)]
 have m1 : 0 <= min2 (ups f.lo t.part.hi) r.hi /\ min2 (ups f.lo t.part.hi) r.hi <= ups f.lo t.part.hi := by unfold min2; split <;> omega
 have m2 : 0 <= min2 (dn f.hi t.part.lo) r.lo /\ min2 (dn f.hi t.part.lo) r.lo <= dn f.hi t.part.lo := by unfold min2; split <;> omega
 rw [Z8 (x := f.lo - _) (by omega) (by omega), Z8 (x := f.hi - _) (by omega) (by omega)]
 refine ⟨rfl, by show 0 <= f.lo - _; omega, ?_, by show f.hi - _ <= _; omega⟩
 show f.lo - min2 _ _ <= f.hi - min2 _ _
 unfold min2
 split <;> split <;> omega
theorem Zet {t : Gtr} {f r : Rg} (ht : RgG 1000000 t.part) (hf : RgG 5000000000000 f) (hr : RgG 68719476736 r) : getRo t f r = ⟨max2 0 (r.lo - ups f.hi t.part.hi), max2 0 (r.hi - dn f.lo t.part.lo)⟩ /\ RgG 68719476736 (getRo t f r) /\ (getRo t f r).lo <= r.lo /\ (getRo t f r).hi <= r.hi := by
 obtain ⟨t1, t2, t3⟩ := ht
 obtain ⟨f1, f2, f3⟩ := hf
 obtain ⟨r1, r2, r3⟩ := hr
 have u1 := Z7y (n := f.hi) (q := t.part.hi) (by omega) (by omega) t3
 have d2 := Zau (n := f.lo) (q := t.part.lo) (by omega) t1 (by omega)
 have d3 : dn f.lo t.part.lo <= ups f.hi t.part.hi := Za1 f1 f2 t1 t2
 unfold getRo
 rw [Za2 (by omega) f3 (by omega) t3, Z37 f1 (by omega) t1 (by omega)]
 rw [Z8 (x := r.lo - _) (by omega) (by omega), Z8 (x := r.hi - _) (by omega) (by omega)]
 refine ⟨rfl, ⟨?_, ?_, ?_⟩, ?_, ?_⟩ <;> simp only <;> unfold max2 <;> (repeat' split) <;> omega
theorem Za5 : ∀ {l : List Gtr} {k : Nat} {F R : List Rg}, (∀ t ∈ l, RgG 1000000 t.part) -> Row 5000000000000 F -> Row 68719476736 R -> Row 5000000000000 (getF l k F R).1 /\ Row 68719476736 (getF l k F R).2 /\ ∀ i, (atR (getF l k F R).2 i).lo <= (atR R i).lo /\ (atR (getF l k F R).2 i).hi <= (atR R i).hi
 | [], k, F, R, _, h1, h2 => ⟨h1, h2, fun i => ⟨Int.le_refl _, Int.le_refl _⟩⟩
 | t :: ts, k, F, R, ht, h1, h2 => by
  have e1 := (Zes (ht t List.mem_cons_self) (h1.at (by decide) t.at') (h2.at (by decide) (k : Int))).2
  have e2 := (Zet (ht t List.mem_cons_self) (h1.at (by decide) t.at') (h2.at (by decide) (k : Int))).2
  unfold getF
  rw [show F[t.at'.toNat]?.getD ⟨0, 0⟩ = atR F t.at' from rfl, show R[k]?.getD ⟨0, 0⟩ = atR R (k : Int) from rfl]
  have r1 : Row 5000000000000 (F.set t.at'.toNat (getFr t (atR F t.at') (atR R (k : Int)))) := fun r hr => by
   rcases List.mem_or_eq_of_mem_set hr with hr | rfl
   ·exact h1 r hr
   ·exact e1
  have r2 : Row 68719476736 (R.set k (getRo t (atR F t.at') (atR R (k : Int)))) := fun r hr => by
   rcases List.mem_or_eq_of_mem_set hr with hr | rfl
   ·exact h2 r hr
   ·exact e2.1
  have h3 := Za5 (l := ts) (k := k + 1) (fun t ht' => ht t (List.mem_cons_of_mem _ ht')) r1 r2
  refine ⟨h3.1, h3.2.1, fun i => ?_⟩
  have h4 := h3.2.2 i
  have h5 : (atR (R.set k (getRo t (atR F t.at') (atR R (k : Int)))) i).lo <= (atR R i).lo /\ (atR (R.set k (getRo t (atR F t.at') (atR R (k : Int)))) i).hi <= (atR R i).hi := by
   by_cases e : i.toNat = k
   ·have q : atR R (k : Int) = atR R i := by unfold atR; rw [Int.toNat_natCast, e]
    by_cases hk : k < R.length
    ·have : atR (R.set k (getRo t (atR F t.at') (atR R (k : Int)))) i = getRo t (atR F t.at') (atR R (k : Int)) := by
      show (R.set k _)[i.toNat]?.getD _ = _
      rw [e, List.getElem?_set_self hk]; rfl
     rw [this, <- q]
     exact e2.2
    ·rw [List.set_eq_of_length_le (by omega)]
     exact ⟨Int.le_refl _, Int.le_refl _⟩
   ·have : atR (R.set k (getRo t (atR F t.at') (atR R (k : Int)))) i = atR R i := by
     unfold atR
     rw [List.getElem?_set_ne (fun q => e q.symm)]
    rw [this]
    exact ⟨Int.le_refl _, Int.le_refl _⟩
  omega
theorem Za6 {q m : Int} (hq : 0 <= q) {F : List Rg} (h : Row m F) : Row (min2 m q) (F.map (cutR q)) := by
 intro r hr
 obtain ⟨f, hf, rfl⟩ := List.mem_map.1 hr
 obtain ⟨a1, a2, a3⟩ := h f hf
 refine ⟨?_, ?_, ?_⟩ <;> simp only [cutR] <;> unfold min2 <;> (repeat' split) <;> omega
structure GB (v : Vac) (g : Gs) : Prop where
 fits : Fits v g
 f : Row 68719476736 g.free
 b : Row 68719476736 g.bound
 r : Row 68719476736 g.room
 m : 0 <= g.most /\ g.most <= 68719476736
theorem Z5o {v : Vac} {g : Gs} : belongsE v g = 0 ↔ VB v /\ GB v g := by
 rw [Z92]
 exact ⟨fun ⟨a, b, c, d, e, f⟩ => ⟨a, b, c, d, e, f⟩, fun ⟨a, b⟩ => ⟨a, b.fits, b.f, b.b, b.r, b.m⟩⟩
theorem Zeu {v : Vac} (hv : VB v) {h : Int} {F B : List Rg} (h1 : Row 68719476736 F) (h2 : Row 68719476736 B) : Row 137438953472 (relF h v.vessels F B) /\ Row 68719476736 (relB h v.vessels B) := by
 constructor
 ·intro r hr
  obtain ⟨t, ht, rfl⟩ := List.mem_map.1 hr
  obtain ⟨x, y⟩ := t
  have a := List.of_mem_zip ht
  have b := List.of_mem_zip (show (y.1, y.2) ∈ _ from a.2)
  exact (Zeq (hv.ves _ a.1) (h1 _ b.1) (h2 _ b.2)).2
 ·intro r hr
  obtain ⟨t, ht, rfl⟩ := List.mem_map.1 hr
  obtain ⟨x, y⟩ := t
  have a := List.of_mem_zip ht
  exact (Za3 (hv.ves _ a.1) (h2 _ a.2)).2.1
theorem Zev {v : Vac} (hv : VB v) {F : List Rg} (hF : Row 137438953472 F) (hl : F.length = v.vessels.length) (shut : List Int) : Row 5000000000000 (leakR (flowG v shut F) v.leaks) := by
 have h8 := hv.l8
 have := Z7z (n := v.vessels.length) (l := v.leaks) (m := 4600000000000) hv.inl (by decide) (by omega) (Zer hv hF hl shut)
 exact fun r hr => (this r hr).mono (by omega)
structure Steps (v : Vac) (g : Gs) (s : Bk) : Prop where
 m1 : g.most <= (beginT v g s).most /\ (beginT v g s).most <= 68719476736
 f2 : Row 137438953472 (relT v (beginT v g s) s).free
 b2 : Row 68719476736 (relT v (beginT v g s) s).bound
 f3 : Row 5000000000000 (flowT v (relT v (beginT v g s) s) s).free
 f4 : Row 5000000000000 (getT v (flowT v (relT v (beginT v g s) s) s) s).free
 r4 : Row 68719476736 (getT v (flowT v (relT v (beginT v g s) s) s) s).room
 r4l : ∀ i, (atR (getT v (flowT v (relT v (beginT v g s) s) s) s).room i).lo <= (atR g.room i).lo /\ (atR (getT v (flowT v (relT v (beginT v g s) s) s) s).room i).hi <= (atR g.room i).hi
theorem Z6k {v : Vac} {g : Gs} (hv : VB v) (h : GB v g) (s : Bk) : Steps v g s := by
 have m1 := Za4 (l := v.leaks) (m := g.most) (fun q hq => (hv.inl q hq).2) h.m.1 h.m.2
 have r2 := Zeu (h := s.heat) hv h.f h.b
 have f3 := Zev hv r2.1 (Z6h h.fits.f h.fits.b) s.shut
 have h4 : Row 5000000000000 (getT v (flowT v (relT v (beginT v g s) s) s) s).free /\ Row 68719476736 (getT v (flowT v (relT v (beginT v g s) s) s) s).room /\ ∀ i, (atR (getT v (flowT v (relT v (beginT v g s) s) s) s).room i).lo <= (atR g.room i).lo /\ (atR (getT v (flowT v (relT v (beginT v g s) s) s) s).room i).hi <= (atR g.room i).hi := by
  unfold getT
  split
  ·exact Za5 (fun t ht => (hv.gtr t ht).1.2) f3 h.r
  ·exact ⟨f3, h.r, fun i => ⟨Int.le_refl _, Int.le_refl _⟩⟩
 exact ⟨m1, r2.1, r2.2, f3, h4.1, h4.2.1, h4.2.2⟩
theorem Z4i (v : Vac) (g : Gs) (s : Bk) : (getT v g s).most = g.most /\ (getT v g s).bound = g.bound /\ (getT v g s).flashed = g.flashed := by unfold getT; split <;> exact ⟨rfl, rfl, rfl⟩
theorem Z80 (v : Vac) (g : Gs) (s : Bk) : (tickT v g s).most = leakF g.most v.leaks := (Z4i v (flowT v (relT v (beginT v g s) s) s) s).1
theorem Zhy {v : Vac} {g : Gs} (hv : VB v) (h : GB v g) (s : Bk) : GB v (tickT v g s) /\ Row (tickT v g s).most (tickT v g s).free := by
 have st := Z6k hv h s
 have hm := Z80 v g s
 have h1 := st.m1
 have h0 := h.m.1
 have e1 : (getT v (flowT v (relT v (beginT v g s) s) s) s).most = leakF g.most v.leaks := hm
 have hmm : g.most <= leakF g.most v.leaks /\ leakF g.most v.leaks <= 68719476736 := h1
 have f5 : Row (min2 5000000000000 (leakF g.most v.leaks)) (tickT v g s).free := by
  have := Za6 (q := leakF g.most v.leaks) (by omega) st.f4
  rw [<- e1] at this ⊢
  exact this
 have b5 : Row (min2 68719476736 (leakF g.most v.leaks)) (tickT v g s).bound := by
  have hb : Row 68719476736 (getT v (flowT v (relT v (beginT v g s) s) s) s).bound := by rw [(Z4i _ _ _).2.1]; exact st.b2
  have := Za6 (q := leakF g.most v.leaks) (by omega) hb
  rw [<- e1] at this ⊢
  exact this
 have k1 : min2 5000000000000 (leakF g.most v.leaks) = leakF g.most v.leaks := by unfold min2; rw [if_pos (by omega)]
 have k2 : min2 68719476736 (leakF g.most v.leaks) <= 68719476736 := by unfold min2; split <;> omega
 rw [k1] at f5
 refine ⟨⟨Z4c h.fits s, fun r hr => (f5 r hr).mono hmm.2, fun r hr => (b5 r hr).mono k2, st.r4, by rw [hm]; omega⟩, by rw [hm]; exact f5⟩
theorem Zd7 (a b : Int) : min2 a b <= a /\ min2 a b <= b := by unfold min2; split <;> omega
theorem Zd8 {v : Vac} {g : Gs} (hv : VB v) (h : GB v g) (s : Bk) : (∀ i : Nat, i < v.vessels.length -> (atR (tickT v g s).bound i).lo <= (atR g.bound i).lo /\ (atR (tickT v g s).bound i).hi <= (atR g.bound i).hi) /\ ∀ i : Nat, (atR (tickT v g s).room i).lo <= (atR g.room i).lo /\ (atR (tickT v g s).room i).hi <= (atR g.room i).hi := by
 have st := Z6k hv h s
 refine ⟨fun i hi => ?_, fun i => st.r4l i⟩
 have hb : (tickT v g s).bound = (relB s.heat v.vessels g.bound).map (cutR (getT v (flowT v (relT v (beginT v g s) s) s) s).most) := by
  show (getT v (flowT v (relT v (beginT v g s) s) s) s).bound.map _ = _
  rw [(Z4i _ _ _).2.1]; rfl
 have hbi : i < g.bound.length := by rw [h.fits.b]; exact hi
 have hri : i < (relB s.heat v.vessels g.bound).length := by rw [Z6i h.fits.b]; exact hi
 have e1 : atR (tickT v g s).bound i = cutR (getT v (flowT v (relT v (beginT v g s) s) s) s).most (relBo s.heat v.vessels[i] g.bound[i]) := by
  rw [Jg _ (by rw [hb, List.length_map]; exact hri), <- Z9v hri hi hbi]
  simp only [hb, List.getElem_map]
 rw [e1, Jg _ hbi]
 obtain ⟨_, _, c1, c2⟩ := Za3 (h := s.heat) (hv.ves _ (List.getElem_mem hi)) (h.b _ (List.getElem_mem hbi))
 have m1 := Zd7 (relBo s.heat v.vessels[i] g.bound[i]).lo (getT v (flowT v (relT v (beginT v g s) s) s) s).most
 have m2 := Zd7 (relBo s.heat v.vessels[i] g.bound[i]).hi (getT v (flowT v (relT v (beginT v g s) s) s) s).most
 simp only [cutR]
 omega
end Go.Proofs.Ytgnpnfkncbnjnaa
