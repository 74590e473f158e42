/- The statement PumpRuns holds for every input, without further conditions: a part of its proof (an abstract machine for the loaded code, its soundness, and what the functions answer in it). -/
import Derived.Test.YtgnpnfkncbnjnaaP3
set_option linter.unusedSimpArgs false
set_option linter.unusedVariables false
set_option maxRecDepth 100000
namespace Go.Proofs.Ytgnpnfkncbnjnaa
attribute [local go_sem_proc] Int.reduceEq Int.reduceNeg Nat.reduceEqDiff Nat.reduceLT Nat.reduceAdd Nat.reduceSub Nat.reduceMul Int.reduceLE Int.reduceLT Int.reduceToNat Nat.reduceLeDiff
attribute [local go_sem] Int.toNat_natCast Bool.not_true Bool.not_false
open Go Go.Am
attribute [local congr] Ze Zb Zc
attribute [local go_sem] Go.Am.frozen Go.Am.freezeG Go.Am.freezeGs Go.Am.minmax
theorem bs69 (fr a b : Int) (s : St) : buildSliceA (cfg.at 23) true 69 1 [(0, .agg [.int .i64 fr, .int .i64 a, .int .i64 b])] s = .ret (.lst [.agg [.int .i64 fr, .int .i64 a, .int .i64 b]], s) := by
 simp -implicitDefEqProofs only [go_sem, Go.Am.buildSliceA]
theorem bs33 (a b c d e : Int) (q : Nm) (l : List AV) (s : St) : buildSliceA (cfg.at 23) true 33 1 [(0, .agg [.int .i64 a, .int .i64 b, .int .i64 c, .int .i64 d, .int .i64 e, ownV q l])] s = .ret (.lst [.agg [.int .i64 a, .int .i64 b, .int .i64 c, .int .i64 d, .int .i64 e, .lst l]], s) := by
 have h : (ownV q l).shut = .lst l := Xp q l
 have h2 : shuts [.int .i64 a, .int .i64 b, .int .i64 c, .int .i64 d, .int .i64 e, ownV q l] = [.int .i64 a, .int .i64 b, .int .i64 c, .int .i64 d, .int .i64 e, .lst l] := by
  simp only [shuts, AV.shut, h]
 simp -implicitDefEqProofs only [go_sem, Go.Am.buildSliceA, h2]
theorem bs34 (a b c d e f : Int) (s : St) : buildSliceA (cfg.at 23) true 34 1 [(0, .agg [.int .i64 a, .int .i64 b, .int .i64 c, .int .i64 d, .int .i64 e, .int .i64 f])] s = .ret (.lst [.agg [.int .i64 a, .int .i64 b, .int .i64 c, .int .i64 d, .int .i64 e, .int .i64 f]], s) := by
 simp -implicitDefEqProofs only [go_sem, Go.Am.buildSliceA]
theorem bs35 (a b c : Int) (s : St) : buildSliceA (cfg.at 23) true 35 1 [(0, .agg [.int .i64 a, .int .i64 b, .int .i64 c])] s = .ret (.lst [.agg [.int .i64 a, .int .i64 b, .int .i64 c]], s) := by
 simp -implicitDefEqProofs only [go_sem, Go.Am.buildSliceA]
theorem bs36 (a b c : Int) (s : St) : buildSliceA (cfg.at 23) true 36 1 [(0, .agg [.int .i64 a, .int .i64 b, .int .i64 c])] s = .ret (.lst [.agg [.int .i64 a, .int .i64 b, .int .i64 c]], s) := by
 simp -implicitDefEqProofs only [go_sem, Go.Am.buildSliceA]
theorem bs37 (a b c d e : Int) (s : St) : buildSliceA (cfg.at 23) true 37 1 [(0, .agg [.int .i64 a, .int .i64 b, .int .i64 c, .int .i64 d, .int .i64 e])] s = .ret (.lst [.agg [.int .i64 a, .int .i64 b, .int .i64 c, .int .i64 d, .int .i64 e]], s) := by
 simp -implicitDefEqProofs only [go_sem, Go.Am.buildSliceA]
theorem Zlc {a bw : Int} {N : Int} (ha : 0 <= a /\ a < N) (hb : 1 <= bw /\ bw <= N - 1) : 0 <= (a + bw).tmod N /\ (a + bw).tmod N < N /\ a ≠ (a + bw).tmod N := by
 have e0 : (a + bw).tmod N = (a + bw) % N := Int.tmod_eq_emod_of_nonneg (by omega)
 rw [e0]
 by_cases h : a + bw < N
 ·rw [Int.emod_eq_of_lt (by omega) h]; omega
 ·have e : a + bw = (a + bw - N) + N := by omega
  have e2 : (a + bw) % N = (a + bw - N) % N := by
   conv => lhs; rw [e]
   rw [Int.add_emod_right]
  rw [e2, Int.emod_eq_of_lt (by omega) (by omega)]; omega
theorem Zo9 : cfg.desc 69 = some (.slice 138) := by kernel_rfl
theorem Zoa : cfg.desc 33 = some (.slice 71) := by kernel_rfl
theorem Zob : cfg.desc 34 = some (.slice 140) := by kernel_rfl
theorem Zoc : cfg.desc 35 = some (.slice 128) := by kernel_rfl
theorem Zod : cfg.desc 36 = some (.slice 61) := by kernel_rfl
theorem Zoe : cfg.desc 37 = some (.slice 142) := by kernel_rfl
theorem Z78 {α : Type} (f : α -> AV) (b : Nm) (l : List α) (x : α) : ownV b ((l ++ [x]).map f) = .own b ((l ++ [x]).map f) := by
 rw [List.map_append]; exact Zx _ _ _
def nil5 : List AV := [.nils, .nils, .nils, .nils, .nils]
theorem Z79 (w : Int) (b : Nm) (u : Nat) (K : Nat) (st : St) (hb : hget st.H b = some (.cells [.int .u64 w] true u)) (hK : 100 < K) :
  ∃ v w', VacG v /\ acall cfg (K + 10) 23 [.ptr b 0] st = .ret (vacV v, st.put b (.cells [.int .u64 w'] true u)) := by
 have key : ∃ v w', VacG v /\ (bodyA (cfg.at 23) (acall cfg (K + 9)) (around cfg (K + 9)) (K + 9 + 1) Try.f23 [.ptr [0] 0] ⟨[([0], .cells [.int .u64 w] true u)], 1, [], false, []⟩).Does fun x => x.1.shut = vacV v /\ hget x.2.H [0] = some (.cells [.int .u64 w'] true u) := by
  suffices h : (bodyA (cfg.at 23) (acall cfg (K + 9)) (around cfg (K + 9)) (K + 9 + 1) Try.f23 [.ptr [0] 0] ⟨[([0], .cells [.int .u64 w] true u)], 1, [], false, []⟩).Does fun x => ∃ v w', VacG v /\ x.1.shut = vacV v /\ hget x.2.H [0] = some (.cells [.int .u64 w'] true u) by
   obtain ⟨x, e, v, w', h1, h2, h3⟩ := h
   exact ⟨v, w', h1, x, e, h2, h3⟩
  refine Z6 rfl fun T hT' hA => ?_
  have a0 := hA 0 _ rfl
  have hT : T.length = 144 := hT'
  clear hA hT'
  have bt := fun H m jr j hd => Z2d (H := H) (m := m) (u := u) (p := []) (jr := jr) (j := j) 1 4 (K + 6) (by decide) (by decide) (by decide) hd
  have d0 : isD u [([0], .cells [.int .u64 w] true u)] := ⟨w, rfl⟩
  simp -implicitDefEqProofs (maxDischargeDepth := 9) only [go_sem, Z76, Jb, Z2b, a0, hT, bt, d0]
  have hb1 := Yd w 1 4 (by decide)
  generalize betweenN w 1 4 = N at *
  clear bt d0
  simp only [Z1]
  refine Zf (fun k T s' => T.length = 144 /\ nth T 0 = some (.ptr [0] 0) /\ nth T 2 = some (.ptr [1] 0) /\ nth T 3 = some (.ptr [2] 0) /\ nth T 4 = some (.int .i64 N) /\ ∃ (i n c : Nat) (H : Heap) (vs : List Ves), nth T 5 = some (.int .i64 i) /\ (i : Int) <= N /\ k = N.toNat - i /\ s' = ⟨H, n + 3, [], false, []⟩ /\ isD u H /\ hget H [1] = some (.cells nil5 true 0) /\ hget H [2] = some (.cells (ownV [c + 3] (vs.map vesV) :: [.nils, .nils, .nils, .nils]) true 0) /\ (vs.map vesV ≠ [] -> c < n /\ hget H [c + 3] = some (.tok vs.length 6)) /\ vs.length = i /\ ∀ x ∈ vs, VesG x) (k := N.toNat) (by omega) ?_ ?_
  ·exact ⟨by simp -implicitDefEqProofs only [go_sem, hT], by simp -implicitDefEqProofs only [go_sem, a0], by simp -implicitDefEqProofs only [go_sem, hT], by simp -implicitDefEqProofs only [go_sem, hT], by simp -implicitDefEqProofs only [go_sem, hT], 0, 0, 0, _, [], by simp -implicitDefEqProofs only [go_sem, hT] <;> rfl, by omega, rfl, rfl, ⟨_, rfl⟩, rfl, rfl, fun h => absurd rfl h, rfl, fun _ h => by cases h⟩
  clear a0 hT T
  rintro k T s' ⟨hT, a0, a2, a3, a4, i, n, c, H, vs, a5, hi, rfl, rfl, hd, g1, g2, gt, hvl, hvs⟩
  simp -implicitDefEqProofs (maxDischargeDepth := 9) only [go_sem, a4, a5, hT]
  by_cases hlo : (i : Int) < N
  ·have bt := fun H m jr j hd => Z2d (H := H) (m := m) (u := u) (p := []) (jr := jr) (j := j) 1 50 (K + 6) (by decide) (by decide) (by decide) hd
   have rt := fun H m jr j hd => Z77 (H := H) (m := m) (u := u) (p := []) (jr := jr) (j := j) 0 20000 (K + 5) (by decide) (by decide) (by decide) hd
   have ot := fun H m jr j hd => Zlb (H := H) (m := m) (u := u) (p := []) (jr := jr) (j := j) 2 (K + 6) hd (by decide)
   simp -implicitDefEqProofs (maxDischargeDepth := 9) only [go_sem, Yy, Zeo, Jb, Z2b, Z8k, a0, hT, hlo, bt, rt, ot, hd]
   have hvol := Yd (dW H) 1 50 (by decide)
   have hfree := Z2c (nextW (dW H)) 20000 (by decide)
   generalize betweenN (dW H) 1 50 = vol at *
   generalize rangeR (nextW (dW H)) 0 20000 = free at *
   generalize oneB (nextW (nextW (nextW (dW H)))) 2 = ob at *
   generalize nextW (nextW (nextW (nextW (dW H)))) = w1 at *
   clear bt rt ot
   obtain ⟨H1, hH1, d1, q1, q2, qt⟩ : ∃ H1, H1 = hset H [0] (.cells [.int .u64 w1] true u) /\ isD u H1 /\ hget H1 [1] = some (.cells nil5 true 0) /\ hget H1 [2] = some (.cells (ownV [c + 3] (vs.map vesV) :: [.nils, .nils, .nils, .nils]) true 0) /\ (vs.map vesV ≠ [] -> c < n /\ hget H1 [c + 3] = some (.tok vs.length 6)) :=
    ⟨_, rfl, Yy hd, by rw [hs11 (by decide)]; exact g1, by rw [hs11 (by decide)]; exact g2, fun h => ⟨(gt h).1, by rw [hs11 (by omega)]; exact (gt h).2⟩⟩
   rw [<- hH1]
   clear hH1 hd g1 g2 gt
   simp only [Z1]
   refine Tr.Does.mono (Q := fun x => ∃ bd T' H', x = ((AExit.normal, T'), (⟨H', n + 4, [], false, []⟩ : St)) /\ RgG 50000 bd /\ T'.length = 144 /\ nth T' 0 = some (.ptr [0] 0) /\ nth T' 2 = some (.ptr [1] 0) /\ nth T' 3 = some (.ptr [2] 0) /\ nth T' 4 = some (.int .i64 N) /\ nth T' 5 = some (.int .i64 i) /\ nth T' 6 = some (.ptr [n + 3] 0) /\
    isD u H' /\ hget H' [1] = some (.cells nil5 true 0) /\ hget H' [2] = some (.cells (ownV [c + 3] (vs.map vesV) :: [.nils, .nils, .nils, .nils]) true 0) /\ (vs.map vesV ≠ [] -> c < n /\ hget H' [c + 3] = some (.tok vs.length 6)) /\ hget H' [n + 3] = some (.cells [.int .i64 vol, .int .i64 free.lo, .int .i64 free.hi, .int .i64 bd.lo, .int .i64 bd.hi, .nils] true 0)) ?_ ?_
   ·cases ob with
    | true =>
     have rt := fun H m jr j hd => Z77 (H := H) (m := m) (u := u) (p := []) (jr := jr) (j := j) 0 50000 (K + 5) (by decide) (by decide) (by decide) hd
     simp -implicitDefEqProofs (maxDischargeDepth := 9) only [go_sem, Jb, Z2b, a0, hT, rt, d1]
     have hz := Z2c (dW H1) 50000 (by decide)
     refine ⟨rangeR (dW H1) 0 50000, _, _, rfl, hz, by simp -implicitDefEqProofs only [go_sem, hT], by simp -implicitDefEqProofs only [go_sem, a0], by simp -implicitDefEqProofs only [go_sem, a2], by simp -implicitDefEqProofs only [go_sem, a3], by simp -implicitDefEqProofs only [go_sem, a4], by simp -implicitDefEqProofs only [go_sem, a5], by simp -implicitDefEqProofs only [go_sem, hT], by simp only [Yy, Jb, d1], ?_, ?_, fun h => ⟨(qt h).1, ?_⟩, Z3 ..⟩
     ·rw [hc11 (by omega), hs11 (by decide)]; exact q1
     ·rw [hc11 (by omega), hs11 (by decide)]; exact q2
     ·rw [hc11 (by have := (qt h).1; omega), hs11 (by omega)]; exact (qt h).2
    | false =>
     simp -implicitDefEqProofs (maxDischargeDepth := 9) only [go_sem]
     refine ⟨⟨0, 0⟩, _, _, rfl, Zgn _ (by decide), by simp -implicitDefEqProofs only [go_sem, hT], by simp -implicitDefEqProofs only [go_sem, a0], by simp -implicitDefEqProofs only [go_sem, a2], by simp -implicitDefEqProofs only [go_sem, a3], by simp -implicitDefEqProofs only [go_sem, a4], by simp -implicitDefEqProofs only [go_sem, a5], by simp -implicitDefEqProofs only [go_sem, hT], by simp only [Jb, d1], ?_, ?_, fun h => ⟨(qt h).1, ?_⟩, Z3 ..⟩
     ·rw [hc11 (by omega)]; exact q1
     ·rw [hc11 (by omega)]; exact q2
     ·rw [hc11 (by have := (qt h).1; omega)]; exact (qt h).2
   clear a0 a2 a3 a4 a5 hT T d1 q1 q2 qt H1
   rintro _ ⟨bd, T, H, rfl, hbd, hT, a0, a2, a3, a4, a5, a6, hd, g1, g2, gt, g3⟩
   have ut := fun n H m jr j hn hd => Z0b (H := H) (m := m) (u := u) (p := []) (jr := jr) (j := j) n (K + 7) hd hn
   have ut1 := fun H m jr j hd => ut 300 H m jr j (by decide) hd
   have ut2 := fun H m jr j hd => ut 3 H m jr j (by decide) hd
   simp -implicitDefEqProofs (maxDischargeDepth := 9) only [go_sem, Yy, Zeo, Z8k, a0, hT, ut1, ut2, hd]
   have hfr := Zz (dW H) 300 (by decide)
   have hct := Zz (nextW (dW H)) 3 (by decide)
   generalize uptoN (dW H) 300 = fr0 at *
   generalize uptoN (nextW (dW H)) 3 = ct0 at *
   generalize nextW (nextW (dW H)) = w1 at *
   clear ut1 ut2
   obtain ⟨ct, rfl⟩ : ∃ q : Nat, ct0 = q := ⟨ct0.toNat, by omega⟩
   simp only [Z1]
   refine Zf (fun l T s' => T.length = 144 /\ nth T 0 = some (.ptr [0] 0) /\ nth T 2 = some (.ptr [1] 0) /\ nth T 3 = some (.ptr [2] 0) /\ nth T 4 = some (.int .i64 N) /\ nth T 5 = some (.int .i64 i) /\ nth T 6 = some (.ptr [n + 3] 0) /\ nth T 8 = some (.int .i64 l) /\ ∃ (fr : Int) (m cb : Nat) (H : Heap) (bs : List Rel), nth T 7 = some (.int .i64 fr) /\ s' = ⟨H, m + n + 4, [], false, []⟩ /\ isD u H /\ hget H [1] = some (.cells nil5 true 0) /\ hget H [2] = some (.cells (ownV [c + 3] (vs.map vesV) :: [.nils, .nils, .nils, .nils]) true 0) /\ (vs.map vesV ≠ [] -> c < n /\ hget H [c + 3] = some (.tok vs.length 6)) /\
    hget H [n + 3] = some (.cells [.int .i64 vol, .int .i64 free.lo, .int .i64 free.hi, .int .i64 bd.lo, .int .i64 bd.hi, ownV [cb, 7, 0] (bs.map relV)] true 0) /\ (bs ≠ [] -> cb < m + n + 4 /\ hget H [cb, 7, 0] = some (.tok bs.length 3)) /\ bs.length + l <= 2 /\ 0 <= fr /\ fr < 300 + 400 * (bs.length : Int) /\ BandsG fr bs) (k := ct) (by omega) ?_ ?_
   ·exact ⟨by simp -implicitDefEqProofs only [go_sem, hT], by simp -implicitDefEqProofs only [go_sem, a0], by simp -implicitDefEqProofs only [go_sem, a2], by simp -implicitDefEqProofs only [go_sem, a3], by simp -implicitDefEqProofs only [go_sem, a4], by simp -implicitDefEqProofs only [go_sem, a5], by simp -implicitDefEqProofs only [go_sem, a6], by simp -implicitDefEqProofs only [go_sem, hT], fr0, 0, 0, _, [], by simp -implicitDefEqProofs only [go_sem, hT], by rw [Nat.zero_add], Yy hd, by rw [hs11 (by decide)]; exact g1, by rw [hs11 (by decide)]; exact g2, fun h => ⟨(gt h).1, by rw [hs11 (by omega)]; exact (gt h).2⟩, by rw [hs11 (by omega)]; exact g3, fun h => absurd rfl h, by show 0 + ct <= 2; omega, hfr.1, by show fr0 < 300 + 400 * ((0 : Nat) : Int); omega, trivial⟩
   clear a0 a2 a3 a4 a5 a6 hT T hd g1 g2 gt g3 H w1 hfr hct fr0 ct ut
   rintro l T s' ⟨hT, a0, a2, a3, a4, a5, a6, a8, fr, m, cb, H, bs, a7, rfl, hd, g1, g2, gt, g3, gb, hbl, hf0, hf1, hbg⟩
   simp -implicitDefEqProofs only [go_sem, a8, hT]
   by_cases hlo : (0 : Int) < (l : Int)
   ·have hl1 : l - 1 < l := by omega
    have pt := fun m p jr j => Z8m (H := H) (m := m) (u := u) (p := p) (jr := jr) (j := j) 400000 (K + 4) (by decide) (by decide) hd
    have hrg := Z2c (dW H) 400000 (by decide)
    generalize rangeR (dW H) 0 400000 = rg at *
    generalize nextW (nextW (dW H)) = w2 at *
    have pt' : ∀ m p, acall cfg (K + 9) 88 [.ptr [0] 0, .int .i64 400000] ⟨H, m, p, true, []⟩ = .ret (.agg [.int .i64 rg.lo, .int .i64 rg.hi], ⟨hset H [0] (.cells [.int .u64 w2] true u), m, p, true, [([0], some (.cells [.int .u64 w2] true u))]⟩) := fun m p => pt m p true []
    clear pt
    have gv : hget (hdel H [0]) [n + 3] = some (.cells [.int .i64 vol, .int .i64 free.lo, .int .i64 free.hi, .int .i64 bd.lo, .int .i64 bd.hi, ownV [cb, 7, 0] (bs.map relV)] true 0) := (hd11 (by omega)).trans g3
    have hap := fun (l : List AV) (n : Nat) (b p : Nm) (H : Heap) (r : Rg) (hr : (l.length + 1) * 24 <= 140737488355328) (hg : l ≠ [] -> hget H b = some (.tok l.length 3)) => Yl (C := cfg.at 23) (sT := 69) (b := b) (l := l) (x := .agg [.int .i64 fr, .int .i64 r.lo, .int .i64 r.hi]) (H := H) (n := n) (p := p) (jr := true) (j := []) (z := 3) Zo9 Zi3 rfl rfl rfl rfl rfl rfl hr hg
    simp -implicitDefEqProofs only [go_sem, hlo]
    simp only [Z1]
    refine Tr.Does.mono (Q := fun x => ∃ T' H2, x = (T', (⟨H2, m + n + 5, [], false, []⟩ : St)) /\ T'.length = 144 /\ nth T' 0 = some (.ptr [0] 0) /\ nth T' 2 = some (.ptr [1] 0) /\ nth T' 3 = some (.ptr [2] 0) /\ nth T' 4 = some (.int .i64 N) /\ nth T' 5 = some (.int .i64 i) /\ nth T' 6 = some (.ptr [n + 3] 0) /\ nth T' 7 = some (.int .i64 fr) /\ nth T' 8 = some (.int .i64 l) /\
     isD u H2 /\ hget H2 [1] = some (.cells nil5 true 0) /\ hget H2 [2] = some (.cells (ownV [c + 3] (vs.map vesV) :: [.nils, .nils, .nils, .nils]) true 0) /\ (vs.map vesV ≠ [] -> c < n /\ hget H2 [c + 3] = some (.tok vs.length 6)) /\
     hget H2 [n + 3] = some (.cells [.int .i64 vol, .int .i64 free.lo, .int .i64 free.hi, .int .i64 bd.lo, .int .i64 bd.hi, ownV [m + n + 4, 7, 0] ((bs ++ [(⟨fr, rg⟩ : Rel)]).map relV)] true 0) /\ hget H2 [m + n + 4, 7, 0] = some (.tok (bs ++ [(⟨fr, rg⟩ : Rel)]).length 3)) ?_ ?_
    ·cases bs with
     | nil =>
      have hap0 := fun (n : Nat) (p : Nm) (H : Heap) (r : Rg) => hap [] n [] p H r (by simp) (fun h => absurd rfl h)
      simp only [ownV, dropTok, tokJ, List.nil_append, List.length_nil, List.map_nil] at hap0 g3 gv
      have ip : isPre [m + n + 4, 9] [n + 3] = false := Go.Am.Y5 _ _ (by omega)
      try simp only [Z1]
      refine Z7 [[], [0], [], [], [3], [2, 4, 3], [5, 2, 4, 3], [1, 0, 6, 5, 2, 4, 3], [7, 1, 0, 6, 5, 2, 4, 3], [8, 7, 1, 0, 6, 5, 2, 4, 3]] [[], [], [], [], [[0]], [], [], [], [], [[n + 3]]] (by kernel_rfl) rfl rfl ?_
      simp -implicitDefEqProofs only [go_sem, Z0, lkn, lk11, lk31, Option.getD_some, Option.getD_none, a0, a6, a7, hT, g3, gv, pt', bs69, hap0 _ _ _ ⟨rg.lo, rg.hi⟩, ip, Z8]
      refine ⟨_, _, rfl, by simp -implicitDefEqProofs only [go_sem, hT], by simp -implicitDefEqProofs only [go_sem, a0], by simp -implicitDefEqProofs only [go_sem, a2], by simp -implicitDefEqProofs only [go_sem, a3], by simp -implicitDefEqProofs only [go_sem, a4], by simp -implicitDefEqProofs only [go_sem, a5], by simp -implicitDefEqProofs only [go_sem, a6], by simp -implicitDefEqProofs only [go_sem, a7], by simp -implicitDefEqProofs only [go_sem, a8], by simp only [Y2, Yu, Yv], ?_, ?_, fun h => ⟨(gt h).1, ?_⟩, ?_, ?_⟩
      ·simp (disch := omega) only [Z0, lkn, lk11, lk31, Option.getD_none, g1]
      ·simp (disch := omega) only [Z0, lkn, lk11, lk31, Option.getD_none, g2]
      ·have := (gt h).1
       simp (disch := omega) only [Z0, lkn, lk11, lk31, Option.getD_none, (gt h).2]
      ·simp (disch := omega) only [Z0, Za, Option.getD_some]; rfl
      ·simp (disch := omega) only [Z0, Za, lk13, Option.getD_some] <;> rfl
     | cons b0 bs =>
      obtain ⟨hcb, r1⟩ := gb (by simp)
      have hapN := fun (n : Nat) (p : Nm) (H : Heap) (r : Rg) (hg : hget H [cb, 7, 0] = some (.tok (b0 :: bs).length 3)) => hap ((b0 :: bs).map relV) n [cb, 7, 0] p H r (by rw [List.length_map]; omega) (fun _ => by rw [List.length_map]; exact hg)
      have hrel : ((b0 :: bs) ++ [(⟨fr, rg⟩ : Rel)]).map relV = (b0 :: bs).map relV ++ [.agg [.int .i64 fr, .int .i64 rg.lo, .int .i64 rg.hi]] := by rw [List.map_append]; rfl
      have hrl : ((b0 :: bs) ++ [(⟨fr, rg⟩ : Rel)]).length = (b0 :: bs).length + 1 := by simp
      have n1 : (b0 :: bs).map relV ≠ [] := by simp
      have hlm : ((b0 :: bs).map relV).length = (b0 :: bs).length := List.length_map ..
      rw [hrel, hrl]
      generalize (b0 :: bs).map relV = R at *
      generalize (b0 :: bs).length = ln at *
      have o1 : ∀ b, ownV b R = .own b R := fun b => by cases R with | nil => exact absurd rfl n1 | cons a r => rfl
      have o3 : ∀ b j, tokJ R b j = (b, none) :: j := fun b j => by cases R with | nil => exact absurd rfl n1 | cons a r => rfl
      have o5 : ∀ b H, dropTok R b H = hdel H b := fun b H => by cases R with | nil => exact absurd rfl n1 | cons a r => rfl
      simp only [o1, o3, o5, Zx, hlm] at hapN g3 gv
      rw [Zx]
      have ip : isPre [m + n + 4, 9] [n + 3] = false := Go.Am.Y5 _ _ (by omega)
      have ip2 : isPre [m + n + 4, 7] [cb, 7, 0] = false := Go.Am.Y5 _ _ (by omega)
      try simp only [Z1]
      refine Z7 [[], [0], [], [], [3], [2, 4, 3], [5, 2, 4, 3], [1, 0, 6, 5, 2, 4, 3], [7, 1, 0, 6, 5, 2, 4, 3], [8, 7, 1, 0, 6, 5, 2, 4, 3]] [[], [], [], [], [[0]], [], [], [[cb, 7, 0]], [], [[n + 3]]] (by kernel_rfl) rfl rfl ?_
      simp -implicitDefEqProofs only [go_sem, Z0, lkn, lk11, lk13, lk31, Option.getD_some, Option.getD_none, a0, a6, a7, hT, g3, gv, r1, pt', bs69, hapN _ _ _ ⟨rg.lo, rg.hi⟩, ip, ip2, Z8]
      refine ⟨_, _, rfl, by simp -implicitDefEqProofs only [go_sem, hT], by simp -implicitDefEqProofs only [go_sem, a0], by simp -implicitDefEqProofs only [go_sem, a2], by simp -implicitDefEqProofs only [go_sem, a3], by simp -implicitDefEqProofs only [go_sem, a4], by simp -implicitDefEqProofs only [go_sem, a5], by simp -implicitDefEqProofs only [go_sem, a6], by simp -implicitDefEqProofs only [go_sem, a7], by simp -implicitDefEqProofs only [go_sem, a8], by simp only [Y2, Yu, Yv], ?_, ?_, fun h => ⟨(gt h).1, ?_⟩, ?_, ?_⟩
      ·simp (disch := omega) only [Z0, lkn, lk11, lk31, Option.getD_none, g1]
      ·simp (disch := omega) only [Z0, lkn, lk11, lk31, Option.getD_none, g2]
      ·have := (gt h).1
       simp (disch := omega) only [Z0, lkn, lk11, lk31, Option.getD_none, (gt h).2]
      ·simp (disch := omega) only [Z0, Za, Option.getD_some] <;> rfl
      ·simp (disch := omega) only [Z0, Za, lk13, Option.getD_some] <;> rfl
    clear a0 a2 a3 a4 a5 a6 a7 a8 hT T hd g1 g2 gt g3 gv gb H pt' hap cb
    rintro _ ⟨T, H, rfl, hT, a0, a2, a3, a4, a5, a6, a7, a8, hd, g1, g2, gt, g3, gb⟩
    have bt := fun H m jr j hd => Z2d (H := H) (m := m) (u := u) (p := []) (jr := jr) (j := j) 1 400 (K + 6) (by decide) (by decide) (by decide) hd
    have hbr := Yd (dW H) 1 400 (by decide)
    have hlen : (bs ++ [(⟨fr, rg⟩ : Rel)]).length + (l - 1) <= 2 := by rw [List.length_append, List.length_singleton]; omega
    have hbs2 := Z4w (k := fr) (k' := fr + betweenN (dW H) 1 400) hf0 (by omega) hrg hbg
    have hf2 : 0 <= fr + betweenN (dW H) 1 400 := by omega
    have hf3 : fr + betweenN (dW H) 1 400 < 300 + 400 * ((bs ++ [(⟨fr, rg⟩ : Rel)]).length : Int) := by rw [List.length_append, List.length_singleton]; omega
    have hlt : m + n + 4 < (m + 1) + n + 4 := by omega
    have heq : m + n + 5 = (m + 1) + n + 4 := by omega
    have hneb : bs ++ [(⟨fr, rg⟩ : Rel)] ≠ [] := by simp
    generalize bs ++ [(⟨fr, rg⟩ : Rel)] = bs2 at *
    have e1 : wrapF .i64 (fr + betweenN (dW H) 1 400) = fr + betweenN (dW H) 1 400 := Z5 (by omega) (by omega)
    have e2 : wrapF .i64 ((l : Int) - 1) = ((l - 1 : Nat) : Int) := by rw [Z5 (by omega) (by omega)]; omega
    have bt := fun m jr j => bt H m jr j hd
    generalize betweenN (dW H) 1 400 = bw at *
    generalize nextW (dW H) = w3 at *
    simp -implicitDefEqProofs only [go_sem, a0, a2, a3, a4, a5, a6, a7, a8, hT, bt, e1, e2]
    clear e1 e2
    exact ⟨l - 1, hl1, trivial, trivial, trivial, trivial, trivial, trivial, trivial, rfl, fr + bw, m + 1, m + n + 4, _, bs2, rfl, by rw [heq], Yy hd, by rw [hs11 (by decide)]; exact g1, by rw [hs11 (by decide)]; exact g2, fun h => ⟨(gt h).1, by rw [hs11 (by omega)]; exact (gt h).2⟩, by rw [hs11 (by omega)]; exact g3, fun _ => ⟨hlt, by rw [hs13]; exact gb⟩, hlen, hf2, hf3, hbs2⟩
   ·clear gb
    have hVes : VesG ⟨vol, free, bd, bs⟩ := ⟨hvol, hfree, hbd, by show bs.length <= 2; omega, Z4x (by omega) hbg⟩
    have hv1 : vesV ⟨vol, free, bd, bs⟩ = .agg [.int .i64 vol, .int .i64 free.lo, .int .i64 free.hi, .int .i64 bd.lo, .int .i64 bd.hi, .lst (bs.map relV)] := rfl
    have hap := Yl (C := cfg.at 23) (sT := 33) (b := [c + 3]) (l := vs.map vesV) (x := .agg [.int .i64 vol, .int .i64 free.lo, .int .i64 free.hi, .int .i64 bd.lo, .int .i64 bd.hi, .lst (bs.map relV)]) (H := H) (n := m + n + 4) (p := []) (jr := false) (j := []) (z := 6) Zoa Zmk rfl rfl rfl rfl rfl rfl (by rw [List.length_map]; show (vs.length + 1) * 64 <= _; omega) (fun hx => by rw [List.length_map]; exact (gt hx).2)
    have hrm : (vs ++ [(⟨vol, free, bd, bs⟩ : Ves)]).map vesV = vs.map vesV ++ [.agg [.int .i64 vol, .int .i64 free.lo, .int .i64 free.hi, .int .i64 bd.lo, .int .i64 bd.hi, .lst (bs.map relV)]] := by rw [List.map_append, <- hv1]; rfl
    have hvs2 : ∀ x ∈ vs ++ [(⟨vol, free, bd, bs⟩ : Ves)], VesG x := by
     intro x hx
     rcases List.mem_append.1 hx with hx | hx
     ·exact hvs x hx
     ·rw [List.mem_singleton] at hx; rw [hx]; exact hVes
    have hvl2 : (vs ++ [(⟨vol, free, bd, bs⟩ : Ves)]).length = vs.length + 1 := by simp
    rw [Zx, <- hrm, List.length_map] at hap
    obtain ⟨H2, hH2, s0, s1, s2, s3⟩ : ∃ H2, H2 = dropTok (vs.map vesV) [c + 3] H /\ isD u H2 /\ hget H2 [1] = some (.cells nil5 true 0) /\ hget H2 [2] = some (.cells (ownV [c + 3] (vs.map vesV) :: [.nils, .nils, .nils, .nils]) true 0) /\ hget H2 [n + 3] = some (.cells [.int .i64 vol, .int .i64 free.lo, .int .i64 free.hi, .int .i64 bd.lo, .int .i64 bd.hi, ownV [cb, 7, 0] (bs.map relV)] true 0) :=
     ⟨_, rfl, ⟨_, (Y3 _ _ (n11 (by omega))).trans (Z07 hd)⟩, (Y3 _ _ (n11 (by omega))).trans g1, (Y3 _ _ (n11 (by omega))).trans g2, by
      cases hvv : vs.map vesV with
      | nil => exact g3
      | cons a r => rw [<- hvv]; exact (Y3 _ _ (n11 (by have := (gt (by rw [hvv]; simp)).1; omega))).trans g3⟩
    rw [<- hH2] at hap
    clear hH2 hv1 hrm
    simp -implicitDefEqProofs only [go_sem, a0, a2, a3, a4, a5, a6, hT, hlo, g2, g3, bs33, hap, s2]
    have hkk : N.toNat - (i + 1) < N.toNat - i := by omega
    have hi2 : ((i + 1 : Nat) : Int) <= N := by omega
    have hc2 : m + n + 1 < m + n + 2 := by omega
    have hw1 : wrapF .i64 ((i : Int) + 1) = ((i + 1 : Nat) : Int) := Z5 (by omega) (by omega)
    refine ⟨N.toNat - (i + 1), hkk, trivial, trivial, trivial, trivial, trivial, i + 1, m + n + 2, m + n + 1, _, vs ++ [(⟨vol, free, bd, bs⟩ : Ves)], by rw [hw1], hi2, rfl, rfl, ?_, ?_, ?_, fun _ => ⟨hc2, ?_⟩, by rw [hvl2, hvl], hvs2⟩
    all_goals clear hw1
    ·simp only [Jb, Zgm, s0]
    ·simp (disch := omega) only [hc11, hs11, s1]
    ·rw [show m + n + 1 + 3 = m + n + 4 from rfl, List.map_append, <- List.map_append, Z78]
     rw [hc11 (by omega)]
     exact hss s2
    ·rw [show m + n + 1 + 3 = m + n + 4 from rfl, hvl2]
     exact Z3 ..
  ·have hNv : N = (vs.length : Int) := by omega
   subst hNv
   clear hi hvl
   have hA0 : (ownV [c + 3] (vs.map vesV)).shut = .lst (vs.map vesV) := Xp _ _
   generalize ownV [c + 3] (vs.map vesV) = A0 at *
   clear gt
   have ut1 := fun m jr j => Z0b (H := H) (m := m) (u := u) (p := []) (jr := jr) (j := j) 5 (K + 7) hd (by decide)
   have hct := Zz (dW H) 5 (by decide)
   generalize uptoN (dW H) 5 = ct0 at *
   generalize nextW (dW H) = w1 at *
   obtain ⟨ct, rfl⟩ : ∃ q : Nat, ct0 = q := ⟨ct0.toNat, by omega⟩
   simp -implicitDefEqProofs only [go_sem, a0, hT, ut1, hlo]
   clear ut1
   simp only [Z1]
   refine Tr.Does.mono (Q := fun x => ∃ (T' : List AV) (m : Nat) (H : Heap) (ps : List Pip) (A1 : AV), x = ((AExit.exit 4, T'), (⟨H, m + 3, [], false, []⟩ : St)) /\ T'.length = 144 /\ nth T' 0 = some (.ptr [0] 0) /\ nth T' 2 = some (.ptr [1] 0) /\ nth T' 3 = some (.ptr [2] 0) /\ nth T' 4 = some (.int .i64 vs.length) /\ isD u H /\ hget H [1] = some (.cells nil5 true 0) /\ hget H [2] = some (.cells [A0, A1, .nils, .nils, .nils] true 0) /\ A1.shut = .lst (ps.map pipV) /\ ps.length <= 4 /\ ∀ x ∈ ps, PipG vs.length x) ?_ ?_
   ·refine Zf (fun k T s' => T.length = 144 /\ nth T 0 = some (.ptr [0] 0) /\ nth T 2 = some (.ptr [1] 0) /\ nth T 3 = some (.ptr [2] 0) /\ nth T 4 = some (.int .i64 vs.length) /\ nth T 9 = some (.int .i64 k) /\ ∃ (m cb : Nat) (H : Heap) (ps : List Pip), s' = ⟨H, m + 3, [], false, []⟩ /\ isD u H /\ hget H [1] = some (.cells nil5 true 0) /\ hget H [2] = some (.cells [A0, ownV [cb, 17, 0] (ps.map pipV), .nils, .nils, .nils] true 0) /\ (ps ≠ [] -> cb < m + 3 /\ hget H [cb, 17, 0] = some (.tok ps.length 6)) /\ ps.length + k <= 4 /\ ∀ x ∈ ps, PipG vs.length x) (k := ct) (by omega) ?_ ?_
    ·exact ⟨by simp -implicitDefEqProofs only [go_sem, hT], by simp -implicitDefEqProofs only [go_sem, a0], by simp -implicitDefEqProofs only [go_sem, a2], by simp -implicitDefEqProofs only [go_sem, a3], by simp -implicitDefEqProofs only [go_sem, a4], by simp -implicitDefEqProofs only [go_sem, hT], n, 0, _, [], rfl, Yy hd, by rw [hs11 (by decide)]; exact g1, by rw [hs11 (by decide)]; exact g2, fun h => absurd rfl h, by show 0 + ct <= 4; omega, fun _ h => by cases h⟩
    clear a0 a2 a3 a4 a5 hT T hd g1 g2 H hct
    rintro k T s' ⟨hT, a0, a2, a3, a4, a9, m, cb, H, ps, rfl, hd, g1, g2, gb, hpl, hps⟩
    simp -implicitDefEqProofs only [go_sem, a4, a9, hT]
    by_cases hlo : (0 : Int) < (k : Int)
    ·by_cases hn : (1 : Int) < (vs.length : Int)
     ·have hl1 : k - 1 < k := by omega
      have ut := fun m jr j => Z0b (H := H) (m := m) (u := u) (p := []) (jr := jr) (j := j) vs.length (K + 7) hd (by omega)
      have har := Zz (dW H) vs.length (by omega)
      generalize uptoN (dW H) vs.length = a at *
      generalize nextW (dW H) = w1 at *
      simp -implicitDefEqProofs only [go_sem, a0, a4, hT, hlo, hn, ut]
      clear ut
      obtain ⟨H1, hH1, d1, q1, q2, qb⟩ : ∃ H1, H1 = hset H [0] (.cells [.int .u64 w1] true u) /\ isD u H1 /\ hget H1 [1] = some (.cells nil5 true 0) /\ hget H1 [2] = some (.cells [A0, ownV [cb, 17, 0] (ps.map pipV), .nils, .nils, .nils] true 0) /\ (ps ≠ [] -> cb < m + 3 /\ hget H1 [cb, 17, 0] = some (.tok ps.length 6)) :=
       ⟨_, rfl, Yy hd, by rw [hs11 (by decide)]; exact g1, by rw [hs11 (by decide)]; exact g2, fun h => ⟨(gb h).1, by rw [hs13]; exact (gb h).2⟩⟩
      rw [<- hH1]
      clear hH1 hd g1 g2 gb H
      have p1 := fun m p => Z2d (H := H1) (m := m) (u := u) (p := p) (jr := true) (j := []) 1 ((vs.length : Int) - 1) (K + 6) (by decide) (by omega) (by omega) d1
      have hbw := Yd (dW H1) 1 ((vs.length : Int) - 1) (by omega)
      generalize betweenN (dW H1) 1 ((vs.length : Int) - 1) = bw at *
      generalize nextW (dW H1) = w2 at *
      have p2 := fun m p => Z8m (H := redoH H1 [([0], some (.cells [.int .u64 w2] true u))]) (m := m) (u := u) (p := p) (jr := true) (j := []) 120000 (K + 4) (by decide) (by decide) (Y2 (u := u) (d := []) ▸ trivial)
      rw [Z14] at p2
      have hr1 := Z2c w2 120000 (by decide)
      generalize rangeR w2 0 120000 = r1 at *
      generalize nextW (nextW w2) = w3 at *
      have p3 := fun m p => Z8m (H := redoH (redoH H1 [([0], some (.cells [.int .u64 w2] true u))]) [([0], some (.cells [.int .u64 w3] true u))]) (m := m) (u := u) (p := p) (jr := true) (j := []) 120000 (K + 4) (by decide) (by decide) (Y2 (u := u) (d := []) ▸ trivial)
      rw [Z14] at p3
      have hr2 := Z2c w3 120000 (by decide)
      generalize rangeR w3 0 120000 = r2 at *
      generalize nextW (nextW w3) = w4 at *
      obtain ⟨b2, hb2, hP⟩ : ∃ b2, (a + bw).tmod vs.length = b2 /\ PipG vs.length ⟨a, b2, r1, r2⟩ := by
       obtain ⟨x1, x2, x3⟩ := Zlc har hbw
       exact ⟨_, rfl, har, ⟨x1, x2⟩, x3, hr1, hr2⟩
      have hn0 : ¬ (vs.length : Int) = 0 := by omega
      have hw6 : (wrapF .i64 (a + bw)).tmod vs.length = b2 := by rw [Z5 (by omega) (by omega), hb2]
      have hw5 : wrapF .i64 ((vs.length : Int) - 1) = (vs.length : Int) - 1 := Z5 (by omega) (by omega)
      clear hb2
      simp only [Z1]
      refine Tr.Does.mono (Q := fun x => ∃ (T' : List AV) (H2 : Heap) (e : Pip), x = (T', (⟨H2, m + 4, [], false, []⟩ : St)) /\ PipG vs.length e /\ T'.length = 144 /\ nth T' 0 = some (.ptr [0] 0) /\ nth T' 2 = some (.ptr [1] 0) /\ nth T' 3 = some (.ptr [2] 0) /\ nth T' 4 = some (.int .i64 vs.length) /\ nth T' 9 = some (.int .i64 k) /\
       isD u H2 /\ hget H2 [1] = some (.cells nil5 true 0) /\ hget H2 [2] = some (.cells [A0, ownV [m + 3, 17, 0] ((ps ++ [e]).map pipV), .nils, .nils, .nils] true 0) /\ hget H2 [m + 3, 17, 0] = some (.tok (ps ++ [e]).length 6)) ?_ ?_
      ·have hap := fun (l : List AV) (n : Nat) (b p : Nm) (H : Heap) (hr : (l.length + 1) * 48 <= 140737488355328) (hg : l ≠ [] -> hget H b = some (.tok l.length 6)) => Yl (C := cfg.at 23) (sT := 34) (b := b) (l := l) (x := .agg [.int .i64 a, .int .i64 b2, .int .i64 r1.lo, .int .i64 r1.hi, .int .i64 r2.lo, .int .i64 r2.hi]) (H := H) (n := n) (p := p) (jr := true) (j := []) (z := 6) Zob Zi4 rfl rfl rfl rfl rfl rfl hr hg
       have gv : hget (hdel (hdel (hdel H1 [0]) [0]) [0]) [2] = some (.cells [A0, ownV [cb, 17, 0] (ps.map pipV), .nils, .nils, .nils] true 0) := by
        rw [hd11 (by decide), hd11 (by decide), hd11 (by decide)]; exact q2
       cases ps with
       | nil =>
        have hap0 := fun (n : Nat) (p : Nm) (H : Heap) => hap [] n [] p H (by simp) (fun h => absurd rfl h)
        simp only [ownV, dropTok, tokJ, List.nil_append, List.length_nil, List.map_nil] at hap0 q2 gv
        try simp only [Z1]
        refine Z7 [[], [0], [], [], [], [], [5], [4, 6, 5], [3, 7, 4, 6, 5], [], [8, 3, 7, 4, 6, 5, 9], [], [11, 7, 4, 6, 5], [], [13, 12, 11, 7, 4, 6, 5], [2, 10, 8, 3, 9, 14, 13, 12, 11, 7, 4, 6, 5], [15, 2, 10, 8, 3, 9, 14, 13, 12, 11, 7, 4, 6, 5], [1, 0, 16, 15, 2, 10, 8, 3, 9, 14, 13, 12, 11, 7, 4, 6, 5], [17, 1, 0, 16, 15, 2, 10, 8, 3, 9, 14, 13, 12, 11, 7, 4, 6, 5], [18, 17, 1, 0, 16, 15, 2, 10, 8, 3, 9, 14, 13, 12, 11, 7, 4, 6, 5]] [[], [], [], [], [], [], [], [[0]], [], [], [], [], [[0]], [], [[0]], [], [], [], [], [[2]]] (by kernel_rfl) rfl rfl ?_
        simp -implicitDefEqProofs only [go_sem, Z0, lkn, lk11, lk31, Option.getD_some, Option.getD_none, a0, a3, a4, hT, q2, gv, p1, p2, p3, hw5, hw6, hn0, bs34, hap0, Z8]
        refine ⟨_, _, ⟨a, b2, r1, r2⟩, rfl, hP, by simp -implicitDefEqProofs only [go_sem, hT], by simp -implicitDefEqProofs only [go_sem, a0], by simp -implicitDefEqProofs only [go_sem, a2], by simp -implicitDefEqProofs only [go_sem, a3], by simp -implicitDefEqProofs only [go_sem, a4], by simp -implicitDefEqProofs only [go_sem, a9], by simp only [Y2, Yu, Yv], ?_, ?_, ?_⟩
        all_goals clear hw5 hw6
        ·simp (disch := omega) only [Z0, lkn, lk11, lk31, Option.getD_none, q1]
        ·simp (disch := omega) only [Z0, Za, Option.getD_some] <;> rfl
        ·simp (disch := omega) only [Z0, Za, lk13, Option.getD_some] <;> rfl
       | cons b0 ps =>
        obtain ⟨hcb, r0⟩ := qb (by simp)
        have hapN := fun (n : Nat) (p : Nm) (H : Heap) (hg : hget H [cb, 17, 0] = some (.tok (b0 :: ps).length 6)) => hap ((b0 :: ps).map pipV) n [cb, 17, 0] p H (by rw [List.length_map]; omega) (fun _ => by rw [List.length_map]; exact hg)
        have hrel : ∀ e : Pip, ((b0 :: ps) ++ [e]).map pipV = (b0 :: ps).map pipV ++ [pipV e] := fun e => by rw [List.map_append]; rfl
        have hrl : ∀ e : Pip, ((b0 :: ps) ++ [e]).length = (b0 :: ps).length + 1 := fun e => by simp
        have n1 : (b0 :: ps).map pipV ≠ [] := by simp
        have hlm : ((b0 :: ps).map pipV).length = (b0 :: ps).length := List.length_map ..
        simp only [hrel, hrl]
        generalize (b0 :: ps).map pipV = R at *
        generalize (b0 :: ps).length = ln at *
        have o1 : ∀ b, ownV b R = .own b R := fun b => by cases R with | nil => exact absurd rfl n1 | cons a r => rfl
        have o3 : ∀ b j, tokJ R b j = (b, none) :: j := fun b j => by cases R with | nil => exact absurd rfl n1 | cons a r => rfl
        have o5 : ∀ b H, dropTok R b H = hdel H b := fun b H => by cases R with | nil => exact absurd rfl n1 | cons a r => rfl
        simp only [o1, o3, o5, Zx, hlm] at hapN q2 gv
        simp only [Zx]
        have ip2 : isPre [m + 3, 17] [cb, 17, 0] = false := Go.Am.Y5 _ _ (by omega)
        try simp only [Z1]
        refine Z7 [[], [0], [], [], [], [], [5], [4, 6, 5], [3, 7, 4, 6, 5], [], [8, 3, 7, 4, 6, 5, 9], [], [11, 7, 4, 6, 5], [], [13, 12, 11, 7, 4, 6, 5], [2, 10, 8, 3, 9, 14, 13, 12, 11, 7, 4, 6, 5], [15, 2, 10, 8, 3, 9, 14, 13, 12, 11, 7, 4, 6, 5], [1, 0, 16, 15, 2, 10, 8, 3, 9, 14, 13, 12, 11, 7, 4, 6, 5], [17, 1, 0, 16, 15, 2, 10, 8, 3, 9, 14, 13, 12, 11, 7, 4, 6, 5], [18, 17, 1, 0, 16, 15, 2, 10, 8, 3, 9, 14, 13, 12, 11, 7, 4, 6, 5]] [[], [], [], [], [], [], [], [[0]], [], [], [], [], [[0]], [], [[0]], [], [], [[cb, 17, 0]], [], [[2]]] (by kernel_rfl) rfl rfl ?_
        simp -implicitDefEqProofs only [go_sem, Z0, lkn, lk11, lk13, lk31, Option.getD_some, Option.getD_none, a0, a3, a4, hT, q2, gv, r0, p1, p2, p3, hw5, hw6, hn0, bs34, hapN, ip2, Z8]
        refine ⟨_, _, ⟨a, b2, r1, r2⟩, rfl, hP, by simp -implicitDefEqProofs only [go_sem, hT], by simp -implicitDefEqProofs only [go_sem, a0], by simp -implicitDefEqProofs only [go_sem, a2], by simp -implicitDefEqProofs only [go_sem, a3], by simp -implicitDefEqProofs only [go_sem, a4], by simp -implicitDefEqProofs only [go_sem, a9], by simp only [Y2, Yu, Yv], ?_, ?_, ?_⟩
        all_goals clear hw5 hw6
        ·simp (disch := omega) only [Z0, lkn, lk11, lk31, Option.getD_none, q1]
        ·simp (disch := omega) only [Z0, Za, Option.getD_some] <;> rfl
        ·simp (disch := omega) only [Z0, Za, lk13, Option.getD_some] <;> rfl
      clear hw5 hw6 p1 p2 p3 a0 a2 a3 a4 a9 hT T d1 q1 q2 qb H1
      rintro _ ⟨T, H, e, rfl, he, hT, a0, a2, a3, a4, a9, d1, q1, q2, qb⟩
      have hps2 : ∀ x ∈ ps ++ [e], PipG vs.length x := by
       intro x hx
       rcases List.mem_append.1 hx with hx | hx
       ·exact hps x hx
       ·rw [List.mem_singleton] at hx; rw [hx]; exact he
      have hpl2 : (ps ++ [e]).length + (k - 1) <= 4 := by rw [List.length_append, List.length_singleton]; omega
      have hlt : m + 3 < (m + 1) + 3 := by omega
      have e2 : wrapF .i64 ((k : Int) - 1) = ((k - 1 : Nat) : Int) := by rw [Z5 (by omega) (by omega)]; omega
      simp -implicitDefEqProofs only [go_sem, a0, a2, a3, a4, a9, hT, e2]
      clear e2
      exact ⟨k - 1, hl1, trivial, trivial, trivial, trivial, trivial, rfl, m + 1, m + 3, _, ps ++ [e], rfl, d1, q1, q2, fun _ => ⟨hlt, qb⟩, hpl2, hps2⟩
     ·simp -implicitDefEqProofs only [go_sem, hT, hlo, hn]
      exact ⟨_, m, H, ps, _, rfl, by simp -implicitDefEqProofs only [go_sem, hT], by simp -implicitDefEqProofs only [go_sem, a0], by simp -implicitDefEqProofs only [go_sem, a2], by simp -implicitDefEqProofs only [go_sem, a3], by simp -implicitDefEqProofs only [go_sem, a4], hd, g1, g2, Xp _ _, by omega, hps⟩
    ·simp -implicitDefEqProofs only [go_sem, hT, hlo]
     exact ⟨_, m, H, ps, _, rfl, by simp -implicitDefEqProofs only [go_sem, hT], by simp -implicitDefEqProofs only [go_sem, a0], by simp -implicitDefEqProofs only [go_sem, a2], by simp -implicitDefEqProofs only [go_sem, a3], by simp -implicitDefEqProofs only [go_sem, a4], hd, g1, g2, Xp _ _, by omega, hps⟩
   clear a0 a2 a3 a4 a5 hT T hd g1 g2 H hct
   rintro _ ⟨T, m, H, ps, A1, rfl, hT, a0, a2, a3, a4, hd, g1, g2, hA1, hpsl, hps⟩
   have ut1 := fun m jr j => Z0b (H := H) (m := m) (u := u) (p := []) (jr := jr) (j := j) 3 (K + 7) hd (by decide)
   have hct := Zz (dW H) 3 (by decide)
   generalize uptoN (dW H) 3 = ct0 at *
   generalize nextW (dW H) = w1 at *
   obtain ⟨ct, rfl⟩ : ∃ q : Nat, ct0 = q := ⟨ct0.toNat, by omega⟩
   simp -implicitDefEqProofs only [go_sem, a0, hT, ut1]
   clear ut1
   simp only [Z1]
   refine Tr.Does.mono (Q := fun x => ∃ (T' : List AV) (m : Nat) (H : Heap) (ms : List Pmp) (A2 : AV), x = ((AExit.exit 6, T'), (⟨H, m + 3, [], false, []⟩ : St)) /\ T'.length = 144 /\ nth T' 0 = some (.ptr [0] 0) /\ nth T' 2 = some (.ptr [1] 0) /\ nth T' 3 = some (.ptr [2] 0) /\ nth T' 4 = some (.int .i64 vs.length) /\ isD u H /\ hget H [1] = some (.cells nil5 true 0) /\ hget H [2] = some (.cells [A0, A1, A2, .nils, .nils] true 0) /\ A2.shut = .lst (ms.map pmpV) /\ ms.length <= 2 /\ ∀ x ∈ ms, PmpG vs.length x) ?_ ?_
   ·refine Zf (fun k T s' => T.length = 144 /\ nth T 0 = some (.ptr [0] 0) /\ nth T 2 = some (.ptr [1] 0) /\ nth T 3 = some (.ptr [2] 0) /\ nth T 4 = some (.int .i64 vs.length) /\ nth T 11 = some (.int .i64 k) /\ ∃ (m cb : Nat) (H : Heap) (ms : List Pmp), s' = ⟨H, m + 3, [], false, []⟩ /\ isD u H /\ hget H [1] = some (.cells nil5 true 0) /\ hget H [2] = some (.cells [A0, A1, ownV [cb, 9, 0] (ms.map pmpV), .nils, .nils] true 0) /\ (ms ≠ [] -> cb < m + 3 /\ hget H [cb, 9, 0] = some (.tok ms.length 3)) /\ ms.length + k <= 2 /\ ∀ x ∈ ms, PmpG vs.length x) (k := ct) (by omega) ?_ ?_
    ·exact ⟨by simp -implicitDefEqProofs only [go_sem, hT], by simp -implicitDefEqProofs only [go_sem, a0], by simp -implicitDefEqProofs only [go_sem, a2], by simp -implicitDefEqProofs only [go_sem, a3], by simp -implicitDefEqProofs only [go_sem, a4], by simp -implicitDefEqProofs only [go_sem, hT], m, 0, _, [], rfl, Yy hd, by rw [hs11 (by decide)]; exact g1, by rw [hs11 (by decide)]; exact g2, fun h => absurd rfl h, by show 0 + ct <= 2; omega, fun _ h => by cases h⟩
    clear a0 a2 a3 a4 hT T hd g1 g2 H hct m
    rintro k T s' ⟨hT, a0, a2, a3, a4, a9, m, cb, H1, ms, rfl, d1, q1, q2, qb, hpl, hps⟩
    simp -implicitDefEqProofs only [go_sem, a9, hT]
    by_cases hlo : (0 : Int) < (k : Int)
    ·have hl1 : k - 1 < k := by omega
     have p1 := fun m p => Z0b (H := H1) (m := m) (u := u) (p := p) (jr := true) (j := []) vs.length (K + 7) d1 (by omega)
     have har := Zz (dW H1) vs.length (by omega)
     generalize uptoN (dW H1) vs.length = a at *
     generalize nextW (dW H1) = w2 at *
     have p2 := fun m p => Z8m (H := redoH H1 [([0], some (.cells [.int .u64 w2] true u))]) (m := m) (u := u) (p := p) (jr := true) (j := []) 200000 (K + 4) (by decide) (by decide) (Y2 (u := u) (d := []) ▸ trivial)
     rw [Z14] at p2
     have hr1 := Z2c w2 200000 (by decide)
     generalize rangeR w2 0 200000 = r1 at *
     generalize nextW (nextW w2) = w3 at *
     have hP : PmpG vs.length ⟨a, r1⟩ := ⟨har, hr1⟩
     simp -implicitDefEqProofs only [go_sem, hlo]
     simp only [Z1]
     refine Tr.Does.mono (Q := fun x => ∃ (T' : List AV) (H2 : Heap) (e : Pmp), x = (T', (⟨H2, m + 4, [], false, []⟩ : St)) /\ PmpG vs.length e /\ T'.length = 144 /\ nth T' 0 = some (.ptr [0] 0) /\ nth T' 2 = some (.ptr [1] 0) /\ nth T' 3 = some (.ptr [2] 0) /\ nth T' 4 = some (.int .i64 vs.length) /\ nth T' 11 = some (.int .i64 k) /\
      isD u H2 /\ hget H2 [1] = some (.cells nil5 true 0) /\ hget H2 [2] = some (.cells [A0, A1, ownV [m + 3, 9, 0] ((ms ++ [e]).map pmpV), .nils, .nils] true 0) /\ hget H2 [m + 3, 9, 0] = some (.tok (ms ++ [e]).length 3)) ?_ ?_
     ·have hap := fun (l : List AV) (n : Nat) (b p : Nm) (H : Heap) (hr : (l.length + 1) * 24 <= 140737488355328) (hg : l ≠ [] -> hget H b = some (.tok l.length 3)) => Yl (C := cfg.at 23) (sT := 35) (b := b) (l := l) (x := .agg [.int .i64 a, .int .i64 r1.lo, .int .i64 r1.hi]) (H := H) (n := n) (p := p) (jr := true) (j := []) (z := 3) Zoc Zi2 rfl rfl rfl rfl rfl rfl hr hg
      have gv : hget (hdel (hdel H1 [0]) [0]) [2] = some (.cells [A0, A1, ownV [cb, 9, 0] (ms.map pmpV), .nils, .nils] true 0) := by
       rw [hd11 (by decide), hd11 (by decide)]; exact q2
      cases ms with
      | nil =>
       have hap0 := fun (n : Nat) (p : Nm) (H : Heap) => hap [] n [] p H (by simp) (fun h => absurd rfl h)
       simp only [ownV, dropTok, tokJ, List.nil_append, List.length_nil, List.map_nil] at hap0 q2 gv
       try simp only [Z1]
       refine Z7 [[], [0], [], [], [2, 3], [], [5, 4, 2, 3], [6, 5, 4, 2, 3], [7, 6, 5, 4, 2, 3], [1, 0, 8, 7, 6, 5, 4, 2, 3], [9, 1, 0, 8, 7, 6, 5, 4, 2, 3], [10, 9, 1, 0, 8, 7, 6, 5, 4, 2, 3]] [[], [], [], [], [[0]], [], [[0]], [], [], [], [], [[2]]] (by kernel_rfl) rfl rfl ?_
       simp -implicitDefEqProofs only [go_sem, Z0, lkn, lk11, lk31, Option.getD_some, Option.getD_none, a0, a3, a4, hT, q2, gv, p1, p2, bs35, hap0, Z8]
       refine ⟨_, _, ⟨a, r1⟩, rfl, hP, by simp -implicitDefEqProofs only [go_sem, hT], by simp -implicitDefEqProofs only [go_sem, a0], by simp -implicitDefEqProofs only [go_sem, a2], by simp -implicitDefEqProofs only [go_sem, a3], by simp -implicitDefEqProofs only [go_sem, a4], by simp -implicitDefEqProofs only [go_sem, a9], by simp only [Y2, Yu, Yv], ?_, ?_, ?_⟩
       ·simp (disch := omega) only [Z0, lkn, lk11, lk31, Option.getD_none, q1]
       ·simp (disch := omega) only [Z0, Za, Option.getD_some] <;> rfl
       ·simp (disch := omega) only [Z0, Za, lk13, Option.getD_some] <;> rfl
      | cons b0 ms =>
       obtain ⟨hcb, r0⟩ := qb (by simp)
       have hapN := fun (n : Nat) (p : Nm) (H : Heap) (hg : hget H [cb, 9, 0] = some (.tok (b0 :: ms).length 3)) => hap ((b0 :: ms).map pmpV) n [cb, 9, 0] p H (by rw [List.length_map]; omega) (fun _ => by rw [List.length_map]; exact hg)
       have hrel : ∀ e : Pmp, ((b0 :: ms) ++ [e]).map pmpV = (b0 :: ms).map pmpV ++ [pmpV e] := fun e => by rw [List.map_append]; rfl
       have hrl : ∀ e : Pmp, ((b0 :: ms) ++ [e]).length = (b0 :: ms).length + 1 := fun e => by simp
       have n1 : (b0 :: ms).map pmpV ≠ [] := by simp
       have hlm : ((b0 :: ms).map pmpV).length = (b0 :: ms).length := List.length_map ..
       simp only [hrel, hrl]
       generalize (b0 :: ms).map pmpV = R at *
       generalize (b0 :: ms).length = ln at *
       have o1 : ∀ b, ownV b R = .own b R := fun b => by cases R with | nil => exact absurd rfl n1 | cons a r => rfl
       have o3 : ∀ b j, tokJ R b j = (b, none) :: j := fun b j => by cases R with | nil => exact absurd rfl n1 | cons a r => rfl
       have o5 : ∀ b H, dropTok R b H = hdel H b := fun b H => by cases R with | nil => exact absurd rfl n1 | cons a r => rfl
       simp only [o1, o3, o5, Zx, hlm] at hapN q2 gv
       simp only [Zx]
       have ip2 : isPre [m + 3, 9] [cb, 9, 0] = false := Go.Am.Y5 _ _ (by omega)
       try simp only [Z1]
       refine Z7 [[], [0], [], [], [2, 3], [], [5, 4, 2, 3], [6, 5, 4, 2, 3], [7, 6, 5, 4, 2, 3], [1, 0, 8, 7, 6, 5, 4, 2, 3], [9, 1, 0, 8, 7, 6, 5, 4, 2, 3], [10, 9, 1, 0, 8, 7, 6, 5, 4, 2, 3]] [[], [], [], [], [[0]], [], [[0]], [], [], [[cb, 9, 0]], [], [[2]]] (by kernel_rfl) rfl rfl ?_
       simp -implicitDefEqProofs only [go_sem, Z0, lkn, lk11, lk13, lk31, Option.getD_some, Option.getD_none, a0, a3, a4, hT, q2, gv, p1, p2, bs35, r0, hapN, ip2, Z8]
       refine ⟨_, _, ⟨a, r1⟩, rfl, hP, by simp -implicitDefEqProofs only [go_sem, hT], by simp -implicitDefEqProofs only [go_sem, a0], by simp -implicitDefEqProofs only [go_sem, a2], by simp -implicitDefEqProofs only [go_sem, a3], by simp -implicitDefEqProofs only [go_sem, a4], by simp -implicitDefEqProofs only [go_sem, a9], by simp only [Y2, Yu, Yv], ?_, ?_, ?_⟩
       ·simp (disch := omega) only [Z0, lkn, lk11, lk31, Option.getD_none, q1]
       ·simp (disch := omega) only [Z0, Za, Option.getD_some] <;> rfl
       ·simp (disch := omega) only [Z0, Za, lk13, Option.getD_some] <;> rfl
     clear p1 p2 a0 a2 a3 a4 a9 hT T d1 q1 q2 qb H1
     rintro _ ⟨T, H, e, rfl, he, hT, a0, a2, a3, a4, a9, d1, q1, q2, qb⟩
     have hps2 : ∀ x ∈ ms ++ [e], PmpG vs.length x := by
      intro x hx
      rcases List.mem_append.1 hx with hx | hx
      ·exact hps x hx
      ·rw [List.mem_singleton] at hx; rw [hx]; exact he
     have hpl2 : (ms ++ [e]).length + (k - 1) <= 2 := by rw [List.length_append, List.length_singleton]; omega
     have hlt : m + 3 < (m + 1) + 3 := by omega
     have e2 : wrapF .i64 ((k : Int) - 1) = ((k - 1 : Nat) : Int) := by rw [Z5 (by omega) (by omega)]; omega
     simp -implicitDefEqProofs only [go_sem, a0, a2, a3, a4, a9, hT, e2]
     clear e2
     exact ⟨k - 1, hl1, trivial, trivial, trivial, trivial, trivial, rfl, m + 1, m + 3, _, ms ++ [e], rfl, d1, q1, q2, fun _ => ⟨hlt, qb⟩, hpl2, hps2⟩
    ·simp -implicitDefEqProofs only [go_sem, hlo]
     exact ⟨_, m, H1, ms, _, rfl, by simp -implicitDefEqProofs only [go_sem, hT], by simp -implicitDefEqProofs only [go_sem, a0], by simp -implicitDefEqProofs only [go_sem, a2], by simp -implicitDefEqProofs only [go_sem, a3], by simp -implicitDefEqProofs only [go_sem, a4], d1, q1, q2, Xp _ _, by omega, hps⟩
   clear a0 a2 a3 a4 hT T hd g1 g2 H hct m
   rintro _ ⟨T, m, H, ms, A2, rfl, hT, a0, a2, a3, a4, hd, g1, g2, hA2, hmsl, hms⟩
   have ut1 := fun m jr j => Z0b (H := H) (m := m) (u := u) (p := []) (jr := jr) (j := j) 3 (K + 7) hd (by decide)
   have hct := Zz (dW H) 3 (by decide)
   generalize uptoN (dW H) 3 = ct0 at *
   generalize nextW (dW H) = w1 at *
   obtain ⟨ct, rfl⟩ : ∃ q : Nat, ct0 = q := ⟨ct0.toNat, by omega⟩
   simp -implicitDefEqProofs only [go_sem, a0, hT, ut1]
   clear ut1
   simp only [Z1]
   refine Tr.Does.mono (Q := fun x => ∃ (T' : List AV) (m : Nat) (H : Heap) (ls : List Inl) (A3 : AV), x = ((AExit.exit 8, T'), (⟨H, m + 3, [], false, []⟩ : St)) /\ T'.length = 144 /\ nth T' 0 = some (.ptr [0] 0) /\ nth T' 2 = some (.ptr [1] 0) /\ nth T' 3 = some (.ptr [2] 0) /\ nth T' 4 = some (.int .i64 vs.length) /\ isD u H /\ hget H [1] = some (.cells nil5 true 0) /\ hget H [2] = some (.cells [A0, A1, A2, A3, .nils] true 0) /\ A3.shut = .lst (ls.map inlV) /\ ls.length <= 2 /\ ∀ x ∈ ls, InlG vs.length x) ?_ ?_
   ·refine Zf (fun k T s' => T.length = 144 /\ nth T 0 = some (.ptr [0] 0) /\ nth T 2 = some (.ptr [1] 0) /\ nth T 3 = some (.ptr [2] 0) /\ nth T 4 = some (.int .i64 vs.length) /\ nth T 12 = some (.int .i64 k) /\ ∃ (m cb : Nat) (H : Heap) (ls : List Inl), s' = ⟨H, m + 3, [], false, []⟩ /\ isD u H /\ hget H [1] = some (.cells nil5 true 0) /\ hget H [2] = some (.cells [A0, A1, A2, ownV [cb, 9, 0] (ls.map inlV), .nils] true 0) /\ (ls ≠ [] -> cb < m + 3 /\ hget H [cb, 9, 0] = some (.tok ls.length 3)) /\ ls.length + k <= 2 /\ ∀ x ∈ ls, InlG vs.length x) (k := ct) (by omega) ?_ ?_
    ·exact ⟨by simp -implicitDefEqProofs only [go_sem, hT], by simp -implicitDefEqProofs only [go_sem, a0], by simp -implicitDefEqProofs only [go_sem, a2], by simp -implicitDefEqProofs only [go_sem, a3], by simp -implicitDefEqProofs only [go_sem, a4], by simp -implicitDefEqProofs only [go_sem, hT], m, 0, _, [], rfl, Yy hd, by rw [hs11 (by decide)]; exact g1, by rw [hs11 (by decide)]; exact g2, fun h => absurd rfl h, by show 0 + ct <= 2; omega, fun _ h => by cases h⟩
    clear a0 a2 a3 a4 hT T hd g1 g2 H hct m
    rintro k T s' ⟨hT, a0, a2, a3, a4, a9, m, cb, H1, ls, rfl, d1, q1, q2, qb, hpl, hps⟩
    simp -implicitDefEqProofs only [go_sem, a9, hT]
    by_cases hlo : (0 : Int) < (k : Int)
    ·have hl1 : k - 1 < k := by omega
     have p1 := fun m p => Z0b (H := H1) (m := m) (u := u) (p := p) (jr := true) (j := []) vs.length (K + 7) d1 (by omega)
     have har := Zz (dW H1) vs.length (by omega)
     generalize uptoN (dW H1) vs.length = a at *
     generalize nextW (dW H1) = w2 at *
     have p2 := fun m p => Z77 (H := redoH H1 [([0], some (.cells [.int .u64 w2] true u))]) (m := m) (u := u) (p := p) (jr := true) (j := []) 0 30 (K + 5) (by decide) (by decide) (by decide) (Y2 (u := u) (d := []) ▸ trivial)
     rw [Z14] at p2
     have hr1 := Z2c w2 30 (by decide)
     generalize rangeR w2 0 30 = r1 at *
     generalize nextW (nextW w2) = w3 at *
     have hP : InlG vs.length ⟨a, r1⟩ := ⟨har, hr1⟩
     simp -implicitDefEqProofs only [go_sem, hlo]
     simp only [Z1]
     refine Tr.Does.mono (Q := fun x => ∃ (T' : List AV) (H2 : Heap) (e : Inl), x = (T', (⟨H2, m + 4, [], false, []⟩ : St)) /\ InlG vs.length e /\ T'.length = 144 /\ nth T' 0 = some (.ptr [0] 0) /\ nth T' 2 = some (.ptr [1] 0) /\ nth T' 3 = some (.ptr [2] 0) /\ nth T' 4 = some (.int .i64 vs.length) /\ nth T' 12 = some (.int .i64 k) /\
      isD u H2 /\ hget H2 [1] = some (.cells nil5 true 0) /\ hget H2 [2] = some (.cells [A0, A1, A2, ownV [m + 3, 9, 0] ((ls ++ [e]).map inlV), .nils] true 0) /\ hget H2 [m + 3, 9, 0] = some (.tok (ls ++ [e]).length 3)) ?_ ?_
     ·have hap := fun (l : List AV) (n : Nat) (b p : Nm) (H : Heap) (hr : (l.length + 1) * 24 <= 140737488355328) (hg : l ≠ [] -> hget H b = some (.tok l.length 3)) => Yl (C := cfg.at 23) (sT := 36) (b := b) (l := l) (x := .agg [.int .i64 a, .int .i64 r1.lo, .int .i64 r1.hi]) (H := H) (n := n) (p := p) (jr := true) (j := []) (z := 3) Zod Zmj rfl rfl rfl rfl rfl rfl hr hg
      have gv : hget (hdel (hdel H1 [0]) [0]) [2] = some (.cells [A0, A1, A2, ownV [cb, 9, 0] (ls.map inlV), .nils] true 0) := by
       rw [hd11 (by decide), hd11 (by decide)]; exact q2
      cases ls with
      | nil =>
       have hap0 := fun (n : Nat) (p : Nm) (H : Heap) => hap [] n [] p H (by simp) (fun h => absurd rfl h)
       simp only [ownV, dropTok, tokJ, List.nil_append, List.length_nil, List.map_nil] at hap0 q2 gv
       try simp only [Z1]
       refine Z7 [[], [0], [], [], [2, 3], [], [5, 4, 2, 3], [6, 5, 4, 2, 3], [7, 6, 5, 4, 2, 3], [1, 0, 8, 7, 6, 5, 4, 2, 3], [9, 1, 0, 8, 7, 6, 5, 4, 2, 3], [10, 9, 1, 0, 8, 7, 6, 5, 4, 2, 3]] [[], [], [], [], [[0]], [], [[0]], [], [], [], [], [[2]]] (by kernel_rfl) rfl rfl ?_
       simp -implicitDefEqProofs only [go_sem, Z0, lkn, lk11, lk31, Option.getD_some, Option.getD_none, a0, a3, a4, hT, q2, gv, p1, p2, bs36, hap0, Z8]
       refine ⟨_, _, ⟨a, r1⟩, rfl, hP, by simp -implicitDefEqProofs only [go_sem, hT], by simp -implicitDefEqProofs only [go_sem, a0], by simp -implicitDefEqProofs only [go_sem, a2], by simp -implicitDefEqProofs only [go_sem, a3], by simp -implicitDefEqProofs only [go_sem, a4], by simp -implicitDefEqProofs only [go_sem, a9], by simp only [Y2, Yu, Yv], ?_, ?_, ?_⟩
       ·simp (disch := omega) only [Z0, lkn, lk11, lk31, Option.getD_none, q1]
       ·simp (disch := omega) only [Z0, Za, Option.getD_some] <;> rfl
       ·simp (disch := omega) only [Z0, Za, lk13, Option.getD_some] <;> rfl
      | cons b0 ls =>
       obtain ⟨hcb, r0⟩ := qb (by simp)
       have hapN := fun (n : Nat) (p : Nm) (H : Heap) (hg : hget H [cb, 9, 0] = some (.tok (b0 :: ls).length 3)) => hap ((b0 :: ls).map inlV) n [cb, 9, 0] p H (by rw [List.length_map]; omega) (fun _ => by rw [List.length_map]; exact hg)
       have hrel : ∀ e : Inl, ((b0 :: ls) ++ [e]).map inlV = (b0 :: ls).map inlV ++ [inlV e] := fun e => by rw [List.map_append]; rfl
       have hrl : ∀ e : Inl, ((b0 :: ls) ++ [e]).length = (b0 :: ls).length + 1 := fun e => by simp
       have n1 : (b0 :: ls).map inlV ≠ [] := by simp
       have hlm : ((b0 :: ls).map inlV).length = (b0 :: ls).length := List.length_map ..
       simp only [hrel, hrl]
       generalize (b0 :: ls).map inlV = R at *
       generalize (b0 :: ls).length = ln at *
       have o1 : ∀ b, ownV b R = .own b R := fun b => by cases R with | nil => exact absurd rfl n1 | cons a r => rfl
       have o3 : ∀ b j, tokJ R b j = (b, none) :: j := fun b j => by cases R with | nil => exact absurd rfl n1 | cons a r => rfl
       have o5 : ∀ b H, dropTok R b H = hdel H b := fun b H => by cases R with | nil => exact absurd rfl n1 | cons a r => rfl
       simp only [o1, o3, o5, Zx, hlm] at hapN q2 gv
       simp only [Zx]
       have ip2 : isPre [m + 3, 9] [cb, 9, 0] = false := Go.Am.Y5 _ _ (by omega)
       try simp only [Z1]
       refine Z7 [[], [0], [], [], [2, 3], [], [5, 4, 2, 3], [6, 5, 4, 2, 3], [7, 6, 5, 4, 2, 3], [1, 0, 8, 7, 6, 5, 4, 2, 3], [9, 1, 0, 8, 7, 6, 5, 4, 2, 3], [10, 9, 1, 0, 8, 7, 6, 5, 4, 2, 3]] [[], [], [], [], [[0]], [], [[0]], [], [], [[cb, 9, 0]], [], [[2]]] (by kernel_rfl) rfl rfl ?_
       simp -implicitDefEqProofs only [go_sem, Z0, lkn, lk11, lk13, lk31, Option.getD_some, Option.getD_none, a0, a3, a4, hT, q2, gv, p1, p2, bs36, r0, hapN, ip2, Z8]
       refine ⟨_, _, ⟨a, r1⟩, rfl, hP, by simp -implicitDefEqProofs only [go_sem, hT], by simp -implicitDefEqProofs only [go_sem, a0], by simp -implicitDefEqProofs only [go_sem, a2], by simp -implicitDefEqProofs only [go_sem, a3], by simp -implicitDefEqProofs only [go_sem, a4], by simp -implicitDefEqProofs only [go_sem, a9], by simp only [Y2, Yu, Yv], ?_, ?_, ?_⟩
       ·simp (disch := omega) only [Z0, lkn, lk11, lk31, Option.getD_none, q1]
       ·simp (disch := omega) only [Z0, Za, Option.getD_some] <;> rfl
       ·simp (disch := omega) only [Z0, Za, lk13, Option.getD_some] <;> rfl
     clear p1 p2 a0 a2 a3 a4 a9 hT T d1 q1 q2 qb H1
     rintro _ ⟨T, H, e, rfl, he, hT, a0, a2, a3, a4, a9, d1, q1, q2, qb⟩
     have hps2 : ∀ x ∈ ls ++ [e], InlG vs.length x := by
      intro x hx
      rcases List.mem_append.1 hx with hx | hx
      ·exact hps x hx
      ·rw [List.mem_singleton] at hx; rw [hx]; exact he
     have hpl2 : (ls ++ [e]).length + (k - 1) <= 2 := by rw [List.length_append, List.length_singleton]; omega
     have hlt : m + 3 < (m + 1) + 3 := by omega
     have e2 : wrapF .i64 ((k : Int) - 1) = ((k - 1 : Nat) : Int) := by rw [Z5 (by omega) (by omega)]; omega
     simp -implicitDefEqProofs only [go_sem, a0, a2, a3, a4, a9, hT, e2]
     clear e2
     exact ⟨k - 1, hl1, trivial, trivial, trivial, trivial, trivial, rfl, m + 1, m + 3, _, ls ++ [e], rfl, d1, q1, q2, fun _ => ⟨hlt, qb⟩, hpl2, hps2⟩
    ·simp -implicitDefEqProofs only [go_sem, hlo]
     exact ⟨_, m, H1, ls, _, rfl, by simp -implicitDefEqProofs only [go_sem, hT], by simp -implicitDefEqProofs only [go_sem, a0], by simp -implicitDefEqProofs only [go_sem, a2], by simp -implicitDefEqProofs only [go_sem, a3], by simp -implicitDefEqProofs only [go_sem, a4], d1, q1, q2, Xp _ _, by omega, hps⟩
   clear a0 a2 a3 a4 hT T hd g1 g2 H hct m
   rintro _ ⟨T, m, H, ls, A3, rfl, hT, a0, a2, a3, a4, hd, g1, g2, hA3, hlsl, hls⟩
   have ut1 := fun m jr j => Z0b (H := H) (m := m) (u := u) (p := []) (jr := jr) (j := j) 3 (K + 7) hd (by decide)
   have hct := Zz (dW H) 3 (by decide)
   generalize uptoN (dW H) 3 = ct0 at *
   generalize nextW (dW H) = w1 at *
   obtain ⟨ct, rfl⟩ : ∃ q : Nat, ct0 = q := ⟨ct0.toNat, by omega⟩
   simp -implicitDefEqProofs only [go_sem, a0, hT, ut1]
   clear ut1
   simp only [Z1]
   refine Tr.Does.mono (Q := fun x => ∃ (T' : List AV) (m : Nat) (H : Heap) (qs : List Gtr) (A4 : AV), x = ((AExit.exit 10, T'), (⟨H, m + 3, [], false, []⟩ : St)) /\ T'.length = 144 /\ nth T' 0 = some (.ptr [0] 0) /\ nth T' 2 = some (.ptr [1] 0) /\ nth T' 3 = some (.ptr [2] 0) /\ nth T' 4 = some (.int .i64 vs.length) /\ isD u H /\ hget H [1] = some (.cells nil5 true 0) /\ hget H [2] = some (.cells [A0, A1, A2, A3, A4] true 0) /\ A4.shut = .lst (qs.map gtrV) /\ qs.length <= 2 /\ ∀ x ∈ qs, GtrG vs.length x) ?_ ?_
   ·refine Zf (fun k T s' => T.length = 144 /\ nth T 0 = some (.ptr [0] 0) /\ nth T 2 = some (.ptr [1] 0) /\ nth T 3 = some (.ptr [2] 0) /\ nth T 4 = some (.int .i64 vs.length) /\ nth T 13 = some (.int .i64 k) /\ ∃ (m cb : Nat) (H : Heap) (qs : List Gtr), s' = ⟨H, m + 3, [], false, []⟩ /\ isD u H /\ hget H [1] = some (.cells nil5 true 0) /\ hget H [2] = some (.cells [A0, A1, A2, A3, ownV [cb, 11, 0] (qs.map gtrV)] true 0) /\ (qs ≠ [] -> cb < m + 3 /\ hget H [cb, 11, 0] = some (.tok qs.length 5)) /\ qs.length + k <= 2 /\ ∀ x ∈ qs, GtrG vs.length x) (k := ct) (by omega) ?_ ?_
    ·exact ⟨by simp -implicitDefEqProofs only [go_sem, hT], by simp -implicitDefEqProofs only [go_sem, a0], by simp -implicitDefEqProofs only [go_sem, a2], by simp -implicitDefEqProofs only [go_sem, a3], by simp -implicitDefEqProofs only [go_sem, a4], by simp -implicitDefEqProofs only [go_sem, hT], m, 0, _, [], rfl, Yy hd, by rw [hs11 (by decide)]; exact g1, by rw [hs11 (by decide)]; exact g2, fun h => absurd rfl h, by show 0 + ct <= 2; omega, fun _ h => by cases h⟩
    clear a0 a2 a3 a4 hT T hd g1 g2 H hct m
    rintro k T s' ⟨hT, a0, a2, a3, a4, a9, m, cb, H1, qs, rfl, d1, q1, q2, qb, hpl, hps⟩
    simp -implicitDefEqProofs only [go_sem, a9, hT]
    by_cases hlo : (0 : Int) < (k : Int)
    ·have hl1 : k - 1 < k := by omega
     have p1 := fun m p => Z0b (H := H1) (m := m) (u := u) (p := p) (jr := true) (j := []) vs.length (K + 7) d1 (by omega)
     have har := Zz (dW H1) vs.length (by omega)
     generalize uptoN (dW H1) vs.length = a at *
     generalize nextW (dW H1) = w2 at *
     have p2 := fun m p => Z8m (H := redoH H1 [([0], some (.cells [.int .u64 w2] true u))]) (m := m) (u := u) (p := p) (jr := true) (j := []) 300000 (K + 4) (by decide) (by decide) (Y2 (u := u) (d := []) ▸ trivial)
     rw [Z14] at p2
     have hr1 := Z2c w2 300000 (by decide)
     generalize rangeR w2 0 300000 = r1 at *
     generalize nextW (nextW w2) = w3 at *
     have p3 := fun m p => Z77 (H := redoH (redoH H1 [([0], some (.cells [.int .u64 w2] true u))]) [([0], some (.cells [.int .u64 w3] true u))]) (m := m) (u := u) (p := p) (jr := true) (j := []) 0 9000 (K + 5) (by decide) (by decide) (by decide) (Y2 (u := u) (d := []) ▸ trivial)
     rw [Z14] at p3
     have hr2 := Z2c w3 9000 (by decide)
     generalize rangeR w3 0 9000 = r2 at *
     generalize nextW (nextW w3) = w4 at *
     have hP : GtrG vs.length ⟨a, r1, r2⟩ := ⟨har, hr1, hr2⟩
     simp -implicitDefEqProofs only [go_sem, hlo]
     simp only [Z1]
     refine Tr.Does.mono (Q := fun x => ∃ (T' : List AV) (H2 : Heap) (e : Gtr), x = (T', (⟨H2, m + 4, [], false, []⟩ : St)) /\ GtrG vs.length e /\ T'.length = 144 /\ nth T' 0 = some (.ptr [0] 0) /\ nth T' 2 = some (.ptr [1] 0) /\ nth T' 3 = some (.ptr [2] 0) /\ nth T' 4 = some (.int .i64 vs.length) /\ nth T' 13 = some (.int .i64 k) /\
      isD u H2 /\ hget H2 [1] = some (.cells nil5 true 0) /\ hget H2 [2] = some (.cells [A0, A1, A2, A3, ownV [m + 3, 11, 0] ((qs ++ [e]).map gtrV)] true 0) /\ hget H2 [m + 3, 11, 0] = some (.tok (qs ++ [e]).length 5)) ?_ ?_
     ·have hap := fun (l : List AV) (n : Nat) (b p : Nm) (H : Heap) (hr : (l.length + 1) * 40 <= 140737488355328) (hg : l ≠ [] -> hget H b = some (.tok l.length 5)) => Yl (C := cfg.at 23) (sT := 37) (b := b) (l := l) (x := .agg [.int .i64 a, .int .i64 r1.lo, .int .i64 r1.hi, .int .i64 r2.lo, .int .i64 r2.hi]) (H := H) (n := n) (p := p) (jr := true) (j := []) (z := 5) Zoe Zi5 rfl rfl rfl rfl rfl rfl hr hg
      have gv : hget (hdel (hdel (hdel H1 [0]) [0]) [0]) [2] = some (.cells [A0, A1, A2, A3, ownV [cb, 11, 0] (qs.map gtrV)] true 0) := by
       rw [hd11 (by decide), hd11 (by decide), hd11 (by decide)]; exact q2
      cases qs with
      | nil =>
       have hap0 := fun (n : Nat) (p : Nm) (H : Heap) => hap [] n [] p H (by simp) (fun h => absurd rfl h)
       simp only [ownV, dropTok, tokJ, List.nil_append, List.length_nil, List.map_nil] at hap0 q2 gv
       try simp only [Z1]
       refine Z7 [[], [0], [], [], [2, 3], [], [5, 4, 2, 3], [], [7, 6, 5, 4, 2, 3], [8, 7, 6, 5, 4, 2, 3], [9, 8, 7, 6, 5, 4, 2, 3], [1, 0, 10, 9, 8, 7, 6, 5, 4, 2, 3], [11, 1, 0, 10, 9, 8, 7, 6, 5, 4, 2, 3], [12, 11, 1, 0, 10, 9, 8, 7, 6, 5, 4, 2, 3]] [[], [], [], [], [[0]], [], [[0]], [], [[0]], [], [], [], [], [[2]]] (by kernel_rfl) rfl rfl ?_
       simp -implicitDefEqProofs only [go_sem, Z0, lkn, lk11, lk31, Option.getD_some, Option.getD_none, a0, a3, a4, hT, q2, gv, p1, p2, p3, bs37, hap0, Z8]
       refine ⟨_, _, ⟨a, r1, r2⟩, rfl, hP, by simp -implicitDefEqProofs only [go_sem, hT], by simp -implicitDefEqProofs only [go_sem, a0], by simp -implicitDefEqProofs only [go_sem, a2], by simp -implicitDefEqProofs only [go_sem, a3], by simp -implicitDefEqProofs only [go_sem, a4], by simp -implicitDefEqProofs only [go_sem, a9], by simp only [Y2, Yu, Yv], ?_, ?_, ?_⟩
       ·simp (disch := omega) only [Z0, lkn, lk11, lk31, Option.getD_none, q1]
       ·simp (disch := omega) only [Z0, Za, Option.getD_some] <;> rfl
       ·simp (disch := omega) only [Z0, Za, lk13, Option.getD_some] <;> rfl
      | cons b0 qs =>
       obtain ⟨hcb, r0⟩ := qb (by simp)
       have hapN := fun (n : Nat) (p : Nm) (H : Heap) (hg : hget H [cb, 11, 0] = some (.tok (b0 :: qs).length 5)) => hap ((b0 :: qs).map gtrV) n [cb, 11, 0] p H (by rw [List.length_map]; omega) (fun _ => by rw [List.length_map]; exact hg)
       have hrel : ∀ e : Gtr, ((b0 :: qs) ++ [e]).map gtrV = (b0 :: qs).map gtrV ++ [gtrV e] := fun e => by rw [List.map_append]; rfl
       have hrl : ∀ e : Gtr, ((b0 :: qs) ++ [e]).length = (b0 :: qs).length + 1 := fun e => by simp
       have n1 : (b0 :: qs).map gtrV ≠ [] := by simp
       have hlm : ((b0 :: qs).map gtrV).length = (b0 :: qs).length := List.length_map ..
       simp only [hrel, hrl]
       generalize (b0 :: qs).map gtrV = R at *
       generalize (b0 :: qs).length = ln at *
       have o1 : ∀ b, ownV b R = .own b R := fun b => by cases R with | nil => exact absurd rfl n1 | cons a r => rfl
       have o3 : ∀ b j, tokJ R b j = (b, none) :: j := fun b j => by cases R with | nil => exact absurd rfl n1 | cons a r => rfl
       have o5 : ∀ b H, dropTok R b H = hdel H b := fun b H => by cases R with | nil => exact absurd rfl n1 | cons a r => rfl
       simp only [o1, o3, o5, Zx, hlm] at hapN q2 gv
       simp only [Zx]
       have ip2 : isPre [m + 3, 11] [cb, 11, 0] = false := Go.Am.Y5 _ _ (by omega)
       try simp only [Z1]
       refine Z7 [[], [0], [], [], [2, 3], [], [5, 4, 2, 3], [], [7, 6, 5, 4, 2, 3], [8, 7, 6, 5, 4, 2, 3], [9, 8, 7, 6, 5, 4, 2, 3], [1, 0, 10, 9, 8, 7, 6, 5, 4, 2, 3], [11, 1, 0, 10, 9, 8, 7, 6, 5, 4, 2, 3], [12, 11, 1, 0, 10, 9, 8, 7, 6, 5, 4, 2, 3]] [[], [], [], [], [[0]], [], [[0]], [], [[0]], [], [], [[cb, 11, 0]], [], [[2]]] (by kernel_rfl) rfl rfl ?_
       simp -implicitDefEqProofs only [go_sem, Z0, lkn, lk11, lk13, lk31, Option.getD_some, Option.getD_none, a0, a3, a4, hT, q2, gv, p1, p2, p3, bs37, r0, hapN, ip2, Z8]
       refine ⟨_, _, ⟨a, r1, r2⟩, rfl, hP, by simp -implicitDefEqProofs only [go_sem, hT], by simp -implicitDefEqProofs only [go_sem, a0], by simp -implicitDefEqProofs only [go_sem, a2], by simp -implicitDefEqProofs only [go_sem, a3], by simp -implicitDefEqProofs only [go_sem, a4], by simp -implicitDefEqProofs only [go_sem, a9], by simp only [Y2, Yu, Yv], ?_, ?_, ?_⟩
       ·simp (disch := omega) only [Z0, lkn, lk11, lk31, Option.getD_none, q1]
       ·simp (disch := omega) only [Z0, Za, Option.getD_some] <;> rfl
       ·simp (disch := omega) only [Z0, Za, lk13, Option.getD_some] <;> rfl
     clear p1 p2 p3 a0 a2 a3 a4 a9 hT T d1 q1 q2 qb H1
     rintro _ ⟨T, H, e, rfl, he, hT, a0, a2, a3, a4, a9, d1, q1, q2, qb⟩
     have hps2 : ∀ x ∈ qs ++ [e], GtrG vs.length x := by
      intro x hx
      rcases List.mem_append.1 hx with hx | hx
      ·exact hps x hx
      ·rw [List.mem_singleton] at hx; rw [hx]; exact he
     have hpl2 : (qs ++ [e]).length + (k - 1) <= 2 := by rw [List.length_append, List.length_singleton]; omega
     have hlt : m + 3 < (m + 1) + 3 := by omega
     have e2 : wrapF .i64 ((k : Int) - 1) = ((k - 1 : Nat) : Int) := by rw [Z5 (by omega) (by omega)]; omega
     simp -implicitDefEqProofs only [go_sem, a0, a2, a3, a4, a9, hT, e2]
     clear e2
     exact ⟨k - 1, hl1, trivial, trivial, trivial, trivial, trivial, rfl, m + 1, m + 3, _, qs ++ [e], rfl, d1, q1, q2, fun _ => ⟨hlt, qb⟩, hpl2, hps2⟩
    ·simp -implicitDefEqProofs only [go_sem, hlo]
     exact ⟨_, m, H1, qs, _, rfl, by simp -implicitDefEqProofs only [go_sem, hT], by simp -implicitDefEqProofs only [go_sem, a0], by simp -implicitDefEqProofs only [go_sem, a2], by simp -implicitDefEqProofs only [go_sem, a3], by simp -implicitDefEqProofs only [go_sem, a4], d1, q1, q2, Xp _ _, by omega, hps⟩
   clear a0 a2 a3 a4 hT T hd g1 g2 H hct m
   rintro _ ⟨T, m, H, qs, A4, rfl, hT, a0, a2, a3, a4, hd, g1, g2, hA4, hqsl, hqs⟩
   have e1 : ∀ Z, hget (hset H [1] Z) [1] = some Z := fun Z => hss g1
   have e0 : ∀ Z, hget (hset H [1] Z) [0] = hget H [0] := fun Z => hs11 (by decide)
   have hz : (AV.agg [A0, A1, A2, A3, A4]).shut = vacV ⟨vs, ps, ms, ls, qs⟩ := by
    simp only [AV.shut, shuts, hA0, hA1, hA2, hA3, hA4, vacV]
   simp only [nil5] at g1
   simp -implicitDefEqProofs only [go_sem, a2, a3, hT, g1, g2, e1, e0, Try.results23]
   exact ⟨⟨vs, ps, ms, ls, qs⟩, dW H, ⟨by show 1 <= vs.length; omega, by show vs.length <= 4; omega, hvs, hpsl, hps, hmsl, hms, hlsl, hls, hqsl, hqs⟩, hz, Z07 hd⟩
 obtain ⟨v, w', hg, hd⟩ := key
 refine ⟨v, w', hg, ?_⟩
 exact Z67 (v := vacV v) Zmr Zmq hb rfl rfl rfl rfl rfl rfl (by rfl) (by simp only [vacV, renV, renVs, Xs, Xt, Xu, Xv, Xw]) hd
end Go.Proofs.Ytgnpnfkncbnjnaa
namespace Go.Proofs.Ytgnpnfkncbnjnaa
open Go Go.Am
attribute [local congr] Ze Zb Zc
attribute [local go_sem] Go.Am.buildSliceA Go.Am.frozen Go.Am.freezeG Go.Am.freezeGs Go.Am.minmax
theorem Zgo (l : List Rg) : flatA (l.map rgV) = l.flatMap rgC := by
 induction l with
 | nil => rfl
 | cons a l ih => simp only [List.map_cons, flatA, List.flatMap_cons, ih]; rfl
end Go.Proofs.Ytgnpnfkncbnjnaa
namespace Go.Proofs.Ytgnpnfkncbnjnaa
open Go Go.Am
attribute [local congr] Ze Zb Zc
attribute [local go_sem] Go.Am.buildSliceA Go.Am.minmax
def rowV (l : List Rg) : AV := .lst (l.map rgV)
@[go_sem] theorem Zy4 (R : List (List Rg)) : flats (R.map rowV) = true := by
 induction R with
 | nil => rfl
 | cons a r ih =>
  show flats (AV.lst (a.map rgV) :: r.map rowV) = true
  simp only [flats, AV.flat, Z86, ih]
end Go.Proofs.Ytgnpnfkncbnjnaa
namespace Go.Am
open Go
section
variable {C : Cfg} {sT e : TypeId} {i : TI} {zv : AV}
end
end Go.Am
namespace Go.Proofs.Ytgnpnfkncbnjnaa
open Go Go.Am
attribute [local congr] Ze Zb Zc
attribute [local go_sem] Go.Am.frozen Go.Am.freezeG Go.Am.freezeGs Go.Am.minmax
structure Gs.Lens (g : Gs) : Prop where
 f : g.free.length <= 9223372036854775807
 b : g.bound.length <= 9223372036854775807
 r : g.room.length <= 9223372036854775807
theorem Zb6 {v : Vac} (h : checkE v = 0) : 1 <= v.vessels.length /\ v.vessels.length <= 8 /\ v.pipes.length <= 16 /\ v.pumps.length <= 8 /\ v.leaks.length <= 8 /\ v.getters.length <= 8 := by
 unfold checkE at h
 split at h
 ·exact absurd h (by decide)
 ·split at h
  ·exact absurd h (by decide)
  ·rename_i h0 h1
   unfold overB at h1
   simp only [Bool.or_eq_true, decide_eq_true_eq] at h1
   omega
end Go.Proofs.Ytgnpnfkncbnjnaa
namespace Go.Proofs.Ytgnpnfkncbnjnaa
attribute [local go_sem_proc] Int.reduceEq Int.reduceNeg Nat.reduceEqDiff Nat.reduceLT Nat.reduceAdd Nat.reduceSub Nat.reduceMul Int.reduceLE Int.reduceLT Int.reduceToNat Nat.reduceLeDiff
attribute [local go_sem] Int.toNat_natCast Bool.not_true Bool.not_false
open Go Go.Am
attribute [local congr] Ze Zb Zc
attribute [local go_sem] Go.Am.buildSliceA Go.Am.frozen Go.Am.freezeG Go.Am.freezeGs Go.Am.minmax
def pressR (f : Rg) (vol : Int) : Rg := ⟨wrapF .i64 ((wrapF .i64 (1000 * f.lo)).tdiv vol), wrapF .i64 ((wrapF .i64 (wrapF .i64 (wrapF .i64 (1000 * f.hi) + vol) - 1)).tdiv vol)⟩
theorem Z5e (v : Vac) (g : Gs) (x : Nat) (K : Nat) (s : St) (h1 : x < v.vessels.length) (h2 : x < g.free.length) (hvol : 1 <= v.vessels[x].vol) (hvol2 : v.vessels[x].vol <= 1000000) :
  acall cfg (K + 1) 132 [vacV v, gsV g, .int .i64 x] s = .ret (rgV (pressR g.free[x] v.vessels[x].vol), s) := by
 refine Yh Zjh Zjg (by first | rfl | simp -implicitDefEqProofs only [redoH, redo1, go_sem]) (by first | rfl | simp -implicitDefEqProofs only [go_sem]) (by first | rfl | simp -implicitDefEqProofs only [redoH, redo1, go_sem]) ?_
 refine Z6 rfl fun T hT' hA => ?_
 have a0 := hA 0 _ rfl
 have a1 := hA 1 _ rfl
 have a2 := hA 2 _ rfl
 have hT : T.length = 34 := hT'
 clear hA hT'
 have e1 := Z9 (f := vesV) (l := v.vessels) (i := x) (z := 6) h1 rfl
 have e2 := Z9 (f := rgV) (l := g.free) (i := x) (z := 2) h2 rfl
 generalize v.vessels[x] = y at *
 generalize g.free[x] = f at *
 have hn0 : ¬ y.vol = 0 := by omega
 simp only [vesV, rgV] at e1 e2
 simp -implicitDefEqProofs only [go_sem, a0, a1]
 try simp only [Z1]
 refine Z7 [[], [0], [], [1, 0, 2], [3, 1, 0, 2], [], [5], [], [6, 5, 7], [8, 6, 5, 7], [9, 8, 6, 5, 7], [], [4, 3, 1, 0, 2, 11], [10, 9, 8, 6, 5, 7, 12, 4, 3, 1, 0, 2, 11]] [[], [], [], [], [], [], [], [], [], [], [], [], [[3, 11, 0]], []] (by kernel_rfl) rfl rfl ?_
 simp -implicitDefEqProofs only [go_sem, Z0, Za, Option.getD_some, a2, hT, e1, e2, Z8]
 try simp only [Z1]
 refine Z7 [[], [0], [1, 0], [], [2, 1, 0, 3], [], [5], [6, 5], [], [7, 6, 5, 8], [9, 7, 6, 5, 8], [], [10, 9, 7, 6, 5, 8, 11], [4, 2, 1, 0, 3, 12, 10, 9, 7, 6, 5, 8, 11], [13, 4, 2, 1, 0, 3, 12, 10, 9, 7, 6, 5, 8, 11]] [[], [], [], [], [], [], [], [], [], [], [], [], [], [], [[2]]] (by kernel_rfl) rfl rfl ?_
 simp -implicitDefEqProofs only [go_sem, Z0, lkn, Za, lk31, Option.getD_some, Option.getD_none, hT, hn0, Z8, Try.results132]
 rfl
end Go.Proofs.Ytgnpnfkncbnjnaa
namespace Go.Proofs.Ytgnpnfkncbnjnaa
open Go Go.Am
attribute [local congr] Ze Zb Zc
attribute [local go_sem] Go.Am.buildSliceA Go.Am.frozen Go.Am.freezeG Go.Am.freezeGs Go.Am.minmax
def sealV (p : Int × Int) : AV := .tuple [.int .i64 p.1, .int .i64 p.2]
end Go.Proofs.Ytgnpnfkncbnjnaa
namespace Go.Proofs.Ytgnpnfkncbnjnaa
attribute [local go_sem_proc] Int.reduceEq Int.reduceNeg Nat.reduceEqDiff Nat.reduceLT Nat.reduceAdd Nat.reduceSub Nat.reduceMul Int.reduceLE Int.reduceLT Int.reduceToNat Nat.reduceLeDiff
attribute [local go_sem] Int.toNat_natCast Bool.not_true Bool.not_false
open Go Go.Am
attribute [local congr] Ze Zb Zc
attribute [local go_sem] Go.Am.frozen Go.Am.freezeG Go.Am.freezeGs Go.Am.minmax
structure GasG (v : Vac) (g : Gs) : Prop where
 fl : g.free.length = v.vessels.length
 bl : g.bound.length = v.vessels.length
 rl : g.room.length = v.getters.length
 f : ∀ r ∈ g.free, RgG 30000 r
 b : ∀ r ∈ g.bound, RgG 60000 r
 r : ∀ r ∈ g.room, RgG 9000 r
 m : 0 <= g.most /\ g.most <= 1000000
theorem bs50 (f : FuncId) (a b : Int) (s : St) : buildSliceA (cfg.at f) true 50 1 [(0, .agg [.int .i64 a, .int .i64 b])] s = .ret (.lst [.agg [.int .i64 a, .int .i64 b]], s) := by
 simp -implicitDefEqProofs only [go_sem, Go.Am.buildSliceA]
def vacC (v : Vac) : Blk := .cells [.lst (v.vessels.map vesV), .lst (v.pipes.map pipV), .lst (v.pumps.map pmpV), .lst (v.leaks.map inlV), .lst (v.getters.map gtrV)] true 0
end Go.Proofs.Ytgnpnfkncbnjnaa
namespace Go.Am
open Go
noncomputable def putsH : List Nm -> List Blk -> Heap -> Heap
 | b :: r, x :: q, H => putsH r q (hset H b x)
 | _, _, H => H
theorem Zeq {H : Heap} {b c : Nm} {x : Blk} (h : ∃ y, hget H c = some y) (hb : ∃ y, hget H b = some y) : ∃ y, hget (hset H b x) c = some y := by
 by_cases e : b = c
 ·subst e; obtain ⟨y, h⟩ := h; exact ⟨_, Zh _ h⟩
 ·rw [Z2 _ _ e]; exact h
theorem Z4y : ∀ (bs : List Nm) (ys : List Blk) (H : Heap) (n : Nat) (p : Nm) (j : Delta), bs.length = ys.length -> (∀ b ∈ bs, ∃ x, hget H b = some x) -> putAll bs ys ⟨H, n, p, false, j⟩ = .ret ((), ⟨putsH bs ys H, n, p, false, j⟩)
 | [], [], H, n, p, j, _, _ => rfl
 | b :: r, x :: q, H, n, p, j, hl, h => by
  obtain ⟨y, hy⟩ := h b List.mem_cons_self
  unfold putAll
  rw [Zd, Ya]
  simp only [hy, Tr.bind_ret]
  show putAll r q ⟨hset H b x, n, p, false, j⟩ = _
  rw [Z4y r q (hset H b x) n p j (by simpa using hl) (fun c hc => Zeq (h c (List.mem_cons_of_mem _ hc)) ⟨y, hy⟩)]
  rfl
 | [], _ :: _, _, _, _, _, hl, _ => by simp at hl
 | _ :: _, [], _, _, _, _, hl, _ => by simp at hl
section
variable {C : Cfg} {K : Nat}
theorem Jq {f : FuncId} {fn : Func} {args args' : List AV} {bs : List Nm} {xs xs0 ys ys' : List Blk} {v : AV} {H : Heap} {n : Nat} {p : Nm} {j : Delta}
  (hm : C.mode.get f = some 3) (hf : C.fn.get f = some fn)
  (hl : lendM 200 (namesVs false args []) [] [] ⟨H, n, p, false, j⟩ = .ret ((bs, xs), ⟨H, n, p, false, j⟩)) (hnd : nodupN bs = true) (hcalm : calm xs = true)
  (hra : renVs (zipN bs (namesFrom [] 0 bs.length)) args = some args') (hrx : renBs (zipN bs (namesFrom [] 0 bs.length)) xs = some xs0)
  (hvn : namesV true v (namesBs true ys []) = namesBs true ys []) (hvr : ∀ mp, renV mp v = some v)
  (hmem : ∀ b ∈ namesBs true ys [], memNm b (namesFrom [] 0 bs.length) = true) (hmk : (namesBs true ys []).length < 200) (hnd2 : nodupN (namesFrom [] 0 bs.length) = true)
  (hback : renBs (zipN (namesFrom [] 0 bs.length) bs) ys = some ys') (hlen : bs.length = ys'.length) (hex : ∀ b ∈ bs, ∃ x, hget H b = some x)
  (hd : (bodyA (C.at f) (acall C K) (around C K) (K + 1) fn args' ⟨zipB (namesFrom [] 0 bs.length) xs0, bs.length, [], false, []⟩).Does fun x => x.1 = v /\ getAll x.2.H (namesFrom [] 0 bs.length) = some ys) :
  acall C (K + 1) f args ⟨H, n, p, false, j⟩ = .ret (v, ⟨putsH bs ys' H, n, p, false, j⟩) := by
 refine Ja (bs := bs) (xs := xs) (xs0 := xs0) (ys' := ys') (zs' := []) hm hf hl hnd hcalm hra hrx ?_ (Z4y bs ys' H n p j hlen hex) rfl
 refine hd.mono ?_
 rintro ⟨v1, s1⟩ ⟨rfl, e2⟩
 simp only at e2
 refine ⟨ys, namesFrom [] 0 bs.length, [], e2, ?_, hnd2, hvr _, ?_, rfl⟩
 ·rw [hvn]; exact Z1o s1.H _ _ 200 hmem hmk
 ·have hap : bs ++ namesFrom p n ([] : List Blk).length = bs := by show bs ++ [] = bs; rw [List.append_nil]
  rw [hap]; exact hback
end
end Go.Am
namespace Go.Proofs.Ytgnpnfkncbnjnaa
open Go Go.Am
attribute [local congr] Ze Zb Zc
attribute [local go_sem] Go.Am.frozen Go.Am.freezeG Go.Am.freezeGs Go.Am.minmax
class Emp (E : AV) : Prop where
 out : E = .nils \/ E = .lst []
instance : Emp .nils := ⟨.inl rfl⟩
instance : Emp (.lst []) := ⟨.inr rfl⟩
def rowX (E : AV) (b : Nm) : Nat -> AV
 | 0 => E
 | n + 1 => .slice b 0 (n + 1) (n + 1) false
def rgB (L : List Rg) : Blk := .cells (L.flatMap rgC) true 2
def sysB (E : AV) (v : Vac) (f b r : Nm) (g : Gs) : Blk := .cells [.lst (v.vessels.map vesV), .lst (v.pipes.map pipV), .lst (v.pumps.map pmpV), .lst (v.leaks.map inlV), .lst (v.getters.map gtrV), .slice f 0 g.free.length g.free.length false, .slice b 0 g.bound.length g.bound.length false, rowX E r g.room.length, .int .i64 g.most, .bool g.flashed] true 0
structure SysAt (E : AV) (H : Heap) (X f b r : Nm) (v : Vac) (g : Gs) : Prop where
 x : hget H X = some (sysB E v f b r g)
 f : hget H f = some (rgB g.free)
 b : hget H b = some (rgB g.bound)
 r : g.room ≠ [] -> hget H r = some (rgB g.room)
structure Apart (X f b r : Nm) : Prop where
 xf : X ≠ f
 xb : X ≠ b
 xr : X ≠ r
 fb : f ≠ b
 fr : f ≠ r
 br : b ≠ r
noncomputable def sysPut (E : AV) (X f b r : Nm) (v : Vac) (g : Gs) (H : Heap) : Heap := match g.room with
 | [] => putsH [X, f, b] [sysB E v f b r g, rgB g.free, rgB g.bound] H
 | _ :: _ => putsH [X, f, b, r] [sysB E v f b r g, rgB g.free, rgB g.bound, rgB g.room] H
variable {E : AV}
theorem Jr {H : Heap} {X f b r : Nm} {v : Vac} {g g' : Gs} (h : SysAt E H X f b r v g) (ha : Apart X f b r) (hr : g'.room.length = g.room.length) : SysAt E (sysPut E X f b r v g' H) X f b r v g' := by
 unfold sysPut
 cases hg : g'.room with
 | nil =>
  show SysAt E (hset (hset (hset H X _) f _) b _) X f b r v g'
  exact ⟨by rw [Z2 _ _ (Ne.symm ha.xb), Z2 _ _ (Ne.symm ha.xf)]; exact hss h.x, by rw [Z2 _ _ (Ne.symm ha.fb)]; exact hss ((Z2 _ _ ha.xf).trans h.f), hss ((Z2 _ _ ha.fb).trans ((Z2 _ _ ha.xb).trans h.b)), fun e => absurd hg e⟩
 | cons a l =>
  have hr2 := h.r (fun e => by rw [hg, e] at hr; simp at hr)
  show SysAt E (hset (hset (hset (hset H X _) f _) b _) r _) X f b r v g'
  exact ⟨by rw [Z2 _ _ (Ne.symm ha.xr), Z2 _ _ (Ne.symm ha.xb), Z2 _ _ (Ne.symm ha.xf)]; exact hss h.x, by rw [Z2 _ _ (Ne.symm ha.fr), Z2 _ _ (Ne.symm ha.fb)]; exact hss ((Z2 _ _ ha.xf).trans h.f), by rw [Z2 _ _ (Ne.symm ha.br)]; exact hss ((Z2 _ _ ha.fb).trans ((Z2 _ _ ha.xb).trans h.b)),
   fun _ => by rw [hg]; exact hss ((Z2 _ _ ha.br).trans ((Z2 _ _ ha.fr).trans ((Z2 _ _ ha.xr).trans hr2)))⟩
theorem Xe (mp : List (Nm × Nm)) (L : List Rg) : renB mp (rgB L) = some (rgB L) := Jo (Yi L)
theorem Z15 [hE : Emp E] {F : FuncId} {fn : Func} {K : Nat} {X f b r : Nm} {v : Vac} {g g' : Gs} {s : Bk} {H : Heap} {n : Nat} {p : Nm} {j : Delta} (hm : cfg.mode.get F = some 3) (hf : cfg.fn.get F = some fn)
  (h : SysAt E H X f b r v g) (ha : Apart X f b r) (h1 : g.free ≠ []) (h2 : g.bound ≠ []) (hl1 : g'.free.length = g.free.length) (hl2 : g'.bound.length = g.bound.length) (hl3 : g'.room.length = g.room.length)
  (hd : ∀ H0 m, SysAt E H0 [0] [1] [2] [3] v g -> (g.room ≠ [] -> 1 <= m) -> (bodyA (cfg.at F) (acall cfg K) (around cfg K) (K + 1) fn [.ptr [0] 0, bkV s] ⟨H0, m + 3, [], false, []⟩).Does fun x => x.1 = .tuple [] /\ SysAt E x.2.H [0] [1] [2] [3] v g') :
  acall cfg (K + 1) F [.ptr X 0, bkV s] ⟨H, n, p, false, j⟩ = .ret (.tuple [], ⟨sysPut E X f b r v g' H, n, p, false, j⟩) := by
 have exf := Zg ha.xf
 have exb := Zg ha.xb
 have exr := Zg ha.xr
 have efb := Zg ha.fb
 have efr := Zg ha.fr
 have ebr := Zg ha.br
 have efx := Zg (Ne.symm ha.xf)
 have ebx := Zg (Ne.symm ha.xb)
 have erx := Zg (Ne.symm ha.xr)
 have ebf := Zg (Ne.symm ha.fb)
 have erf := Zg (Ne.symm ha.fr)
 have erb := Zg (Ne.symm ha.br)
 have nb : ∀ op L r, namesB op (rgB L) r = r := fun op L r => (Yi L).nm op r
 have hx := h.x
 unfold sysPut
 cases hg : g.room with
 | nil =>
  have hg' : g'.room = [] := List.length_eq_zero_iff.1 (by rw [hl3, hg]; rfl)
  rw [hg']
  simp only
  have hl0 : rowX E r g.room.length = E := by rw [hg]; rfl
  have hl0' : ∀ q, rowX E q g'.room.length = E := fun q => by rw [hg']; rfl
  have hn1 : namesB false (sysB E v f b r g) [] = [f, b] := by
   unfold sysB
   rw [hl0]; rcases hE.out with e | e <;> rw [e] <;> rfl
  have hn2 : namesBs true [sysB E v [1] [2] [3] g', rgB g'.free, rgB g'.bound] [] = [[1], [2]] := by
   show namesB true (sysB E v [1] [2] [3] g') (namesB true (rgB g'.free) (namesB true (rgB g'.bound) [])) = _
   rw [nb, nb]
   unfold sysB
   rw [hl0']; rcases hE.out with e | e <;> rw [e] <;> rfl
  have hx0 : ∀ mp l1 l2 : List (Nm × Nm), ∀ a c d : Nm, lookN f mp = some a -> lookN b mp = some c -> renB mp (sysB E v f b r g) = some (sysB E v a c d g) := fun mp _ _ a c d e1 e2 => by
   have hl0'' : rowX E d g.room.length = E := by rw [hg]; rfl
   unfold sysB
   rw [hl0, hl0'']
   rcases hE.out with e | e <;> rw [e] <;> simp only [renB, renVs, renV, e1, e2, Xs, Xt, Xu, Xv, Xw, flats]
  have hx1 : ∀ mp : List (Nm × Nm), lookN [1] mp = some f -> lookN [2] mp = some b -> renB mp (sysB E v [1] [2] [3] g') = some (sysB E v f b r g') := fun mp e1 e2 => by
   unfold sysB
   rw [hl0', hl0']
   rcases hE.out with e | e <;> rw [e] <;> simp only [renB, renVs, renV, e1, e2, Xs, Xt, Xu, Xv, Xw, flats]
  refine Jq (bs := [X, f, b]) (xs := [sysB E v f b r g, rgB g.free, rgB g.bound]) (args' := [.ptr [0] 0, bkV s]) (xs0 := [sysB E v [1] [2] [3] g, rgB g.free, rgB g.bound]) (ys := [sysB E v [1] [2] [3] g', rgB g'.free, rgB g'.bound]) hm hf ?_ ?_ rfl ?_ ?_ rfl (fun _ => rfl) ?_ ?_ rfl ?_ rfl ?_ ?_
  ·show lendM (199 + 1) [X] [] [] _ = _
   rw [Y6 199 rfl hx, hn1]
   show lendM (198 + 1) [f, b] [X] [_] _ = _
   rw [Y6 198 (by simp only [memNm, efx]) h.f, nb]
   show lendM (197 + 1) [b] [X, f] [_, _] _ = _
   rw [Y6 197 (by simp only [memNm, ebx, ebf]) h.b, nb]
   exact Zn 196 _ _ _
  ·simp only [nodupN, memNm, exf, exb, efb]
  ·show renVs [(X, [0]), (f, [1]), (b, [2])] _ = _
   simp only [renVs, renV, bkV, lookN, Zi, fl_i]
  ·show renBs [(X, [0]), (f, [1]), (b, [2])] _ = _
   simp only [renBs, Xe, hx0 [(X, [0]), (f, [1]), (b, [2])] [] [] [1] [2] [3] (by simp only [lookN, efx, Zi]) (by simp only [lookN, ebx, ebf, Zi])]
  ·rw [hn2]
   intro q hq
   simp only [List.mem_cons, List.not_mem_nil, or_false] at hq
   rcases hq with rfl | rfl <;> rfl
  ·rw [hn2]; decide
  ·show renBs [([0], X), ([1], f), ([2], b)] _ = _
   simp only [renBs, Xe, hx1 [([0], X), ([1], f), ([2], b)] rfl rfl]
  ·intro q hq
   simp only [List.mem_cons, List.not_mem_nil, or_false] at hq
   rcases hq with rfl | rfl | rfl
   ·exact ⟨_, hx⟩
   ·exact ⟨_, h.f⟩
   ·exact ⟨_, h.b⟩
  ·refine (hd _ 0 ⟨rfl, rfl, rfl, fun e => absurd hg e⟩ fun e => absurd hg e).mono ?_
   rintro x ⟨h1, h2⟩
   refine ⟨h1, ?_⟩
   show getAll x.2.H [[0], [1], [2]] = _
   simp only [getAll, h2.x, h2.f, h2.b]
 | cons a l =>
  have hrn : g.room ≠ [] := by rw [hg]; simp
  obtain ⟨a', l', hg'⟩ : ∃ a' l', g'.room = a' :: l' := by
   cases hq : g'.room with
   | nil => rw [hq, hg] at hl3; simp at hl3
   | cons a' l' => exact ⟨a', l', rfl⟩
  have hlm : ∃ m, g.room.length = m + 1 := ⟨l.length, by rw [hg]; rfl⟩
  obtain ⟨m, hlm⟩ := hlm
  have hl0 : ∀ q, rowX E q g.room.length = .slice q 0 (m + 1) (m + 1) false := fun q => by rw [hlm]; rfl
  have hl0' : ∀ q, rowX E q g'.room.length = .slice q 0 (m + 1) (m + 1) false := fun q => by rw [hl3, hlm]; rfl
  have hr := h.r hrn
  have hn1 : namesB false (sysB E v f b r g) [] = [f, b, r] := by
   unfold sysB
   rw [hl0]; rfl
  have hn2 : namesBs true [sysB E v [1] [2] [3] g', rgB g'.free, rgB g'.bound, rgB g'.room] [] = [[1], [2], [3]] := by
   show namesB true (sysB E v [1] [2] [3] g') (namesB true (rgB g'.free) (namesB true (rgB g'.bound) (namesB true (rgB g'.room) []))) = _
   rw [nb, nb, nb]
   unfold sysB
   rw [hl0']; rfl
  have hx0 : ∀ mp : List (Nm × Nm), lookN f mp = some [1] -> lookN b mp = some [2] -> lookN r mp = some [3] -> renB mp (sysB E v f b r g) = some (sysB E v [1] [2] [3] g) := fun mp e1 e2 e3 => by
   unfold sysB
   rw [hl0, hl0]
   simp only [renB, renVs, renV, e1, e2, e3, Xs, Xt, Xu, Xv, Xw]
  have hx1 : ∀ mp : List (Nm × Nm), lookN [1] mp = some f -> lookN [2] mp = some b -> lookN [3] mp = some r -> renB mp (sysB E v [1] [2] [3] g') = some (sysB E v f b r g') := fun mp e1 e2 e3 => by
   unfold sysB
   rw [hl0', hl0']
   simp only [renB, renVs, renV, e1, e2, e3, Xs, Xt, Xu, Xv, Xw]
  rw [hg']
  simp only
  rw [<- hg']
  refine Jq (bs := [X, f, b, r]) (xs := [sysB E v f b r g, rgB g.free, rgB g.bound, rgB g.room]) (args' := [.ptr [0] 0, bkV s]) (xs0 := [sysB E v [1] [2] [3] g, rgB g.free, rgB g.bound, rgB g.room]) (ys := [sysB E v [1] [2] [3] g', rgB g'.free, rgB g'.bound, rgB g'.room]) hm hf ?_ ?_ rfl ?_ ?_ rfl (fun _ => rfl) ?_ ?_ rfl ?_ rfl ?_ ?_
  ·show lendM (199 + 1) [X] [] [] _ = _
   rw [Y6 199 rfl hx, hn1]
   show lendM (198 + 1) [f, b, r] [X] [_] _ = _
   rw [Y6 198 (by simp only [memNm, efx]) h.f, nb]
   show lendM (197 + 1) [b, r] [X, f] [_, _] _ = _
   rw [Y6 197 (by simp only [memNm, ebx, ebf]) h.b, nb]
   show lendM (196 + 1) [r] [X, f, b] [_, _, _] _ = _
   rw [Y6 196 (by simp only [memNm, erx, erf, erb]) hr, nb]
   exact Zn 195 _ _ _
  ·simp only [nodupN, memNm, exf, exb, exr, efb, efr, ebr]
  ·show renVs [(X, [0]), (f, [1]), (b, [2]), (r, [3])] _ = _
   simp only [renVs, renV, bkV, lookN, Zi, fl_i]
  ·show renBs [(X, [0]), (f, [1]), (b, [2]), (r, [3])] _ = _
   simp only [renBs, Xe, hx0 [(X, [0]), (f, [1]), (b, [2]), (r, [3])] (by simp only [lookN, efx, Zi]) (by simp only [lookN, ebx, ebf, Zi]) (by simp only [lookN, erx, erf, erb, Zi])]
  ·rw [hn2]
   intro q hq
   simp only [List.mem_cons, List.not_mem_nil, or_false] at hq
   rcases hq with rfl | rfl | rfl <;> rfl
  ·rw [hn2]; decide
  ·show renBs [([0], X), ([1], f), ([2], b), ([3], r)] _ = _
   simp only [renBs, Xe, hx1 [([0], X), ([1], f), ([2], b), ([3], r)] rfl rfl rfl]
  ·intro q hq
   simp only [List.mem_cons, List.not_mem_nil, or_false] at hq
   rcases hq with rfl | rfl | rfl | rfl
   ·exact ⟨_, hx⟩
   ·exact ⟨_, h.f⟩
   ·exact ⟨_, h.b⟩
   ·exact ⟨_, hr⟩
  ·refine (hd _ 1 ⟨rfl, rfl, rfl, fun e => rfl⟩ fun e => Nat.le_refl 1).mono ?_
   rintro x ⟨h1, h2⟩
   refine ⟨h1, ?_⟩
   show getAll x.2.H [[0], [1], [2], [3]] = _
   simp only [getAll, h2.x, h2.f, h2.b, h2.r (by rw [hg']; simp)]
end Go.Proofs.Ytgnpnfkncbnjnaa
namespace Go.Proofs.Ytgnpnfkncbnjnaa
attribute [local go_sem_proc] Int.reduceEq Int.reduceNeg Nat.reduceEqDiff Nat.reduceLT Nat.reduceAdd Nat.reduceSub Nat.reduceMul Int.reduceLE Int.reduceLT Int.reduceToNat Nat.reduceLeDiff
attribute [local go_sem] Int.toNat_natCast Bool.not_true Bool.not_false
open Go Go.Am
attribute [local congr] Ze Zb Zc
attribute [local go_sem] Go.Am.frozen Go.Am.freezeG Go.Am.freezeGs
variable {E : AV}
def min2 (a b : Int) : Int := if b < a then b else a
def max2 (a b : Int) : Int := if a < b then b else a
theorem Z3d (a b : Int) : minmax false (.int .i64 a) [.int .i64 b] = some (.int .i64 (min2 a b)) := by
 unfold min2
 by_cases c : b < a
 ·simp -implicitDefEqProofs only [go_sem, Go.Am.minmax, c, if_true]
 ·simp -implicitDefEqProofs only [go_sem, Go.Am.minmax, c, if_false]
theorem Z8n (a b : Int) : minmax true (.int .i64 a) [.int .i64 b] = some (.int .i64 (max2 a b)) := by
 unfold max2
 by_cases c : a < b
 ·simp -implicitDefEqProofs only [go_sem, Go.Am.minmax, c, if_true]
 ·simp -implicitDefEqProofs only [go_sem, Go.Am.minmax, c, if_false]
def leakF : Int -> List Inl -> Int
 | m, [] => m
 | m, l :: r => leakF (min2 68719476736 (wrapF .i64 (m + l.gas.hi))) r
def beginT (v : Vac) (g : Gs) (s : Bk) : Gs := ⟨g.free, g.bound, g.room, leakF g.most v.leaks, g.flashed || s.flash⟩
theorem Za0 [hE : Emp E] {K : Nat} {X f b r : Nm} {v : Vac} {g : Gs} {s : Bk} {H : Heap} {n : Nat} {p : Nm} {j : Delta} (h : SysAt E H X f b r v g) (ha : Apart X f b r) (h1 : g.free ≠ []) (h2 : g.bound ≠ []) (hK : v.leaks.length < K) (hl : v.leaks.length <= 1000000) :
  acall cfg (K + 1) 147 [.ptr X 0, bkV s] ⟨H, n, p, false, j⟩ = .ret (.tuple [], ⟨sysPut E X f b r v (beginT v g s) H, n, p, false, j⟩) := by
 refine Z15 Zjl Zjk h ha h1 h2 rfl rfl rfl fun H0 m hs hm => ?_
 refine Z6 rfl fun T hT' hA => ?_
 have a0 := hA 0 _ rfl
 have a1 := hA 1 _ rfl
 have hT : T.length = 44 := hT'
 clear hA hT'
 have g0 := hs.x
 unfold sysB at g0
 have hb := hs.b
 have hf := hs.f
 have hr := hs.r
 simp -implicitDefEqProofs only [go_sem, a0, a1, hT, g0]
 have k0 : ∀ X, hget (([m + 3], X) :: H0) [0] = hget H0 [0] := fun X => hc11 (by omega)
 have k0' : ∀ Z, hget (hset H0 [0] Z) [0] = some Z := fun Z => hss g0
 unfold beginT
 cases hfl : g.flashed with
 | true =>
  simp -implicitDefEqProofs only [go_sem, a0, hT, g0, hfl, k0, k0', Bool.true_or]
  simp only [Z1]
  refine Zf (fun k T s' => T.length = 44 /\ nth T 0 = some (.ptr [0] 0) /\ nth T 23 = some (.lst (v.leaks.map inlV)) /\ nth T 24 = some (.int .i64 v.leaks.length) /\ ∃ (i m : Nat) (H : Heap) (q : Int), nth T 25 = some (.int .i64 i) /\ i <= v.leaks.length /\ k = v.leaks.length - i /\ s' = ⟨H, m + 3, [], false, []⟩ /\ hget H [0] = some (.cells [.lst (v.vessels.map vesV), .lst (v.pipes.map pipV), .lst (v.pumps.map pmpV), .lst (v.leaks.map inlV), .lst (v.getters.map gtrV), .slice [1] 0 g.free.length g.free.length false, .slice [2] 0 g.bound.length g.bound.length false, rowX E [3] g.room.length, .int .i64 q, .bool true] true 0) /\ hget H [1] = some (rgB g.free) /\ hget H [2] = some (rgB g.bound) /\ (g.room ≠ [] -> 1 <= m /\ hget H [3] = some (rgB g.room)) /\ leakF g.most v.leaks = leakF q (v.leaks.drop i)) (k := v.leaks.length) (by omega) ?_ ?_
  ·exact ⟨by simp -implicitDefEqProofs only [go_sem, hT], by simp -implicitDefEqProofs only [go_sem, a0], by simp -implicitDefEqProofs only [go_sem, hT], by simp -implicitDefEqProofs only [go_sem, hT], 0, m + 1, _, g.most, by simp -implicitDefEqProofs only [go_sem, hT] <;> rfl, by omega, rfl, rfl, (hc11 (by omega)).trans (k0' _), (hc11 (by omega)).trans ((hs11 (by decide)).trans hf), (hc11 (by omega)).trans ((hs11 (by decide)).trans hb), fun e => ⟨by omega, (hc11 (by have := hm e; omega)).trans ((hs11 (by decide)).trans (hr e))⟩, rfl⟩
  clear a0 a1 hT T g0 k0 k0' hb hf hr hs hm m H0
  rintro k T s' ⟨hT, a0, a23, a24, i, m, H0, q, a25, hi, rfl, rfl, g0, hf, hb, hr, he⟩
  simp -implicitDefEqProofs only [go_sem, a24, a25, hT]
  by_cases hil : (i : Int) < (v.leaks.length : Int)
  ·have hi' : i < v.leaks.length := by omega
   have e1 := Z9 (f := inlV) (l := v.leaks) (i := i) (z := 3) hi' rfl
   have hkk : v.leaks.length - (i + 1) < v.leaks.length - i := by omega
   rw [List.drop_eq_getElem_cons hi'] at he
   generalize v.leaks[i] = x at *
   simp only [leakF] at he
   have hw1 : wrapF .i64 ((i : Int) + 1) = ((i + 1 : Nat) : Int) := Z5 (by omega) (by omega)
   have k0 : ∀ X, hget (([m + 3], X) :: H0) [0] = hget H0 [0] := fun X => hc11 (by omega)
   have k3 : ∀ X, hget (([m + 3], X) :: H0) [m + 3] = some X := fun X => Z3 ..
   simp only [inlV] at e1
   simp -implicitDefEqProofs only [go_sem, a23, a25, hT, hil, e1]
   try simp only [Z1]
   refine Z7 [[], [], [1], [2, 1], [3, 2, 1], [4, 3, 2, 1], [], [6], [7, 6], [5, 4, 3, 2, 1, 8, 7, 6], [9, 5, 4, 3, 2, 1, 8, 7, 6], [0, 10, 9, 5, 4, 3, 2, 1, 8, 7, 6], [11, 0, 10, 9, 5, 4, 3, 2, 1, 8, 7, 6], [12, 11, 0, 10, 9, 5, 4, 3, 2, 1, 8, 7, 6], [13, 12, 11, 0, 10, 9, 5, 4, 3, 2, 1, 8, 7, 6]] [[], [], [], [], [], [], [], [], [], [], [], [], [], [], [[0]]] (by kernel_rfl) rfl rfl ?_
   simp -implicitDefEqProofs only [go_sem, Option.getD_some, a0, a23, a24, a25, hT, k0, k3, g0, Z3d, hw1, Z8]
   refine ⟨v.leaks.length - (i + 1), hkk, trivial, trivial, trivial, trivial, i + 1, m + 2, _, min2 68719476736 (wrapF .i64 (q + x.gas.hi)), rfl, hi', rfl, rfl, ?_, ?_, ?_, fun e => ⟨by omega, ?_⟩, he⟩
   all_goals clear hw1
   ·simp (disch := omega) only [hc11, Z0, Za, Option.getD_some]
   ·simp (disch := omega) only [hc11, Z0, lkn, lk11, Option.getD_none, hf]
   ·simp (disch := omega) only [hc11, Z0, lkn, lk11, Option.getD_none, hb]
   ·have := (hr e).1
    simp (disch := omega) only [hc11, Z0, lkn, lk11, Option.getD_none, (hr e).2]
  ·have hie : i = v.leaks.length := by omega
   subst hie
   rw [List.drop_length] at he
   simp only [leakF] at he
   simp -implicitDefEqProofs only [go_sem, hil, Try.results147]
   rw [he]
   exact ⟨trivial, ⟨g0, hf, hb, fun e => (hr e).2⟩⟩
 | false =>
  simp -implicitDefEqProofs only [go_sem, a0, hT, g0, hfl, k0, k0', Bool.false_or]
  simp only [Z1]
  refine Zf (fun k T s' => T.length = 44 /\ nth T 0 = some (.ptr [0] 0) /\ nth T 23 = some (.lst (v.leaks.map inlV)) /\ nth T 24 = some (.int .i64 v.leaks.length) /\ ∃ (i m : Nat) (H : Heap) (q : Int), nth T 25 = some (.int .i64 i) /\ i <= v.leaks.length /\ k = v.leaks.length - i /\ s' = ⟨H, m + 3, [], false, []⟩ /\ hget H [0] = some (.cells [.lst (v.vessels.map vesV), .lst (v.pipes.map pipV), .lst (v.pumps.map pmpV), .lst (v.leaks.map inlV), .lst (v.getters.map gtrV), .slice [1] 0 g.free.length g.free.length false, .slice [2] 0 g.bound.length g.bound.length false, rowX E [3] g.room.length, .int .i64 q, .bool s.flash] true 0) /\ hget H [1] = some (rgB g.free) /\ hget H [2] = some (rgB g.bound) /\ (g.room ≠ [] -> 1 <= m /\ hget H [3] = some (rgB g.room)) /\ leakF g.most v.leaks = leakF q (v.leaks.drop i)) (k := v.leaks.length) (by omega) ?_ ?_
  ·exact ⟨by simp -implicitDefEqProofs only [go_sem, hT], by simp -implicitDefEqProofs only [go_sem, a0], by simp -implicitDefEqProofs only [go_sem, hT], by simp -implicitDefEqProofs only [go_sem, hT], 0, m + 1, _, g.most, by simp -implicitDefEqProofs only [go_sem, hT] <;> rfl, by omega, rfl, rfl, (hc11 (by omega)).trans (k0' _), (hc11 (by omega)).trans ((hs11 (by decide)).trans hf), (hc11 (by omega)).trans ((hs11 (by decide)).trans hb), fun e => ⟨by omega, (hc11 (by have := hm e; omega)).trans ((hs11 (by decide)).trans (hr e))⟩, rfl⟩
  clear a0 a1 hT T g0 k0 k0' hb hf hr hs hm m H0
  rintro k T s' ⟨hT, a0, a23, a24, i, m, H0, q, a25, hi, rfl, rfl, g0, hf, hb, hr, he⟩
  simp -implicitDefEqProofs only [go_sem, a24, a25, hT]
  by_cases hil : (i : Int) < (v.leaks.length : Int)
  ·have hi' : i < v.leaks.length := by omega
   have e1 := Z9 (f := inlV) (l := v.leaks) (i := i) (z := 3) hi' rfl
   have hkk : v.leaks.length - (i + 1) < v.leaks.length - i := by omega
   rw [List.drop_eq_getElem_cons hi'] at he
   generalize v.leaks[i] = x at *
   simp only [leakF] at he
   have hw1 : wrapF .i64 ((i : Int) + 1) = ((i + 1 : Nat) : Int) := Z5 (by omega) (by omega)
   have k0 : ∀ X, hget (([m + 3], X) :: H0) [0] = hget H0 [0] := fun X => hc11 (by omega)
   have k3 : ∀ X, hget (([m + 3], X) :: H0) [m + 3] = some X := fun X => Z3 ..
   simp only [inlV] at e1
   simp -implicitDefEqProofs only [go_sem, a23, a25, hT, hil, e1]
   try simp only [Z1]
   refine Z7 [[], [], [1], [2, 1], [3, 2, 1], [4, 3, 2, 1], [], [6], [7, 6], [5, 4, 3, 2, 1, 8, 7, 6], [9, 5, 4, 3, 2, 1, 8, 7, 6], [0, 10, 9, 5, 4, 3, 2, 1, 8, 7, 6], [11, 0, 10, 9, 5, 4, 3, 2, 1, 8, 7, 6], [12, 11, 0, 10, 9, 5, 4, 3, 2, 1, 8, 7, 6], [13, 12, 11, 0, 10, 9, 5, 4, 3, 2, 1, 8, 7, 6]] [[], [], [], [], [], [], [], [], [], [], [], [], [], [], [[0]]] (by kernel_rfl) rfl rfl ?_
   simp -implicitDefEqProofs only [go_sem, Option.getD_some, a0, a23, a24, a25, hT, k0, k3, g0, Z3d, hw1, Z8]
   refine ⟨v.leaks.length - (i + 1), hkk, trivial, trivial, trivial, trivial, i + 1, m + 2, _, min2 68719476736 (wrapF .i64 (q + x.gas.hi)), rfl, hi', rfl, rfl, ?_, ?_, ?_, fun e => ⟨by omega, ?_⟩, he⟩
   all_goals clear hw1
   ·simp (disch := omega) only [hc11, Z0, Za, Option.getD_some]
   ·simp (disch := omega) only [hc11, Z0, lkn, lk11, Option.getD_none, hf]
   ·simp (disch := omega) only [hc11, Z0, lkn, lk11, Option.getD_none, hb]
   ·have := (hr e).1
    simp (disch := omega) only [hc11, Z0, lkn, lk11, Option.getD_none, (hr e).2]
  ·have hie : i = v.leaks.length := by omega
   subst hie
   rw [List.drop_length] at he
   simp only [leakF] at he
   simp -implicitDefEqProofs only [go_sem, hil, Try.results147]
   rw [he]
   exact ⟨trivial, ⟨g0, hf, hb, fun e => (hr e).2⟩⟩
end Go.Proofs.Ytgnpnfkncbnjnaa
namespace Go.Proofs.Ytgnpnfkncbnjnaa
attribute [local go_sem_proc] Int.reduceEq Int.reduceNeg Nat.reduceEqDiff Nat.reduceLT Nat.reduceAdd Nat.reduceSub Nat.reduceMul Int.reduceLE Int.reduceLT Int.reduceToNat Nat.reduceLeDiff
attribute [local go_sem] Int.toNat_natCast Bool.not_true Bool.not_false
open Go Go.Am
attribute [local congr] Ze Zb Zc
attribute [local go_sem] Go.Am.frozen Go.Am.freezeG Go.Am.freezeGs
variable {E : AV}
def cutR (q : Int) (r : Rg) : Rg := ⟨min2 r.lo q, min2 r.hi q⟩
def cutT (v : Vac) (g : Gs) (s : Bk) : Gs := ⟨g.free.map (cutR g.most), g.bound.map (cutR g.most), g.room, g.most, g.flashed⟩
theorem Ye (L : List Rg) {c : Nat} (h : c < L.length) : nth (L.flatMap rgC) (c * 2) = some (.int .i64 L[c].lo) := Z8c (g := rgC) (z := 2) Z1p L h (k := 0) (by decide)
theorem Yf (L : List Rg) {c : Nat} (h : c < L.length) : nth (L.flatMap rgC) (c * 2 + 1) = some (.int .i64 L[c].hi) := Z8c (g := rgC) (z := 2) Z1p L h (k := 1) (by decide)
theorem Zof (L : List Rg) {c : Nat} (h : c < L.length) (y : Rg) : writeN (L.flatMap rgC) (c * 2) [.int .i64 y.lo, .int .i64 y.hi] = some ((L.set c y).flatMap rgC) := Zg4 (g := rgC) (z := 2) Z1p L h y
theorem Xb (cs : List AV) (c : Nat) (v : AV) : nth (setNth cs (c * 2) v) (c * 2 + 1) = nth cs (c * 2 + 1) := Zc2 cs v (by omega)
theorem Z0q (L : List Rg) {c : Nat} (h : c < L.length) (y : Rg) : setNth (setNth (L.flatMap rgC) (c * 2) (.int .i64 y.lo)) (c * 2 + 1) (.int .i64 y.hi) = (L.set c y).flatMap rgC := by
 have e := Zof L h y
 simp only [writeN, Ye L h, Xb, Yf L h] at e
 injection e
theorem Z2y {v : Vac} {a b c : Nm} {g g' : Gs} (h1 : g'.free.length = g.free.length) (h2 : g'.bound.length = g.bound.length) (h3 : g'.room.length = g.room.length) (h4 : g'.most = g.most) (h5 : g'.flashed = g.flashed) : sysB E v a b c g' = sysB E v a b c g := by
 unfold sysB
 rw [h1, h2, h3, h4, h5]
theorem Zgp [hE : Emp E] {K : Nat} {X f b r : Nm} {v : Vac} {g : Gs} {s : Bk} {H : Heap} {n : Nat} {p : Nm} {j : Delta} (h : SysAt E H X f b r v g) (ha : Apart X f b r) (h1 : g.free ≠ []) (h2 : g.bound ≠ []) (hK : g.free.length + g.bound.length + 2 < K) (hl : g.free.length + g.bound.length <= 1000000) :
  acall cfg (K + 1) 151 [.ptr X 0, bkV s] ⟨H, n, p, false, j⟩ = .ret (.tuple [], ⟨sysPut E X f b r v (cutT v g s) H, n, p, false, j⟩) := by
 refine Z15 Zjt Zjs h ha h1 h2 (List.length_map ..) (List.length_map ..) rfl fun H0 m hs hm => ?_
 refine Z6 rfl fun T hT' hA => ?_
 have a0 := hA 0 _ rfl
 have a1 := hA 1 _ rfl
 have hT : T.length = 51 := hT'
 clear hA hT'
 have g0 := hs.x
 unfold sysB at g0
 have k0 : ∀ X, hget (([m + 3], X) :: H0) [0] = hget H0 [0] := fun X => hc11 (by omega)
 simp -implicitDefEqProofs only [go_sem, a1]
 try simp only [Z1]
 refine Z7 [[], [0], [1, 0], [2, 1, 0], [3, 2, 1, 0], [], [5], [6, 5], [7, 6, 5], [8, 7, 6, 5], [4, 3, 2, 1, 0, 9, 8, 7, 6, 5], []] [[], [], [], [], [], [], [], [], [], [], [], []] (by kernel_rfl) rfl rfl ?_
 simp -implicitDefEqProofs only [go_sem, Option.getD_some, a0, hT, g0, k0, Z8]
 simp only [Z1]
 refine Zf (fun k T s' => T.length = 51 /\ nth T 0 = some (.ptr [0] 0) /\ nth T 18 = some (.agg [.slice [1] 0 g.free.length g.free.length false, .slice [2] 0 g.bound.length g.bound.length false]) /\ ∃ (i m : Nat) (H : Heap) (F B : List Rg), nth T 19 = some (.int .i64 i) /\ i <= 2 /\ k = 2 - i /\ s' = ⟨H, m + 3, [], false, []⟩ /\ (g.room ≠ [] -> 1 <= m) /\ SysAt E H [0] [1] [2] [3] v ⟨F, B, g.room, g.most, g.flashed⟩ /\ F = (if i = 0 then g.free else g.free.map (cutR g.most)) /\ B = (if i = 2 then g.bound.map (cutR g.most) else g.bound)) (k := 2) (by omega) ?_ ?_
 ·exact ⟨by simp -implicitDefEqProofs only [go_sem, hT], by simp -implicitDefEqProofs only [go_sem, a0], by simp -implicitDefEqProofs only [go_sem, hT], 0, m + 2, _, g.free, g.bound, by simp -implicitDefEqProofs only [go_sem, hT] <;> rfl, by omega, rfl, rfl, fun e => by omega, ⟨by simp (disch := omega) only [hc11, Z0, lkn, Option.getD_none]; exact hs.x, by simp (disch := omega) only [hc11, Z0, lkn, Option.getD_none]; exact hs.f, by simp (disch := omega) only [hc11, Z0, lkn, Option.getD_none]; exact hs.b, fun e => by have := hm e; simp (disch := omega) only [hc11, Z0, lkn, Option.getD_none]; exact hs.r e⟩, rfl, rfl⟩
 clear a0 a1 hT T g0 k0 hs hm m H0
 rintro k T s' ⟨hT, a0, a18, i, m, H0, F, B, a19, hi, rfl, rfl, hm, hs, rfl, rfl⟩
 rcases (show i = 0 \/ i = 1 \/ i = 2 by omega) with rfl | rfl | rfl
 ·simp only [if_true] at hs
  have hs : SysAt E H0 [0] [1] [2] [3] v ⟨g.free, g.bound, g.room, g.most, g.flashed⟩ := hs
  have b19 : nth T 19 = some (.int .i64 0) := a19
  clear a19 hi
  have hin : inR 0 2 = some 0 := rfl
  simp -implicitDefEqProofs only [go_sem, a18, b19, hT, hin]
  simp only [Z1]
  refine Tr.Does.mono (Q := fun x => ∃ (T' : List AV) (m' : Nat) (H' : Heap), x = ((AExit.exit 2, T'), (⟨H', m' + 3, [], false, []⟩ : St)) /\ m <= m' /\ T'.length = 51 /\ nth T' 0 = some (.ptr [0] 0) /\ nth T' 18 = some (.agg [.slice [1] 0 g.free.length g.free.length false, .slice [2] 0 g.bound.length g.bound.length false]) /\ nth T' 19 = some (.int .i64 0) /\ hget H' [1] = some (rgB (g.free.map (cutR g.most))) /\ ∀ k, k < m + 3 -> k ≠ 1 -> hget H' [k] = hget H0 [k]) ?_ ?_
  ·refine Zf (fun k T s' => T.length = 51 /\ nth T 0 = some (.ptr [0] 0) /\ nth T 18 = some (.agg [.slice [1] 0 g.free.length g.free.length false, .slice [2] 0 g.bound.length g.bound.length false]) /\ nth T 19 = some (.int .i64 0) /\ nth T 5 = some (.slice [1] 0 g.free.length g.free.length false) /\ nth T 22 = some (.slice [1] 0 g.free.length g.free.length false) /\ nth T 23 = some (.int .i64 g.free.length) /\ ∃ (c m' : Nat) (H' : Heap), nth T 24 = some (.int .i64 c) /\ c <= g.free.length /\ k = g.free.length - c /\ s' = ⟨H', m' + 3, [], false, []⟩ /\ m <= m' /\ hget H' [1] = some (rgB ((g.free.take c).map (cutR g.most) ++ g.free.drop c)) /\ ∀ k, k < m + 3 -> k ≠ 1 -> hget H' [k] = hget H0 [k]) (k := g.free.length) (by omega) ?_ ?_
   ·exact ⟨by simp -implicitDefEqProofs only [go_sem, hT], by simp -implicitDefEqProofs only [go_sem, a0], by simp -implicitDefEqProofs only [go_sem, a18], by simp -implicitDefEqProofs only [go_sem, b19], by simp -implicitDefEqProofs only [go_sem, hT], by simp -implicitDefEqProofs only [go_sem, hT], by simp -implicitDefEqProofs only [go_sem, hT], 0, m, H0, by simp -implicitDefEqProofs only [go_sem, hT] <;> rfl, by omega, rfl, rfl, Nat.le_refl _, hs.f, fun _ _ _ => rfl⟩
   clear a0 a18 b19 hT T
   rintro k T s' ⟨hT, a0, a18, a19, a5, a22, a23, c, m', H', a24, hc, rfl, rfl, hmm, hb, hfr⟩
   have g0 := (hfr 0 (by omega) (by decide)).trans hs.x
   unfold sysB at g0
   simp only at g0
   simp -implicitDefEqProofs only [go_sem, a23, a24, hT]
   by_cases hcl : (c : Int) < (g.free.length : Int)
   ·have hc' : c < g.free.length := by omega
    have hinr : inR (c : Int) g.free.length = some c := X6 hc'
    obtain ⟨R, hR⟩ : ∃ R, R = (g.free.take c).map (cutR g.most) ++ g.free.drop c := ⟨_, rfl⟩
    have hRl : R.length = g.free.length := by rw [hR, List.length_append, List.length_map, List.length_take, List.length_drop]; omega
    have hRc : c < R.length := by omega
    have hRx : R[c] = g.free[c] := by subst hR; rw [List.getElem_append_right (by simp; omega)]; simp; congr 1; omega
    have hRs : R.set c (cutR g.most g.free[c]) = (g.free.take (c + 1)).map (cutR g.most) ++ g.free.drop (c + 1) := by
     subst hR
     rw [List.set_append_right _ _ (by simp; omega), List.take_succ_eq_append_getElem hc', List.map_append]
     have e : c - ((g.free.take c).map (cutR g.most)).length = 0 := by simp; omega
     rw [e, List.drop_eq_getElem_cons hc', List.set_cons_zero]
     simp
    have n0 := Ye R hRc
    have n1 := Yf R hRc
    have wr := Z0q R hRc (cutR g.most g.free[c])
    rw [hRs] at wr
    rw [<- hR] at hb
    rw [hRx] at n0 n1
    clear hR hRx
    generalize g.free[c] = x at *
    unfold rgB at hb
    have k1 : ∀ X, hget (([m' + 3], X) :: H') [1] = hget H' [1] := fun X => hc11 (by omega)
    have k2 : ∀ X, hget (([m' + 3], X) :: H') [0] = hget H' [0] := fun X => hc11 (by omega)
    simp -implicitDefEqProofs only [go_sem, a22, a24, hT, hcl, hinr, hb, n0, n1]
    have hkk : g.free.length - (c + 1) < g.free.length - c := by omega
    have k3 : ∀ X, hget (([m' + 3], X) :: H') [m' + 3] = some X := fun X => Z3 ..
    have hw1 : wrapF .i64 ((c : Int) + 1) = ((c + 1 : Nat) : Int) := Z5 (by omega) (by omega)
    simp only [cutR] at wr
    try simp only [Z1]
    refine Z7 [[], [], [], [2], [], [4], [5, 4], [6, 5, 4], [7, 6, 5, 4], [3, 2, 8, 7, 6, 5, 4], [], [10], [], [12], [13, 12], [14, 13, 12], [15, 14, 13, 12], [11, 10, 16, 15, 14, 13, 12], [9, 3, 2, 8, 7, 6, 5, 4, 17, 11, 10, 16, 15, 14, 13, 12], [0, 1, 18, 9, 3, 2, 8, 7, 6, 5, 4, 17, 11, 10, 16, 15, 14, 13, 12], [19, 0, 1, 18, 9, 3, 2, 8, 7, 6, 5, 4, 17, 11, 10, 16, 15, 14, 13, 12]] [[], [], [], [], [], [], [], [], [], [], [], [], [], [], [], [], [], [], [], [], [[1]]] (by kernel_rfl) rfl rfl ?_
    simp -implicitDefEqProofs only [go_sem, Option.getD_some, a0, a18, a19, a5, a22, a23, a24, hT, hinr, hb, g0, k1, k2, k3, Z3d, Xb, n0, n1, wr, hw1, Z8]
    refine ⟨g.free.length - (c + 1), hkk, trivial, trivial, trivial, trivial, trivial, trivial, trivial, c + 1, m' + 2, _, rfl, hc', rfl, rfl, by omega, ?_, fun k hk hne => ?_⟩
    all_goals clear hw1
    ·simp (disch := omega) only [hc11, Z0, Za, Option.getD_some]; rfl
    ·simp (disch := omega) only [hc11, Z0, lkn, lk11, Option.getD_none]; exact hfr k hk hne
   ·have hce : c = g.free.length := by omega
    subst hce
    rw [List.take_length, List.drop_length, List.append_nil] at hb
    simp -implicitDefEqProofs only [go_sem, hcl]
    exact ⟨_, m', H', rfl, hmm, by simp -implicitDefEqProofs only [go_sem, hT], by simp -implicitDefEqProofs only [go_sem, a0], by simp -implicitDefEqProofs only [go_sem, a18], by simp -implicitDefEqProofs only [go_sem, a19], hb, hfr⟩
  clear a0 a18 b19 hT T
  rintro _ ⟨T, m', H', rfl, hmm, hT, a0, a18, a19, hb, hfr⟩
  simp -implicitDefEqProofs only [go_sem, a0, a18, a19, hT]
  refine ⟨2 - (0 + 1), by omega, trivial, trivial, trivial, 0 + 1, m', H', g.free.map (cutR g.most), g.bound, rfl, by omega, rfl, rfl, fun e => Nat.le_trans (hm e) hmm, ⟨?_, ?_, ?_, fun e => ?_⟩, rfl, rfl⟩
  ·exact (hfr 0 (by omega) (by decide)).trans (hs.x.trans (congrArg some (Z2y (List.length_map ..).symm rfl rfl rfl rfl)))
  ·exact hb
  ·exact (hfr 2 (by omega) (by decide)).trans hs.b
  ·have := hm e
   exact (hfr 3 (by omega) (by decide)).trans (hs.r e)
 ·have hs : SysAt E H0 [0] [1] [2] [3] v ⟨g.free.map (cutR g.most), g.bound, g.room, g.most, g.flashed⟩ := hs
  have b19 : nth T 19 = some (.int .i64 1) := a19
  clear a19 hi
  have hin : inR 1 2 = some 1 := rfl
  simp -implicitDefEqProofs only [go_sem, a18, b19, hT, hin]
  simp only [Z1]
  refine Tr.Does.mono (Q := fun x => ∃ (T' : List AV) (m' : Nat) (H' : Heap), x = ((AExit.exit 2, T'), (⟨H', m' + 3, [], false, []⟩ : St)) /\ m <= m' /\ T'.length = 51 /\ nth T' 0 = some (.ptr [0] 0) /\ nth T' 18 = some (.agg [.slice [1] 0 g.free.length g.free.length false, .slice [2] 0 g.bound.length g.bound.length false]) /\ nth T' 19 = some (.int .i64 1) /\ hget H' [2] = some (rgB (g.bound.map (cutR g.most))) /\ ∀ k, k < m + 3 -> k ≠ 2 -> hget H' [k] = hget H0 [k]) ?_ ?_
  ·refine Zf (fun k T s' => T.length = 51 /\ nth T 0 = some (.ptr [0] 0) /\ nth T 18 = some (.agg [.slice [1] 0 g.free.length g.free.length false, .slice [2] 0 g.bound.length g.bound.length false]) /\ nth T 19 = some (.int .i64 1) /\ nth T 5 = some (.slice [2] 0 g.bound.length g.bound.length false) /\ nth T 22 = some (.slice [2] 0 g.bound.length g.bound.length false) /\ nth T 23 = some (.int .i64 g.bound.length) /\ ∃ (c m' : Nat) (H' : Heap), nth T 24 = some (.int .i64 c) /\ c <= g.bound.length /\ k = g.bound.length - c /\ s' = ⟨H', m' + 3, [], false, []⟩ /\ m <= m' /\ hget H' [2] = some (rgB ((g.bound.take c).map (cutR g.most) ++ g.bound.drop c)) /\ ∀ k, k < m + 3 -> k ≠ 2 -> hget H' [k] = hget H0 [k]) (k := g.bound.length) (by omega) ?_ ?_
   ·exact ⟨by simp -implicitDefEqProofs only [go_sem, hT], by simp -implicitDefEqProofs only [go_sem, a0], by simp -implicitDefEqProofs only [go_sem, a18], by simp -implicitDefEqProofs only [go_sem, b19], by simp -implicitDefEqProofs only [go_sem, hT], by simp -implicitDefEqProofs only [go_sem, hT], by simp -implicitDefEqProofs only [go_sem, hT], 0, m, H0, by simp -implicitDefEqProofs only [go_sem, hT] <;> rfl, by omega, rfl, rfl, Nat.le_refl _, hs.b, fun _ _ _ => rfl⟩
   clear a0 a18 b19 hT T
   rintro k T s' ⟨hT, a0, a18, a19, a5, a22, a23, c, m', H', a24, hc, rfl, rfl, hmm, hb, hfr⟩
   have g0 := (hfr 0 (by omega) (by decide)).trans hs.x
   unfold sysB at g0
   simp only at g0
   simp -implicitDefEqProofs only [go_sem, a23, a24, hT]
   by_cases hcl : (c : Int) < (g.bound.length : Int)
   ·have hc' : c < g.bound.length := by omega
    have hinr : inR (c : Int) g.bound.length = some c := X6 hc'
    obtain ⟨R, hR⟩ : ∃ R, R = (g.bound.take c).map (cutR g.most) ++ g.bound.drop c := ⟨_, rfl⟩
    have hRl : R.length = g.bound.length := by rw [hR, List.length_append, List.length_map, List.length_take, List.length_drop]; omega
    have hRc : c < R.length := by omega
    have hRx : R[c] = g.bound[c] := by subst hR; rw [List.getElem_append_right (by simp; omega)]; simp; congr 1; omega
    have hRs : R.set c (cutR g.most g.bound[c]) = (g.bound.take (c + 1)).map (cutR g.most) ++ g.bound.drop (c + 1) := by
     subst hR
     rw [List.set_append_right _ _ (by simp; omega), List.take_succ_eq_append_getElem hc', List.map_append]
     have e : c - ((g.bound.take c).map (cutR g.most)).length = 0 := by simp; omega
     rw [e, List.drop_eq_getElem_cons hc', List.set_cons_zero]
     simp
    have n0 := Ye R hRc
    have n1 := Yf R hRc
    have wr := Z0q R hRc (cutR g.most g.bound[c])
    rw [hRs] at wr
    rw [<- hR] at hb
    rw [hRx] at n0 n1
    clear hR hRx
    generalize g.bound[c] = x at *
    unfold rgB at hb
    have k1 : ∀ X, hget (([m' + 3], X) :: H') [2] = hget H' [2] := fun X => hc11 (by omega)
    have k2 : ∀ X, hget (([m' + 3], X) :: H') [0] = hget H' [0] := fun X => hc11 (by omega)
    simp -implicitDefEqProofs only [go_sem, a22, a24, hT, hcl, hinr, hb, n0, n1]
    have hkk : g.bound.length - (c + 1) < g.bound.length - c := by omega
    have k3 : ∀ X, hget (([m' + 3], X) :: H') [m' + 3] = some X := fun X => Z3 ..
    have hw1 : wrapF .i64 ((c : Int) + 1) = ((c + 1 : Nat) : Int) := Z5 (by omega) (by omega)
    simp only [cutR] at wr
    try simp only [Z1]
    refine Z7 [[], [], [], [2], [], [4], [5, 4], [6, 5, 4], [7, 6, 5, 4], [3, 2, 8, 7, 6, 5, 4], [], [10], [], [12], [13, 12], [14, 13, 12], [15, 14, 13, 12], [11, 10, 16, 15, 14, 13, 12], [9, 3, 2, 8, 7, 6, 5, 4, 17, 11, 10, 16, 15, 14, 13, 12], [0, 1, 18, 9, 3, 2, 8, 7, 6, 5, 4, 17, 11, 10, 16, 15, 14, 13, 12], [19, 0, 1, 18, 9, 3, 2, 8, 7, 6, 5, 4, 17, 11, 10, 16, 15, 14, 13, 12]] [[], [], [], [], [], [], [], [], [], [], [], [], [], [], [], [], [], [], [], [], [[2]]] (by kernel_rfl) rfl rfl ?_
    simp -implicitDefEqProofs only [go_sem, Option.getD_some, a0, a18, a19, a5, a22, a23, a24, hT, hinr, hb, g0, k1, k2, k3, Z3d, Xb, n0, n1, wr, hw1, Z8]
    refine ⟨g.bound.length - (c + 1), hkk, trivial, trivial, trivial, trivial, trivial, trivial, trivial, c + 1, m' + 2, _, rfl, hc', rfl, rfl, by omega, ?_, fun k hk hne => ?_⟩
    all_goals clear hw1
    ·simp (disch := omega) only [hc11, Z0, Za, Option.getD_some]; rfl
    ·simp (disch := omega) only [hc11, Z0, lkn, lk11, Option.getD_none]; exact hfr k hk hne
   ·have hce : c = g.bound.length := by omega
    subst hce
    rw [List.take_length, List.drop_length, List.append_nil] at hb
    simp -implicitDefEqProofs only [go_sem, hcl]
    exact ⟨_, m', H', rfl, hmm, by simp -implicitDefEqProofs only [go_sem, hT], by simp -implicitDefEqProofs only [go_sem, a0], by simp -implicitDefEqProofs only [go_sem, a18], by simp -implicitDefEqProofs only [go_sem, a19], hb, hfr⟩
  clear a0 a18 b19 hT T
  rintro _ ⟨T, m', H', rfl, hmm, hT, a0, a18, a19, hb, hfr⟩
  simp -implicitDefEqProofs only [go_sem, a0, a18, a19, hT]
  refine ⟨2 - (1 + 1), by omega, trivial, trivial, trivial, 1 + 1, m', H', g.free.map (cutR g.most), g.bound.map (cutR g.most), rfl, by omega, rfl, rfl, fun e => Nat.le_trans (hm e) hmm, ⟨?_, ?_, ?_, fun e => ?_⟩, rfl, rfl⟩
  ·exact (hfr 0 (by omega) (by decide)).trans (hs.x.trans (congrArg some (Z2y rfl (List.length_map ..).symm rfl rfl rfl)))
  ·exact (hfr 1 (by omega) (by decide)).trans hs.f
  ·exact hb
  ·have := hm e
   exact (hfr 3 (by omega) (by decide)).trans (hs.r e)
 ·have hs : SysAt E H0 [0] [1] [2] [3] v ⟨g.free.map (cutR g.most), g.bound.map (cutR g.most), g.room, g.most, g.flashed⟩ := hs
  have b19 : nth T 19 = some (.int .i64 2) := a19
  simp -implicitDefEqProofs only [go_sem, b19, hT, Try.results151]
  exact ⟨trivial, hs⟩
end Go.Proofs.Ytgnpnfkncbnjnaa
namespace Go.Proofs.Ytgnpnfkncbnjnaa
attribute [local go_sem_proc] Int.reduceEq Int.reduceNeg Nat.reduceEqDiff Nat.reduceLT Nat.reduceAdd Nat.reduceSub Nat.reduceMul Int.reduceLE Int.reduceLT Int.reduceToNat Nat.reduceLeDiff
attribute [local go_sem] Int.toNat_natCast Bool.not_true Bool.not_false
open Go Go.Am
attribute [local congr] Ze Zb Zc
attribute [local go_sem] Go.Am.frozen Go.Am.freezeG Go.Am.freezeGs
variable {E : AV}
theorem Z7a {α : Type} {G F : List α} (h : G.length = F.length) (i : Nat) : (G.take i ++ F.drop i).length = F.length := by
 rw [List.length_append, List.length_take, List.length_drop]; omega
theorem Zer {α : Type} {G F : List α} (h : G.length = F.length) {i : Nat} (hi : i < F.length) (hi2 : i < (G.take i ++ F.drop i).length) : (G.take i ++ F.drop i)[i] = F[i] := by
 rw [List.getElem_append_right (by rw [List.length_take]; omega), List.getElem_drop]
 congr 1
 rw [List.length_take]; omega
theorem Zld {α : Type} {G F : List α} (h : G.length = F.length) {i : Nat} (hi : i < F.length) (hg : i < G.length) : (G.take i ++ F.drop i).set i G[i] = G.take (i + 1) ++ F.drop (i + 1) := by
 rw [List.set_append_right _ _ (by rw [List.length_take]; omega), List.take_succ_eq_append_getElem hg]
 have e : i - (G.take i).length = 0 := by rw [List.length_take]; omega
 rw [e, List.drop_eq_getElem_cons hi, List.set_cons_zero, List.append_assoc]
 rfl
theorem Z2z {G F : List Rg} (h : G.length = F.length) {i : Nat} (hi : i < F.length) (y : Rg) (hy : ∀ h2 : i < G.length, G[i] = y) : ∃ R, R = G.take i ++ F.drop i /\ R.length = F.length /\ nth (R.flatMap rgC) (i * 2) = some (.int .i64 F[i].lo) /\ nth (R.flatMap rgC) (i * 2 + 1) = some (.int .i64 F[i].hi) /\ setNth (setNth (R.flatMap rgC) (i * 2) (.int .i64 y.lo)) (i * 2 + 1) (.int .i64 y.hi) = (G.take (i + 1) ++ F.drop (i + 1)).flatMap rgC := by
 have hg : i < G.length := by omega
 have hl := Z7a h i
 have hi2 : i < (G.take i ++ F.drop i).length := by omega
 refine ⟨_, rfl, hl, ?_, ?_, ?_⟩
 ·rw [Ye _ hi2, Zer h hi hi2]
 ·rw [Yf _ hi2, Zer h hi hi2]
 ·rw [Z0q _ hi2, <- hy hg, Zld h hi hg]
def rateP (h : Int) : Rg -> List Rel -> Rg
 | q, [] => q
 | q, b :: r => if h < b.frm then q else rateP h b.rate r
def relFr (h : Int) (x : Ves) (f b : Rg) : Rg := plusR f ⟨downN b.lo (rateP h ⟨0, 0⟩ x.bands).lo, upN b.hi (rateP h ⟨0, 0⟩ x.bands).hi⟩
def relBo (h : Int) (x : Ves) (b : Rg) : Rg := ⟨downN b.lo (wrapF .i64 (1000000 - (rateP h ⟨0, 0⟩ x.bands).hi)), upN b.hi (wrapF .i64 (1000000 - (rateP h ⟨0, 0⟩ x.bands).lo))⟩
def relF (h : Int) (vs : List Ves) (F B : List Rg) : List Rg := (vs.zip (F.zip B)).map fun t => relFr h t.1 t.2.1 t.2.2
def relB (h : Int) (vs : List Ves) (B : List Rg) : List Rg := (vs.zip B).map fun t => relBo h t.1 t.2
def relT (v : Vac) (g : Gs) (s : Bk) : Gs := ⟨relF s.heat v.vessels g.free g.bound, relB s.heat v.vessels g.bound, g.room, g.most, g.flashed⟩
theorem Z3p {h : Int} {vs : List Ves} {F B : List Rg} (h1 : F.length = vs.length) (h2 : B.length = vs.length) : (relF h vs F B).length = vs.length := by
 simp [relF, h1, h2]
theorem Z7b {h : Int} {vs : List Ves} {B : List Rg} (h2 : B.length = vs.length) : (relB h vs B).length = vs.length := by
 simp [relB, h2]
theorem Zb7 {h : Int} {vs : List Ves} {F B : List Rg} {i : Nat} (h0 : i < (relF h vs F B).length) (h1 : i < vs.length) (h2 : i < F.length) (h3 : i < B.length) : (relF h vs F B)[i] = relFr h vs[i] F[i] B[i] := by
 simp [relF]
theorem Zb8 {h : Int} {vs : List Ves} {B : List Rg} {i : Nat} (h0 : i < (relB h vs B).length) (h1 : i < vs.length) (h3 : i < B.length) : (relB h vs B)[i] = relBo h vs[i] B[i] := by
 simp [relB]
theorem Z8o [hE : Emp E] {K : Nat} {X f b r : Nm} {v : Vac} {g : Gs} {s : Bk} {H : Heap} {n : Nat} {p : Nm} {j : Delta} (h : SysAt E H X f b r v g) (ha : Apart X f b r) (h1 : g.free ≠ []) (hl1 : g.free.length = v.vessels.length) (hl2 : g.bound.length = v.vessels.length) (hK : v.vessels.length + 20 < K) (hl : v.vessels.length <= 1000000) (hbd : ∀ x ∈ v.vessels, x.bands.length <= 8) :
  acall cfg (K + 2) 148 [.ptr X 0, bkV s] ⟨H, n, p, false, j⟩ = .ret (.tuple [], ⟨sysPut E X f b r v (relT v g s) H, n, p, false, j⟩) := by
 have hGF := Z3p (h := s.heat) hl1 hl2
 have hGB := Z7b (h := s.heat) hl2
 have h2 : g.bound ≠ [] := fun e => h1 (List.length_eq_zero_iff.1 (by rw [hl1, <- hl2, e]; rfl))
 refine Z15 Zjn Zjm h ha h1 h2 (by show (relF _ _ _ _).length = _; omega) (by show (relB _ _ _).length = _; omega) rfl fun H0 m hs hm => ?_
 refine Z6 rfl fun T hT' hA => ?_
 have a0 := hA 0 _ rfl
 have a1 := hA 1 _ rfl
 have hT : T.length = 92 := hT'
 clear hA hT'
 have g0 := hs.x
 unfold sysB at g0
 have k0 : ∀ X, hget (([m + 3], X) :: H0) [0] = hget H0 [0] := fun X => hc11 (by omega)
 simp -implicitDefEqProofs only [go_sem, a0, a1, hT, g0, k0]
 simp only [Z1]
 unfold relT
 refine Zf (fun k T s' => T.length = 92 /\ nth T 0 = some (.ptr [0] 0) /\ nth T 3 = some (.ptr [m + 3] 0) /\ nth T 14 = some (.lst (v.vessels.map vesV)) /\ nth T 15 = some (.int .i64 v.vessels.length) /\ ∃ (i m' : Nat) (H' : Heap), nth T 16 = some (.int .i64 i) /\ i <= v.vessels.length /\ k = v.vessels.length - i /\ s' = ⟨H', m' + 3, [], false, []⟩ /\ m < m' /\ hget H' [m + 3] = some (.cells [.int .i64 s.ticks, .int .i64 s.heat, .lst (s.shut.map iV), .bool s.flash] true 0) /\ SysAt E H' [0] [1] [2] [3] v ⟨(relF s.heat v.vessels g.free g.bound).take i ++ g.free.drop i, (relB s.heat v.vessels g.bound).take i ++ g.bound.drop i, g.room, g.most, g.flashed⟩) (k := v.vessels.length) (by omega) ?_ ?_
 ·exact ⟨by simp -implicitDefEqProofs only [go_sem, hT], by simp -implicitDefEqProofs only [go_sem, a0], by simp -implicitDefEqProofs only [go_sem, hT], by simp -implicitDefEqProofs only [go_sem, hT], by simp -implicitDefEqProofs only [go_sem, hT], 0, m + 1, _, by simp -implicitDefEqProofs only [go_sem, hT] <;> rfl, by omega, rfl, rfl, by omega, Z3 .., ⟨(k0 _).trans hs.x, (hc11 (by omega)).trans hs.f, (hc11 (by omega)).trans hs.b, fun e => (hc11 (by have := hm e; omega)).trans (hs.r e)⟩⟩
 clear a0 a1 hT T g0 k0 hs H0
 rintro k T s' ⟨hT, a0, a3, a14, a15, i, m', H0, a16, hi, rfl, rfl, hmm, hbk, hs⟩
 simp -implicitDefEqProofs only [go_sem, a15, a16, hT]
 by_cases hil : (i : Int) < (v.vessels.length : Int)
 ·have hi' : i < v.vessels.length := by omega
  have e1 := Z9 (f := vesV) (l := v.vessels) (i := i) (z := 6) hi' rfl
  have hkk : v.vessels.length - (i + 1) < v.vessels.length - i := by omega
  have hbx := hbd _ (List.getElem_mem hi')
  obtain ⟨F, hF, lF, f0, f1, fw⟩ := Z2z (G := relF s.heat v.vessels g.free g.bound) (F := g.free) (by omega) (show i < g.free.length by omega) _ (fun h0 => Zb7 h0 hi' (by omega) (by omega))
  obtain ⟨B, hB, lB, b0, b1, bw⟩ := Z2z (G := relB s.heat v.vessels g.bound) (F := g.bound) (by omega) (show i < g.bound.length by omega) _ (fun h0 => Zb8 h0 hi' (by omega))
  rw [<- hF, <- hB] at hs
  clear hF hB
  generalize hF' : (relF s.heat v.vessels g.free g.bound).take (i + 1) ++ g.free.drop (i + 1) = F' at fw
  generalize hB' : (relB s.heat v.vessels g.bound).take (i + 1) ++ g.bound.drop (i + 1) = B' at bw
  generalize v.vessels[i] = x at *
  generalize g.free[i] = fi at *
  generalize g.bound[i] = bi at *
  simp only [vesV] at e1
  have k1 : ∀ X Y, hget (([m' + 4], X) :: ([m' + 3], Y) :: H0) [m' + 3] = some Y := fun X Y => (hc11 (by omega)).trans (Z3 ..)
  simp -implicitDefEqProofs only [go_sem, a14, a16, hT, hil, e1, k1]
  simp only [Z1]
  refine Tr.Does.mono (Q := fun x' => ∃ (T' : List AV) (m2 : Nat) (H2 : Heap), x' = ((AExit.exit 2, T'), (⟨H2, m2 + 5, [], false, []⟩ : St)) /\ m' <= m2 /\ T'.length = 92 /\ nth T' 0 = some (.ptr [0] 0) /\ nth T' 3 = some (.ptr [m + 3] 0) /\ nth T' 4 = some (.int .i64 i) /\ nth T' 6 = some (.ptr [m' + 4] 0) /\ nth T' 14 = some (.lst (v.vessels.map vesV)) /\ nth T' 15 = some (.int .i64 v.vessels.length) /\ nth T' 16 = some (.int .i64 i) /\ hget H2 [m' + 4] = some (.cells [.int .i64 (rateP s.heat ⟨0, 0⟩ x.bands).lo, .int .i64 (rateP s.heat ⟨0, 0⟩ x.bands).hi] true 0) /\ ∀ k, k < m' + 3 -> hget H2 [k] = hget H0 [k]) ?_ ?_
  ·refine Zf (fun k T s' => T.length = 92 /\ nth T 0 = some (.ptr [0] 0) /\ nth T 3 = some (.ptr [m + 3] 0) /\ nth T 4 = some (.int .i64 i) /\ nth T 6 = some (.ptr [m' + 4] 0) /\ nth T 14 = some (.lst (v.vessels.map vesV)) /\ nth T 15 = some (.int .i64 v.vessels.length) /\ nth T 16 = some (.int .i64 i) /\ nth T 22 = some (.lst (x.bands.map relV)) /\ nth T 23 = some (.int .i64 x.bands.length) /\ ∃ (c m2 : Nat) (H2 : Heap) (q : Rg), nth T 24 = some (.int .i64 c) /\ c <= x.bands.length /\ k = x.bands.length - c /\ s' = ⟨H2, m2 + 5, [], false, []⟩ /\ m' <= m2 /\ hget H2 [m' + 4] = some (.cells [.int .i64 q.lo, .int .i64 q.hi] true 0) /\ (∀ k, k < m' + 3 -> hget H2 [k] = hget H0 [k]) /\ rateP s.heat ⟨0, 0⟩ x.bands = rateP s.heat q (x.bands.drop c)) (k := x.bands.length) (by omega) ?_ ?_
   ·exact ⟨by simp -implicitDefEqProofs only [go_sem, hT], by simp -implicitDefEqProofs only [go_sem, a0], by simp -implicitDefEqProofs only [go_sem, a3], by simp -implicitDefEqProofs only [go_sem, hT], by simp -implicitDefEqProofs only [go_sem, hT], by simp -implicitDefEqProofs only [go_sem, a14], by simp -implicitDefEqProofs only [go_sem, a15], by simp -implicitDefEqProofs only [go_sem, a16], by simp -implicitDefEqProofs only [go_sem, hT], by simp -implicitDefEqProofs only [go_sem, hT], 0, m', _, ⟨0, 0⟩, by simp -implicitDefEqProofs only [go_sem, hT] <;> rfl, by omega, rfl, rfl, Nat.le_refl _, Z3 .., fun k hk => (hc11 (by omega)).trans (hc11 (by omega)), rfl⟩
   clear a0 a3 a14 a15 a16 hT T k1
   rintro k T s' ⟨hT, a0, a3, a4, a6, a14, a15, a16, a22, a23, c, m2, H2, q, a24, hc, rfl, rfl, hm2, hq, hfr, hra⟩
   simp -implicitDefEqProofs only [go_sem, a23, a24, hT]
   by_cases hcl : (c : Int) < (x.bands.length : Int)
   ·have hc' : c < x.bands.length := by omega
    have e2 := Z9 (f := relV) (l := x.bands) (i := c) (z := 3) hc' rfl
    have hk2 : x.bands.length - (c + 1) < x.bands.length - c := by omega
    rw [List.drop_eq_getElem_cons hc'] at hra
    generalize x.bands[c] = y at *
    simp only [rateP] at hra
    simp only [relV] at e2
    have k5 : ∀ X, hget (([m2 + 5], X) :: H2) [m2 + 5] = some X := fun X => Z3 ..
    have k3 : ∀ X, hget (([m2 + 5], X) :: H2) [m + 3] = _ := fun X => (hc11 (by omega)).trans ((hfr _ (by omega)).trans hbk)
    have k4 : ∀ X, hget (([m2 + 5], X) :: H2) [m' + 4] = _ := fun X => (hc11 (by omega)).trans hq
    by_cases cq : s.heat < y.frm
    ·rw [if_pos cq] at hra
     simp -implicitDefEqProofs only [go_sem, a3, a22, a24, hT, hcl, e2, k5, k3, cq]
     exact ⟨_, m2 + 1, _, rfl, by omega, by simp -implicitDefEqProofs only [go_sem, hT], by simp -implicitDefEqProofs only [go_sem, a0], by simp -implicitDefEqProofs only [go_sem, a3], by simp -implicitDefEqProofs only [go_sem, a4], by simp -implicitDefEqProofs only [go_sem, a6], by simp -implicitDefEqProofs only [go_sem, a14], by simp -implicitDefEqProofs only [go_sem, a15], by simp -implicitDefEqProofs only [go_sem, a16], by rw [k4, hra], fun k hk => (hc11 (by omega)).trans (hfr k hk)⟩
    ·rw [if_neg cq] at hra
     have hw1 : wrapF .i64 ((c : Int) + 1) = ((c + 1 : Nat) : Int) := Z5 (by omega) (by omega)
     have nm4 : (m2 + 5 = m' + 4) = False := eq_false (by omega)
     simp -implicitDefEqProofs only [go_sem, a0, a3, a4, a6, a14, a15, a16, a22, a23, a24, hT, hcl, e2, k5, k3, k4, cq, hw1, nm4]
     exact ⟨x.bands.length - (c + 1), hk2, trivial, trivial, trivial, trivial, trivial, trivial, trivial, trivial, trivial, trivial, c + 1, m2 + 1, _, y.rate, rfl, hc', rfl, rfl, by omega, (hc11 (by omega)).trans (hss hq), fun k hk => (hc11 (by omega)).trans ((hs11 (by omega)).trans (hfr k hk)), hra⟩
   ·have hce : c = x.bands.length := by omega
    subst hce
    rw [List.drop_length] at hra
    simp only [rateP] at hra
    simp -implicitDefEqProofs only [go_sem, hcl]
    exact ⟨_, m2, H2, rfl, hm2, by simp -implicitDefEqProofs only [go_sem, hT], by simp -implicitDefEqProofs only [go_sem, a0], by simp -implicitDefEqProofs only [go_sem, a3], by simp -implicitDefEqProofs only [go_sem, a4], by simp -implicitDefEqProofs only [go_sem, a6], by simp -implicitDefEqProofs only [go_sem, a14], by simp -implicitDefEqProofs only [go_sem, a15], by simp -implicitDefEqProofs only [go_sem, a16], by rw [hra]; exact hq, hfr⟩
  clear a0 a3 a14 a15 a16 hT T k1
  rintro _ ⟨T, m2, H2, rfl, hm2, hT, a0, a3, a4, a6, a14, a15, a16, hq, hfr⟩
  simp only [relFr, relBo] at fw bw
  generalize rateP s.heat ⟨0, 0⟩ x.bands = q at *
  have hinF : inR (i : Int) F.length = some i := X6 (by omega)
  have hinB : inR (i : Int) B.length = some i := X6 (by omega)
  have x0 := (hfr 0 (by omega)).trans hs.x
  have x1 := (hfr 1 (by omega)).trans hs.f
  have x2 := (hfr 2 (by omega)).trans hs.b
  have x3 := fun e => (hfr 3 (by have := hm e; omega)).trans (hs.r e)
  have xk := (hfr (m + 3) (by omega)).trans hbk
  have lF' : F'.length = F.length := by rw [<- hF', Z7a (by omega)]; omega
  have lB' : B'.length = B.length := by rw [<- hB', Z7a (by omega)]; omega
  have y0 : hget H2 [0] = some (sysB E v [1] [2] [3] ⟨F', B', g.room, g.most, g.flashed⟩) := x0.trans (congrArg some (Z2y lF'.symm lB'.symm rfl rfl rfl))
  clear hs hbk hfr
  unfold sysB at x0
  unfold rgB at x1 x2
  simp only at x0 x1 x2
  have k0 : ∀ X, hget (([m2 + 5], X) :: H2) [0] = hget H2 [0] := fun X => hc11 (by omega)
  have k1 : ∀ X, hget (([m2 + 5], X) :: H2) [1] = hget H2 [1] := fun X => hc11 (by omega)
  have k2 : ∀ X, hget (([m2 + 5], X) :: H2) [2] = hget H2 [2] := fun X => hc11 (by omega)
  have k4 : ∀ X, hget (([m2 + 5], X) :: H2) [m' + 4] = hget H2 [m' + 4] := fun X => hc11 (by omega)
  have k5 : ∀ X, hget (([m2 + 5], X) :: H2) [m2 + 5] = some X := fun X => Z3 ..
  have c1 := fun a b s => Z89 a b K s
  have c2 := fun a b s => Ze5 a b K s
  have c3 := fun a b s => Z26 ⟨fi.lo, fi.hi⟩ ⟨a, b⟩ K s
  simp only [rgV] at c3
  have hw1 : wrapF .i64 ((i : Int) + 1) = ((i + 1 : Nat) : Int) := Z5 (by omega) (by omega)
  have nm4 : ∀ x r, lkD (([1], x) :: r) [m' + 4] = lkD r [m' + 4] := fun x r => lk11 (by omega)
  have nm5 : ∀ x r, lkD (([1], x) :: r) [m2 + 5] = lkD r [m2 + 5] := fun x r => lk11 (by omega)
  simp -implicitDefEqProofs only [go_sem, a0, a4, hT, x0, x2, hinB, b0, b1]
  try simp only [Z1]
  refine Z7 [[], [0], [1, 0], [2, 1, 0], [3, 2, 1, 0], [], [], [6], [7, 6], [8, 7, 6], [9, 8, 7, 6], [], [10, 9, 8, 7, 6, 11], [12, 10, 9, 8, 7, 6, 11], [], [14], [], [16], [15, 14, 17, 16], [], [19], [], [21], [20, 19, 22, 21, 18, 15, 14, 17, 16], [23, 20, 19, 22, 21, 18, 15, 14, 17, 16], [13, 12, 10, 9, 8, 7, 6, 11, 24, 23, 20, 19, 22, 21, 18, 15, 14, 17, 16], [4, 3, 2, 1, 0, 5, 25, 13, 12, 10, 9, 8, 7, 6, 11, 24, 23, 20, 19, 22, 21, 18, 15, 14, 17, 16], [26, 4, 3, 2, 1, 0, 5, 25, 13, 12, 10, 9, 8, 7, 6, 11, 24, 23, 20, 19, 22, 21, 18, 15, 14, 17, 16]] [[], [], [], [], [], [], [], [], [], [], [], [], [], [], [], [], [], [], [], [], [], [], [], [], [], [], [], [[1]]] (by kernel_rfl) rfl rfl ?_
  simp -implicitDefEqProofs only [go_sem, Option.getD_some, a0, a4, a6, hT, x0, x1, hq, k0, k1, k4, k5, hinF, f0, f1, c1, c2, c3, Xb, fw, Z8]
  try simp only [Z1]
  refine Z7 [[], [0], [1, 0], [2, 1, 0], [3, 2, 1, 0], [], [], [6], [], [8], [9, 8], [7, 6, 10, 9, 8], [], [12], [], [14], [15, 14], [13, 12, 16, 15, 14, 11, 7, 6, 10, 9, 8], [17, 13, 12, 16, 15, 14, 11, 7, 6, 10, 9, 8], [4, 3, 2, 1, 0, 5, 18, 17, 13, 12, 16, 15, 14, 11, 7, 6, 10, 9, 8], [19, 4, 3, 2, 1, 0, 5, 18, 17, 13, 12, 16, 15, 14, 11, 7, 6, 10, 9, 8]] [[], [], [], [], [], [], [], [], [], [], [], [], [], [], [], [], [], [], [], [], [[2]]] (by kernel_rfl) rfl rfl ?_
  simp -implicitDefEqProofs only [go_sem, Z0, lkn, lk11, Option.getD_some, Option.getD_none, a0, a3, a4, a6, a14, a15, a16, hT, x0, x2, hq, k0, k2, k4, k5, nm4, nm5, hinB, b0, b1, c1, c2, Xb, bw, hw1, Z8]
  refine ⟨v.vessels.length - (i + 1), hkk, trivial, trivial, trivial, trivial, trivial, i + 1, m2 + 5, _, rfl, hi', rfl, rfl, by omega, ?_, ?_⟩
  all_goals clear hw1
  ·simp (disch := omega) only [hc11, Z0, lkn, lk11, Option.getD_none]; exact xk
  ·rw [hF', hB']
   refine ⟨?_, ?_, ?_, fun e => ?_⟩
   ·simp (disch := omega) only [hc11, Z0, lkn, lk11, Option.getD_none]; exact y0
   ·simp (disch := omega) only [hc11, Z0, lkn, Za, lk11, Option.getD_some, Option.getD_none]; rfl
   ·simp (disch := omega) only [hc11, Z0, lkn, Za, lk11, Option.getD_some, Option.getD_none]; rfl
   ·have := hm e
    simp (disch := omega) only [hc11, Z0, lkn, lk11, Option.getD_none]; exact x3 e
 ·have hie : i = v.vessels.length := by omega
  subst hie
  simp -implicitDefEqProofs only [go_sem, hil, Try.results148]
  have e1 : (relF s.heat v.vessels g.free g.bound).take v.vessels.length ++ g.free.drop v.vessels.length = relF s.heat v.vessels g.free g.bound := by
   rw [List.drop_of_length_le (by omega), List.append_nil, List.take_of_length_le (by omega)]
  have e2 : (relB s.heat v.vessels g.bound).take v.vessels.length ++ g.bound.drop v.vessels.length = relB s.heat v.vessels g.bound := by
   rw [List.drop_of_length_le (by omega), List.append_nil, List.take_of_length_le (by omega)]
  rw [e1, e2] at hs
  exact ⟨trivial, hs⟩
end Go.Proofs.Ytgnpnfkncbnjnaa
namespace Go.Proofs.Ytgnpnfkncbnjnaa
attribute [local go_sem_proc] Int.reduceEq Int.reduceNeg Nat.reduceEqDiff Nat.reduceLT Nat.reduceAdd Nat.reduceSub Nat.reduceMul Int.reduceLE Int.reduceLT Int.reduceToNat Nat.reduceLeDiff
attribute [local go_sem] Int.toNat_natCast Bool.not_true Bool.not_false
open Go Go.Am
attribute [local congr] Ze Zb Zc
attribute [local go_sem] Go.Am.frozen Go.Am.freezeG Go.Am.freezeGs
variable {E : AV}
def getFr (t : Gtr) (f r : Rg) : Rg := ⟨wrapF .i64 (f.lo - min2 (upN f.lo t.part.hi) r.hi), wrapF .i64 (f.hi - min2 (downN f.hi t.part.lo) r.lo)⟩
def getRo (t : Gtr) (f r : Rg) : Rg := ⟨max2 0 (wrapF .i64 (r.lo - upN f.hi t.part.hi)), max2 0 (wrapF .i64 (r.hi - downN f.lo t.part.lo))⟩
def getF : List Gtr -> Nat -> List Rg -> List Rg -> List Rg × List Rg
 | [], _, F, R => (F, R)
 | t :: ts, i, F, R => getF ts (i + 1) (F.set t.at'.toNat (getFr t (F[t.at'.toNat]?.getD ⟨0, 0⟩) (R[i]?.getD ⟨0, 0⟩))) (R.set i (getRo t (F[t.at'.toNat]?.getD ⟨0, 0⟩) (R[i]?.getD ⟨0, 0⟩)))
theorem Z3q : ∀ (l : List Gtr) (i : Nat) (F R : List Rg), (getF l i F R).1.length = F.length /\ (getF l i F R).2.length = R.length
 | [], _, _, _ => ⟨rfl, rfl⟩
 | t :: ts, i, F, R => by
  unfold getF
  have := Z3q ts (i + 1) (F.set t.at'.toNat (getFr t (F[t.at'.toNat]?.getD ⟨0, 0⟩) (R[i]?.getD ⟨0, 0⟩))) (R.set i (getRo t (F[t.at'.toNat]?.getD ⟨0, 0⟩) (R[i]?.getD ⟨0, 0⟩)))
  simpa using this
def getT (v : Vac) (g : Gs) (s : Bk) : Gs := if g.flashed = true then ⟨(getF v.getters 0 g.free g.room).1, g.bound, (getF v.getters 0 g.free g.room).2, g.most, g.flashed⟩ else g
theorem Xl {b : Nm} {n : Nat} (h : 0 < n) : rowX E b n = .slice b 0 n n false := by cases n with | zero => omega | succ n => rfl
theorem Zgq [hE : Emp E] {K : Nat} {X f b r : Nm} {v : Vac} {g : Gs} {s : Bk} {H : Heap} {n : Nat} {p : Nm} {j : Delta} (h : SysAt E H X f b r v g) (ha : Apart X f b r) (h1 : g.free ≠ []) (h2 : g.bound ≠ []) (hl1 : g.free.length = v.vessels.length) (hl3 : g.room.length = v.getters.length) (hK : v.getters.length + 20 < K) (hl : v.getters.length <= 1000000) (hat : ∀ t ∈ v.getters, 0 <= t.at' /\ t.at' < v.vessels.length) :
  acall cfg (K + 2) 150 [.ptr X 0, bkV s] ⟨H, n, p, false, j⟩ = .ret (.tuple [], ⟨sysPut E X f b r v (getT v g s) H, n, p, false, j⟩) := by
 have hgl := Z3q v.getters 0 g.free g.room
 refine Z15 Zjr Zjq h ha h1 h2 (by unfold getT; split <;> simp [hgl]) (by unfold getT; split <;> rfl) (by unfold getT; split <;> simp [hgl]) fun H0 m hs hm => ?_
 refine Z6 rfl fun T hT' hA => ?_
 have a0 := hA 0 _ rfl
 have a1 := hA 1 _ rfl
 have hT : T.length = 104 := hT'
 clear hA hT'
 have g0 := hs.x
 unfold sysB at g0
 have k0 : ∀ X, hget (([m + 3], X) :: H0) [0] = hget H0 [0] := fun X => hc11 (by omega)
 have hs' : ∀ X, SysAt E (([m + 3], X) :: H0) [0] [1] [2] [3] v g := fun X => ⟨(k0 _).trans hs.x, (hc11 (by omega)).trans hs.f, (hc11 (by omega)).trans hs.b, fun e => (hc11 (by have := hm e; omega)).trans (hs.r e)⟩
 unfold getT
 cases hfl : g.flashed with
 | false =>
  simp -implicitDefEqProofs only [go_sem, a0, a1, hT, g0, k0, hfl, Try.results150]
  exact ⟨trivial, hs' _⟩
 | true =>
  rw [if_pos rfl]
  simp -implicitDefEqProofs only [go_sem, a0, a1, hT, g0, k0, hfl]
  simp only [Z1]
  refine Zf (fun k T s' => T.length = 104 /\ nth T 0 = some (.ptr [0] 0) /\ nth T 18 = some (.lst (v.getters.map gtrV)) /\ nth T 19 = some (.int .i64 v.getters.length) /\ ∃ (i m' : Nat) (H' : Heap) (F R : List Rg), nth T 20 = some (.int .i64 i) /\ i <= v.getters.length /\ k = v.getters.length - i /\ s' = ⟨H', m' + 3, [], false, []⟩ /\ 1 <= m' /\ SysAt E H' [0] [1] [2] [3] v ⟨F, g.bound, R, g.most, true⟩ /\ F.length = g.free.length /\ R.length = g.room.length /\ getF v.getters 0 g.free g.room = getF (v.getters.drop i) i F R) (k := v.getters.length) (by omega) ?_ ?_
  ·exact ⟨by simp -implicitDefEqProofs only [go_sem, hT], by simp -implicitDefEqProofs only [go_sem, a0], by simp -implicitDefEqProofs only [go_sem, hT], by simp -implicitDefEqProofs only [go_sem, hT], 0, m + 1, _, g.free, g.room, by simp -implicitDefEqProofs only [go_sem, hT] <;> rfl, by omega, rfl, rfl, by omega, by have e := hs' (.cells [.int .i64 s.ticks, .int .i64 s.heat, .lst (s.shut.map iV), .bool s.flash] true 0); rw [show g = ⟨g.free, g.bound, g.room, g.most, true⟩ from by rw [<- hfl]] at e; exact e, rfl, rfl, rfl⟩
  clear a0 a1 hT T g0 k0 hs hs' H0
  rintro k T s' ⟨hT, a0, a18, a19, i, m', H0, F, R, a20, hi, rfl, rfl, hmm, hs, lF, lR, he⟩
  simp -implicitDefEqProofs only [go_sem, a19, a20, hT]
  by_cases hil : (i : Int) < (v.getters.length : Int)
  ·have hi' : i < v.getters.length := by omega
   have e1 := Z9 (f := gtrV) (l := v.getters) (i := i) (z := 5) hi' rfl
   have hkk : v.getters.length - (i + 1) < v.getters.length - i := by omega
   have hax := hat _ (List.getElem_mem hi')
   rw [List.drop_eq_getElem_cons hi'] at he
   generalize v.getters[i] = x at *
   obtain ⟨a, hxa⟩ : ∃ a : Nat, x.at' = a := ⟨x.at'.toNat, by omega⟩
   have haF : a < F.length := by omega
   have hiR : i < R.length := by omega
   simp only [getF] at he
   rw [hxa, Int.toNat_natCast, List.getElem?_eq_getElem haF, List.getElem?_eq_getElem hiR, Option.getD_some, Option.getD_some] at he
   have f0 := Ye F haF
   have f1 := Yf F haF
   have fw := Z0q F haF (getFr x F[a] R[i])
   have r0 := Ye R hiR
   have r1 := Yf R hiR
   have rw' := Z0q R hiR (getRo x F[a] R[i])
   generalize F[a] = fi at *
   generalize R[i] = ri at *
   generalize hF' : F.set a (getFr x fi ri) = F' at *
   generalize hR' : R.set i (getRo x fi ri) = R' at *
   have lF' : F'.length = F.length := by rw [<- hF']; simp
   have lR' : R'.length = R.length := by rw [<- hR']; simp
   simp only [getFr, getRo] at fw rw'
   have hinF : inR (a : Int) F.length = some a := X6 haF
   have hinR : inR (i : Int) R.length = some i := X6 hiR
   have hrow : rowX E [3] R.length = .slice [3] 0 R.length R.length false := Xl (by omega)
   have hrne : R ≠ [] := fun e => by rw [e] at hiR; simp at hiR
   have x0 := hs.x
   have x1 := hs.f
   have x2 := hs.b
   have x3 := hs.r hrne
   have y0 : hget H0 [0] = some (sysB E v [1] [2] [3] ⟨F', g.bound, R', g.most, true⟩) := x0.trans (congrArg some (Z2y lF'.symm rfl lR'.symm rfl rfl))
   unfold sysB at x0
   unfold rgB at x1 x3
   simp only at x0 x1 x2 x3
   rw [hrow] at x0
   simp only [gtrV] at e1
   rw [hxa] at e1
   have c1 := fun a b s => Z89 a b K s
   have c2 := fun a b s => Ze5 a b K s
   have k0 : ∀ X, hget (([m' + 3], X) :: H0) [0] = hget H0 [0] := fun X => hc11 (by omega)
   have k1 : ∀ X, hget (([m' + 3], X) :: H0) [1] = hget H0 [1] := fun X => hc11 (by omega)
   have k3 : ∀ X, hget (([m' + 3], X) :: H0) [3] = hget H0 [3] := fun X => hc11 (by omega)
   have k5 : ∀ X, hget (([m' + 3], X) :: H0) [m' + 3] = some X := fun X => Z3 ..
   have hw1 : wrapF .i64 ((i : Int) + 1) = ((i + 1 : Nat) : Int) := Z5 (by omega) (by omega)
   have hm0 : (m' = 0) = False := eq_false (by omega)
   have nm1 : ∀ x r, lkD (([1], x) :: r) [m' + 3] = lkD r [m' + 3] := fun x r => lk11 (by omega)
   simp -implicitDefEqProofs only [go_sem, a18, a20, hT, hil, e1]
   try simp only [Z1]
   refine Z7 [[], [0], [1, 0], [2, 1, 0], [3, 2, 1, 0], [], [5], [4, 3, 2, 1, 0, 6, 5], [7, 4, 3, 2, 1, 0, 6, 5], [], [9], [10, 9], [11, 10, 9], [12, 11, 10, 9], [], [13, 12, 11, 10, 9, 14], [15, 13, 12, 11, 10, 9, 14], [], [], [8, 7, 4, 3, 2, 1, 0, 6, 5, 17, 18], [16, 15, 13, 12, 11, 10, 9, 14, 19, 8, 7, 4, 3, 2, 1, 0, 6, 5, 17, 18]] [[], [], [], [], [], [], [], [], [], [], [], [], [], [], [], [], [], [], [], [[m' + 4, 17, 0]], [[m' + 4, 18, 0]]] (by kernel_rfl) rfl rfl ?_
   simp -implicitDefEqProofs only [go_sem, Z0, lkn, Za, Jm, Option.getD_some, Option.getD_none, a0, hT, x0, x1, x3, k0, k1, k3, k5, hinF, hinR, f0, f1, r0, r1, hd31, hm0, Z8]
   try simp only [Z1]
   refine Z7 [[], [0], [1, 0], [2, 1, 0], [3, 2, 1, 0], [], [5], [], [7], [], [9], [], [11], [12, 11], [10, 9, 13, 12, 11], [], [15], [14, 10, 9, 13, 12, 11, 16, 15], [8, 7, 17, 14, 10, 9, 13, 12, 11, 16, 15], [], [19], [], [21], [], [23], [24, 23], [22, 21, 25, 24, 23, 14, 10, 9, 13, 12, 11], [], [27], [26, 22, 21, 25, 24, 23, 14, 10, 9, 13, 12, 11, 28, 27], [20, 19, 29, 26, 22, 21, 25, 24, 23, 14, 10, 9, 13, 12, 11, 28, 27], [18, 8, 7, 17, 16, 15, 30, 20, 19, 29, 26, 22, 21, 25, 24, 23, 14, 10, 9, 13, 12, 11, 28, 27], [4, 3, 2, 1, 0, 6, 5, 31, 18, 8, 7, 17, 16, 15, 30, 20, 19, 29, 26, 22, 21, 25, 24, 23, 14, 10, 9, 13, 12, 11, 28, 27], [32, 4, 3, 2, 1, 0, 6, 5, 31, 18, 8, 7, 17, 16, 15, 30, 20, 19, 29, 26, 22, 21, 25, 24, 23, 14, 10, 9, 13, 12, 11, 28, 27]] [[], [], [], [], [], [], [], [], [], [], [], [], [], [], [], [], [], [], [], [], [], [], [], [], [], [], [], [], [], [], [], [], [], [[1]]] (by kernel_rfl) rfl rfl ?_
   simp -implicitDefEqProofs only [go_sem, Z0, lkn, Za, lk31, Jm, Option.getD_some, Option.getD_none, a0, hT, x0, x1, k0, k1, k5, hinF, f0, f1, c1, c2, Z3d, Xb, fw, Z8]
   try simp only [Z1]
   refine Z7 [[], [0], [1, 0], [2, 1, 0], [3, 2, 1, 0], [], [], [6], [], [8], [], [10], [11, 10], [9, 8, 12, 11, 10], [7, 6, 13, 9, 8, 12, 11, 10], [14, 7, 6, 13, 9, 8, 12, 11, 10], [], [16], [], [18], [], [20], [21, 20], [19, 18, 22, 21, 20, 13, 9, 8, 12, 11, 10], [17, 16, 23, 19, 18, 22, 21, 20, 13, 9, 8, 12, 11, 10], [24, 17, 16, 23, 19, 18, 22, 21, 20, 13, 9, 8, 12, 11, 10], [15, 14, 7, 6, 25, 24, 17, 16, 23, 19, 18, 22, 21, 20, 13, 9, 8, 12, 11, 10], [4, 3, 2, 1, 0, 5, 26, 15, 14, 7, 6, 25, 24, 17, 16, 23, 19, 18, 22, 21, 20, 13, 9, 8, 12, 11, 10], [27, 4, 3, 2, 1, 0, 5, 26, 15, 14, 7, 6, 25, 24, 17, 16, 23, 19, 18, 22, 21, 20, 13, 9, 8, 12, 11, 10]] [[], [], [], [], [], [], [], [], [], [], [], [], [], [], [], [], [], [], [], [], [], [], [], [], [], [], [], [], [[3]]] (by kernel_rfl) rfl rfl ?_
   simp -implicitDefEqProofs only [go_sem, Z0, lkn, Za, lk11, lk13, lk31, Jm, Option.getD_some, Option.getD_none, a0, a18, a19, a20, hT, x0, x3, k0, k3, k5, nm1, hinR, r0, r1, c1, c2, Z8n, Xb, rw', hw1, Z8]
   refine ⟨v.getters.length - (i + 1), hkk, trivial, trivial, trivial, trivial, i + 1, m' + 4, _, F', R', rfl, hi', rfl, rfl, by omega, ?_, by rw [lF']; exact lF, by rw [lR']; exact lR, he⟩
   all_goals clear hw1
   refine ⟨?_, ?_, ?_, fun e => ?_⟩
   ·simp (disch := omega) only [hc11, Z0, lkn, lk11, lk31, Option.getD_none]; exact y0
   ·simp (disch := omega) only [hc11, Z0, lkn, Za, lk11, lk31, Option.getD_some, Option.getD_none]; rfl
   ·simp (disch := omega) only [hc11, Z0, lkn, lk11, lk31, Option.getD_none]; exact x2
   ·simp (disch := omega) only [hc11, Z0, lkn, Za, lk11, lk31, Option.getD_some, Option.getD_none]; rfl
  ·have hie : i = v.getters.length := by omega
   subst hie
   rw [List.drop_length] at he
   simp only [getF] at he
   rw [he]
   simp -implicitDefEqProofs only [go_sem, hil, Try.results150]
   exact ⟨trivial, hs⟩
end Go.Proofs.Ytgnpnfkncbnjnaa
namespace Go.Proofs.Ytgnpnfkncbnjnaa
attribute [local go_sem_proc] Int.reduceEq Int.reduceNeg Nat.reduceEqDiff Nat.reduceLT Nat.reduceAdd Nat.reduceSub Nat.reduceMul Int.reduceLE Int.reduceLT Int.reduceToNat Nat.reduceLeDiff
attribute [local go_sem] Int.toNat_natCast Bool.not_true Bool.not_false
open Go Go.Am
attribute [local congr] Ze Zb Zc
attribute [local go_sem] Go.Am.frozen Go.Am.freezeG Go.Am.freezeGs
variable {E : AV}
def mulR (f r : Rg) : Rg := ⟨wrapF .i64 (f.lo * r.lo), wrapF .i64 (f.hi * r.hi)⟩
theorem Z8p (x y : Int) (a : Nat) (r : Rg) (c2 c5 M : Nat) (es : List (Int × Rg)) (cs : List AV) (F : List Rg) (K : Nat) (H : Heap) (n : Nat) (hy : y = a) (ha : a < F.length) (h2 : hget H [c2] = some (.cells [.ptr [0] 0] true 0)) (h5 : hget H [c5] = some (.cells [.map [M]] true 0)) (hM : hget H [M] = some (.map (encE es) false)) (h0 : hget H [0] = some (.cells cs true 0)) (hcs : nth cs 5 = some (.slice [1] 0 F.length F.length false)) (h1 : hget H [1] = some (rgB F)) (l2 : c2 < n) (l5 : c5 < n) (lM : M < n) (l1 : 1 < n) (nM0 : M ≠ 0) (nM1 : M ≠ 1) (nM2 : M ≠ c2) (nM5 : M ≠ c5) :
  ∃ H' n', acall cfg (K + 2) 180 [.int .i64 x, .int .i64 y, rgV r, .ptr [c2] 0, .ptr [c5] 0] ⟨H, n, [], false, []⟩ = .ret (.tuple [], ⟨H', n', [], false, []⟩) /\ n <= n' /\ hget H' [M] = some (.map (encE (setS es x (plusR (getS es x) (mulR F[a] r)))) false) /\ (∀ k, k < n -> k ≠ M -> hget H' [k] = hget H [k]) /\ ∀ k a b, hget H' [k, a, b] = hget H [k, a, b] := by
 suffices h : (acall cfg (K + 2) 180 [.int .i64 x, .int .i64 y, rgV r, .ptr [c2] 0, .ptr [c5] 0] ⟨H, n, [], false, []⟩).Does fun q => ∃ H' n', q = (.tuple [], ⟨H', n', [], false, []⟩) /\ n <= n' /\ hget H' [M] = some (.map (encE (setS es x (plusR (getS es x) (mulR F[a] r)))) false) /\ (∀ k, k < n -> k ≠ M -> hget H' [k] = hget H [k]) /\ ∀ k a b, hget H' [k, a, b] = hget H [k, a, b] by
  obtain ⟨q, e, H', n', rfl, h⟩ := h
  exact ⟨H', n', e, h⟩
 subst hy
 rw [Z6z Zkx Zkw]
 refine Z6 rfl fun T hT' hA => ?_
 have a0 := hA 0 _ rfl
 have a1 := hA 1 _ rfl
 have a2 := hA 2 _ rfl
 have a3 := hA 3 _ rfl
 have a4 := hA 4 _ rfl
 have hT : T.length = 34 := hT'
 clear hA hT'
 have f0 := Ye F ha
 have f1 := Yf F ha
 have hin : inR (a : Int) F.length = some a := X6 ha
 generalize F[a] = f at *
 unfold rgB at h1
 have k2 : ∀ X, hget (([n], X) :: H) [c2] = hget H [c2] := fun X => hc11 (by omega)
 have k0 : ∀ X, hget (([n], X) :: H) [0] = hget H [0] := fun X => hc11 (by omega)
 have k1 : ∀ X, hget (([n], X) :: H) [1] = hget H [1] := fun X => hc11 (by omega)
 have e2 : ∀ X Y, hget (([n + 1], Y) :: ([n], X) :: H) [c5] = hget H [c5] := fun X Y => (hc11 (by omega)).trans (hc11 (by omega))
 have e3 : ∀ X Y, hget (([n + 1], Y) :: ([n], X) :: H) [M] = hget H [M] := fun X Y => (hc11 (by omega)).trans (hc11 (by omega))
 have e4 : ∀ X Y, hget (([n + 1], Y) :: ([n], X) :: H) [n] = some X := fun X Y => (hc11 (by omega)).trans (Z3 ..)
 have e5 : ∀ X Y, hget (([n + 1], Y) :: ([n], X) :: H) [n + 1] = some Y := fun X Y => Z3 ..
 have hlk := fun (s : St) (hg : hget s.H [M] = some (.map (encE es) false)) => Zb0 (C := cfg.at 180) rfl (k := x) hg
 have hup := fun (s : St) (hg : hget s.H [M] = some (.map (encE es) false)) => Zl7 (C := cfg.at 180) rfl (k := x) (x := plusR (getS es x) (mulR f r)) hg
 have hpl := fun s => Z26 (getS es x) (mulR f r) K s
 generalize hE : setS es x (plusR (getS es x) (mulR f r)) = es2 at *
 generalize plusR (getS es x) (mulR f r) = pp at *
 simp only [rgV, mulR] at hlk hup hpl
 simp -implicitDefEqProofs only [go_sem, a1, a2, a3, hT, k2, h2, k0, h0, hcs, hin, k1, h1, f0, f1]
 have ip : isPre [n + 1 + 1, 17] [M] = false := Go.Am.Y5 _ _ (by omega)
 try simp only [Z1]
 refine Z7 [[], [], [], [], [2, 3], [], [5], [], [7], [6, 5, 8, 7], [], [10], [], [12], [11, 10, 13, 12], [9, 6, 5, 8, 7, 14, 11, 10, 13, 12], [4, 2, 3, 15, 9, 6, 5, 8, 7, 14, 11, 10, 13, 12], [0, 1, 16, 4, 2, 3, 15, 9, 6, 5, 8, 7, 14, 11, 10, 13, 12]] [[], [], [], [], [], [], [], [], [], [], [], [], [], [], [], [], [], [[M]]] (by kernel_rfl) rfl rfl ?_
 simp -implicitDefEqProofs only [go_sem, Option.getD_some, a0, a4, hT, e2, e3, e4, e5, h5, hM, hlk, hup, hpl, ip, Z8, Try.results180]
 refine ⟨_, _, rfl, by omega, ?_, fun k hk hne => ?_, fun k a b => ?_⟩
 ·simp (disch := omega) only [hc11, Z0, Za, Option.getD_some]
 ·simp (disch := omega) only [hc11, Z0, lkn, lk11, Option.getD_none]
 ·simp (disch := omega) only [hc13, Z0, lkn, lk13, Option.getD_none]
end Go.Proofs.Ytgnpnfkncbnjnaa
namespace Go.Proofs.Ytgnpnfkncbnjnaa
attribute [local go_sem_proc] Int.reduceEq Int.reduceNeg Nat.reduceEqDiff Nat.reduceLT Nat.reduceAdd Nat.reduceSub Nat.reduceMul Int.reduceLE Int.reduceLT Int.reduceToNat Nat.reduceLeDiff
attribute [local go_sem] Int.toNat_natCast Bool.not_true Bool.not_false
open Go Go.Am
attribute [local congr] Ze Zb Zc
attribute [local go_sem] Go.Am.frozen Go.Am.freezeG Go.Am.freezeGs
variable {E : AV}
def atR (F : List Rg) (a : Int) : Rg := F[a.toNat]?.getD ⟨0, 0⟩
theorem Z08 (F : List Rg) {a : Nat} (h : a < F.length) : atR F a = F[a] := by
 unfold atR; rw [Int.toNat_natCast, List.getElem?_eq_getElem h]; rfl
def begR (v : Vac) (shut : List Int) (F : List Rg) (i : Int) : Rg := mulR (atR F i) ⟨wrapF .i64 (1000000 - (outR v i shut).hi), wrapF .i64 (1000000 - (outR v i shut).lo)⟩
def flowS (F : List Rg) (shut : List Int) (x : Int) : Nat -> Rg -> List Pip -> Rg
 | _, acc, [] => acc
 | k, acc, p :: r => if (k : Int) ∈ shut then flowS F shut x (k + 1) acc r else
  flowS F shut x (k + 1) (if x = p.a then plusR (if x = p.b then plusR acc (mulR (atR F p.a) p.out) else acc) (mulR (atR F p.b) p.back) else (if x = p.b then plusR acc (mulR (atR F p.a) p.out) else acc)) r
def quoR (r : Rg) : Rg := ⟨wrapF .i64 (r.lo.tdiv 1000000), wrapF .i64 ((wrapF .i64 (wrapF .i64 (r.hi + 1000000) - 1)).tdiv 1000000)⟩
def flowG (v : Vac) (shut : List Int) (F : List Rg) : List Rg := (List.range F.length).map fun (i : Nat) => quoR (flowS F shut i 0 (begR v shut F i) v.pipes)
def leakR : List Rg -> List Inl -> List Rg
 | R, [] => R
 | R, l :: r => leakR (R.set l.at'.toNat (plusR (atR R l.at') l.gas)) r
theorem Z2e : ∀ (l : List Inl) (R : List Rg), (leakR R l).length = R.length
 | [], _ => rfl
 | x :: l, R => by unfold leakR; rw [Z2e l]; simp
theorem Xc (v : Vac) (shut : List Int) (F : List Rg) : (flowG v shut F).length = F.length := by simp [flowG]
def flowT (v : Vac) (g : Gs) (s : Bk) : Gs := ⟨leakR (flowG v s.shut g.free) v.leaks, g.bound, g.room, g.most, g.flashed⟩
structure Fl (E : AV) (m : Nat) (v : Vac) (g : Gs) (s : Bk) (H : Heap) : Prop where
 p : hget H [m + 3] = some (.cells [.ptr [0] 0] true 0)
 k : hget H [m + 4] = some (.cells [.int .i64 s.ticks, .int .i64 s.heat, .lst (s.shut.map iV), .bool s.flash] true 0)
 c : hget H [m + 7] = some (.cells [.map [m + 6]] true 0)
 l : hget H [m + 5, 6, 0] = some (.map (encE (leaveL v s.shut)) false)
 s : SysAt E H [0] [1] [2] [3] v g
theorem Fl.of {m : Nat} {v : Vac} {g : Gs} {s : Bk} {H H' : Heap} (h : Fl E m v g s H) (e : ∀ k, k < m + 8 -> k ≠ m + 6 -> hget H' [k] = hget H [k]) (e2 : hget H' [m + 5, 6, 0] = hget H [m + 5, 6, 0]) (hm : g.room ≠ [] -> 1 <= m) (h3 : 3 <= m + 3) : Fl E m v g s H' :=
 ⟨(e _ (by omega) (by omega)).trans h.p, (e _ (by omega) (by omega)).trans h.k, (e _ (by omega) (by omega)).trans h.c, e2.trans h.l,
  ⟨(e 0 (by omega) (by omega)).trans h.s.x, (e 1 (by omega) (by omega)).trans h.s.f, (e 2 (by omega) (by omega)).trans h.s.b, fun q => (e 3 (by omega) (by omega)).trans (h.s.r q)⟩⟩
theorem Zes [hE : Emp E] {K : Nat} {X f b r : Nm} {v : Vac} {g : Gs} {s : Bk} {H : Heap} {n : Nat} {p : Nm} {j : Delta} (h : SysAt E H X f b r v g) (ha : Apart X f b r) (h1 : g.free ≠ []) (h2 : g.bound ≠ []) (hl1 : g.free.length = v.vessels.length) (hK : v.vessels.length + 100 < K) (hl : v.vessels.length <= 1000000) (hv : v.Lens K) (hsh : s.shut.length < K) (hsh2 : s.shut.length <= 9223372036854775807)
  (hpp : ∀ q ∈ v.pipes, (0 <= q.a /\ q.a < v.vessels.length) /\ 0 <= q.b /\ q.b < v.vessels.length) (hll : ∀ q ∈ v.leaks, 0 <= q.at' /\ q.at' < v.vessels.length) :
  acall cfg (K + 4) 149 [.ptr X 0, bkV s] ⟨H, n, p, false, j⟩ = .ret (.tuple [], ⟨sysPut E X f b r v (flowT v g s) H, n, p, false, j⟩) := by
 refine Z15 Zjp Zjo h ha h1 h2 (by show (leakR _ _).length = _; rw [Z2e, Xc]) rfl rfl fun H0 m hs hm => ?_
 refine Z6 rfl fun T hT' hA => ?_
 have a0 := hA 0 _ rfl
 have a1 := hA 1 _ rfl
 have hT : T.length = 148 := hT'
 clear hA hT'
 have g0 := hs.x
 unfold sysB at g0
 have q0 : ∀ X Y, hget (([m + 4], X) :: ([m + 3], Y) :: H0) [0] = hget H0 [0] := fun X Y => (hc11 (by omega)).trans (hc11 (by omega))
 have q3 : ∀ X Y, hget (([m + 4], X) :: ([m + 3], Y) :: H0) [m + 3] = some Y := fun X Y => (hc11 (by omega)).trans (Z3 ..)
 have q4 : ∀ X Y, hget (([m + 4], X) :: ([m + 3], Y) :: H0) [m + 4] = some X := fun X Y => Z3 ..
 have u1 : (m + 4 = m) = False := eq_false (by omega)
 have u2 : (m + 3 = m) = False := eq_false (by omega)
 have hlv := fun s' => Z3a v s.shut K s' hv hsh hsh2
 simp only [vacV] at hlv
 simp -implicitDefEqProofs only [go_sem, a0, a1]
 try simp only [Z1]
 refine Z7 [[], [0], [1, 0], [2, 1, 0], [], [4], [3, 2, 1, 0, 5, 4], [6, 3, 2, 1, 0, 5, 4]] [[], [], [], [], [], [], [], []] (by kernel_rfl) rfl rfl ?_
 simp -implicitDefEqProofs only [go_sem, Z0, lkn, lk31, Option.getD_some, Option.getD_none, hT, g0, q0, q3, q4, hlv, u1, u2, Z8]
 have hF1 : ∀ B1 : Blk, Fl E m v g s (([m + 7], .cells [.map [m + 6]] true 0) :: ([m + 6], B1) :: redoH (([m + 4], .cells [.int .i64 s.ticks, .int .i64 s.heat, .lst (s.shut.map iV), .bool s.flash] true 0) :: ([m + 3], .cells [.ptr [0] 0] true 0) :: H0) [([m + 5, 6, 0], some (.map (encE (leaveL v s.shut)) false))]) := fun B1 =>
  ⟨by simp (disch := omega) only [Z3, hc11, Z0, lkn, lk31, Option.getD_none], by simp (disch := omega) only [Z3, hc11, Z0, lkn, lk31, Option.getD_none], Z3 .., by simp (disch := omega) only [hc13, Z0, Za, Option.getD_some], ⟨by simp (disch := omega) only [hc11, Z0, lkn, lk31, Option.getD_none]; exact hs.x, by simp (disch := omega) only [hc11, Z0, lkn, lk31, Option.getD_none]; exact hs.f, by simp (disch := omega) only [hc11, Z0, lkn, lk31, Option.getD_none]; exact hs.b, fun e => by have := hm e; simp (disch := omega) only [hc11, Z0, lkn, lk31, Option.getD_none]; exact hs.r e⟩⟩
 simp only [Z1]
 refine Tr.Does.mono (Q := fun x => ∃ (T' : List AV) (m' : Nat) (H' : Heap) (es : List (Int × Rg)), x = ((AExit.exit 0, T'), (⟨H', m' + 8, [], false, []⟩ : St)) /\ m <= m' /\ T'.length = 148 /\ nth T' 2 = some (.ptr [m + 3] 0) /\ nth T' 3 = some (.ptr [m + 4] 0) /\ nth T' 5 = some (.ptr [m + 7] 0) /\ Fl E m v g s H' /\ hget H' [m + 6] = some (.map (encE es) false) /\ ∀ q : Nat, q < g.free.length -> getS es q = begR v s.shut g.free q) ?_ ?_
 ·refine Zf (fun k T s' => T.length = 148 /\ nth T 2 = some (.ptr [m + 3] 0) /\ nth T 3 = some (.ptr [m + 4] 0) /\ nth T 4 = some (.map [m + 5, 6, 0]) /\ nth T 5 = some (.ptr [m + 7] 0) /\ nth T 26 = some (.slice [1] 0 g.free.length g.free.length false) /\ nth T 27 = some (.int .i64 g.free.length) /\ ∃ (i m' : Nat) (H' : Heap) (es : List (Int × Rg)), nth T 28 = some (.int .i64 i) /\ i <= g.free.length /\ k = g.free.length - i /\ s' = ⟨H', m' + 8, [], false, []⟩ /\ m <= m' /\ Fl E m v g s H' /\ hget H' [m + 6] = some (.map (encE es) false) /\ ∀ q : Nat, q < i -> getS es q = begR v s.shut g.free q) (k := g.free.length) (by omega) ?_ ?_
  ·exact ⟨by simp -implicitDefEqProofs only [go_sem, hT], by simp -implicitDefEqProofs only [go_sem, hT], by simp -implicitDefEqProofs only [go_sem, hT], by simp -implicitDefEqProofs only [go_sem, hT], by simp -implicitDefEqProofs only [go_sem, hT], by simp -implicitDefEqProofs only [go_sem, hT], by simp -implicitDefEqProofs only [go_sem, hT], 0, m, _, [], by simp -implicitDefEqProofs only [go_sem, hT] <;> rfl, by omega, rfl, rfl, Nat.le_refl _, hF1 _, by simp (disch := omega) only [Z3, hc11]; rfl, fun q hq => absurd hq (by omega)⟩
  clear a0 a1 hT T g0 q0 q3 q4 hs H0 hF1
  rintro k T s' ⟨hT, a2, a3, a4, a5, a26, a27, i, m', H0, es, a28, hi, rfl, rfl, hmm, hF, hM, hq⟩
  simp -implicitDefEqProofs only [go_sem, a27, a28, hT]
  by_cases hil : (i : Int) < (g.free.length : Int)
  ·have hi' : i < g.free.length := by omega
   have hkk : g.free.length - (i + 1) < g.free.length - i := by omega
   have f0 := Ye g.free hi'
   have f1 := Yf g.free hi'
   have hin : inR (i : Int) g.free.length = some i := X6 hi'
   have hbg : begR v s.shut g.free i = mulR g.free[i] ⟨wrapF .i64 (1000000 - (outR v i s.shut).hi), wrapF .i64 (1000000 - (outR v i s.shut).lo)⟩ := by unfold begR; rw [Z08 _ hi']
   generalize g.free[i] = fi at *
   have x1 := hF.s.f
   unfold rgB at x1
   have hc := hF.c
   have hlL := hF.l
   have z1 : (m' + 1 = m) = False := eq_false (by omega)
   have z2 : (m' + 2 = m) = False := eq_false (by omega)
   have z4 : (m' + 4 = m) = False := eq_false (by omega)
   have z5 : (m' + 5 = m) = False := eq_false (by omega)
   have hlk := fun (st : St) (hg : hget st.H [m + 5, 6, 0] = some (.map (encE (leaveL v s.shut)) false)) => Zb0 (C := cfg.at 149) rfl (k := (i : Int)) hg
   rw [Z4s] at hlk
   have hup := fun (st : St) (hg : hget st.H [m + 6] = some (.map (encE es) false)) => Zl7 (C := cfg.at 149) rfl (k := (i : Int)) (x := begR v s.shut g.free i) hg
   have hes : ∀ q : Nat, q < i + 1 -> getS (setS es i (begR v s.shut g.free i)) q = begR v s.shut g.free q := fun q hq2 => by
    rw [Z06]
    by_cases e : (q : Int) = i
    ·rw [if_pos e, e]
    ·rw [if_neg e]; exact hq q (by omega)
   rw [hbg] at hup
   have hw1 : wrapF .i64 ((i : Int) + 1) = ((i + 1 : Nat) : Int) := Z5 (by omega) (by omega)
   simp only [rgV, mulR] at hlk hup
   simp -implicitDefEqProofs only [go_sem, a2, a3, a4, a5, a26, a27, a28, hT, hil, hin, x1, f0, f1, hc, hM, hlL, z1, z2, hlk, hup, hw1]
   exact ⟨g.free.length - (i + 1), hkk, trivial, trivial, trivial, trivial, trivial, trivial, trivial, i + 1, m' + 1, _, setS es i (begR v s.shut g.free i), rfl, hi', rfl, rfl, by omega, hF.of (fun k hk hne => (hc11 (by omega)).trans (hs11 (by omega))) (hc13.trans hs13) hm (by omega), (hc11 (by omega)).trans (by rw [hbg]; exact hss hM), hes⟩
  ·have hie : i = g.free.length := by omega
   subst hie
   simp -implicitDefEqProofs only [go_sem, hil]
   exact ⟨_, m', H0, es, rfl, hmm, by simp -implicitDefEqProofs only [go_sem, hT], by simp -implicitDefEqProofs only [go_sem, a2], by simp -implicitDefEqProofs only [go_sem, a3], by simp -implicitDefEqProofs only [go_sem, a5], hF, hM, hq⟩
 clear a0 a1 hT T g0 q0 q3 q4 hs H0 hF1
 rintro _ ⟨T, m', H0, es, rfl, hmm, hT, a2, a3, a5, hF, hM, hq⟩
 have x0 := hF.s.x
 have hp := hF.p
 have hpc := hF.c
 unfold sysB at x0
 simp -implicitDefEqProofs only [go_sem, a2, a5, hT, hp, x0]
 simp only [Z1]
 refine Tr.Does.mono (Q := fun x => ∃ (T' : List AV) (m' : Nat) (H' : Heap) (es : List (Int × Rg)), x = ((AExit.exit 2, T'), (⟨H', m' + 8, [], false, []⟩ : St)) /\ m <= m' /\ T'.length = 148 /\ nth T' 2 = some (.ptr [m + 3] 0) /\ nth T' 5 = some (.ptr [m + 7] 0) /\ Fl E m v g s H' /\ hget H' [m + 6] = some (.map (encE es) false) /\ ∀ q : Nat, q < g.free.length -> getS es q = flowS g.free s.shut q 0 (begR v s.shut g.free q) v.pipes) ?_ ?_
 ·refine Zf (fun k T s' => T.length = 148 /\ nth T 2 = some (.ptr [m + 3] 0) /\ nth T 3 = some (.ptr [m + 4] 0) /\ nth T 5 = some (.ptr [m + 7] 0) /\ nth T 8 = some (.func 180 [.ptr [m + 3] 0, .ptr [m + 7] 0]) /\ nth T 58 = some (.lst (v.pipes.map pipV)) /\ nth T 59 = some (.int .i64 v.pipes.length) /\ ∃ (i m' : Nat) (H' : Heap) (es : List (Int × Rg)), nth T 60 = some (.int .i64 i) /\ i <= v.pipes.length /\ k = v.pipes.length - i /\ s' = ⟨H', m' + 8, [], false, []⟩ /\ m <= m' /\ Fl E m v g s H' /\ hget H' [m + 6] = some (.map (encE es) false) /\ ∀ q : Nat, q < g.free.length -> flowS g.free s.shut q 0 (begR v s.shut g.free q) v.pipes = flowS g.free s.shut q i (getS es q) (v.pipes.drop i)) (k := v.pipes.length) (by have := hv.pip.1; omega) ?_ ?_
  ·exact ⟨by simp -implicitDefEqProofs only [go_sem, hT], by simp -implicitDefEqProofs only [go_sem, a2], by simp -implicitDefEqProofs only [go_sem, a3], by simp -implicitDefEqProofs only [go_sem, a5], by simp -implicitDefEqProofs only [go_sem, hT], by simp -implicitDefEqProofs only [go_sem, hT], by simp -implicitDefEqProofs only [go_sem, hT], 0, m', _, es, by simp -implicitDefEqProofs only [go_sem, hT] <;> rfl, by omega, rfl, rfl, hmm, hF, hM, fun q hq2 => by rw [hq q hq2]; rfl⟩
  clear a2 a3 a5 hT T x0 hp hpc hF hM hq H0 hmm
  rintro k T s' ⟨hT, a2, a3, a5, a8, a58, a59, i, m', H0, es, a60, hi, rfl, rfl, hmm, hF, hM, hq⟩
  simp -implicitDefEqProofs only [go_sem, a59, a60, hT]
  by_cases hil : (i : Int) < (v.pipes.length : Int)
  ·have hi' : i < v.pipes.length := by omega
   have e1 := Z9 (f := pipV) (l := v.pipes) (i := i) (z := 6) hi' rfl
   have hkk : v.pipes.length - (i + 1) < v.pipes.length - i := by omega
   have hpx := hpp _ (List.getElem_mem hi')
   rw [List.drop_eq_getElem_cons hi'] at hq
   generalize v.pipes[i] = x at *
   simp only [flowS] at hq
   have hkc := hF.k
   have z4 : (m' + 4 = m) = False := eq_false (by omega)
   have z1 : (m' + 1 = m) = False := eq_false (by omega)
   have hco := fun st => Z29 s.shut i (K + 1) st (by omega) hsh2
   simp only [pipV] at e1
   have hw1 : wrapF .i64 ((i : Int) + 1) = ((i + 1 : Nat) : Int) := Z5 (by have := hv.pip.2; omega) (by have := hv.pip.2; omega)
   simp -implicitDefEqProofs only [go_sem, a3, a58, a60, hT, hil, e1, hkc, z4, hco]
   by_cases hin : (i : Int) ∈ s.shut
   ·simp only [if_pos hin] at hq
    simp -implicitDefEqProofs only [go_sem, a2, a3, a5, a8, a58, a59, a60, hT, hin, hw1]
    exact ⟨v.pipes.length - (i + 1), hkk, trivial, trivial, trivial, trivial, trivial, trivial, trivial, i + 1, m' + 1, _, es, rfl, hi', rfl, rfl, by omega, hF.of (fun k hk hne => hc11 (by omega)) hc13 hm (by omega), (hc11 (by omega)).trans hM, hq⟩
   ·simp only [if_neg hin] at hq
    obtain ⟨pa, hpa⟩ : ∃ q : Nat, x.a = q := ⟨x.a.toNat, by omega⟩
    obtain ⟨pb, hpb⟩ : ∃ q : Nat, x.b = q := ⟨x.b.toNat, by omega⟩
    have ha' : pa < g.free.length := by omega
    have hb' : pb < g.free.length := by omega
    have hF1 := hF.of (H' := ([m' + 8], .cells [.int .i64 x.a, .int .i64 x.b, .int .i64 x.out.lo, .int .i64 x.out.hi, .int .i64 x.back.lo, .int .i64 x.back.hi] true 0) :: H0) (fun k hk hne => hc11 (by omega)) hc13 hm (by omega)
    have hM1 : hget (([m' + 8], .cells [.int .i64 x.a, .int .i64 x.b, .int .i64 x.out.lo, .int .i64 x.out.hi, .int .i64 x.back.lo, .int .i64 x.back.hi] true 0) :: H0) [m + 6] = some (.map (encE es) false) := (hc11 (by omega)).trans hM
    have hx1 := hF1.s.x
    unfold sysB at hx1
    obtain ⟨H2, n2, hca, hn2, hM2, hfr, hfr3⟩ := Z8p x.b x.a pa x.out (m + 3) (m + 7) (m + 6) es _ g.free (K + 1) _ (m' + 9) hpa ha' hF1.p hF1.c hM1 hx1 rfl hF1.s.f (by omega) (by omega) (by omega) (by omega) (by omega) (by omega) (by omega) (by omega)
    have hF2 := hF1.of (H' := H2) (fun k hk hne => hfr k (by omega) hne) (hfr3 _ _ _) hm (by omega)
    have hP2 : hget H2 [m' + 8] = some (.cells [.int .i64 x.a, .int .i64 x.b, .int .i64 x.out.lo, .int .i64 x.out.hi, .int .i64 x.back.lo, .int .i64 x.back.hi] true 0) := (hfr _ (by omega) (by omega)).trans (Z3 ..)
    have hx2 := hF2.s.x
    unfold sysB at hx2
    obtain ⟨H3, n3, hcb, hn3, hM3, hfr', hfr3'⟩ := Z8p x.a x.b pb x.back (m + 3) (m + 7) (m + 6) _ _ g.free (K + 1) H2 n2 hpb hb' hF2.p hF2.c hM2 hx2 rfl hF2.s.f (by omega) (by omega) (by omega) (by omega) (by omega) (by omega) (by omega) (by omega)
    have hF3 := hF2.of (H' := H3) (fun k hk hne => hfr' k (by omega) hne) (hfr3' _ _ _) hm (by omega)
    obtain ⟨m3, rfl⟩ : ∃ q, n3 = q + 8 := ⟨n3 - 8, by omega⟩
    have hq2 : ∀ q : Nat, q < g.free.length -> flowS g.free s.shut q 0 (begR v s.shut g.free q) v.pipes = flowS g.free s.shut q (i + 1) (getS (setS (setS es x.b (plusR (getS es x.b) (mulR g.free[pa] x.out))) x.a (plusR (getS (setS es x.b (plusR (getS es x.b) (mulR g.free[pa] x.out))) x.a) (mulR g.free[pb] x.back))) q) (v.pipes.drop (i + 1)) := fun q hq2 => by
     rw [hq q hq2, Z06, hpa, hpb, Z08 _ ha', Z08 _ hb']
     by_cases e1 : (q : Int) = (pa : Int)
     ·rw [if_pos e1, if_pos e1, Z06, e1]
      by_cases e2 : (pa : Int) = (pb : Int)
      ·rw [if_pos e2, if_pos e2, e2]
      ·rw [if_neg e2, if_neg e2]
     ·rw [if_neg e1, if_neg e1, Z06]
      by_cases e2 : (q : Int) = (pb : Int)
      ·rw [if_pos e2, if_pos e2, e2]
      ·rw [if_neg e2, if_neg e2]
    simp only [rgV] at hca hcb
    clear hfr hfr' hfr3 hfr3' hx1 hx2 hF1 hF2 hM1 hM2 hq
    simp -implicitDefEqProofs only [go_sem, a2, a3, a5, a8, a58, a59, a60, hT, hin, hca, hP2, hcb, hw1]
    exact ⟨v.pipes.length - (i + 1), hkk, trivial, trivial, trivial, trivial, trivial, trivial, trivial, i + 1, m3, H3, _, rfl, hi', rfl, rfl, by omega, hF3, hM3, hq2⟩
  ·have hie : i = v.pipes.length := by omega
   subst hie
   rw [List.drop_length] at hq
   simp -implicitDefEqProofs only [go_sem, hil]
   exact ⟨_, m', H0, es, rfl, hmm, by simp -implicitDefEqProofs only [go_sem, hT], by simp -implicitDefEqProofs only [go_sem, a2], by simp -implicitDefEqProofs only [go_sem, a5], hF, hM, fun q hq2 => by rw [hq q hq2]; rfl⟩
 rintro _ ⟨T, m', H0, es, rfl, hmm, hT, a2, a5, hF, hM, hq⟩
 have x0 := hF.s.x
 have hp := hF.p
 unfold sysB at x0
 simp -implicitDefEqProofs only [go_sem, a2, hT, hp, x0]
 simp only [Z1]
 refine Tr.Does.mono (Q := fun x => ∃ (T' : List AV) (m' : Nat) (H' : Heap), x = ((AExit.exit 4, T'), (⟨H', m' + 8, [], false, []⟩ : St)) /\ m <= m' /\ T'.length = 148 /\ nth T' 2 = some (.ptr [m + 3] 0) /\ hget H' [m + 3] = some (.cells [.ptr [0] 0] true 0) /\ SysAt E H' [0] [1] [2] [3] v ⟨flowG v s.shut g.free, g.bound, g.room, g.most, g.flashed⟩) ?_ ?_
 ·have hGl := Xc v s.shut g.free
  refine Zf (fun k T s' => T.length = 148 /\ nth T 2 = some (.ptr [m + 3] 0) /\ nth T 5 = some (.ptr [m + 7] 0) /\ nth T 91 = some (.slice [1] 0 g.free.length g.free.length false) /\ nth T 92 = some (.int .i64 g.free.length) /\ ∃ (i m' : Nat) (H' : Heap), nth T 93 = some (.int .i64 i) /\ i <= g.free.length /\ k = g.free.length - i /\ s' = ⟨H', m' + 8, [], false, []⟩ /\ m <= m' /\ hget H' [m + 3] = some (.cells [.ptr [0] 0] true 0) /\ hget H' [m + 7] = some (.cells [.map [m + 6]] true 0) /\ hget H' [m + 6] = some (.map (encE es) false) /\ SysAt E H' [0] [1] [2] [3] v ⟨(flowG v s.shut g.free).take i ++ g.free.drop i, g.bound, g.room, g.most, g.flashed⟩) (k := g.free.length) (by omega) ?_ ?_
  ·exact ⟨by simp -implicitDefEqProofs only [go_sem, hT], by simp -implicitDefEqProofs only [go_sem, a2], by simp -implicitDefEqProofs only [go_sem, a5], by simp -implicitDefEqProofs only [go_sem, hT], by simp -implicitDefEqProofs only [go_sem, hT], 0, m', _, by simp -implicitDefEqProofs only [go_sem, hT] <;> rfl, by omega, rfl, rfl, hmm, hF.p, hF.c, hM, hF.s⟩
  clear a2 a5 hT T x0 hp hF hM hmm H0
  rintro k T s' ⟨hT, a2, a5, a91, a92, i, m', H0, a93, hi, rfl, rfl, hmm, hp, hc, hM, hs⟩
  simp -implicitDefEqProofs only [go_sem, a92, a93, hT]
  by_cases hil : (i : Int) < (g.free.length : Int)
  ·have hi' : i < g.free.length := by omega
   have hkk : g.free.length - (i + 1) < g.free.length - i := by omega
   obtain ⟨F, hF, lF, f0, f1, fw⟩ := Z2z (G := flowG v s.shut g.free) (F := g.free) hGl hi' (quoR (getS es i)) (fun h0 => by rw [hq i hi']; simp [flowG])
   rw [<- hF] at hs
   clear hF
   generalize hF' : (flowG v s.shut g.free).take (i + 1) ++ g.free.drop (i + 1) = F' at fw
   have lF' : F'.length = F.length := by rw [<- hF', Z7a hGl, lF]
   have x0 := hs.x
   have x1 := hs.f
   have x2 := hs.b
   have x3 := hs.r
   have y0 : hget H0 [0] = some (sysB E v [1] [2] [3] ⟨F', g.bound, g.room, g.most, g.flashed⟩) := x0.trans (congrArg some (Z2y lF'.symm rfl rfl rfl rfl))
   unfold sysB at x0
   unfold rgB at x1
   simp only at x0 x1 x2 x3
   have hin : inR (i : Int) F.length = some i := X6 (by omega)
   have hlk := fun (st : St) (hg : hget st.H [m + 6] = some (.map (encE es) false)) => Zb0 (C := cfg.at 149) rfl (k := (i : Int)) hg
   have hw1 : wrapF .i64 ((i : Int) + 1) = ((i + 1 : Nat) : Int) := Z5 (by omega) (by omega)
   generalize getS es i = q at *
   simp only [rgV] at hlk
   simp only [quoR] at fw
   simp -implicitDefEqProofs only [go_sem, a93, hT, hil]
   try simp only [Z1]
   refine Z7 [[], [0], [1, 0], [2, 1, 0], [3, 2, 1, 0], [], [], [], [6, 7], [8, 6, 7], [9, 8, 6, 7], [], [], [11, 12], [13, 11, 12], [14, 13, 11, 12], [15, 14, 13, 11, 12], [16, 15, 14, 13, 11, 12], [10, 9, 8, 6, 7, 17, 16, 15, 14, 13, 11, 12], [4, 3, 2, 1, 0, 5, 18, 10, 9, 8, 6, 7, 17, 16, 15, 14, 13, 11, 12], [19, 4, 3, 2, 1, 0, 5, 18, 10, 9, 8, 6, 7, 17, 16, 15, 14, 13, 11, 12]] [[], [], [], [], [], [], [], [], [], [], [], [], [], [], [], [], [], [], [], [], [[1]]] (by kernel_rfl) rfl rfl ?_
   simp -implicitDefEqProofs only [go_sem, Option.getD_some, a2, a5, a91, a92, a93, hT, hp, hc, hM, x0, x1, hin, f0, f1, hlk, Xb, fw, hw1, Z8]
   refine ⟨g.free.length - (i + 1), hkk, trivial, trivial, trivial, trivial, trivial, i + 1, m' + 1, _, rfl, hi', rfl, rfl, by omega, ?_, ?_, ?_, ?_⟩
   all_goals clear hw1
   ·simp (disch := omega) only [Z0, lkn, lk11, Option.getD_none, hp]
   ·simp (disch := omega) only [Z0, lkn, lk11, Option.getD_none, hc]
   ·simp (disch := omega) only [Z0, lkn, lk11, Option.getD_none, hM]
   ·rw [hF']
    refine ⟨?_, ?_, ?_, fun e => ?_⟩
    ·simp (disch := omega) only [Z0, lkn, lk11, Option.getD_none]; exact y0
    ·simp (disch := omega) only [Z0, Za, Option.getD_some]; rfl
    ·simp (disch := omega) only [Z0, lkn, lk11, Option.getD_none]; exact x2
    ·have := hm e
     simp (disch := omega) only [Z0, lkn, lk11, Option.getD_none]; exact x3 e
  ·have hie : i = g.free.length := by omega
   subst hie
   have e1 : (flowG v s.shut g.free).take g.free.length ++ g.free.drop g.free.length = flowG v s.shut g.free := by
    rw [List.drop_of_length_le (Nat.le_refl _), List.append_nil, List.take_of_length_le (by omega)]
   rw [e1] at hs
   simp -implicitDefEqProofs only [go_sem, hil]
   exact ⟨_, m', H0, rfl, hmm, by simp -implicitDefEqProofs only [go_sem, hT], by simp -implicitDefEqProofs only [go_sem, a2], hp, hs⟩
 clear a2 a5 hT T x0 hp hF hM hmm H0 hq es m'
 rintro _ ⟨T, m', H0, rfl, hmm, hT, a2, hp, hs⟩
 have x0 := hs.x
 unfold sysB at x0
 have hGl := Xc v s.shut g.free
 unfold flowT
 generalize flowG v s.shut g.free = G at *
 simp -implicitDefEqProofs only [go_sem, a2, hT, hp, x0]
 simp only [Z1]
 refine Zf (fun k T s' => T.length = 148 /\ nth T 2 = some (.ptr [m + 3] 0) /\ nth T 121 = some (.lst (v.leaks.map inlV)) /\ nth T 122 = some (.int .i64 v.leaks.length) /\ ∃ (i m' : Nat) (H' : Heap) (F : List Rg), nth T 123 = some (.int .i64 i) /\ i <= v.leaks.length /\ k = v.leaks.length - i /\ s' = ⟨H', m' + 8, [], false, []⟩ /\ m <= m' /\ hget H' [m + 3] = some (.cells [.ptr [0] 0] true 0) /\ SysAt E H' [0] [1] [2] [3] v ⟨F, g.bound, g.room, g.most, g.flashed⟩ /\ F.length = G.length /\ leakR G v.leaks = leakR F (v.leaks.drop i)) (k := v.leaks.length) (by have := hv.inl.1; omega) ?_ ?_
 ·exact ⟨by simp -implicitDefEqProofs only [go_sem, hT], by simp -implicitDefEqProofs only [go_sem, a2], by simp -implicitDefEqProofs only [go_sem, hT], by simp -implicitDefEqProofs only [go_sem, hT], 0, m', H0, G, by simp -implicitDefEqProofs only [go_sem, hT] <;> rfl, by omega, rfl, rfl, hmm, hp, hs, rfl, rfl⟩
 clear a2 hT T x0 hp hs hmm H0
 rintro k T s' ⟨hT, a2, a121, a122, i, m', H0, F, a123, hi, rfl, rfl, hmm, hp, hs, lF, he⟩
 simp -implicitDefEqProofs only [go_sem, a122, a123, hT]
 by_cases hil : (i : Int) < (v.leaks.length : Int)
 ·have hi' : i < v.leaks.length := by omega
  have e1 := Z9 (f := inlV) (l := v.leaks) (i := i) (z := 3) hi' rfl
  have hkk : v.leaks.length - (i + 1) < v.leaks.length - i := by omega
  have hlx := hll _ (List.getElem_mem hi')
  rw [List.drop_eq_getElem_cons hi'] at he
  generalize v.leaks[i] = x at *
  obtain ⟨a, hxa⟩ : ∃ q : Nat, x.at' = q := ⟨x.at'.toNat, by omega⟩
  have haF : a < F.length := by omega
  simp only [leakR] at he
  rw [hxa, Int.toNat_natCast, Z08 _ haF] at he
  have f0 := Ye F haF
  have f1 := Yf F haF
  have fw := Z0q F haF (plusR F[a] x.gas)
  have hin : inR (a : Int) F.length = some a := X6 haF
  have hpl := fun st => Z26 F[a] x.gas (K + 2) st
  generalize F[a] = fi at *
  generalize hF' : F.set a (plusR fi x.gas) = F' at *
  have lF' : F'.length = F.length := by rw [<- hF']; simp
  generalize plusR fi x.gas = pp at *
  have x0 := hs.x
  have x1 := hs.f
  have x2 := hs.b
  have x3 := hs.r
  have y0 : hget H0 [0] = some (sysB E v [1] [2] [3] ⟨F', g.bound, g.room, g.most, g.flashed⟩) := x0.trans (congrArg some (Z2y lF'.symm rfl rfl rfl rfl))
  unfold sysB at x0
  unfold rgB at x1
  simp only at x0 x1 x2 x3
  simp only [inlV] at e1
  rw [hxa] at e1
  simp only [rgV] at hpl
  have hw1 : wrapF .i64 ((i : Int) + 1) = ((i + 1 : Nat) : Int) := Z5 (by have := hv.inl.2; omega) (by have := hv.inl.2; omega)
  have k3 : ∀ X, hget (([m' + 8], X) :: H0) [m + 3] = hget H0 [m + 3] := fun X => hc11 (by omega)
  have z5 : (m' + 5 = m) = False := eq_false (by omega)
  simp -implicitDefEqProofs only [go_sem, a121, a123, hT, hil, e1]
  try simp only [Z1]
  refine Z7 [[], [0], [1, 0], [2, 1, 0], [3, 2, 1, 0], [], [5], [], [7], [8, 7], [9, 8, 7], [10, 9, 8, 7], [], [12], [11, 10, 9, 8, 7, 13, 12], [14, 11, 10, 9, 8, 7, 13, 12], [], [16], [15, 14, 11, 10, 9, 8, 7, 13, 12, 17, 16], [4, 3, 2, 1, 0, 6, 5, 18, 15, 14, 11, 10, 9, 8, 7, 13, 12, 17, 16], [19, 4, 3, 2, 1, 0, 6, 5, 18, 15, 14, 11, 10, 9, 8, 7, 13, 12, 17, 16]] [[], [], [], [], [], [], [], [], [], [], [], [], [], [], [], [], [], [], [], [], [[1]]] (by kernel_rfl) rfl rfl ?_
  simp -implicitDefEqProofs only [go_sem, Option.getD_some, a2, a121, a122, a123, hT, hp, k3, x0, x1, hin, f0, f1, hpl, Xb, fw, hw1, Z8]
  refine ⟨v.leaks.length - (i + 1), hkk, trivial, trivial, trivial, trivial, i + 1, m' + 2, _, F', rfl, hi', rfl, rfl, by omega, ?_, ?_, by omega, he⟩
  all_goals clear hw1
  ·simp (disch := omega) only [hc11, Z0, lkn, lk11, Option.getD_none, hp]
  ·refine ⟨?_, ?_, ?_, fun e => ?_⟩
   ·simp (disch := omega) only [hc11, Z0, lkn, lk11, Option.getD_none]; exact y0
   ·simp (disch := omega) only [hc11, Z0, Za, Option.getD_some]; rfl
   ·simp (disch := omega) only [hc11, Z0, lkn, lk11, Option.getD_none]; exact x2
   ·have := hm e
    simp (disch := omega) only [hc11, Z0, lkn, lk11, Option.getD_none]; exact x3 e
 ·have hie : i = v.leaks.length := by omega
  subst hie
  rw [List.drop_length] at he
  simp only [leakR] at he
  rw [he]
  simp -implicitDefEqProofs only [go_sem, hil, Try.results149]
  exact ⟨trivial, hs⟩
end Go.Proofs.Ytgnpnfkncbnjnaa
namespace Go.Proofs.Ytgnpnfkncbnjnaa
attribute [local go_sem_proc] Int.reduceEq Int.reduceNeg Nat.reduceEqDiff Nat.reduceLT Nat.reduceAdd Nat.reduceSub Nat.reduceMul Int.reduceLE Int.reduceLT Int.reduceToNat Nat.reduceLeDiff
attribute [local go_sem] Int.toNat_natCast Bool.not_true Bool.not_false
open Go Go.Am
attribute [local congr] Ze Zb Zc
attribute [local go_sem] Go.Am.frozen Go.Am.freezeG Go.Am.freezeGs
variable {E : AV}
theorem Js {H : Heap} {X f b r q : Nm} {v : Vac} {g : Gs} (h1 : X ≠ q) (h2 : f ≠ q) (h3 : b ≠ q) (h4 : g.room ≠ [] -> r ≠ q) : hget (sysPut E X f b r v g H) q = hget H q := by
 unfold sysPut
 cases hg : g.room with
 | nil =>
  show hget (hset (hset (hset H X _) f _) b _) q = _
  rw [Z2 _ _ h3, Z2 _ _ h2, Z2 _ _ h1]
 | cons a l =>
  show hget (hset (hset (hset (hset H X _) f _) b _) r _) q = _
  rw [Z2 _ _ (h4 (by rw [hg]; simp)), Z2 _ _ h3, Z2 _ _ h2, Z2 _ _ h1]
theorem Zb9 {v : Vac} (h : checkE v = 0) : firstE vesE v.vessels = 0 /\ partsE v = 0 := by
 unfold checkE at h
 split at h
 ·exact absurd h (by decide)
 ·split at h
  ·exact absurd h (by decide)
  ·split at h
   ·rename_i h2
    split at h
    ·rename_i h3; exact ⟨h2, h3⟩
    ·rename_i h3; exact absurd h h3
   ·rename_i h2; exact absurd h h2
structure Valid (v : Vac) : Prop where
 n1 : 1 <= v.vessels.length
 n8 : v.vessels.length <= 8
 p16 : v.pipes.length <= 16
 m8 : v.pumps.length <= 8
 l8 : v.leaks.length <= 8
 g8 : v.getters.length <= 8
 bd : ∀ x ∈ v.vessels, x.bands.length <= 8
 pip : ∀ q ∈ v.pipes, (0 <= q.a /\ q.a < v.vessels.length) /\ 0 <= q.b /\ q.b < v.vessels.length
 inl : ∀ q ∈ v.leaks, 0 <= q.at' /\ q.at' < v.vessels.length
 gtr : ∀ q ∈ v.getters, 0 <= q.at' /\ q.at' < v.vessels.length
theorem Z16 {v : Vac} (h : checkE v = 0) : Valid v := by
 obtain ⟨n1, n2, n3, n4, n5, n6⟩ := Zb6 h
 obtain ⟨h1, h2⟩ := Zb9 h
 have hb : ∀ x ∈ v.vessels, x.bands.length <= 8 := fun x hx => by
  have h3 := Yt h1 x hx
  unfold vesE at h3
  split at h3
  ·split at h3
   ·split at h3
    ·split at h3
     ·exact absurd h3 (by decide)
     ·omega
    ·rename_i h4; exact absurd h3 h4
   ·rename_i h4; exact absurd h3 h4
  ·exact absurd h3 (by decide)
 unfold partsE at h2
 split at h2
 ·rename_i p1
  split at h2
  ·rename_i p2
   split at h2
   ·rename_i p3
    refine ⟨n1, n2, n3, n4, n5, n6, hb, fun q hq => ?_, fun q hq => ?_, fun q hq => ?_⟩
    ·have := Z73 (Yt p1 q hq); exact ⟨this.1, this.2.1⟩
    ·exact Z9w (Yt p3 q hq)
    ·have h4 := Yt h2 q hq
     unfold getE at h4
     split at h4
     ·rename_i h5; exact Z9w h5
     ·rename_i h5; exact absurd h4 h5
   ·rename_i p3; exact absurd h2 p3
  ·rename_i p2; exact absurd h2 p2
 ·rename_i p1; exact absurd h2 p1
theorem Valid.lens {v : Vac} (h : Valid v) (K : Nat) (hK : 20 < K) : v.Lens K :=
 ⟨⟨by have := h.n8; omega, by have := h.n8; omega⟩, ⟨by have := h.p16; omega, by have := h.p16; omega⟩, ⟨by have := h.m8; omega, by have := h.m8; omega⟩, ⟨by have := h.l8; omega, by have := h.l8; omega⟩, ⟨by have := h.g8; omega, by have := h.g8; omega⟩, fun x hx => by have := h.bd x hx; omega⟩
structure Fits (v : Vac) (g : Gs) : Prop where
 f : g.free.length = v.vessels.length
 b : g.bound.length = v.vessels.length
 r : g.room.length = v.getters.length
theorem Z30 {v : Vac} {g : Gs} (h : Fits v g) (s : Bk) : Fits v (beginT v g s) := ⟨h.f, h.b, h.r⟩
theorem Z7c {v : Vac} {g : Gs} (h : Fits v g) (s : Bk) : Fits v (relT v g s) := ⟨Z3p h.f h.b, Z7b h.b, h.r⟩
theorem Z4z {v : Vac} {g : Gs} (h : Fits v g) (s : Bk) : Fits v (flowT v g s) := ⟨by show (leakR _ _).length = _; rw [Z2e, Xc]; exact h.f, h.b, h.r⟩
theorem Z7d {v : Vac} {g : Gs} (h : Fits v g) (s : Bk) : Fits v (getT v g s) := by
 have e := Z3q v.getters 0 g.free g.room
 unfold getT
 split
 ·exact ⟨e.1.trans h.f, h.b, e.2.trans h.r⟩
 ·exact h
theorem Zba {v : Vac} {g : Gs} (h : Fits v g) (s : Bk) : Fits v (cutT v g s) := ⟨by show (List.map _ _).length = _; rw [List.length_map]; exact h.f, by show (List.map _ _).length = _; rw [List.length_map]; exact h.b, h.r⟩
def tickT (v : Vac) (g : Gs) (s : Bk) : Gs := cutT v (getT v (flowT v (relT v (beginT v g s) s) s) s) s
theorem Jt {v : Vac} {g : Gs} (h : Fits v g) (s : Bk) : Fits v (tickT v g s) := Zba (Z7d (Z4z (Z7c (Z30 h s) s) s) s) s
theorem Fits.ne {v : Vac} {g : Gs} (h : Fits v g) (hv : Valid v) : g.free ≠ [] /\ g.bound ≠ [] :=
 ⟨fun e => by have := h.f; rw [e] at this; have := hv.n1; simp at *; omega, fun e => by have := h.b; rw [e] at this; have := hv.n1; simp at *; omega⟩
def stepT (v : Vac) (g : Gs) (s : Bk) : Nat -> Gs
 | 0 => g
 | 1 => beginT v g s
 | 2 => relT v (beginT v g s) s
 | 3 => flowT v (relT v (beginT v g s) s) s
 | 4 => getT v (flowT v (relT v (beginT v g s) s) s) s
 | _ => tickT v g s
theorem Z1b : Apart [0] [1] [2] [3] := ⟨by decide, by decide, by decide, by decide, by decide, by decide⟩
theorem Zet [hE : Emp E] {K : Nat} {X f b r : Nm} {v : Vac} {g : Gs} {s : Bk} {H : Heap} {n : Nat} {p : Nm} {j : Delta} (h : SysAt E H X f b r v g) (ha : Apart X f b r) (hv : Valid v) (hf : Fits v g) (hK : 200 < K) (hsh : s.shut.length < K) (hsh2 : s.shut.length <= 9223372036854775807) :
  acall cfg (K + 6) 97 [.ptr X 0, bkV s] ⟨H, n, p, false, j⟩ = .ret (.tuple [], ⟨sysPut E X f b r v (tickT v g s) H, n, p, false, j⟩) := by
 have hft := Jt hf s
 obtain ⟨hn1, hn2⟩ := hf.ne hv
 refine Z15 Znx Znw h ha hn1 hn2 (by rw [hft.f, hf.f]) (by rw [hft.b, hf.b]) (by rw [hft.r, hf.r]) fun H0 m hs hm => ?_
 refine Z6 rfl fun T hT' hA => ?_
 have a0 := hA 0 _ rfl
 have a1 := hA 1 _ rfl
 have hT : T.length = 15 := hT'
 clear hA hT'
 simp -implicitDefEqProofs only [go_sem, a1]
 simp only [Z1]
 refine Zf (fun k T s' => T.length = 15 /\ nth T 0 = some (.ptr [0] 0) /\ nth T 3 = some (.ptr [m + 3] 0) /\ nth T 6 = some (.agg [.func 147 [], .func 148 [], .func 149 [], .func 150 [], .func 151 []]) /\ ∃ (i : Nat) (H' : Heap), nth T 7 = some (.int .i64 i) /\ i <= 5 /\ k = 5 - i /\ s' = ⟨H', m + 4, [], false, []⟩ /\ hget H' [m + 3] = some (.cells [.int .i64 s.ticks, .int .i64 s.heat, .lst (s.shut.map iV), .bool s.flash] true 0) /\ Fits v (stepT v g s i) /\ SysAt E H' [0] [1] [2] [3] v (stepT v g s i)) (k := 5) (by omega) ?_ ?_
 ·exact ⟨by simp -implicitDefEqProofs only [go_sem, hT], by simp -implicitDefEqProofs only [go_sem, a0], by simp -implicitDefEqProofs only [go_sem, hT], by simp -implicitDefEqProofs only [go_sem, hT], 0, _, by simp -implicitDefEqProofs only [go_sem, hT] <;> rfl, by omega, rfl, rfl, Z3 .., hf, ⟨(hc11 (by omega)).trans hs.x, (hc11 (by omega)).trans hs.f, (hc11 (by omega)).trans hs.b, fun e => (hc11 (by have := hm e; omega)).trans (hs.r e)⟩⟩
 have hroom : ∀ i, (stepT v g s i).room.length = v.getters.length -> ((stepT v g s i).room ≠ [] -> 1 <= m) := fun i e hne => hm fun e2 => hne (List.length_eq_zero_iff.1 (by rw [e, <- hf.r, e2]; rfl))
 clear a0 a1 hT T hs H0 hn1 hn2 hft
 rintro k T s' ⟨hT, a0, a3, a6, i, H0, a7, hi, rfl, rfl, hbk, hf', hs⟩
 obtain ⟨hn1, hn2⟩ := hf'.ne hv
 have hrm := hroom i hf'.r
 rcases (show i = 0 \/ i = 1 \/ i = 2 \/ i = 3 \/ i = 4 \/ i = 5 by omega) with rfl | rfl | rfl | rfl | rfl | rfl
 ·have b7 : nth T 7 = some (.int .i64 0) := a7
  have hin : inR 0 5 = some 0 := rfl
  have hw1 : wrapF .i64 (0 + 1) = 1 := rfl
  have hfn : Fits v (stepT v g s (0 + 1)) := Z30 hf' s
  have hsn : SysAt E (sysPut E [0] [1] [2] [3] v (stepT v g s (0 + 1)) H0) [0] [1] [2] [3] v (stepT v g s (0 + 1)) := Jr hs Z1b (by rw [hfn.r, hf'.r])
  have hbn : hget (sysPut E [0] [1] [2] [3] v (stepT v g s (0 + 1)) H0) [m + 3] = hget H0 [m + 3] := Js (n11 (by omega)) (n11 (by omega)) (n11 (by omega)) (fun e => n11 (by have := hroom (0 + 1) hfn.r e; omega))
  rw [hbk] at hbn
  have hc' : ∀ n p j, acall cfg (K + 5) 147 [.ptr [0] 0, bkV s] ⟨H0, n, p, false, j⟩ = .ret (.tuple [], ⟨sysPut E [0] [1] [2] [3] v (stepT v g s (0 + 1)) H0, n, p, false, j⟩) := fun n p j => (Za0 hs Z1b hn1 hn2 (K := K + 4) (by have := hv.l8; omega) (by have := hv.l8; omega))
  generalize sysPut E [0] [1] [2] [3] v (stepT v g s (0 + 1)) H0 = H1 at *
  simp only [bkV] at hc'
  simp -implicitDefEqProofs only [go_sem, a0, a3, b7, a6, hT, hin, hbk, hc', hw1]
  exact ⟨5 - (0 + 1), by omega, trivial, trivial, trivial, trivial, 0 + 1, H1, rfl, by omega, rfl, rfl, hbn, hfn, hsn⟩
 ·have b7 : nth T 7 = some (.int .i64 1) := a7
  have hin : inR 1 5 = some 1 := rfl
  have hw1 : wrapF .i64 (1 + 1) = 2 := rfl
  have hfn : Fits v (stepT v g s (1 + 1)) := Z7c hf' s
  have hsn : SysAt E (sysPut E [0] [1] [2] [3] v (stepT v g s (1 + 1)) H0) [0] [1] [2] [3] v (stepT v g s (1 + 1)) := Jr hs Z1b (by rw [hfn.r, hf'.r])
  have hbn : hget (sysPut E [0] [1] [2] [3] v (stepT v g s (1 + 1)) H0) [m + 3] = hget H0 [m + 3] := Js (n11 (by omega)) (n11 (by omega)) (n11 (by omega)) (fun e => n11 (by have := hroom (1 + 1) hfn.r e; omega))
  rw [hbk] at hbn
  have hc' : ∀ n p j, acall cfg (K + 5) 148 [.ptr [0] 0, bkV s] ⟨H0, n, p, false, j⟩ = .ret (.tuple [], ⟨sysPut E [0] [1] [2] [3] v (stepT v g s (1 + 1)) H0, n, p, false, j⟩) := fun n p j => (Z8o hs Z1b hn1 hf'.f hf'.b (K := K + 3) (by have := hv.n8; omega) (by have := hv.n8; omega) hv.bd)
  generalize sysPut E [0] [1] [2] [3] v (stepT v g s (1 + 1)) H0 = H1 at *
  simp only [bkV] at hc'
  simp -implicitDefEqProofs only [go_sem, a0, a3, b7, a6, hT, hin, hbk, hc', hw1]
  exact ⟨5 - (1 + 1), by omega, trivial, trivial, trivial, trivial, 1 + 1, H1, rfl, by omega, rfl, rfl, hbn, hfn, hsn⟩
 ·have b7 : nth T 7 = some (.int .i64 2) := a7
  have hin : inR 2 5 = some 2 := rfl
  have hw1 : wrapF .i64 (2 + 1) = 3 := rfl
  have hfn : Fits v (stepT v g s (2 + 1)) := Z4z hf' s
  have hsn : SysAt E (sysPut E [0] [1] [2] [3] v (stepT v g s (2 + 1)) H0) [0] [1] [2] [3] v (stepT v g s (2 + 1)) := Jr hs Z1b (by rw [hfn.r, hf'.r])
  have hbn : hget (sysPut E [0] [1] [2] [3] v (stepT v g s (2 + 1)) H0) [m + 3] = hget H0 [m + 3] := Js (n11 (by omega)) (n11 (by omega)) (n11 (by omega)) (fun e => n11 (by have := hroom (2 + 1) hfn.r e; omega))
  rw [hbk] at hbn
  have hc' : ∀ n p j, acall cfg (K + 5) 149 [.ptr [0] 0, bkV s] ⟨H0, n, p, false, j⟩ = .ret (.tuple [], ⟨sysPut E [0] [1] [2] [3] v (stepT v g s (2 + 1)) H0, n, p, false, j⟩) := fun n p j => (Zes hs Z1b hn1 hn2 hf'.f (K := K + 1) (by have := hv.n8; omega) (by have := hv.n8; omega) (hv.lens _ (by omega)) (by omega) hsh2 hv.pip hv.inl)
  generalize sysPut E [0] [1] [2] [3] v (stepT v g s (2 + 1)) H0 = H1 at *
  simp only [bkV] at hc'
  simp -implicitDefEqProofs only [go_sem, a0, a3, b7, a6, hT, hin, hbk, hc', hw1]
  exact ⟨5 - (2 + 1), by omega, trivial, trivial, trivial, trivial, 2 + 1, H1, rfl, by omega, rfl, rfl, hbn, hfn, hsn⟩
 ·have b7 : nth T 7 = some (.int .i64 3) := a7
  have hin : inR 3 5 = some 3 := rfl
  have hw1 : wrapF .i64 (3 + 1) = 4 := rfl
  have hfn : Fits v (stepT v g s (3 + 1)) := Z7d hf' s
  have hsn : SysAt E (sysPut E [0] [1] [2] [3] v (stepT v g s (3 + 1)) H0) [0] [1] [2] [3] v (stepT v g s (3 + 1)) := Jr hs Z1b (by rw [hfn.r, hf'.r])
  have hbn : hget (sysPut E [0] [1] [2] [3] v (stepT v g s (3 + 1)) H0) [m + 3] = hget H0 [m + 3] := Js (n11 (by omega)) (n11 (by omega)) (n11 (by omega)) (fun e => n11 (by have := hroom (3 + 1) hfn.r e; omega))
  rw [hbk] at hbn
  have hc' : ∀ n p j, acall cfg (K + 5) 150 [.ptr [0] 0, bkV s] ⟨H0, n, p, false, j⟩ = .ret (.tuple [], ⟨sysPut E [0] [1] [2] [3] v (stepT v g s (3 + 1)) H0, n, p, false, j⟩) := fun n p j => (Zgq hs Z1b hn1 hn2 hf'.f hf'.r (K := K + 3) (by have := hv.g8; omega) (by have := hv.g8; omega) hv.gtr)
  generalize sysPut E [0] [1] [2] [3] v (stepT v g s (3 + 1)) H0 = H1 at *
  simp only [bkV] at hc'
  simp -implicitDefEqProofs only [go_sem, a0, a3, b7, a6, hT, hin, hbk, hc', hw1]
  exact ⟨5 - (3 + 1), by omega, trivial, trivial, trivial, trivial, 3 + 1, H1, rfl, by omega, rfl, rfl, hbn, hfn, hsn⟩
 ·have b7 : nth T 7 = some (.int .i64 4) := a7
  have hin : inR 4 5 = some 4 := rfl
  have hw1 : wrapF .i64 (4 + 1) = 5 := rfl
  have hfn : Fits v (stepT v g s (4 + 1)) := Zba hf' s
  have hsn : SysAt E (sysPut E [0] [1] [2] [3] v (stepT v g s (4 + 1)) H0) [0] [1] [2] [3] v (stepT v g s (4 + 1)) := Jr hs Z1b (by rw [hfn.r, hf'.r])
  have hbn : hget (sysPut E [0] [1] [2] [3] v (stepT v g s (4 + 1)) H0) [m + 3] = hget H0 [m + 3] := Js (n11 (by omega)) (n11 (by omega)) (n11 (by omega)) (fun e => n11 (by have := hroom (4 + 1) hfn.r e; omega))
  rw [hbk] at hbn
  have hc' : ∀ n p j, acall cfg (K + 5) 151 [.ptr [0] 0, bkV s] ⟨H0, n, p, false, j⟩ = .ret (.tuple [], ⟨sysPut E [0] [1] [2] [3] v (stepT v g s (4 + 1)) H0, n, p, false, j⟩) := fun n p j => (Zgp (g := stepT v g s 4) hs Z1b hn1 hn2 (K := K + 4) (by have := hf'.f; have := hf'.b; have := hv.n8; omega) (by have := hf'.f; have := hf'.b; have := hv.n8; omega))
  generalize sysPut E [0] [1] [2] [3] v (stepT v g s (4 + 1)) H0 = H1 at *
  simp only [bkV] at hc'
  simp -implicitDefEqProofs only [go_sem, a0, a3, b7, a6, hT, hin, hbk, hc', hw1]
  exact ⟨5 - (4 + 1), by omega, trivial, trivial, trivial, trivial, 4 + 1, H1, rfl, by omega, rfl, rfl, hbn, hfn, hsn⟩
 ·have b7 : nth T 7 = some (.int .i64 5) := a7
  simp -implicitDefEqProofs only [go_sem, b7, hT, Try.results97]
  exact ⟨trivial, hs⟩
end Go.Proofs.Ytgnpnfkncbnjnaa
namespace Go.Proofs.Ytgnpnfkncbnjnaa
open Go Go.Am
attribute [local congr] Ze Zb Zc
theorem Zgr (L : List Rg) (h : L.length <= 1000000) : roomy 0 L.length ty26.bytes = true := by
 unfold roomy
 have h16 : ty26.bytes = 16 := rfl
 rw [h16, Nat.ble_eq_true_of_le (show (0 + L.length) * 16 <= 140737488355328 by omega)]
theorem Z8q (L : List Rg) (hne : L ≠ []) (h : L.length <= 1000000) (C : Cfg) (hC : C.ty = cfg.ty) (v : AV) (hv : v = .empty \/ v = .nils) (s : St) : appendA C false 50 50 v (.lst (L.map rgV)) s = .ret (.slice s.name 0 L.length L.length false, s.new (rgB L)) := by
 have hd : C.desc 50 = some (.slice 26) := by unfold Cfg.desc; rw [hC]; exact Z6a
 have hi : C.ty.get 26 = some ty26 := by rw [hC]; exact Z36
 unfold appendA
 rw [hd]; simp only
 rw [hi]; simp only
 have hz : ty26.zero = some (.agg [.int .i64 0, .int .i64 0]) := rfl
 rw [hz]; simp only
 have hb : Nat.beq (AV.agg [.int .i64 0, .int .i64 0]).cells.length ty26.size = true := rfl
 rw [hb]; simp only
 have hs : srcA ty26 (.agg [.int .i64 0, .int .i64 0]) (.slice 26) (.lst (L.map rgV)) = M.ret (L.length, L.flatMap rgC) := by
  show (match okZ 2 (L.map rgV) with | true => M.ret ((L.map rgV).length, flatA (L.map rgV)) | false => M.fail) = _
  rw [z_rg, Zgo, List.length_map]
 rw [hs, Zd, Yc, Tr.bind_ret]
 have hr := Zgr L h
 cases L with
 | nil => exact absurd rfl hne
 | cons a l =>
  have hm : (a :: l).length = l.length + 1 := rfl
  rw [hm] at hr ⊢
  rcases hv with rfl | rfl
  ·unfold appendTo
   simp only [hr]
   unfold grow
   rw [Zd, J1, Tr.bind_ret]
   rfl
  ·unfold appendTo
   simp only [hr]
   unfold grow
   rw [Zd, J1, Tr.bind_ret]
   rfl
end Go.Proofs.Ytgnpnfkncbnjnaa
namespace Go.Proofs.Ytgnpnfkncbnjnaa
open Go Go.Am
attribute [local congr] Ze Zb Zc
theorem Zbb {H : Heap} {d : Nat} {b : Nm} (l : List Rg) (hb : hget H b = some (rgB l)) : freezeG (freezeD H (d + 1)) H (.slice b 0 l.length l.length false) = some (.lst (l.map rgV)) := by
 cases l with
 | nil => rfl
 | cons a r => exact Z2t (g := rgC) (z := 2) Z1p (by decide) (f := rgV) (fun _ => rfl) (row := freezeD H (d + 1)) (H := H) (a :: r) (Zel _) hb (a :: r).length false
def gasP (p : Gs × Int) : AV := .tuple [gsV p.1, .int .i64 p.2]
@[go_sem] theorem Zeu (p : Gs × Int) : (gasP p).flat = true := by
 unfold gasP; simp only [gsV, AV.flat, flats, Z86]
theorem Z50 (H : Heap) (e : Int) : Go.Am.frozen H (.tuple [.agg [.nils, .nils, .nils, .int .i64 0, .bool false], .int .i64 e]) = some (gasP (zeroG, e)) := rfl
end Go.Proofs.Ytgnpnfkncbnjnaa
namespace Go.Proofs.Ytgnpnfkncbnjnaa
attribute [local go_sem_proc] Int.reduceEq Int.reduceNeg Nat.reduceEqDiff Nat.reduceLT Nat.reduceAdd Nat.reduceSub Nat.reduceMul Int.reduceLE Int.reduceLT Int.reduceToNat Nat.reduceLeDiff
attribute [local go_sem] Int.toNat_natCast Bool.not_true Bool.not_false
open Go Go.Am
attribute [local congr] Ze Zb Zc
def runT {σ : Type} (nxt : σ -> Gs -> Option σ) (v : Vac) : σ -> Gs -> List Bk -> (σ × Gs) ⊕ (σ × Gs)
 | c, g, [] => .inl (c, g)
 | c, g, s :: r => match nxt c (tickT v g s) with | some c' => runT nxt v c' (tickT v g s) r | none => .inr (c, tickT v g s)
def flatT (l : List Bk) : List Bk := l.flatMap fun s => List.replicate s.ticks.toNat s
def allT {σ : Type} (nxt : σ -> Gs -> Option σ) (v : Vac) (c : σ) (l : List Bk) : (σ × Gs) ⊕ (σ × Gs) :=
 match nxt c (beginG v) with | some c' => runT nxt v c' (beginG v) (flatT l) | none => .inr (c, beginG v)
theorem Ju (s : Bk) (l : List Bk) : flatT (s :: l) = List.replicate s.ticks.toNat s ++ flatT l := rfl
theorem Zle {a b k c k' c' : Nat} {x : Option Blk} {r : Delta} (h : c ≠ c') : lkD (([a, k, c], x) :: r) [b, k', c'] = lkD r [b, k', c'] := Z0c fun e => h (by injection e with _ e; injection e with _ e; injection e)
theorem n33k {a b k c k' c' : Nat} (h : k ≠ k') : ([a, k, c] : Nm) ≠ [b, k', c'] := fun e => h (by injection e with _ e; injection e)
theorem n33c {a b k c k' c' : Nat} (h : c ≠ c') : ([a, k, c] : Nm) ≠ [b, k', c'] := fun e => h (by injection e with _ e; injection e with _ e; injection e)
theorem Z51 {b : Nm} {n : Nat} (h : 0 < n) : mutV b n = .slice b 0 n n false := by cases n with | zero => omega | succ n => rfl
structure Eats {σ : Type} (nxt : σ -> Gs -> Option σ) (v : Vac) (l bV bS : Nm) (stages : List Bk) (m K : Nat) (I : σ -> Heap -> Prop) (S : σ -> Gs -> Heap -> Prop) : Prop where
 eat : ∀ c g H n, m < n -> I c H -> SysAt .nils H [m, 4, 0] [m, 2, 0] [m, 2, 1] [m, 2, 2] v g -> Fits v g -> (∃ c' H' n', nxt c g = some c' /\ around cfg K l [.ptr [m, 4, 0] 0] ⟨H, n, [], false, []⟩ = .ret (.bool true, ⟨H', n', [], false, []⟩) /\ n <= n' /\ I c' H' /\ (∀ q, m < q -> q < n -> hget H' [q] = hget H [q]) /\ SysAt .nils H' [m, 4, 0] [m, 2, 0] [m, 2, 1] [m, 2, 2] v g) \/ (∃ H' n', nxt c g = none /\ around cfg K l [.ptr [m, 4, 0] 0] ⟨H, n, [], false, []⟩ = .ret (.bool false, ⟨H', n', [], false, []⟩) /\ n <= n' /\ S c g H')
 keep : ∀ c H H', I c H -> (∀ k, k < m -> hget H' [k] = hget H [k]) -> I c H'
 hv : ∀ c H, I c H -> hget H bV = some (vacC v)
 hs : ∀ c H, I c H -> hget H bS = some (.cells [.lst (stages.map bkV)] true 0)
theorem Zlf {σ : Type} {nxt : σ -> Gs -> Option σ} {v : Vac} {l bV bS : Nm} {stages : List Bk} {m K : Nat} {I : σ -> Heap -> Prop} {S : σ -> Gs -> Heap -> Prop} (he : Eats nxt v l bV bS stages m (K + 6) I S)
  (hva : Valid v) (hK : 300 < K) (hst : ∀ s ∈ stages, 0 <= s.ticks /\ s.ticks <= 2000 /\ s.shut.length <= 40) (hsl : stages.length <= 20) (hK2 : 2100 < K) (c0 : σ) (H : Heap) (h0 : I c0 H) :
  (acall cfg (K + 7) 152 [.yield l, .ptr bV 0, .ptr bS 0] ⟨H, m, [], false, []⟩).Does fun x => ∃ n, x.2 = ⟨x.2.H, n, [], false, []⟩ /\ m < n /\ (match allT nxt v c0 stages with | .inl (c, g) => I c x.2.H /\ SysAt .nils x.2.H [m, 4, 0] [m, 2, 0] [m, 2, 1] [m, 2, 2] v g | .inr (c, g) => S c g x.2.H) := by
 have hbg : ∀ H n p jr j, acall cfg (K + 6) 94 [vacV v] ⟨H, n, p, jr, j⟩ = .ret (gasM (p ++ [n]) (p ++ [n + 1]) (p ++ [n + 2]) (beginG v), gasS ⟨H, n, p, jr, j⟩ (beginG v)) := fun H n p jr j => Zcd v (K + 5) H n p jr j (hva.lens _ (by omega)) (by have := hva.n8; omega) (by have := hva.g8; omega) (fun e => by have := hva.n1; rw [e] at this; simp at this)
 rw [Yb]
 unfold enterA
 rw [Zju]; simp only
 rw [show cfg.mode.get 152 = none from Zjv]; simp only
 refine Z6 rfl fun T hT' hA => ?_
 have a0 := hA 0 _ rfl
 have a1 := hA 1 _ rfl
 have a2 := hA 2 _ rfl
 have hT : T.length = 35 := hT'
 clear hA hT'
 have q1 := he.hv c0 H h0
 unfold vacC at q1
 simp only [vacV] at hbg
 simp -implicitDefEqProofs only [go_sem]
 simp only [Z1]
 have hfit : Fits v (beginG v) := ⟨by simp [beginG], by simp [beginG], by simp [beginG]⟩
 obtain ⟨p1, p2⟩ := hfit.ne hva
 refine Tr.Does.mono (Q := fun x => ∃ (T' : List AV) (H' : Heap), x = (T', (⟨H', m + 1, [], false, []⟩ : St)) /\ T'.length = 35 /\ nth T' 0 = some (.yield l) /\ nth T' 2 = some (.ptr bS 0) /\ nth T' 4 = some (.ptr [m, 4, 0] 0) /\ SysAt .nils H' [m, 4, 0] [m, 2, 0] [m, 2, 1] [m, 2, 2] v (beginG v) /\ ∀ k, k < m -> hget H' [k] = hget H [k]) ?_ ?_
 ·clear he
  generalize beginG v = g at *
  have hgm : ∀ a b c, gasM a b c g = .agg [.slice a 0 g.free.length g.free.length false, .slice b 0 g.bound.length g.bound.length false, mutV c g.room.length, .int .i64 g.most, .bool g.flashed] := fun a b c => by
   unfold gasM; rw [Z51 (List.length_pos_iff.2 p1), Z51 (List.length_pos_iff.2 p2)]
  simp only [hgm] at hbg
  rcases (show g.room = [] \/ ∃ a l, g.room = a :: l from by cases g.room with | nil => exact .inl rfl | cons a l => exact .inr ⟨a, l, rfl⟩) with hr | ⟨a, l', hr⟩
  ·have hgs : ∀ s, gasS s g = (s.new (rgB g.free)).new (rgB g.bound) := fun s => by unfold gasS; rw [hr]; rfl
   have hm0 : ∀ b, mutV b g.room.length = .nils := fun b => by rw [hr]; rfl
   simp only [hgs, hm0] at hbg
   try simp only [Z1]
   refine Z7 [[], [], [1], [0, 2, 1], [3, 0, 2, 1], [4, 3, 0, 2, 1]] [[], [], [], [], [], []] (by kernel_rfl) rfl rfl ?_
   simp -implicitDefEqProofs only [go_sem, Option.getD_some, a1, hT, q1, hbg, Z8]
   refine ⟨_, _, rfl, by simp -implicitDefEqProofs only [go_sem, hT], by simp -implicitDefEqProofs only [go_sem, a0], by simp -implicitDefEqProofs only [go_sem, a2], by simp -implicitDefEqProofs only [go_sem, hT], ⟨?_, by simp (disch := omega) only [Z0, Za, Jm, Option.getD_some, Zle], by simp (disch := omega) only [Z0, Za, Jm, Option.getD_some], fun e => ?_⟩, fun k hk => by simp (disch := omega) only [Z0, lkn, lk31, Option.getD_none]⟩
   ·rw [Z0, Za, Option.getD_some]
    unfold sysB
    rw [show rowX .nils [m, 2, 2] g.room.length = .nils from by rw [hr]; rfl]
   ·exact absurd hr e
  ·have hgs : ∀ s, gasS s g = ((s.new (rgB g.free)).new (rgB g.bound)).new (rgB g.room) := fun s => by unfold gasS; rw [hr]; rfl
   have hm0 : ∀ b, mutV b g.room.length = .slice b 0 g.room.length g.room.length false := fun b => Z51 (by rw [hr]; simp)
   simp only [hgs, hm0] at hbg
   try simp only [Z1]
   refine Z7 [[], [], [1], [0, 2, 1], [3, 0, 2, 1], [4, 3, 0, 2, 1]] [[], [], [], [], [], []] (by kernel_rfl) rfl rfl ?_
   simp -implicitDefEqProofs only [go_sem, Option.getD_some, a1, hT, q1, hbg, Z8]
   refine ⟨_, _, rfl, by simp -implicitDefEqProofs only [go_sem, hT], by simp -implicitDefEqProofs only [go_sem, a0], by simp -implicitDefEqProofs only [go_sem, a2], by simp -implicitDefEqProofs only [go_sem, hT], ⟨?_, by simp (disch := omega) only [Z0, Za, Jm, Option.getD_some, Zle], by simp (disch := omega) only [Z0, Za, Jm, Option.getD_some, Zle], fun e => ?_⟩, fun k hk => by simp (disch := omega) only [Z0, lkn, lk31, Option.getD_none]⟩
   ·rw [Z0, Za, Option.getD_some]
    unfold sysB
    rw [show rowX .nils [m, 2, 2] g.room.length = .slice [m, 2, 2] 0 g.room.length g.room.length false from by rw [hr]; rfl]
   ·simp (disch := omega) only [Z0, Za, Jm, Option.getD_some]
 clear a0 a1 a2 hT T hbg q1
 rintro _ ⟨T, H1, rfl, hT, a0, a2, a4, hs, hk⟩
 have hI := he.keep c0 H H1 h0 hk
 clear hk h0
 simp -implicitDefEqProofs only [go_sem, a0, a4, hT]
 rcases he.eat c0 (beginG v) H1 (m + 1) (by omega) hI hs hfit with ⟨c1, H2, n2, e1, e2, e3, hI2, hfr2, hs2⟩ | ⟨H2, n2, e1, e2, e3, e4⟩
 ·have hall : allT nxt v c0 stages = runT nxt v c1 (beginG v) (flatT stages) := by unfold allT; rw [e1]
  rw [hall]
  have g2 := he.hs c1 H2 hI2
  simp -implicitDefEqProofs only [go_sem, a2, hT, e2, g2]
  obtain ⟨R, hR⟩ : ∃ R, R = runT nxt v c1 (beginG v) (flatT stages) := ⟨_, rfl⟩
  rw [<- hR]
  simp only [Z1]
  have hR1 : R = runT nxt v c1 (beginG v) (flatT (stages.drop 0)) := hR
  refine Zf (fun k T s' => T.length = 35 /\ nth T 0 = some (.yield l) /\ nth T 4 = some (.ptr [m, 4, 0] 0) /\ nth T 16 = some (.lst (stages.map bkV)) /\ nth T 17 = some (.int .i64 stages.length) /\ ∃ (i n : Nat) (H : Heap) (c : σ) (g : Gs), nth T 18 = some (.int .i64 i) /\ i <= stages.length /\ k = stages.length - i /\ s' = ⟨H, n, [], false, []⟩ /\ m < n /\ I c H /\ SysAt .nils H [m, 4, 0] [m, 2, 0] [m, 2, 1] [m, 2, 2] v g /\ Fits v g /\ R = runT nxt v c g (flatT (stages.drop i))) (k := stages.length) (by omega) ?_ ?_
  ·exact ⟨by simp -implicitDefEqProofs only [go_sem, hT], by simp -implicitDefEqProofs only [go_sem, a0], by simp -implicitDefEqProofs only [go_sem, a4], by simp -implicitDefEqProofs only [go_sem, hT], by simp -implicitDefEqProofs only [go_sem, hT], 0, n2, H2, c1, beginG v, by simp -implicitDefEqProofs only [go_sem, hT] <;> rfl, by omega, rfl, rfl, by omega, hI2, hs2, hfit, hR1⟩
  clear a0 a2 a4 hT T hI2 hs2 hfr2 hs hI e1 e2 e3 g2 hR1 hR p1 p2 hfit hall H1 H2
  rintro k T s' ⟨hT, a0, a4, a16, a17, i, n, H, c, g, a18, hi, rfl, rfl, hmn, hI, hs, hfit, hR⟩
  simp -implicitDefEqProofs only [go_sem, a17, a18, hT]
  by_cases hil : (i : Int) < (stages.length : Int)
  ·have hi' : i < stages.length := by omega
   have x1 := Z9 (f := bkV) (l := stages) (i := i) (z := 4) hi' rfl
   have hkk : stages.length - (i + 1) < stages.length - i := by omega
   have hsx := hst _ (List.getElem_mem hi')
   rw [List.drop_eq_getElem_cons hi'] at hR
   generalize stages[i] = x at *
   rw [Ju] at hR
   simp only [bkV] at x1
   obtain ⟨q, hq⟩ : ∃ q : Nat, x.ticks = q := ⟨x.ticks.toNat, by omega⟩
   rw [hq, Int.toNat_natCast] at hR
   rw [hq] at x1
   have k1 : ∀ X, hget (([n], X) :: H) [n] = some X := fun X => Z3 ..
   have hw1 : wrapF .i64 ((i : Int) + 1) = ((i + 1 : Nat) : Int) := Z5 (by omega) (by omega)
   simp -implicitDefEqProofs only [go_sem, a16, a18, hT, hil, x1, k1]
   simp only [Z1]
   refine Tr.Does.mono (Q := fun y => (∃ (T' : List AV) (n : Nat) (H : Heap) (c : σ) (g : Gs), y = ((AExit.exit 2, T'), (⟨H, n, [], false, []⟩ : St)) /\ T'.length = 35 /\ nth T' 0 = some (.yield l) /\ nth T' 4 = some (.ptr [m, 4, 0] 0) /\ nth T' 16 = some (.lst (stages.map bkV)) /\ nth T' 17 = some (.int .i64 stages.length) /\ nth T' 18 = some (.int .i64 i) /\ m < n /\ I c H /\ SysAt .nils H [m, 4, 0] [m, 2, 0] [m, 2, 1] [m, 2, 2] v g /\ Fits v g /\ R = runT nxt v c g (flatT (stages.drop (i + 1)))) \/ (∃ (T' : List AV) (n : Nat) (H : Heap) (c : σ) (g : Gs), y = ((AExit.ret, T'), (⟨H, n, [], false, []⟩ : St)) /\ m < n /\ R = .inr (c, g) /\ S c g H)) ?_ ?_
   ·refine Zf (fun k T s' => T.length = 35 /\ nth T 0 = some (.yield l) /\ nth T 4 = some (.ptr [m, 4, 0] 0) /\ nth T 6 = some (.ptr [n] 0) /\ nth T 16 = some (.lst (stages.map bkV)) /\ nth T 17 = some (.int .i64 stages.length) /\ nth T 18 = some (.int .i64 i) /\ nth T 23 = some (.int .i64 q) /\ ∃ (u n' : Nat) (H : Heap) (c : σ) (g : Gs), nth T 24 = some (.int .i64 u) /\ u <= q /\ k = q - u /\ s' = ⟨H, n', [], false, []⟩ /\ n < n' /\ hget H [n] = some (.cells [.int .i64 q, .int .i64 x.heat, .lst (x.shut.map iV), .bool x.flash] true 0) /\ I c H /\ SysAt .nils H [m, 4, 0] [m, 2, 0] [m, 2, 1] [m, 2, 2] v g /\ Fits v g /\ R = runT nxt v c g (List.replicate (q - u) x ++ flatT (stages.drop (i + 1)))) (k := q) (by omega) ?_ ?_
    ·exact ⟨by simp -implicitDefEqProofs only [go_sem, hT], by simp -implicitDefEqProofs only [go_sem, a0], by simp -implicitDefEqProofs only [go_sem, a4], by simp -implicitDefEqProofs only [go_sem, hT], by simp -implicitDefEqProofs only [go_sem, a16], by simp -implicitDefEqProofs only [go_sem, a17], by simp -implicitDefEqProofs only [go_sem, a18], by simp -implicitDefEqProofs only [go_sem, hT], 0, n + 1, _, c, g, by simp -implicitDefEqProofs only [go_sem, hT] <;> rfl, by omega, rfl, rfl, by omega, Z3 .., he.keep c H _ hI (fun k hk => hc11 (by omega)), ⟨hc13.trans hs.x, hc13.trans hs.f, hc13.trans hs.b, fun e => hc13.trans (hs.r e)⟩, hfit, hR⟩
    clear a0 a4 a16 a17 a18 hT T hs hI hR hfit k1 x1 hw1 H c g
    rintro k T s' ⟨hT, a0, a4, a6, a16, a17, a18, a23, u, n', H, c, g, a24, hu, rfl, rfl, hnn, hst0, hI, hs, hfit, hR⟩
    simp -implicitDefEqProofs only [go_sem, a23, a24, hT]
    by_cases huq : (u : Int) < (q : Int)
    ·have hfit2 := Jt hfit x
     have htc := fun n => Zet (K := K) (n := n) (p := []) (j := []) (s := x) hs ⟨n33k (by decide), n33k (by decide), n33k (by decide), n33c (by decide), n33c (by decide), n33c (by decide)⟩ hva hfit (by omega) (by omega) (by omega)
     have hs3 := Jr (g' := tickT v g x) hs ⟨n33k (by decide), n33k (by decide), n33k (by decide), n33c (by decide), n33c (by decide), n33c (by decide)⟩ (by rw [hfit2.r, hfit.r])
     have hfr : ∀ k, hget (sysPut .nils [m, 4, 0] [m, 2, 0] [m, 2, 1] [m, 2, 2] v (tickT v g x) H) [k] = hget H [k] := fun k => Js n31 n31 n31 (fun _ => n31)
     generalize sysPut .nils [m, 4, 0] [m, 2, 0] [m, 2, 1] [m, 2, 2] v (tickT v g x) H = H3 at *
     have hI3 := he.keep c H H3 hI (fun k _ => hfr k)
     have hst3 := (hfr n).trans hst0
     have hrep : q - u = (q - (u + 1)) + 1 := by omega
     rw [hrep, List.replicate_succ] at hR
     have hR2 : R = match nxt c (tickT v g x) with | some c' => runT nxt v c' (tickT v g x) (List.replicate (q - (u + 1)) x ++ flatT (stages.drop (i + 1))) | none => .inr (c, tickT v g x) := hR
     have hw2 : wrapF .i64 ((u : Int) + 1) = ((u + 1 : Nat) : Int) := Z5 (by omega) (by omega)
     have hk3 : q - (u + 1) < q - u := by clear hw2; omega
     have hu3 : u + 1 <= q := by clear hw2; omega
     simp only [bkV, hq] at htc
     rcases he.eat c (tickT v g x) H3 n' (by clear hw2; omega) hI3 hs3 hfit2 with ⟨c', H4, n4, e1, e2, e3, hI4, hf4, hs4⟩ | ⟨H4, n4, e1, e2, e3, e4⟩
     ·rw [e1] at hR2
      simp only at hR2
      have hst4 := (hf4 n (by clear hw2; omega) (by clear hw2; omega)).trans hst3
      have hn4 : n < n4 := by clear hw2; omega
      simp -implicitDefEqProofs only [go_sem, a0, a4, a6, a16, a17, a18, a23, a24, hT, huq, hst0, htc, e2, hw2]
      exact ⟨q - (u + 1), hk3, trivial, trivial, trivial, trivial, trivial, trivial, trivial, trivial, u + 1, n4, H4, c', _, rfl, hu3, rfl, rfl, hn4, hst4, hI4, hs4, hfit2, hR2⟩
     ·rw [e1] at hR2
      simp only at hR2
      have hn4 : m < n4 := by clear hw2; omega
      simp -implicitDefEqProofs only [go_sem, a0, a4, a6, hT, huq, hst0, htc, e2]
      exact .inr ⟨_, n4, H4, c, _, rfl, hn4, hR2, e4⟩
    ·have hue : u = q := by omega
     subst hue
     rw [Nat.sub_self] at hR
     simp -implicitDefEqProofs only [go_sem, huq]
     exact .inl ⟨_, n', H, c, g, rfl, by simp -implicitDefEqProofs only [go_sem, hT], by simp -implicitDefEqProofs only [go_sem, a0], by simp -implicitDefEqProofs only [go_sem, a4], by simp -implicitDefEqProofs only [go_sem, a16], by simp -implicitDefEqProofs only [go_sem, a17], by simp -implicitDefEqProofs only [go_sem, a18], by omega, hI, hs, hfit, hR⟩
   clear a0 a4 a16 a17 a18 hT T hs hI hR hfit k1 x1 H c g
   rintro _ (⟨T, n', H, c, g, rfl, hT, a0, a4, a16, a17, a18, hnn, hI, hs, hfit, hR⟩ | ⟨T, n', H, c, g, rfl, hnn, hR, hS⟩)
   ·simp -implicitDefEqProofs only [go_sem, a0, a4, a16, a17, a18, hT, hw1]
    exact ⟨stages.length - (i + 1), hkk, trivial, trivial, trivial, trivial, trivial, i + 1, n', H, c, g, rfl, hi', rfl, rfl, hnn, hI, hs, hfit, hR⟩
   ·simp -implicitDefEqProofs only [go_sem, Try.results152]
    rw [hR]
    exact ⟨n', rfl, hnn, hS⟩
  ·have hie : i = stages.length := by omega
   subst hie
   rw [List.drop_length] at hR
   simp -implicitDefEqProofs only [go_sem, hil, Try.results152]
   rw [hR]
   exact ⟨n, rfl, hmn, hI, hs⟩
 ·have hall : allT nxt v c0 stages = .inr (c0, beginG v) := by unfold allT; rw [e1]
  rw [hall]
  simp -implicitDefEqProofs only [go_sem, hT, e2, Try.results152]
  exact ⟨n2, rfl, by omega, e4⟩
end Go.Proofs.Ytgnpnfkncbnjnaa
namespace Go.Proofs.Ytgnpnfkncbnjnaa
attribute [local go_sem_proc] Int.reduceEq Int.reduceNeg Nat.reduceEqDiff Nat.reduceLT Nat.reduceAdd Nat.reduceSub Nat.reduceMul Int.reduceLE Int.reduceLT Int.reduceToNat Nat.reduceLeDiff
attribute [local go_sem] Int.toNat_natCast Bool.not_true Bool.not_false
open Go Go.Am
attribute [local congr] Ze Zb Zc
attribute [local go_sem] Go.Am.frozen Go.Am.freezeG Go.Am.freezeGs
def runsS (v : Vac) : Int -> List Bk -> Int
 | q, [] => if 2000 < q then 14 else 0
 | q, s :: r => if stageE v s = 0 then runsS v (wrapF .i64 (q + s.ticks)) r else stageE v s
def runsE (v : Vac) (l : List Bk) : Int := if checkE v = 0 then if 20 < l.length then 8 else runsS v 0 l else checkE v
def BkL (K : Nat) (l : List Bk) : Prop := l.length <= 9223372036854775807 /\ ∀ s ∈ l, s.shut.length < K /\ s.shut.length <= 9223372036854775807
theorem Z52 (v : Vac) (l : List Bk) (K : Nat) (s : St) (hK : 100 < K) (hv : v.Lens K) (hl : BkL K l) : acall cfg (K + 12) 98 [vacV v, .lst (l.map bkV)] s = .ret (.int .i64 (runsE v l), s) := by
 refine Yh Znz Zny (by first | rfl | simp -implicitDefEqProofs only [redoH, redo1, go_sem]) (by first | rfl | simp -implicitDefEqProofs only [go_sem]) (by first | rfl | simp -implicitDefEqProofs only [redoH, redo1, go_sem]) ?_
 refine Z6 rfl fun T hT' hA => ?_
 have a0 := hA 0 _ rfl
 have a1 := hA 1 _ rfl
 have hT : T.length = 37 := hT'
 clear hA hT'
 have hc := fun s => Zc9 v (K + 2) s (by omega) (hv.more 2)
 simp only [vacV] at hc
 unfold runsE
 by_cases c0 : checkE v = 0
 ·rw [if_pos c0]
  have hlq : ((20 : Int) < (l.length : Int)) = (20 < l.length) := by rw [eq_iff_iff]; omega
  by_cases c1 : 20 < l.length
  ·rw [if_pos c1]
   simp -implicitDefEqProofs only [go_sem, a0, a1, hT, hc, c0, hlq, c1, Try.results98]
  ·rw [if_neg c1]
   simp -implicitDefEqProofs only [go_sem, a0, a1, hT, hc, c0, hlq, c1]
   simp only [Z1]
   refine Zf (fun k T s' => T.length = 37 /\ nth T 2 = some (.ptr [0] 0) /\ nth T 18 = some (.lst (l.map bkV)) /\ nth T 19 = some (.int .i64 l.length) /\ ∃ (i m : Nat) (q : Int) (H : Heap), nth T 20 = some (.int .i64 i) /\ nth T 6 = some (.int .i64 q) /\ i <= l.length /\ k = l.length - i /\ s' = ⟨H, m + 1, [], false, []⟩ /\ hget H [0] = some (vacC v) /\ runsS v 0 l = runsS v q (l.drop i)) (k := l.length) (by omega) ?_ ?_
   ·exact ⟨by simp -implicitDefEqProofs only [go_sem, hT], by simp -implicitDefEqProofs only [go_sem, hT], by simp -implicitDefEqProofs only [go_sem, hT], by simp -implicitDefEqProofs only [go_sem, hT], 0, 0, 0, _, by simp -implicitDefEqProofs only [go_sem, hT] <;> rfl, by simp -implicitDefEqProofs only [go_sem, hT], by omega, rfl, rfl, rfl, rfl⟩
   clear a0 a1 hT T
   rintro k T s' ⟨hT, a2, a18, a19, i, m, q, H, a20, a6, hi, rfl, rfl, g0, he⟩
   simp -implicitDefEqProofs only [go_sem, a19, a20, hT]
   by_cases hil : (i : Int) < (l.length : Int)
   ·have hi' : i < l.length := by omega
    have e1 := Z9 (f := bkV) (l := l) (i := i) (z := 4) hi' rfl
    have hkk : l.length - (i + 1) < l.length - i := by omega
    have hx := hl.2 _ (List.getElem_mem hi')
    rw [List.drop_eq_getElem_cons hi'] at he
    generalize l[i] = x at *
    simp only [runsS] at he
    have hst := fun s => Zc6 v x (K + 9) s (by omega) hx.2 hv.pip.2
    have k0 : ∀ X, hget (([m + 1], X) :: H) [0] = hget H [0] := fun X => hc11 (by omega)
    have k1 : ∀ X, hget (([m + 1], X) :: H) [m + 1] = some X := fun X => Z3 ..
    have hw1 : wrapF .i64 ((i : Int) + 1) = ((i + 1 : Nat) : Int) := Z5 (by omega) (by omega)
    have g0' := g0
    unfold vacC at g0
    simp only [bkV, vacV] at e1 hst
    by_cases c2 : stageE v x = 0
    ·rw [if_pos c2] at he
     simp -implicitDefEqProofs only [go_sem, a2, a6, a18, a19, a20, hT, hil, e1, k0, k1, g0, hst, c2, hw1]
     exact ⟨l.length - (i + 1), hkk, trivial, trivial, trivial, trivial, i + 1, m + 1, _, _, rfl, rfl, hi', rfl, rfl, (k0 _).trans g0', he⟩
    ·rw [if_neg c2] at he
     simp -implicitDefEqProofs only [go_sem, a2, a18, a20, hT, hil, e1, k0, k1, g0, hst, c2, Try.results98]
     rw [he]
   ·have hie : i = l.length := by omega
    subst hie
    rw [List.drop_length] at he
    simp only [runsS] at he
    rw [he]
    by_cases c2 : 2000 < q
    ·simp -implicitDefEqProofs only [go_sem, a6, hT, hil, c2, Try.results98, if_true]
    ·simp -implicitDefEqProofs only [go_sem, a6, hT, hil, c2, Try.results98, if_false]
 ·rw [if_neg c0]
  simp -implicitDefEqProofs only [go_sem, a0, hT, hc, c0, Try.results98]
end Go.Proofs.Ytgnpnfkncbnjnaa
namespace Go.Proofs.Ytgnpnfkncbnjnaa
open Go Go.Am
section
variable {C : Cfg} {call : FuncId -> List AV -> M AV} {rnd : Nm -> List AV -> M AV} {K : Nat}
theorem Jv {l : Nm} {args T T' : List AV} {s : St} {ps : List Nat} {a b : Code} {st0 : LoopState} {pend : Option Code} {Q : AV × St -> Prop} (h : hget s.H l = some (.loop T ps a b st0 pend)) (hs : setAll T ps args = some T')
  (ha : (exec C (acall C K) (around C K) (K + 1) a T' s).Does fun x => x.1.1 = .normal /\ ∃ T1 ps1 a1 b1 pend1, hget x.2.H l = some (.loop T1 ps1 a1 b1 .ready pend1) /\ (exec C (acall C K) (around C K) (K + 1) b x.1.2 (x.2.put l (.loop T1 ps1 a1 b1 .busy pend1))).Does fun z => ∃ T2 ps2 a2 b2 st2 pend2, hget z.2.H l = some (.loop T2 ps2 a2 b2 st2 pend2) /\
   match jumpOf z.1.1 with | none => Q (.bool true, z.2.put l (.loop T2 ps2 a2 b2 .ready none)) | some j => Q (.bool false, z.2.put l (.loop T2 ps2 a2 b2 .done (some j)))) :
  (around C (K + 1) l args s).Does Q := by
 rw [Z1c]
 unfold roundA
 rw [Zd, Ym, h]
 simp only [Tr.bind_ret, hs]
 rw [Zd, Z1]
 refine ha.mono ?_
 rintro ⟨⟨e, T1⟩, s1⟩ ⟨rfl, T2, ps1, a1, b1, pend1, h1, h2⟩
 simp only at h1 h2 ⊢
 rw [Zd, Ym, h1]
 simp only [Tr.bind_ret]
 rw [Zd, Ya, h1]
 simp only [Tr.bind_ret]
 rw [Zd, Z1]
 refine h2.mono ?_
 rintro ⟨⟨e, T3⟩, s3⟩ ⟨T4, ps2, a2, b2, st2, pend2, h3, h4⟩
 simp only at h3 h4 ⊢
 rw [Zd, Ym, h3]
 simp only [Tr.bind_ret]
 cases hj : jumpOf e with
 | none => rw [hj] at h4; simp only at h4 ⊢; rw [Zd, Ya, h3]; simp only [Tr.bind_ret, Yc]; exact ⟨_, rfl, h4⟩
 | some j => rw [hj] at h4; simp only at h4 ⊢; rw [Zd, Ya, h3]; simp only [Tr.bind_ret, Yc]; exact ⟨_, rfl, h4⟩
theorem Zcg {f : Operand} {g : FuncId} {caps T : List AV} {ps : Array Nat} {a b : Code} {s : St} {Q : X × St -> Prop} (hf : evA T f = some (.func g caps))
  (hc : (call g (.yield s.name :: caps) (s.new (.loop T ps.toList a b .ready none))).Does fun x => ∃ T' ps' a' b' st pend e, hget x.2.H s.name = some (.loop T' ps' a' b' st pend) /\ st ≠ .busy /\ exitOf pend = some e /\ Q ((e, T), x.2.put s.name (.loop T' ps' a' b' .exhausted pend))) :
  (exec C call rnd K (.rangeFunc f ps a b) T s).Does Q := by
 show ((match evA T f with
   | some fv => rangeFuncA call fv ps.toList a b T
   | none => M.fail) s).Does Q
 rw [hf]
 simp only
 unfold rangeFuncA
 rw [Zd, J1]
 simp only [Tr.bind_ret]
 rw [Zd, Z1]
 refine hc.mono ?_
 rintro ⟨x, s1⟩ ⟨T', ps', a', b', st, pend, e, h1, h2, h3, h4⟩
 simp only at h1 h4 ⊢
 rw [Zd, Ym, h1]
 simp only [Tr.bind_ret]
 cases st with
 | busy => exact absurd rfl h2
 | ready => simp only [h3]; rw [Zd, Ya, h1]; simp only [Tr.bind_ret, Yc]; exact ⟨_, rfl, h4⟩
 | done => simp only [h3]; rw [Zd, Ya, h1]; simp only [Tr.bind_ret, Yc]; exact ⟨_, rfl, h4⟩
 | exhausted => simp only [h3]; rw [Zd, Ya, h1]; simp only [Tr.bind_ret, Yc]; exact ⟨_, rfl, h4⟩
end
theorem Z8r {np : Int} : ∀ {l : List Int} {last : Int}, shutE np last l = 0 -> -1 <= last -> l ≠ [] -> l.length + last < np
 | [], _, _, _, h => absurd rfl h
 | a :: r, last, h, hl, _ => by
  unfold shutE at h
  split at h
  ·rename_i h1
   have h1 : 0 <= a /\ a <= np - 1 := by unfold fromB at h1; rw [decide_eq_true_iff] at h1; exact h1
   split at h
   ·exact absurd h (by decide)
   ·by_cases e : r = []
    ·subst e; rw [List.length_cons, List.length_nil]; omega
    ·have := Z8r h (by omega) e
     rw [List.length_cons]; omega
  ·exact absurd h (by decide)
theorem Jw {v : Vac} {s : Bk} (hv : Valid v) (h : stageE v s = 0) : 0 <= s.ticks /\ s.ticks <= 2000 /\ s.shut.length <= 40 := by
 unfold stageE at h
 split at h
 ·rename_i h1
  have h2 : 0 <= s.ticks /\ s.ticks <= 2000 := by have := h1.1; unfold fromB at this; rw [decide_eq_true_iff] at this; exact this
  refine ⟨h2.1, h2.2, ?_⟩
  by_cases e : s.shut = []
  ·rw [e]; exact Nat.zero_le _
  ·have := Z8r h (by decide) e
   have := hv.p16
   omega
 ·exact absurd h (by decide)
theorem J3 {v : Vac} : ∀ {l : List Bk} {q : Int}, runsS v q l = 0 -> ∀ s ∈ l, stageE v s = 0
 | [], _, _, _, h => nomatch h
 | a :: r, q, h, s, hs => by
  unfold runsS at h
  split at h
  ·rename_i h1
   rcases List.mem_cons.1 hs with rfl | hs
   ·exact h1
   ·exact J3 h s hs
  ·rename_i h1; exact absurd h h1
theorem Jx {v : Vac} {l : List Bk} (h : runsE v l = 0) : checkE v = 0 /\ l.length <= 20 /\ runsS v 0 l = 0 := by
 unfold runsE at h
 split at h
 ·rename_i h1
  split at h
  ·exact absurd h (by decide)
  ·exact ⟨h1, by omega, h⟩
 ·rename_i h1; exact absurd h h1
theorem Z1q {σ : Type} {K N : Nat} {f : Operand} {T : List AV} {ps : Array Nat} {a b : Code} {n0 : Nat} {H0 : Heap} {Q : X × St -> Prop} {bV bS : Nm} {v : Vac} {stages : List Bk} {fr : FuncId}
  (nxt : σ -> Gs -> Option σ) (Iof : Blk -> σ -> Heap -> Prop) (S : σ -> Gs -> Heap -> Prop) (c0 : σ) (hf : evA T f = some (.func 152 [.ptr bV 0, .ptr bS 0]))
  (hv : Valid v) (hK : 2100 < K) (hst : ∀ s ∈ stages, 0 <= s.ticks /\ s.ticks <= 2000 /\ s.shut.length <= 40) (hsl : stages.length <= 20)
  (P : List AV -> Prop) (hP : P T) (hh : ∀ T, P T -> ∀ L, L = Blk.loop T ps.toList a b .ready none ->
   (Eats nxt v [n0] bV bS stages (n0 + 1) (K + 6) (Iof L) S) /\ (Iof L c0 (([n0], L) :: H0)) /\ (∀ c H, Iof L c H -> hget H [n0] = some L) /\
   (∀ c g H n, allT nxt v c0 stages = .inl (c, g) -> Iof L c H -> SysAt .nils H [n0 + 1, 4, 0] [n0 + 1, 2, 0] [n0 + 1, 2, 1] [n0 + 1, 2, 2] v g -> n0 + 1 < n -> Q ((.normal, T), ⟨hset H [n0] (.loop T ps.toList a b .exhausted none), n, [], false, []⟩)) /\
   (∀ c g H n, allT nxt v c0 stages = .inr (c, g) -> S c g H -> n0 + 1 < n -> ∃ T' ps' a' b' st pend e, hget H [n0] = some (.loop T' ps' a' b' st pend) /\ st ≠ .busy /\ exitOf pend = some e /\ Q ((e, T), ⟨hset H [n0] (.loop T' ps' a' b' .exhausted pend), n, [], false, []⟩))) :
  (exec (cfg.at fr) (acall cfg (K + 7)) (around cfg (K + 7)) N (.rangeFunc f ps a b) T ⟨H0, n0, [], false, []⟩).Does Q := by
 obtain ⟨he, h0, hL, hi, hs⟩ := hh T hP _ rfl
 refine Zcg hf ?_
 refine (Zlf (m := n0 + 1) he hv (by omega) hst hsl hK c0 _ h0).mono ?_
 rintro ⟨x, s⟩ ⟨n, e, hn, h⟩
 simp only at e h
 rw [e]
 cases hall : allT nxt v c0 stages with
 | inl p =>
  obtain ⟨c, g⟩ := p
  rw [hall] at h
  simp only at h
  exact ⟨T, ps.toList, a, b, .ready, none, .normal, hL _ _ h.1, by decide, rfl, hi c g _ n hall h.1 h.2 hn⟩
 | inr p =>
  obtain ⟨c, g⟩ := p
  rw [hall] at h
  exact hs c g _ n hall h hn
end Go.Proofs.Ytgnpnfkncbnjnaa
namespace Go.Proofs.Ytgnpnfkncbnjnaa
attribute [local go_sem_proc] Int.reduceEq Int.reduceNeg Nat.reduceEqDiff Nat.reduceLT Nat.reduceAdd Nat.reduceSub Nat.reduceMul Int.reduceLE Int.reduceLT Int.reduceToNat Nat.reduceLeDiff
attribute [local go_sem] Int.toNat_natCast Bool.not_true Bool.not_false
open Go Go.Am
attribute [local congr] Ze Zb Zc
theorem Zlg (K : Nat) (s : St) : acall cfg (K + 5) 166 [.lst []] s = .ret (.nils, s) := by
 obtain ⟨H, n, p, jr, j⟩ := s
 kernel_rfl
theorem Z7e (L : List Rg) (hne : L ≠ []) (h : L.length <= 1000000) (K : Nat) (H : Heap) (n : Nat) (p : Nm) (jr : Bool) (j : Delta) : acall cfg (K + 1) 166 [.lst (L.map rgV)] ⟨H, n, p, jr, j⟩ = .ret (.slice (p ++ [n]) 0 L.length L.length false, St.new ⟨H, n, p, jr, j⟩ (rgB L)) := by
 refine Ja (bs := []) (args' := [.lst (L.map rgV)]) (xs := []) (xs0 := []) (ys' := []) (zs' := [rgB L]) Zkj Zki rfl rfl rfl (by show renVs [] _ = _; simp only [renVs, renV, Z86]) rfl ?_ rfl rfl
 refine Tr.Does.mono (Q := fun x => ∃ b, x.1 = .slice b 0 L.length L.length false /\ hget x.2.H b = some (rgB L)) ?_ ?_
 ·refine Z6 rfl fun T hT' hA => ?_
  have a0 := hA 0 _ rfl
  have hT : T.length = 5 := hT'
  clear hA hT'
  have hap := fun s => Z8q L hne h (cfg.at 166) rfl .nils (.inr rfl) s
  simp -implicitDefEqProofs only [go_sem, a0, hT, hap, Try.results166]
  exact ⟨_, rfl, rfl⟩
 ·rintro ⟨v1, s1⟩ ⟨b, rfl, hb⟩
  refine ⟨[], [b], [rgB L], rfl, ?_, rfl, ?_, rfl, by simp only [renBs, Xe]⟩
  ·show reachL s1.H (199 + 1) [b] [] [] = _
   rw [rgB] at hb
   rw [Jn rfl hb (Yi L)]
   rfl
  ·show renV [(b, p ++ [n])] _ = _
   simp only [renV, lookN, Zi]
def rateR (h : Int) : Rg -> List Rel -> Rg
 | q, [] => q
 | q, b :: r => rateR h (if b.frm <= h then b.rate else q) r
theorem Z6b (h : Int) (q : Rg) : ∀ l : List Rel, (∀ b ∈ l, h < b.frm) -> rateR h q l = q
 | [], _ => rfl
 | b :: l, hl => by
  unfold rateR
  rw [if_neg (by have := hl b List.mem_cons_self; omega)]
  exact Z6b h q l fun c hc => hl c (List.mem_cons_of_mem _ hc)
theorem Zbc : ∀ (l : List Rel) (i : Nat) (last : Int), bandsE i last l = 0 -> 0 < i -> ∀ b ∈ l, last < b.frm
 | [], _, _, _, _, _, hb => by cases hb
 | a :: l, i, last, h, hi, b, hb => by
  unfold bandsE at h
  split at h
  ·split at h
   ·exact absurd h (by decide)
   ·rename_i h2
    split at h
    ·have ha : last < a.frm := by
      have : ¬ a.frm <= last := fun e => h2 ⟨hi, e⟩
      omega
     rcases List.mem_cons.1 hb with rfl | hb
     ·exact ha
     ·have := Zbc l (i + 1) a.frm h (by omega) b hb; omega
    ·rename_i h3; exact absurd h h3
  ·exact absurd h (by decide)
theorem Zev : ∀ (l : List Rel) (i : Nat) (last : Int) (h : Int) (q : Rg), bandsE i last l = 0 -> rateR h q l = rateP h q l
 | [], _, _, _, _, _ => rfl
 | a :: l, i, last, h, q, hb => by
  have hb' : bandsE (i + 1) a.frm l = 0 := by
   unfold bandsE at hb
   split at hb
   ·split at hb
    ·exact absurd hb (by decide)
    ·split at hb
     ·exact hb
     ·rename_i h3; exact absurd hb h3
   ·exact absurd hb (by decide)
  unfold rateR rateP
  by_cases c : h < a.frm
  ·rw [if_pos c, if_neg (by omega)]
   exact Z6b h q l fun b hm => by have := Zbc l (i + 1) a.frm hb' (by omega) b hm; omega
  ·rw [if_neg c, if_pos (by omega)]
   exact Zev l (i + 1) a.frm h a.rate hb'
theorem Zew (x : Ves) (h : Int) (K : Nat) (s : St) (hK : x.bands.length < K) (hl : x.bands.length <= 1000000) : acall cfg (K + 1) 182 [vesV x, .int .i64 h] s = .ret (rgV (rateR h ⟨0, 0⟩ x.bands), s) := by
 refine Yh Zl1 Zl0 (by first | rfl | simp -implicitDefEqProofs only [redoH, redo1, go_sem]) (by first | rfl | simp -implicitDefEqProofs only [go_sem]) (by first | rfl | simp -implicitDefEqProofs only [redoH, redo1, go_sem]) ?_
 refine Z6 rfl fun T hT' hA => ?_
 have a0 := hA 0 _ rfl
 have a1 := hA 1 _ rfl
 have hT : T.length = 29 := hT'
 clear hA hT'
 simp -implicitDefEqProofs only [go_sem, a0]
 simp only [Z1]
 refine Zf (fun k T s' => T.length = 29 /\ nth T 1 = some (.int .i64 h) /\ nth T 2 = some (.ptr [0] 0) /\ nth T 4 = some (.ptr [1] 0) /\ nth T 5 = some (.ptr [2] 0) /\ ∃ (i : Nat) (H : Heap) (q : Rg), nth T 6 = some (.int .i64 i) /\ i <= x.bands.length /\ k = x.bands.length - i /\ s' = ⟨H, 3, [], false, []⟩ /\ hget H [0] = some (.cells [.int .i64 x.vol, .int .i64 x.free.lo, .int .i64 x.free.hi, .int .i64 x.bound.lo, .int .i64 x.bound.hi, .lst (x.bands.map relV)] true 0) /\ hget H [1] = some (.cells [.int .i64 0, .int .i64 0] true 0) /\ hget H [2] = some (.cells [.int .i64 q.lo, .int .i64 q.hi] true 0) /\ rateR h ⟨0, 0⟩ x.bands = rateR h q (x.bands.drop i)) (k := x.bands.length) (by omega) ?_ ?_
 ·exact ⟨by simp -implicitDefEqProofs only [go_sem, hT], by simp -implicitDefEqProofs only [go_sem, a1], by simp -implicitDefEqProofs only [go_sem, hT], by simp -implicitDefEqProofs only [go_sem, hT], by simp -implicitDefEqProofs only [go_sem, hT], 0, _, ⟨0, 0⟩, by simp -implicitDefEqProofs only [go_sem, hT] <;> rfl, by omega, rfl, rfl, rfl, rfl, rfl, rfl⟩
 clear a0 a1 hT T
 rintro k T s' ⟨hT, a1, a2, a4, a5, i, H, q, a6, hi, rfl, rfl, g0, g1, g2, he⟩
 simp -implicitDefEqProofs only [go_sem, a2, a6, hT, g0]
 by_cases hil : (i : Int) < (x.bands.length : Int)
 ·have hi' : i < x.bands.length := by omega
  have e1 := Z9 (f := relV) (l := x.bands) (i := i) (z := 3) hi' rfl
  have hkk : x.bands.length - (i + 1) < x.bands.length - i := by omega
  rw [List.drop_eq_getElem_cons hi'] at he
  generalize x.bands[i] = y at *
  simp only [rateR] at he
  simp only [relV] at e1
  have hw1 : wrapF .i64 ((i : Int) + 1) = ((i + 1 : Nat) : Int) := Z5 (by omega) (by omega)
  by_cases c : y.frm <= h
  ·rw [if_pos c] at he
   simp -implicitDefEqProofs only [go_sem, a1, a2, a4, a5, a6, hT, g0, hil, e1, c, g2, hw1]
   exact ⟨x.bands.length - (i + 1), hkk, trivial, trivial, trivial, trivial, trivial, i + 1, _, y.rate, rfl, hi', rfl, rfl, (hs11 (by decide)).trans g0, (hs11 (by decide)).trans g1, hss g2, he⟩
  ·rw [if_neg c] at he
   simp -implicitDefEqProofs only [go_sem, a1, a2, a4, a5, a6, hT, g0, hil, e1, c, hw1]
   exact ⟨x.bands.length - (i + 1), hkk, trivial, trivial, trivial, trivial, trivial, i + 1, H, q, rfl, hi', rfl, rfl, g0, g1, g2, he⟩
 ·have hie : i = x.bands.length := by omega
  subst hie
  rw [List.drop_length] at he
  simp only [rateR] at he
  have e1 : ∀ Z, hget (hset H [1] Z) [1] = some Z := fun Z => hss g1
  simp -implicitDefEqProofs only [go_sem, a4, a5, hT, hil, g2, g1, e1, Try.results182]
  rw [he]
  rfl
end Go.Proofs.Ytgnpnfkncbnjnaa
namespace Go.Proofs.Ytgnpnfkncbnjnaa
open Go Go.Am
attribute [local congr] Ze Zb Zc
noncomputable def gasPut (f b r : Nm) (g : Gs) (H : Heap) : Heap := match g.room with
 | [] => putsH [f, b] [rgB g.free, rgB g.bound] H
 | _ :: _ => putsH [f, b, r] [rgB g.free, rgB g.bound, rgB g.room] H
structure Apart3 (f b r : Nm) : Prop where
 fb : f ≠ b
 fr : f ≠ r
 br : b ≠ r
theorem Zex {H : Heap} {f b r : Nm} {g g' : Gs} (h : GasAt H f b r g) (ha : Apart3 f b r) (h1 : g.free ≠ []) (h2 : g.bound ≠ []) (hr : g'.room.length = g.room.length) : GasAt (gasPut f b r g' H) f b r g' := by
 have hf := h.f h1
 have hb := h.b h2
 unfold gasPut
 cases hg : g'.room with
 | nil =>
  show GasAt (hset (hset H f _) b _) f b r g'
  exact ⟨fun _ => by rw [Z2 _ _ (Ne.symm ha.fb)]; exact hss hf, fun _ => hss ((Z2 _ _ ha.fb).trans hb), fun e => absurd hg e⟩
 | cons a l =>
  have hr2 := h.r (fun e => by rw [hg, e] at hr; simp at hr)
  show GasAt (hset (hset (hset H f _) b _) r _) f b r g'
  exact ⟨fun _ => by rw [Z2 _ _ (Ne.symm ha.fr), Z2 _ _ (Ne.symm ha.fb)]; exact hss hf, fun _ => by rw [Z2 _ _ (Ne.symm ha.br)]; exact hss ((Z2 _ _ ha.fb).trans hb),
   fun _ => by rw [hg]; exact hss ((Z2 _ _ ha.br).trans ((Z2 _ _ ha.fr).trans hr2))⟩
theorem Zey {H : Heap} {f b r q : Nm} {g : Gs} (h2 : f ≠ q) (h3 : b ≠ q) (h4 : g.room ≠ [] -> r ≠ q) : hget (gasPut f b r g H) q = hget H q := by
 unfold gasPut
 cases hg : g.room with
 | nil =>
  show hget (hset (hset H f _) b _) q = _
  rw [Z2 _ _ h3, Z2 _ _ h2]
 | cons a l =>
  show hget (hset (hset (hset H f _) b _) r _) q = _
  rw [Z2 _ _ (h4 (by rw [hg]; simp)), Z2 _ _ h3, Z2 _ _ h2]
def gasX (b1 b2 b3 : Nm) (g : Gs) : AV := .agg [rowX (.lst []) b1 g.free.length, rowX (.lst []) b2 g.bound.length, rowX (.lst []) b3 g.room.length, .int .i64 g.most, .bool g.flashed]
theorem Yz {b : Nm} {n : Nat} (h : 0 < n) : mutV b n = .slice b 0 n n false := by cases n with | zero => omega | succ n => rfl
theorem Zbd {F : FuncId} {fn : Func} {K : Nat} {f b r : Nm} {v : Vac} {g g' : Gs} {rest : List AV} {H : Heap} {n : Nat} {p : Nm} {j : Delta} (hm : cfg.mode.get F = some 3) (hf : cfg.fn.get F = some fn)
  (h : GasAt H f b r g) (ha : Apart3 f b r) (h1 : g.free ≠ []) (h2 : g.bound ≠ []) (hl3 : g'.room.length = g.room.length) (h1' : g'.free ≠ []) (h2' : g'.bound ≠ []) (hrest : namesVs false rest [] = []) (hrest2 : ∀ mp, renVs mp rest = some rest)
  (hd : ∀ H0 m, GasAt H0 [0] [1] [2] g -> (g.room ≠ [] -> 1 <= m) -> (bodyA (cfg.at F) (acall cfg K) (around cfg K) (K + 1) fn (vacV v :: gasX [0] [1] [2] g :: rest) ⟨H0, m + 2, [], false, []⟩).Does fun x => x.1 = .tuple [] /\ GasAt x.2.H [0] [1] [2] g') :
  acall cfg (K + 1) F (vacV v :: gasX f b r g :: rest) ⟨H, n, p, false, j⟩ = .ret (.tuple [], ⟨gasPut f b r g' H, n, p, false, j⟩) := by
 have efb := Zg ha.fb
 have efr := Zg ha.fr
 have ebr := Zg ha.br
 have ebf := Zg (Ne.symm ha.fb)
 have erf := Zg (Ne.symm ha.fr)
 have erb := Zg (Ne.symm ha.br)
 have nb : ∀ op L r, namesB op (rgB L) r = r := fun op L r => (Yi L).nm op r
 have hf0 := h.f h1
 have hb0 := h.b h2
 have p1 : 0 < g.free.length := List.length_pos_iff.2 h1
 have p2 : 0 < g.bound.length := List.length_pos_iff.2 h2
 have hG : ∀ f b r, gasX f b r g = .agg [.slice f 0 g.free.length g.free.length false, .slice b 0 g.bound.length g.bound.length false, rowX (.lst []) r g.room.length, .int .i64 g.most, .bool g.flashed] := fun f b r => by
  unfold gasX; rw [Xl p1, Xl p2]
 have hrv : ∀ mp, renV mp (vacV v) = some (vacV v) := fun mp => by simp only [vacV, renV, renVs, Xs, Xt, Xu, Xv, Xw]
 unfold gasPut
 cases hg : g.room with
 | nil =>
  have hg' : g'.room = [] := List.length_eq_zero_iff.1 (by rw [hl3, hg]; rfl)
  rw [hg']
  simp only
  have hn0 : namesVs false (vacV v :: gasX f b r g :: rest) [] = [f, b] := by
   rw [hG]
   show namesV false (vacV v) (namesV false (.agg [.slice f 0 g.free.length g.free.length false, .slice b 0 g.bound.length g.bound.length false, rowX (.lst []) r g.room.length, .int .i64 g.most, .bool g.flashed]) (namesVs false rest [])) = _
   rw [hrest, hg]; rfl
  have hra : renVs [(f, [0]), (b, [1])] (vacV v :: gasX f b r g :: rest) = some (vacV v :: gasX [0] [1] [2] g :: rest) := by
   rw [hG, hG]
   have hq : ∀ q, rowX (.lst []) q g.room.length = .lst [] := fun q => by rw [hg]; rfl
   rw [hq, hq]
   simp only [renVs, hrv, renV, lookN, Zi, ebf, hrest2, flats]
  refine Jq (bs := [f, b]) (xs := [rgB g.free, rgB g.bound]) (args' := vacV v :: gasX [0] [1] [2] g :: rest) (xs0 := [rgB g.free, rgB g.bound]) (ys := [rgB g'.free, rgB g'.bound]) hm hf ?_ ?_ rfl hra ?_ rfl (fun _ => rfl) ?_ ?_ rfl ?_ rfl ?_ ?_
  ·rw [hn0]
   show lendM (199 + 1) [f, b] [] [] _ = _
   rw [Y6 199 rfl hf0]
   show lendM (198 + 1) (namesB false (rgB g.free) [b]) [f] [_] _ = _
   rw [nb, Y6 198 (by simp only [memNm, ebf]) hb0]
   show lendM (197 + 1) (namesB false (rgB g.bound) []) _ _ _ = _
   rw [nb]
   exact Zn 197 _ _ _
  ·simp only [nodupN, memNm, efb]
  ·simp only [renBs, Xe]
  ·intro q hq
   have e : namesBs true [rgB g'.free, rgB g'.bound] [] = [] := by
    show namesB true (rgB g'.free) (namesB true (rgB g'.bound) []) = _
    rw [nb, nb]
   rw [e] at hq; cases hq
  ·have e : namesBs true [rgB g'.free, rgB g'.bound] [] = [] := by
    show namesB true (rgB g'.free) (namesB true (rgB g'.bound) []) = _
    rw [nb, nb]
   rw [e]; decide
  ·simp only [renBs, Xe]
  ·intro q hq
   simp only [List.mem_cons, List.not_mem_nil, or_false] at hq
   rcases hq with rfl | rfl
   ·exact ⟨_, hf0⟩
   ·exact ⟨_, hb0⟩
  ·refine (hd _ 0 ⟨fun _ => rfl, fun _ => rfl, fun e => absurd hg e⟩ fun e => absurd hg e).mono ?_
   rintro x ⟨e1, e2⟩
   refine ⟨e1, ?_⟩
   show getAll x.2.H [[0], [1]] = _
   simp only [getAll, e2.f h1', e2.b h2']
   rfl
 | cons a l =>
  have hrn : g.room ≠ [] := by rw [hg]; simp
  obtain ⟨a', l', hg'⟩ : ∃ a' l', g'.room = a' :: l' := by
   cases hq : g'.room with
   | nil => rw [hq, hg] at hl3; simp at hl3
   | cons a' l' => exact ⟨a', l', rfl⟩
  have hr0 := h.r hrn
  have p3 : 0 < g.room.length := List.length_pos_iff.2 hrn
  have hq : ∀ q, rowX (.lst []) q g.room.length = .slice q 0 g.room.length g.room.length false := fun q => Xl p3
  have hn0 : namesVs false (vacV v :: gasX f b r g :: rest) [] = [f, b, r] := by
   rw [hG, hq]
   show namesV false (vacV v) (namesV false (.agg [.slice f 0 g.free.length g.free.length false, .slice b 0 g.bound.length g.bound.length false, .slice r 0 g.room.length g.room.length false, .int .i64 g.most, .bool g.flashed]) (namesVs false rest [])) = _
   rw [hrest]; rfl
  have hra : renVs [(f, [0]), (b, [1]), (r, [2])] (vacV v :: gasX f b r g :: rest) = some (vacV v :: gasX [0] [1] [2] g :: rest) := by
   rw [hG, hG, hq, hq]
   simp only [renVs, hrv, renV, lookN, Zi, ebf, erf, erb, hrest2]
  have e : namesBs true [rgB g'.free, rgB g'.bound, rgB g'.room] [] = [] := by
   show namesB true (rgB g'.free) (namesB true (rgB g'.bound) (namesB true (rgB g'.room) [])) = _
   rw [nb, nb, nb]
  rw [hg']
  simp only
  rw [<- hg']
  refine Jq (bs := [f, b, r]) (xs := [rgB g.free, rgB g.bound, rgB g.room]) (args' := vacV v :: gasX [0] [1] [2] g :: rest) (xs0 := [rgB g.free, rgB g.bound, rgB g.room]) (ys := [rgB g'.free, rgB g'.bound, rgB g'.room]) hm hf ?_ ?_ rfl hra ?_ rfl (fun _ => rfl) ?_ ?_ rfl ?_ rfl ?_ ?_
  ·rw [hn0]
   show lendM (199 + 1) [f, b, r] [] [] _ = _
   rw [Y6 199 rfl hf0]
   show lendM (198 + 1) (namesB false (rgB g.free) [b, r]) [f] [_] _ = _
   rw [nb, Y6 198 (by simp only [memNm, ebf]) hb0]
   show lendM (197 + 1) (namesB false (rgB g.bound) [r]) [f, b] [_, _] _ = _
   rw [nb, Y6 197 (by simp only [memNm, erf, erb]) hr0]
   show lendM (196 + 1) (namesB false (rgB g.room) []) _ _ _ = _
   rw [nb]
   exact Zn 196 _ _ _
  ·simp only [nodupN, memNm, efb, efr, ebr]
  ·simp only [renBs, Xe]
  ·rw [e]; intro q hq; cases hq
  ·rw [e]; decide
  ·simp only [renBs, Xe]
  ·intro q hq
   simp only [List.mem_cons, List.not_mem_nil, or_false] at hq
   rcases hq with rfl | rfl | rfl
   ·exact ⟨_, hf0⟩
   ·exact ⟨_, hb0⟩
   ·exact ⟨_, hr0⟩
  ·refine (hd _ 1 ⟨fun _ => rfl, fun _ => rfl, fun _ => rfl⟩ fun _ => Nat.le_refl 1).mono ?_
   rintro x ⟨e1, e2⟩
   refine ⟨e1, ?_⟩
   show getAll x.2.H [[0], [1], [2]] = _
   simp only [getAll, e2.f h1', e2.b h2', e2.r (by rw [hg']; simp)]
   rfl
end Go.Proofs.Ytgnpnfkncbnjnaa
namespace Go.Proofs.Ytgnpnfkncbnjnaa
attribute [local go_sem_proc] Int.reduceEq Int.reduceNeg Nat.reduceEqDiff Nat.reduceLT Nat.reduceAdd Nat.reduceSub Nat.reduceMul Int.reduceLE Int.reduceLT Int.reduceToNat Nat.reduceLeDiff
attribute [local go_sem] Int.toNat_natCast Bool.not_true Bool.not_false
open Go Go.Am
attribute [local congr] Ze Zb Zc
theorem Z8s (L : List Rg) (q : Int) (f : Nm) (K : Nat) (H : Heap) (n : Nat) (p : Nm) (j : Delta) (hf : hget H f = some (rgB L)) (hK : L.length < K) (hl : L.length <= 1000000) :
  acall cfg (K + 1) 170 [.slice f 0 L.length L.length false, .int .i64 q] ⟨H, n, p, false, j⟩ = .ret (.tuple [], ⟨hset H f (rgB (L.map (cutR q))), n, p, false, j⟩) := by
 have nb : ∀ op L r, namesB op (rgB L) r = r := fun op L r => (Yi L).nm op r
 refine Jq (bs := [f]) (xs := [rgB L]) (args' := [.slice [0] 0 L.length L.length false, .int .i64 q]) (xs0 := [rgB L]) (ys := [rgB (L.map (cutR q))]) (ys' := [rgB (L.map (cutR q))]) Zkr Zkq ?_ rfl rfl ?_ ?_ rfl (fun _ => rfl) ?_ ?_ rfl ?_ rfl ?_ ?_
 ·show lendM (199 + 1) [f] [] [] _ = _
  rw [Y6 199 rfl hf, nb]
  exact Zn 198 _ _ _
 ·show renVs [(f, [0])] _ = _
  simp only [renVs, renV, lookN, Zi]
 ·simp only [renBs, Xe]
 ·intro b hb
  have e : namesBs true [rgB (L.map (cutR q))] [] = [] := nb _ _ _
  rw [e] at hb; cases hb
 ·have e : namesBs true [rgB (L.map (cutR q))] [] = [] := nb _ _ _
  rw [e]; decide
 ·simp only [renBs, Xe]
 ·intro b hb
  simp only [List.mem_cons, List.not_mem_nil, or_false] at hb
  subst hb
  exact ⟨_, hf⟩
 refine Z6 rfl fun T hT' hA => ?_
 have a0 := hA 0 _ rfl
 have a1 := hA 1 _ rfl
 have hT : T.length = 29 := hT'
 clear hA hT'
 have hz : zipB (namesFrom [] 0 [f].length) [rgB L] = [([0], rgB L)] := rfl
 have hl3 : [f].length = 1 := rfl
 rw [hz, hl3]
 simp -implicitDefEqProofs only [go_sem]
 simp only [Z1]
 refine Zf (fun k T s' => T.length = 29 /\ nth T 0 = some (.slice [0] 0 L.length L.length false) /\ nth T 1 = some (.int .i64 q) /\ ∃ (i m : Nat) (H : Heap), nth T 4 = some (.int .i64 i) /\ i <= L.length /\ k = L.length - i /\ s' = ⟨H, m + 1, [], false, []⟩ /\ hget H [0] = some (rgB ((L.map (cutR q)).take i ++ L.drop i))) (k := L.length) (by omega) ?_ ?_
 ·exact ⟨by simp -implicitDefEqProofs only [go_sem, hT], by simp -implicitDefEqProofs only [go_sem, a0], by simp -implicitDefEqProofs only [go_sem, a1], 0, 0, _, by simp -implicitDefEqProofs only [go_sem, hT] <;> rfl, by omega, rfl, rfl, rfl⟩
 clear a0 a1 hT T
 rintro k T s' ⟨hT, a0, a1, i, m, H0, a4, hi, rfl, rfl, hx⟩
 simp -implicitDefEqProofs only [go_sem, a0, a4, hT]
 by_cases hil : (i : Int) < (L.length : Int)
 ·have hi' : i < L.length := by omega
  have hkk : L.length - (i + 1) < L.length - i := by omega
  obtain ⟨R, hR, lR, f0, f1, fw⟩ := Z2z (G := L.map (cutR q)) (F := L) (List.length_map ..) hi' (cutR q L[i]) (fun h0 => by simp)
  rw [<- hR] at hx
  clear hR
  generalize hF' : (L.map (cutR q)).take (i + 1) ++ L.drop (i + 1) = F' at fw
  have hin : inR (i : Int) L.length = some i := X6 hi'
  have hw1 : wrapF .i64 ((i : Int) + 1) = ((i + 1 : Nat) : Int) := Z5 (by omega) (by omega)
  generalize L[i] = x at *
  unfold rgB at hx
  simp only [cutR] at fw
  simp -implicitDefEqProofs only [go_sem, hil]
  try simp only [Z1]
  refine Z7 [[], [], [], [], [2, 3], [4, 2, 3], [5, 4, 2, 3], [], [6, 5, 4, 2, 3, 7], [], [], [9, 10], [11, 9, 10], [12, 11, 9, 10], [], [13, 12, 11, 9, 10, 14], [8, 6, 5, 4, 2, 3, 7, 15, 13, 12, 11, 9, 10, 14], [0, 1, 16, 8, 6, 5, 4, 2, 3, 7, 15, 13, 12, 11, 9, 10, 14], [17, 0, 1, 16, 8, 6, 5, 4, 2, 3, 7, 15, 13, 12, 11, 9, 10, 14]] [[], [], [], [], [], [], [], [], [], [], [], [], [], [], [], [], [], [], [[0]]] (by kernel_rfl) rfl rfl ?_
  simp -implicitDefEqProofs only [go_sem, Option.getD_some, a0, a1, a4, hT, hin, hx, f0, f1, Z3d, Xb, fw, hw1, Z8]
  exact ⟨L.length - (i + 1), hkk, trivial, trivial, trivial, i + 1, m + 1, _, rfl, hi', rfl, rfl, by rw [hF']; simp (disch := omega) only [Z0, Za, Option.getD_some]; rfl⟩
 ·have hie : i = L.length := by omega
  subst hie
  rw [List.drop_length, List.append_nil, List.take_of_length_le (by simp)] at hx
  simp -implicitDefEqProofs only [go_sem, hil, Try.results170]
  refine ⟨trivial, ?_⟩
  show getAll H0 [[0]] = _
  simp only [getAll, hx]
theorem Z7f {K : Nat} {f b r : Nm} {v : Vac} {g : Gs} {s : Bk} {H : Heap} {n : Nat} {p : Nm} {j : Delta} (h : GasAt H f b r g) (ha : Apart3 f b r) (h1 : g.free ≠ []) (hl1 : g.free.length = v.vessels.length) (hl2 : g.bound.length = v.vessels.length) (hK : v.vessels.length + 20 < K) (hl : v.vessels.length <= 1000000) (hbd : ∀ x ∈ v.vessels, x.bands.length <= 8) (hbe : ∀ x ∈ v.vessels, bandsE 0 0 x.bands = 0) :
  acall cfg (K + 2) 167 [vacV v, gasX f b r g, .int .i64 s.heat] ⟨H, n, p, false, j⟩ = .ret (.tuple [], ⟨gasPut f b r (relT v g s) H, n, p, false, j⟩) := by
 have hGF := Z3p (h := s.heat) hl1 hl2
 have hGB := Z7b (h := s.heat) hl2
 have h2 : g.bound ≠ [] := fun e => h1 (List.length_eq_zero_iff.1 (by rw [hl1, <- hl2, e]; rfl))
 have hpos : 0 < g.free.length := List.length_pos_iff.2 h1
 refine Zbd Zkl Zkk h ha h1 h2 rfl (fun e => by (have : (relF s.heat v.vessels g.free g.bound).length = 0 := by rw [show relF s.heat v.vessels g.free g.bound = [] from e]; rfl); omega) (fun e => by (have : (relB s.heat v.vessels g.bound).length = 0 := by rw [show relB s.heat v.vessels g.bound = [] from e]; rfl); omega) rfl (fun _ => rfl) fun H0 m hs hm => ?_
 refine Z6 rfl fun T hT' hA => ?_
 have a0 := hA 0 _ rfl
 have a1 := hA 1 _ rfl
 have a2 := hA 2 _ rfl
 have hT : T.length = 66 := hT'
 clear hA hT'
 have hpb : 0 < g.bound.length := by omega
 unfold gasX at a1
 rw [Xl hpos, Xl hpb] at a1
 simp -implicitDefEqProofs only [go_sem, a0, a1]
 simp only [Z1]
 unfold relT
 refine Zf (fun k T s' => T.length = 66 /\ nth T 2 = some (.int .i64 s.heat) /\ nth T 3 = some (.ptr [m + 2] 0) /\ nth T 4 = some (.ptr [m + 3] 0) /\ ∃ (i m' : Nat) (H' : Heap), nth T 6 = some (.int .i64 i) /\ i <= v.vessels.length /\ k = v.vessels.length - i /\ s' = ⟨H', m' + 4, [], false, []⟩ /\ m <= m' /\ hget H' [m + 2] = some (vacC v) /\ hget H' [m + 3] = some (.cells [.slice [0] 0 g.free.length g.free.length false, .slice [1] 0 g.bound.length g.bound.length false, rowX (.lst []) [2] g.room.length, .int .i64 g.most, .bool g.flashed] true 0) /\ hget H' [0] = some (rgB ((relF s.heat v.vessels g.free g.bound).take i ++ g.free.drop i)) /\ hget H' [1] = some (rgB ((relB s.heat v.vessels g.bound).take i ++ g.bound.drop i)) /\ (g.room ≠ [] -> hget H' [2] = some (rgB g.room))) (k := v.vessels.length) (by omega) ?_ ?_
 ·exact ⟨by simp -implicitDefEqProofs only [go_sem, hT], by simp -implicitDefEqProofs only [go_sem, a2], by simp -implicitDefEqProofs only [go_sem, hT], by simp -implicitDefEqProofs only [go_sem, hT], 0, m, _, by simp -implicitDefEqProofs only [go_sem, hT] <;> rfl, by omega, rfl, rfl, Nat.le_refl _, (hc11 (by omega)).trans (Z3 ..), Z3 .., (hc11 (by omega)).trans ((hc11 (by omega)).trans (hs.f h1)), (hc11 (by omega)).trans ((hc11 (by omega)).trans (hs.b h2)), fun e => (hc11 (by have := hm e; omega)).trans ((hc11 (by have := hm e; omega)).trans (hs.r e))⟩
 clear a0 a1 a2 hT T hs H0
 rintro k T s' ⟨hT, a2, a3, a4, i, m', H0, a6, hi, rfl, rfl, hmm, hvc, hgc, hx0, hx1, hx2⟩
 unfold vacC at hvc
 simp -implicitDefEqProofs only [go_sem, a3, a6, hT, hvc]
 by_cases hil : (i : Int) < (v.vessels.length : Int)
 ·have hi' : i < v.vessels.length := by omega
  have e1 := Z9 (f := vesV) (l := v.vessels) (i := i) (z := 6) hi' rfl
  have hkk : v.vessels.length - (i + 1) < v.vessels.length - i := by omega
  have hbx := hbd _ (List.getElem_mem hi')
  have hbb := hbe _ (List.getElem_mem hi')
  obtain ⟨F, hF, lF, f0, f1, fw⟩ := Z2z (G := relF s.heat v.vessels g.free g.bound) (F := g.free) (by omega) (show i < g.free.length by omega) _ (fun h0 => Zb7 h0 hi' (by omega) (by omega))
  obtain ⟨B, hB, lB, b0, b1, bw⟩ := Z2z (G := relB s.heat v.vessels g.bound) (F := g.bound) (by omega) (show i < g.bound.length by omega) _ (fun h0 => Zb8 h0 hi' (by omega))
  rw [<- hF] at hx0
  rw [<- hB] at hx1
  clear hF hB
  generalize hF' : (relF s.heat v.vessels g.free g.bound).take (i + 1) ++ g.free.drop (i + 1) = F' at fw
  generalize hB' : (relB s.heat v.vessels g.bound).take (i + 1) ++ g.bound.drop (i + 1) = B' at bw
  generalize v.vessels[i] = x at *
  generalize g.free[i] = fi at *
  generalize g.bound[i] = bi at *
  have hra := fun st => Zew x s.heat K st (by omega) (by omega)
  rw [Zev x.bands 0 0 s.heat ⟨0, 0⟩ hbb] at hra
  simp only [relFr, relBo] at fw bw
  generalize rateP s.heat ⟨0, 0⟩ x.bands = q at *
  simp only [vesV, rgV] at e1 hra
  have hinF : inR (i : Int) g.free.length = some i := X6 (by omega)
  have hinB : inR (i : Int) g.bound.length = some i := X6 (by omega)
  unfold rgB at hx0 hx1
  have c1 := fun a b s => Z61 a b K s
  have c2 := fun a b s => Zav a b K s
  have c3 := fun a b s => Z70 ⟨fi.lo, fi.hi⟩ ⟨a, b⟩ K s
  simp only [rgV] at c3
  have hw1 : wrapF .i64 ((i : Int) + 1) = ((i + 1 : Nat) : Int) := Z5 (by omega) (by omega)
  have nm2 : ∀ x r, lkD (([0], x) :: r) [m + 2] = lkD r [m + 2] := fun x r => lk11 (by omega)
  have nm3 : ∀ x r, lkD (([0], x) :: r) [m + 3] = lkD r [m + 3] := fun x r => lk11 (by omega)
  simp -implicitDefEqProofs only [go_sem, hil]
  try simp only [Z1]
  refine Z7 [[], [0], [], [1, 0, 2], [3, 1, 0, 2], [], [4, 3, 1, 0, 2, 5], [], [7], [], [8, 7, 9], [10, 8, 7, 9], [], [], [6, 4, 3, 1, 0, 2, 5, 12, 13], [11, 10, 8, 7, 9, 14, 6, 4, 3, 1, 0, 2, 5, 12, 13]] [[], [], [], [], [], [], [], [], [], [], [], [], [], [], [[m' + 4, 12, 0]], [[m' + 4, 13, 0]]] (by kernel_rfl) rfl rfl ?_
  simp -implicitDefEqProofs only [go_sem, Z0, lkn, Za, Jm, Option.getD_some, Option.getD_none, a2, a3, a4, a6, hT, hvc, hgc, hx1, hd31, e1, hra, hinB, b0, b1, Z8]
  try simp only [Z1]
  refine Z7 [[], [0], [], [], [3], [], [4, 3, 5], [6, 4, 3, 5], [], [8], [], [10], [9, 8, 11, 10], [], [13], [], [15], [14, 13, 16, 15, 12, 9, 8, 11, 10], [17, 14, 13, 16, 15, 12, 9, 8, 11, 10], [7, 6, 4, 3, 5, 18, 17, 14, 13, 16, 15, 12, 9, 8, 11, 10], [1, 0, 2, 19, 7, 6, 4, 3, 5, 18, 17, 14, 13, 16, 15, 12, 9, 8, 11, 10], [20, 1, 0, 2, 19, 7, 6, 4, 3, 5, 18, 17, 14, 13, 16, 15, 12, 9, 8, 11, 10]] [[], [], [], [], [], [], [], [], [], [], [], [], [], [], [], [], [], [], [], [], [], [[0]]] (by kernel_rfl) rfl rfl ?_
  simp -implicitDefEqProofs only [go_sem, Z0, lkn, Za, lk31, Jm, Option.getD_some, Option.getD_none, a4, a6, hT, hgc, hx0, hinF, f0, f1, c1, c2, c3, Xb, fw, Z8]
  try simp only [Z1]
  refine Z7 [[], [0], [], [], [3], [], [5], [6, 5], [4, 3, 7, 6, 5], [], [9], [], [11], [12, 11], [10, 9, 13, 12, 11, 8, 4, 3, 7, 6, 5], [14, 10, 9, 13, 12, 11, 8, 4, 3, 7, 6, 5], [1, 0, 2, 15, 14, 10, 9, 13, 12, 11, 8, 4, 3, 7, 6, 5], [16, 1, 0, 2, 15, 14, 10, 9, 13, 12, 11, 8, 4, 3, 7, 6, 5]] [[], [], [], [], [], [], [], [], [], [], [], [], [], [], [], [], [], [[1]]] (by kernel_rfl) rfl rfl ?_
  simp -implicitDefEqProofs only [go_sem, Z0, lkn, Za, lk11, lk13, lk31, Jm, Option.getD_some, Option.getD_none, a2, a3, a4, a6, hT, hgc, hx1, nm3, hinB, b0, b1, c1, c2, Xb, bw, hw1, Z8]
  refine ⟨v.vessels.length - (i + 1), hkk, trivial, trivial, trivial, trivial, i + 1, m' + 3, _, rfl, hi', rfl, rfl, by omega, ?_, ?_, ?_, ?_, fun e => ?_⟩
  all_goals clear hw1
  ·simp (disch := omega) only [Z0, lkn, lk11, lk31, Option.getD_none]; exact hvc
  ·simp (disch := omega) only [Z0, lkn, lk11, lk31, Option.getD_none]; exact hgc
  ·rw [hF']; simp (disch := omega) only [Z0, lkn, Za, lk11, lk31, Option.getD_some, Option.getD_none]; rfl
  ·rw [hB']; simp (disch := omega) only [Z0, lkn, Za, lk11, lk31, Option.getD_some, Option.getD_none]; rfl
  ·simp (disch := omega) only [Z0, lkn, lk11, lk31, Option.getD_none]; exact hx2 e
 ·have hie : i = v.vessels.length := by omega
  subst hie
  have e1 : (relF s.heat v.vessels g.free g.bound).take v.vessels.length ++ g.free.drop v.vessels.length = relF s.heat v.vessels g.free g.bound := by
   rw [List.drop_of_length_le (by omega), List.append_nil, List.take_of_length_le (by omega)]
  have e2 : (relB s.heat v.vessels g.bound).take v.vessels.length ++ g.bound.drop v.vessels.length = relB s.heat v.vessels g.bound := by
   rw [List.drop_of_length_le (by omega), List.append_nil, List.take_of_length_le (by omega)]
  rw [e1] at hx0
  rw [e2] at hx1
  simp -implicitDefEqProofs only [go_sem, hil, Try.results167]
  exact ⟨trivial, ⟨fun _ => hx0, fun _ => hx1, hx2⟩⟩
end Go.Proofs.Ytgnpnfkncbnjnaa
