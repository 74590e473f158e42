/- Vacuum systems made of numbers. -/
import Derived.Test.YtgnpnfkncbnjnaaVaD
import Derived.Test.YtgnpnfkncbnjnaaAmD
import Derived.Test.YtgnpnfkncbnjnaaVaA
set_option linter.unusedSimpArgs false
set_option linter.unusedVariables false
set_option maxRecDepth 100000
attribute [local go_sem_proc] Int.reduceEq Int.reduceNeg Nat.reduceEqDiff Nat.reduceLT Nat.reduceAdd Nat.reduceSub Nat.reduceMul Int.reduceLE Int.reduceLT Int.reduceToNat Nat.reduceLeDiff
attribute [local go_sem] Int.toNat_natCast Bool.not_true Bool.not_false
namespace Go.Proofs.Ytgnpnfkncbnjnaa
open Go Go.Am
attribute [local congr] tr_congr does_congr all_congr
attribute [local go_sem] Go.Am.frozen Go.Am.freezeG Go.Am.freezeGs Go.Am.minmax
theorem bs69 (fr a b : Int) (s : St) : buildSliceA (cfg.at 23) true 69 1 [(0, .agg [.int .i64 fr, .int .i64 a, .int .i64 b])] s = .ret (.lst [.agg [.int .i64 fr, .int .i64 a, .int .i64 b]], s) := by
  simp -implicitDefEqProofs only [go_sem, Go.Am.buildSliceA]
theorem bs33 (a b c d e : Int) (q : Nm) (l : List AV) (s : St) : buildSliceA (cfg.at 23) true 33 1 [(0, .agg [.int .i64 a, .int .i64 b, .int .i64 c, .int .i64 d, .int .i64 e, ownV q l])] s = .ret (.lst [.agg [.int .i64 a, .int .i64 b, .int .i64 c, .int .i64 d, .int .i64 e, .lst l]], s) := by
  have h : (ownV q l).shut = .lst l := shut_ownV q l
  have h2 : shuts [.int .i64 a, .int .i64 b, .int .i64 c, .int .i64 d, .int .i64 e, ownV q l] = [.int .i64 a, .int .i64 b, .int .i64 c, .int .i64 d, .int .i64 e, .lst l] := by
    simp only [shuts, AV.shut, h]
  simp -implicitDefEqProofs only [go_sem, Go.Am.buildSliceA, h2]
theorem bs34 (a b c d e f : Int) (s : St) : buildSliceA (cfg.at 23) true 34 1 [(0, .agg [.int .i64 a, .int .i64 b, .int .i64 c, .int .i64 d, .int .i64 e, .int .i64 f])] s = .ret (.lst [.agg [.int .i64 a, .int .i64 b, .int .i64 c, .int .i64 d, .int .i64 e, .int .i64 f]], s) := by
  simp -implicitDefEqProofs only [go_sem, Go.Am.buildSliceA]
theorem bs35 (a b c : Int) (s : St) : buildSliceA (cfg.at 23) true 35 1 [(0, .agg [.int .i64 a, .int .i64 b, .int .i64 c])] s = .ret (.lst [.agg [.int .i64 a, .int .i64 b, .int .i64 c]], s) := by
  simp -implicitDefEqProofs only [go_sem, Go.Am.buildSliceA]
theorem bs36 (a b c : Int) (s : St) : buildSliceA (cfg.at 23) true 36 1 [(0, .agg [.int .i64 a, .int .i64 b, .int .i64 c])] s = .ret (.lst [.agg [.int .i64 a, .int .i64 b, .int .i64 c]], s) := by
  simp -implicitDefEqProofs only [go_sem, Go.Am.buildSliceA]
theorem bs37 (a b c d e : Int) (s : St) : buildSliceA (cfg.at 23) true 37 1 [(0, .agg [.int .i64 a, .int .i64 b, .int .i64 c, .int .i64 d, .int .i64 e])] s = .ret (.lst [.agg [.int .i64 a, .int .i64 b, .int .i64 c, .int .i64 d, .int .i64 e]], s) := by
  simp -implicitDefEqProofs only [go_sem, Go.Am.buildSliceA]
theorem rem_pip {a bw : Int} {N : Int} (ha : 0 ≤ a ∧ a < N) (hb : 1 ≤ bw ∧ bw ≤ N - 1) : 0 ≤ (a + bw).tmod N ∧ (a + bw).tmod N < N ∧ a ≠ (a + bw).tmod N := by
  have e0 : (a + bw).tmod N = (a + bw) % N := Int.tmod_eq_emod_of_nonneg (by omega)
  rw [e0]
  by_cases h : a + bw < N
  · rw [Int.emod_eq_of_lt (by omega) h]; omega
  · have e : a + bw = (a + bw - N) + N := by omega
    have e2 : (a + bw) % N = (a + bw - N) % N := by
      conv => lhs; rw [e]
      rw [Int.add_emod_right]
    rw [e2, Int.emod_eq_of_lt (by omega) (by omega)]; omega
theorem desc69 : cfg.desc 69 = some (.slice 138) := by kernel_rfl
theorem desc33 : cfg.desc 33 = some (.slice 71) := by kernel_rfl
theorem desc34 : cfg.desc 34 = some (.slice 140) := by kernel_rfl
theorem desc35 : cfg.desc 35 = some (.slice 128) := by kernel_rfl
theorem desc36 : cfg.desc 36 = some (.slice 61) := by kernel_rfl
theorem desc37 : cfg.desc 37 = some (.slice 142) := by kernel_rfl
theorem ownV_map_snoc {α : Type} (f : α → AV) (b : Nm) (l : List α) (x : α) : ownV b ((l ++ [x]).map f) = .own b ((l ++ [x]).map f) := by
  rw [List.map_append]; exact ownV_snoc _ _ _
def nil5 : List AV := [.nils, .nils, .nils, .nils, .nils]
theorem vacuumOf_call (w : Int) (b : Nm) (u : Nat) (K : Nat) (st : St) (hb : hget st.H b = some (.cells [.int .u64 w] true u)) (hK : 100 < K) :
    ∃ v w', VacG v ∧ acall cfg (K + 10) 23 [.ptr b 0] st = .ret (vacV v, st.put b (.cells [.int .u64 w'] true u)) := by
  have key : ∃ v w', VacG v ∧ (bodyA (cfg.at 23) (acall cfg (K + 9)) (around cfg (K + 9)) (K + 9 + 1) Try.f23 [.ptr [0] 0] ⟨[([0], .cells [.int .u64 w] true u)], 1, [], false, []⟩).Does fun x => x.1.shut = vacV v ∧ hget x.2.H [0] = some (.cells [.int .u64 w'] true u) := by
    suffices h : (bodyA (cfg.at 23) (acall cfg (K + 9)) (around cfg (K + 9)) (K + 9 + 1) Try.f23 [.ptr [0] 0] ⟨[([0], .cells [.int .u64 w] true u)], 1, [], false, []⟩).Does fun x => ∃ v w', VacG v ∧ x.1.shut = vacV v ∧ hget x.2.H [0] = some (.cells [.int .u64 w'] true u) by
      obtain ⟨x, e, v, w', h1, h2, h3⟩ := h
      exact ⟨v, w', h1, x, e, h2, h3⟩
    refine body_does rfl fun T hT' hA => ?_
    have a0 := hA 0 _ rfl
    have hT : T.length = 144 := hT'
    clear hA hT'
    have bt := fun H m jr j hd => between_d (H := H) (m := m) (u := u) (p := []) (jr := jr) (j := j) 1 4 (K + 6) (by decide) (by decide) (by decide) hd
    have d0 : isD u [([0], .cells [.int .u64 w] true u)] := ⟨w, rfl⟩
    simp -implicitDefEqProofs (maxDischargeDepth := 9) only [go_sem, dW_cons0, isD_cons1, dW_cons1, a0, hT, bt, d0]
    have hb1 := between_range w 1 4 (by decide)
    generalize betweenN w 1 4 = N at *
    clear bt d0
    simp only [does_bind]
    refine xl_does (fun k T s' => T.length = 144 ∧ nth T 0 = some (.ptr [0] 0) ∧ nth T 2 = some (.ptr [1] 0) ∧ nth T 3 = some (.ptr [2] 0) ∧ nth T 4 = some (.int .i64 N) ∧ ∃ (i n c : Nat) (H : Heap) (vs : List Ves), nth T 5 = some (.int .i64 i) ∧ (i : Int) ≤ N ∧ k = N.toNat - i ∧ s' = ⟨H, n + 3, [], false, []⟩ ∧ isD u H ∧ hget H [1] = some (.cells nil5 true 0) ∧ hget H [2] = some (.cells (ownV [c + 3] (vs.map vesV) :: [.nils, .nils, .nils, .nils]) true 0) ∧ (vs.map vesV ≠ [] → c < n ∧ hget H [c + 3] = some (.tok vs.length 6)) ∧ vs.length = i ∧ ∀ x ∈ vs, VesG x) (k := N.toNat) (by omega) ?_ ?_
    · exact ⟨by simp -implicitDefEqProofs only [go_sem, hT], by simp -implicitDefEqProofs only [go_sem, a0], by simp -implicitDefEqProofs only [go_sem, hT], by simp -implicitDefEqProofs only [go_sem, hT], by simp -implicitDefEqProofs only [go_sem, hT], 0, 0, 0, _, [], by simp -implicitDefEqProofs only [go_sem, hT] <;> rfl, by omega, rfl, rfl, ⟨_, rfl⟩, rfl, rfl, fun h => absurd rfl h, rfl, fun _ h => by cases h⟩
    clear a0 hT T
    rintro k T s' ⟨hT, a0, a2, a3, a4, i, n, c, H, vs, a5, hi, rfl, rfl, hd, g1, g2, gt, hvl, hvs⟩
    simp -implicitDefEqProofs (maxDischargeDepth := 9) only [go_sem, a4, a5, hT]
    by_cases hlo : (i : Int) < N
    · have bt := fun H m jr j hd => between_d (H := H) (m := m) (u := u) (p := []) (jr := jr) (j := j) 1 50 (K + 6) (by decide) (by decide) (by decide) hd
      have rt := fun H m jr j hd => range_d (H := H) (m := m) (u := u) (p := []) (jr := jr) (j := j) 0 20000 (K + 5) (by decide) (by decide) (by decide) hd
      have ot := fun H m jr j hd => one_d (H := H) (m := m) (u := u) (p := []) (jr := jr) (j := j) 2 (K + 6) hd (by decide)
      simp -implicitDefEqProofs (maxDischargeDepth := 9) only [go_sem, isD_set0, dW_set0, isD_cons1, dW_cons1, hset_hset, a0, hT, hlo, bt, rt, ot, hd]
      have hvol := between_range (dW H) 1 50 (by decide)
      have hfree := rangeG (nextW (dW H)) 20000 (by decide)
      generalize betweenN (dW H) 1 50 = vol at *
      generalize rangeR (nextW (dW H)) 0 20000 = free at *
      generalize oneB (nextW (nextW (nextW (dW H)))) 2 = ob at *
      generalize nextW (nextW (nextW (nextW (dW H)))) = w1 at *
      clear bt rt ot
      obtain ⟨H1, hH1, d1, q1, q2, qt⟩ : ∃ H1, H1 = hset H [0] (.cells [.int .u64 w1] true u) ∧ isD u H1 ∧ hget H1 [1] = some (.cells nil5 true 0) ∧ hget H1 [2] = some (.cells (ownV [c + 3] (vs.map vesV) :: [.nils, .nils, .nils, .nils]) true 0) ∧ (vs.map vesV ≠ [] → c < n ∧ hget H1 [c + 3] = some (.tok vs.length 6)) :=
        ⟨_, rfl, isD_set0 hd, by rw [hs11 (by decide)]; exact g1, by rw [hs11 (by decide)]; exact g2, fun h => ⟨(gt h).1, by rw [hs11 (by omega)]; exact (gt h).2⟩⟩
      rw [← hH1]
      clear hH1 hd g1 g2 gt
      simp only [does_bind]
      refine Tr.Does.mono (Q := fun x => ∃ bd T' H', x = ((AExit.normal, T'), (⟨H', n + 4, [], false, []⟩ : St)) ∧ RgG 50000 bd ∧ T'.length = 144 ∧ nth T' 0 = some (.ptr [0] 0) ∧ nth T' 2 = some (.ptr [1] 0) ∧ nth T' 3 = some (.ptr [2] 0) ∧ nth T' 4 = some (.int .i64 N) ∧ nth T' 5 = some (.int .i64 i) ∧ nth T' 6 = some (.ptr [n + 3] 0) ∧
        isD u H' ∧ hget H' [1] = some (.cells nil5 true 0) ∧ hget H' [2] = some (.cells (ownV [c + 3] (vs.map vesV) :: [.nils, .nils, .nils, .nils]) true 0) ∧ (vs.map vesV ≠ [] → c < n ∧ hget H' [c + 3] = some (.tok vs.length 6)) ∧ hget H' [n + 3] = some (.cells [.int .i64 vol, .int .i64 free.lo, .int .i64 free.hi, .int .i64 bd.lo, .int .i64 bd.hi, .nils] true 0)) ?_ ?_
      · cases ob with
        | true =>
          have rt := fun H m jr j hd => range_d (H := H) (m := m) (u := u) (p := []) (jr := jr) (j := j) 0 50000 (K + 5) (by decide) (by decide) (by decide) hd
          simp -implicitDefEqProofs (maxDischargeDepth := 9) only [go_sem, isD_cons1, dW_cons1, a0, hT, rt, d1]
          have hz := rangeG (dW H1) 50000 (by decide)
          refine ⟨rangeR (dW H1) 0 50000, _, _, rfl, hz, by simp -implicitDefEqProofs only [go_sem, hT], by simp -implicitDefEqProofs only [go_sem, a0], by simp -implicitDefEqProofs only [go_sem, a2], by simp -implicitDefEqProofs only [go_sem, a3], by simp -implicitDefEqProofs only [go_sem, a4], by simp -implicitDefEqProofs only [go_sem, a5], by simp -implicitDefEqProofs only [go_sem, hT], by simp only [isD_set0, isD_cons1, d1], ?_, ?_, fun h => ⟨(qt h).1, ?_⟩, hget_cons_same ..⟩
          · rw [hc11 (by omega), hs11 (by decide)]; exact q1
          · rw [hc11 (by omega), hs11 (by decide)]; exact q2
          · rw [hc11 (by have := (qt h).1; omega), hs11 (by omega)]; exact (qt h).2
        | false =>
          simp -implicitDefEqProofs (maxDischargeDepth := 9) only [go_sem]
          refine ⟨⟨0, 0⟩, _, _, rfl, zeroR _ (by decide), by simp -implicitDefEqProofs only [go_sem, hT], by simp -implicitDefEqProofs only [go_sem, a0], by simp -implicitDefEqProofs only [go_sem, a2], by simp -implicitDefEqProofs only [go_sem, a3], by simp -implicitDefEqProofs only [go_sem, a4], by simp -implicitDefEqProofs only [go_sem, a5], by simp -implicitDefEqProofs only [go_sem, hT], by simp only [isD_cons1, d1], ?_, ?_, fun h => ⟨(qt h).1, ?_⟩, hget_cons_same ..⟩
          · rw [hc11 (by omega)]; exact q1
          · rw [hc11 (by omega)]; exact q2
          · rw [hc11 (by have := (qt h).1; omega)]; exact (qt h).2
      clear a0 a2 a3 a4 a5 hT T d1 q1 q2 qt H1
      rintro _ ⟨bd, T, H, rfl, hbd, hT, a0, a2, a3, a4, a5, a6, hd, g1, g2, gt, g3⟩
      have ut := fun n H m jr j hn hd => upto_d (H := H) (m := m) (u := u) (p := []) (jr := jr) (j := j) n (K + 7) hd hn
      have ut1 := fun H m jr j hd => ut 300 H m jr j (by decide) hd
      have ut2 := fun H m jr j hd => ut 3 H m jr j (by decide) hd
      simp -implicitDefEqProofs (maxDischargeDepth := 9) only [go_sem, isD_set0, dW_set0, hset_hset, a0, hT, ut1, ut2, hd]
      have hfr := upto_range (dW H) 300 (by decide)
      have hct := upto_range (nextW (dW H)) 3 (by decide)
      generalize uptoN (dW H) 300 = fr0 at *
      generalize uptoN (nextW (dW H)) 3 = ct0 at *
      generalize nextW (nextW (dW H)) = w1 at *
      clear ut1 ut2
      obtain ⟨ct, rfl⟩ : ∃ q : Nat, ct0 = q := ⟨ct0.toNat, by omega⟩
      simp only [does_bind]
      refine xl_does (fun l T s' => T.length = 144 ∧ nth T 0 = some (.ptr [0] 0) ∧ nth T 2 = some (.ptr [1] 0) ∧ nth T 3 = some (.ptr [2] 0) ∧ nth T 4 = some (.int .i64 N) ∧ nth T 5 = some (.int .i64 i) ∧ nth T 6 = some (.ptr [n + 3] 0) ∧ nth T 8 = some (.int .i64 l) ∧ ∃ (fr : Int) (m cb : Nat) (H : Heap) (bs : List Rel), nth T 7 = some (.int .i64 fr) ∧ s' = ⟨H, m + n + 4, [], false, []⟩ ∧ isD u H ∧ hget H [1] = some (.cells nil5 true 0) ∧ hget H [2] = some (.cells (ownV [c + 3] (vs.map vesV) :: [.nils, .nils, .nils, .nils]) true 0) ∧ (vs.map vesV ≠ [] → c < n ∧ hget H [c + 3] = some (.tok vs.length 6)) ∧
        hget H [n + 3] = some (.cells [.int .i64 vol, .int .i64 free.lo, .int .i64 free.hi, .int .i64 bd.lo, .int .i64 bd.hi, ownV [cb, 7, 0] (bs.map relV)] true 0) ∧ (bs ≠ [] → cb < m + n + 4 ∧ hget H [cb, 7, 0] = some (.tok bs.length 3)) ∧ bs.length + l ≤ 2 ∧ 0 ≤ fr ∧ fr < 300 + 400 * (bs.length : Int) ∧ BandsG fr bs) (k := ct) (by omega) ?_ ?_
      · exact ⟨by simp -implicitDefEqProofs only [go_sem, hT], by simp -implicitDefEqProofs only [go_sem, a0], by simp -implicitDefEqProofs only [go_sem, a2], by simp -implicitDefEqProofs only [go_sem, a3], by simp -implicitDefEqProofs only [go_sem, a4], by simp -implicitDefEqProofs only [go_sem, a5], by simp -implicitDefEqProofs only [go_sem, a6], by simp -implicitDefEqProofs only [go_sem, hT], fr0, 0, 0, _, [], by simp -implicitDefEqProofs only [go_sem, hT], by rw [Nat.zero_add], isD_set0 hd, by rw [hs11 (by decide)]; exact g1, by rw [hs11 (by decide)]; exact g2, fun h => ⟨(gt h).1, by rw [hs11 (by omega)]; exact (gt h).2⟩, by rw [hs11 (by omega)]; exact g3, fun h => absurd rfl h, by show 0 + ct ≤ 2; omega, hfr.1, by show fr0 < 300 + 400 * ((0 : Nat) : Int); omega, trivial⟩
      clear a0 a2 a3 a4 a5 a6 hT T hd g1 g2 gt g3 H w1 hfr hct fr0 ct ut
      rintro l T s' ⟨hT, a0, a2, a3, a4, a5, a6, a8, fr, m, cb, H, bs, a7, rfl, hd, g1, g2, gt, g3, gb, hbl, hf0, hf1, hbg⟩
      simp -implicitDefEqProofs only [go_sem, a8, hT]
      by_cases hlo : (0 : Int) < (l : Int)
      · have hl1 : l - 1 < l := by omega
        have pt := fun m p jr j => part_d (H := H) (m := m) (u := u) (p := p) (jr := jr) (j := j) 400000 (K + 4) (by decide) (by decide) hd
        have hrg := rangeG (dW H) 400000 (by decide)
        generalize rangeR (dW H) 0 400000 = rg at *
        generalize nextW (nextW (dW H)) = w2 at *
        have pt' : ∀ m p, acall cfg (K + 9) 88 [.ptr [0] 0, .int .i64 400000] ⟨H, m, p, true, []⟩ = .ret (.agg [.int .i64 rg.lo, .int .i64 rg.hi], ⟨hset H [0] (.cells [.int .u64 w2] true u), m, p, true, [([0], some (.cells [.int .u64 w2] true u))]⟩) := fun m p => pt m p true []
        clear pt
        have gv : hget (hdel H [0]) [n + 3] = some (.cells [.int .i64 vol, .int .i64 free.lo, .int .i64 free.hi, .int .i64 bd.lo, .int .i64 bd.hi, ownV [cb, 7, 0] (bs.map relV)] true 0) := (hd11 (by omega)).trans g3
        have hap := fun (l : List AV) (n : Nat) (b p : Nm) (H : Heap) (r : Rg) (hr : (l.length + 1) * 24 ≤ 140737488355328) (hg : l ≠ [] → hget H b = some (.tok l.length 3)) => append_abs (C := cfg.at 23) (sT := 69) (b := b) (l := l) (x := .agg [.int .i64 fr, .int .i64 r.lo, .int .i64 r.hi]) (H := H) (n := n) (p := p) (jr := true) (j := []) (z := 3) desc69 tget138 rfl rfl rfl rfl rfl rfl hr hg
        simp -implicitDefEqProofs only [go_sem, hlo]
        simp only [does_bind]
        refine Tr.Does.mono (Q := fun x => ∃ T' H2, x = (T', (⟨H2, m + n + 5, [], false, []⟩ : St)) ∧ T'.length = 144 ∧ nth T' 0 = some (.ptr [0] 0) ∧ nth T' 2 = some (.ptr [1] 0) ∧ nth T' 3 = some (.ptr [2] 0) ∧ nth T' 4 = some (.int .i64 N) ∧ nth T' 5 = some (.int .i64 i) ∧ nth T' 6 = some (.ptr [n + 3] 0) ∧ nth T' 7 = some (.int .i64 fr) ∧ nth T' 8 = some (.int .i64 l) ∧
          isD u H2 ∧ hget H2 [1] = some (.cells nil5 true 0) ∧ hget H2 [2] = some (.cells (ownV [c + 3] (vs.map vesV) :: [.nils, .nils, .nils, .nils]) true 0) ∧ (vs.map vesV ≠ [] → c < n ∧ hget H2 [c + 3] = some (.tok vs.length 6)) ∧
          hget H2 [n + 3] = some (.cells [.int .i64 vol, .int .i64 free.lo, .int .i64 free.hi, .int .i64 bd.lo, .int .i64 bd.hi, ownV [m + n + 4, 7, 0] ((bs ++ [(⟨fr, rg⟩ : Rel)]).map relV)] true 0) ∧ hget H2 [m + n + 4, 7, 0] = some (.tok (bs ++ [(⟨fr, rg⟩ : Rel)]).length 3)) ?_ ?_
        · cases bs with
          | nil =>
            have hap0 := fun (n : Nat) (p : Nm) (H : Heap) (r : Rg) => hap [] n [] p H r (by simp) (fun h => absurd rfl h)
            simp only [ownV, dropTok, tokJ, List.nil_append, List.length_nil, List.map_nil] at hap0 g3 gv
            have ip : isPre [m + n + 4, 9] [n + 3] = false := Go.Am.isPre_ne _ _ (by omega)
            try simp only [does_bind]
            refine draw_machX [[], [0], [], [], [3], [2, 4, 3], [5, 2, 4, 3], [1, 0, 6, 5, 2, 4, 3], [7, 1, 0, 6, 5, 2, 4, 3], [8, 7, 1, 0, 6, 5, 2, 4, 3]] [[], [], [], [], [[0]], [], [], [], [], [[n + 3]]] (by kernel_rfl) rfl rfl ?_
            simp -implicitDefEqProofs only [go_sem, hget_redoH, lkn, lk11, lk31, Option.getD_some, Option.getD_none, a0, a6, a7, hT, g3, gv, pt', bs69, hap0 _ _ _ ⟨rg.lo, rg.hi⟩, ip, sameW_self]
            refine ⟨_, _, rfl, by simp -implicitDefEqProofs only [go_sem, hT], by simp -implicitDefEqProofs only [go_sem, a0], by simp -implicitDefEqProofs only [go_sem, a2], by simp -implicitDefEqProofs only [go_sem, a3], by simp -implicitDefEqProofs only [go_sem, a4], by simp -implicitDefEqProofs only [go_sem, a5], by simp -implicitDefEqProofs only [go_sem, a6], by simp -implicitDefEqProofs only [go_sem, a7], by simp -implicitDefEqProofs only [go_sem, a8], by simp only [isD_redo0, isD_redo1, isD_redo3], ?_, ?_, fun h => ⟨(gt h).1, ?_⟩, ?_, ?_⟩
            · simp (disch := omega) only [hget_redoH, lkn, lk11, lk31, Option.getD_none, g1]
            · simp (disch := omega) only [hget_redoH, lkn, lk11, lk31, Option.getD_none, g2]
            · have := (gt h).1
              simp (disch := omega) only [hget_redoH, lkn, lk11, lk31, Option.getD_none, (gt h).2]
            · simp (disch := omega) only [hget_redoH, lk_same, Option.getD_some]; rfl
            · simp (disch := omega) only [hget_redoH, lk_same, lk13, Option.getD_some] <;> rfl
          | cons b0 bs =>
            obtain ⟨hcb, r1⟩ := gb (by simp)
            have hapN := fun (n : Nat) (p : Nm) (H : Heap) (r : Rg) (hg : hget H [cb, 7, 0] = some (.tok (b0 :: bs).length 3)) => hap ((b0 :: bs).map relV) n [cb, 7, 0] p H r (by rw [List.length_map]; omega) (fun _ => by rw [List.length_map]; exact hg)
            have hrel : ((b0 :: bs) ++ [(⟨fr, rg⟩ : Rel)]).map relV = (b0 :: bs).map relV ++ [.agg [.int .i64 fr, .int .i64 rg.lo, .int .i64 rg.hi]] := by rw [List.map_append]; rfl
            have hrl : ((b0 :: bs) ++ [(⟨fr, rg⟩ : Rel)]).length = (b0 :: bs).length + 1 := by simp
            have n1 : (b0 :: bs).map relV ≠ [] := by simp
            have hlm : ((b0 :: bs).map relV).length = (b0 :: bs).length := List.length_map ..
            rw [hrel, hrl]
            generalize (b0 :: bs).map relV = R at *
            generalize (b0 :: bs).length = ln at *
            have o1 : ∀ b, ownV b R = .own b R := fun b => by cases R with | nil => exact absurd rfl n1 | cons a r => rfl
            have o3 : ∀ b j, tokJ R b j = (b, none) :: j := fun b j => by cases R with | nil => exact absurd rfl n1 | cons a r => rfl
            have o5 : ∀ b H, dropTok R b H = hdel H b := fun b H => by cases R with | nil => exact absurd rfl n1 | cons a r => rfl
            simp only [o1, o3, o5, ownV_snoc, hlm] at hapN g3 gv
            rw [ownV_snoc]
            have ip : isPre [m + n + 4, 9] [n + 3] = false := Go.Am.isPre_ne _ _ (by omega)
            have ip2 : isPre [m + n + 4, 7] [cb, 7, 0] = false := Go.Am.isPre_ne _ _ (by omega)
            try simp only [does_bind]
            refine draw_machX [[], [0], [], [], [3], [2, 4, 3], [5, 2, 4, 3], [1, 0, 6, 5, 2, 4, 3], [7, 1, 0, 6, 5, 2, 4, 3], [8, 7, 1, 0, 6, 5, 2, 4, 3]] [[], [], [], [], [[0]], [], [], [[cb, 7, 0]], [], [[n + 3]]] (by kernel_rfl) rfl rfl ?_
            simp -implicitDefEqProofs only [go_sem, hget_redoH, lkn, lk11, lk13, lk31, Option.getD_some, Option.getD_none, a0, a6, a7, hT, g3, gv, r1, pt', bs69, hapN _ _ _ ⟨rg.lo, rg.hi⟩, ip, ip2, sameW_self]
            refine ⟨_, _, rfl, by simp -implicitDefEqProofs only [go_sem, hT], by simp -implicitDefEqProofs only [go_sem, a0], by simp -implicitDefEqProofs only [go_sem, a2], by simp -implicitDefEqProofs only [go_sem, a3], by simp -implicitDefEqProofs only [go_sem, a4], by simp -implicitDefEqProofs only [go_sem, a5], by simp -implicitDefEqProofs only [go_sem, a6], by simp -implicitDefEqProofs only [go_sem, a7], by simp -implicitDefEqProofs only [go_sem, a8], by simp only [isD_redo0, isD_redo1, isD_redo3], ?_, ?_, fun h => ⟨(gt h).1, ?_⟩, ?_, ?_⟩
            · simp (disch := omega) only [hget_redoH, lkn, lk11, lk31, Option.getD_none, g1]
            · simp (disch := omega) only [hget_redoH, lkn, lk11, lk31, Option.getD_none, g2]
            · have := (gt h).1
              simp (disch := omega) only [hget_redoH, lkn, lk11, lk31, Option.getD_none, (gt h).2]
            · simp (disch := omega) only [hget_redoH, lk_same, Option.getD_some] <;> rfl
            · simp (disch := omega) only [hget_redoH, lk_same, lk13, Option.getD_some] <;> rfl
        clear a0 a2 a3 a4 a5 a6 a7 a8 hT T hd g1 g2 gt g3 gv gb H pt' hap cb
        rintro _ ⟨T, H, rfl, hT, a0, a2, a3, a4, a5, a6, a7, a8, hd, g1, g2, gt, g3, gb⟩
        have bt := fun H m jr j hd => between_d (H := H) (m := m) (u := u) (p := []) (jr := jr) (j := j) 1 400 (K + 6) (by decide) (by decide) (by decide) hd
        have hbr := between_range (dW H) 1 400 (by decide)
        have hlen : (bs ++ [(⟨fr, rg⟩ : Rel)]).length + (l - 1) ≤ 2 := by rw [List.length_append, List.length_singleton]; omega
        have hbs2 := bandsG_snoc (k := fr) (k' := fr + betweenN (dW H) 1 400) hf0 (by omega) hrg hbg
        have hf2 : 0 ≤ fr + betweenN (dW H) 1 400 := by omega
        have hf3 : fr + betweenN (dW H) 1 400 < 300 + 400 * ((bs ++ [(⟨fr, rg⟩ : Rel)]).length : Int) := by rw [List.length_append, List.length_singleton]; omega
        have hlt : m + n + 4 < (m + 1) + n + 4 := by omega
        have heq : m + n + 5 = (m + 1) + n + 4 := by omega
        have hneb : bs ++ [(⟨fr, rg⟩ : Rel)] ≠ [] := by simp
        generalize bs ++ [(⟨fr, rg⟩ : Rel)] = bs2 at *
        have e1 : wrapF .i64 (fr + betweenN (dW H) 1 400) = fr + betweenN (dW H) 1 400 := wrap_i64 (by omega) (by omega)
        have e2 : wrapF .i64 ((l : Int) - 1) = ((l - 1 : Nat) : Int) := by rw [wrap_i64 (by omega) (by omega)]; omega
        have bt := fun m jr j => bt H m jr j hd
        generalize betweenN (dW H) 1 400 = bw at *
        generalize nextW (dW H) = w3 at *
        simp -implicitDefEqProofs only [go_sem, a0, a2, a3, a4, a5, a6, a7, a8, hT, bt, e1, e2]
        clear e1 e2
        exact ⟨l - 1, hl1, trivial, trivial, trivial, trivial, trivial, trivial, trivial, rfl, fr + bw, m + 1, m + n + 4, _, bs2, rfl, by rw [heq], isD_set0 hd, by rw [hs11 (by decide)]; exact g1, by rw [hs11 (by decide)]; exact g2, fun h => ⟨(gt h).1, by rw [hs11 (by omega)]; exact (gt h).2⟩, by rw [hs11 (by omega)]; exact g3, fun _ => ⟨hlt, by rw [hs13]; exact gb⟩, hlen, hf2, hf3, hbs2⟩
      · clear gb
        have hVes : VesG ⟨vol, free, bd, bs⟩ := ⟨hvol, hfree, hbd, by show bs.length ≤ 2; omega, bandsG_mono (by omega) hbg⟩
        have hv1 : vesV ⟨vol, free, bd, bs⟩ = .agg [.int .i64 vol, .int .i64 free.lo, .int .i64 free.hi, .int .i64 bd.lo, .int .i64 bd.hi, .lst (bs.map relV)] := rfl
        have hap := append_abs (C := cfg.at 23) (sT := 33) (b := [c + 3]) (l := vs.map vesV) (x := .agg [.int .i64 vol, .int .i64 free.lo, .int .i64 free.hi, .int .i64 bd.lo, .int .i64 bd.hi, .lst (bs.map relV)]) (H := H) (n := m + n + 4) (p := []) (jr := false) (j := []) (z := 6) desc33 tget71 rfl rfl rfl rfl rfl rfl (by rw [List.length_map]; show (vs.length + 1) * 64 ≤ _; omega) (fun hx => by rw [List.length_map]; exact (gt hx).2)
        have hrm : (vs ++ [(⟨vol, free, bd, bs⟩ : Ves)]).map vesV = vs.map vesV ++ [.agg [.int .i64 vol, .int .i64 free.lo, .int .i64 free.hi, .int .i64 bd.lo, .int .i64 bd.hi, .lst (bs.map relV)]] := by rw [List.map_append, ← hv1]; rfl
        have hvs2 : ∀ x ∈ vs ++ [(⟨vol, free, bd, bs⟩ : Ves)], VesG x := by
          intro x hx
          rcases List.mem_append.1 hx with hx | hx
          · exact hvs x hx
          · rw [List.mem_singleton] at hx; rw [hx]; exact hVes
        have hvl2 : (vs ++ [(⟨vol, free, bd, bs⟩ : Ves)]).length = vs.length + 1 := by simp
        rw [ownV_snoc, ← hrm, List.length_map] at hap
        obtain ⟨H2, hH2, s0, s1, s2, s3⟩ : ∃ H2, H2 = dropTok (vs.map vesV) [c + 3] H ∧ isD u H2 ∧ hget H2 [1] = some (.cells nil5 true 0) ∧ hget H2 [2] = some (.cells (ownV [c + 3] (vs.map vesV) :: [.nils, .nils, .nils, .nils]) true 0) ∧ hget H2 [n + 3] = some (.cells [.int .i64 vol, .int .i64 free.lo, .int .i64 free.hi, .int .i64 bd.lo, .int .i64 bd.hi, ownV [cb, 7, 0] (bs.map relV)] true 0) :=
          ⟨_, rfl, ⟨_, (hget_dropTok _ _ (n11 (by omega))).trans (isD_get hd)⟩, (hget_dropTok _ _ (n11 (by omega))).trans g1, (hget_dropTok _ _ (n11 (by omega))).trans g2, by
            cases hvv : vs.map vesV with
            | nil => exact g3
            | cons a r => rw [← hvv]; exact (hget_dropTok _ _ (n11 (by have := (gt (by rw [hvv]; simp)).1; omega))).trans g3⟩
        rw [← hH2] at hap
        clear hH2 hv1 hrm
        simp -implicitDefEqProofs only [go_sem, a0, a2, a3, a4, a5, a6, hT, hlo, g2, g3, bs33, hap, s2]
        have hkk : N.toNat - (i + 1) < N.toNat - i := by omega
        have hi2 : ((i + 1 : Nat) : Int) ≤ N := by omega
        have hc2 : m + n + 1 < m + n + 2 := by omega
        have hw1 : wrapF .i64 ((i : Int) + 1) = ((i + 1 : Nat) : Int) := wrap_i64 (by omega) (by omega)
        refine ⟨N.toNat - (i + 1), hkk, trivial, trivial, trivial, trivial, trivial, i + 1, m + n + 2, m + n + 1, _, vs ++ [(⟨vol, free, bd, bs⟩ : Ves)], by rw [hw1], hi2, rfl, rfl, ?_, ?_, ?_, fun _ => ⟨hc2, ?_⟩, by rw [hvl2, hvl], hvs2⟩
        all_goals clear hw1
        · simp only [isD_cons1, isD_set1, s0]
        · simp (disch := omega) only [hc11, hs11, s1]
        · rw [show m + n + 1 + 3 = m + n + 4 from rfl, List.map_append, ← List.map_append, ownV_map_snoc]
          rw [hc11 (by omega)]
          exact hss s2
        · rw [show m + n + 1 + 3 = m + n + 4 from rfl, hvl2]
          exact hget_cons_same ..
    · have hNv : N = (vs.length : Int) := by omega
      subst hNv
      clear hi hvl
      have hA0 : (ownV [c + 3] (vs.map vesV)).shut = .lst (vs.map vesV) := shut_ownV _ _
      generalize ownV [c + 3] (vs.map vesV) = A0 at *
      clear gt
      have ut1 := fun m jr j => upto_d (H := H) (m := m) (u := u) (p := []) (jr := jr) (j := j) 5 (K + 7) hd (by decide)
      have hct := upto_range (dW H) 5 (by decide)
      generalize uptoN (dW H) 5 = ct0 at *
      generalize nextW (dW H) = w1 at *
      obtain ⟨ct, rfl⟩ : ∃ q : Nat, ct0 = q := ⟨ct0.toNat, by omega⟩
      simp -implicitDefEqProofs only [go_sem, a0, hT, ut1, hlo]
      clear ut1
      simp only [does_bind]
      refine Tr.Does.mono (Q := fun x => ∃ (T' : List AV) (m : Nat) (H : Heap) (ps : List Pip) (A1 : AV), x = ((AExit.exit 4, T'), (⟨H, m + 3, [], false, []⟩ : St)) ∧ T'.length = 144 ∧ nth T' 0 = some (.ptr [0] 0) ∧ nth T' 2 = some (.ptr [1] 0) ∧ nth T' 3 = some (.ptr [2] 0) ∧ nth T' 4 = some (.int .i64 vs.length) ∧ isD u H ∧ hget H [1] = some (.cells nil5 true 0) ∧ hget H [2] = some (.cells [A0, A1, .nils, .nils, .nils] true 0) ∧ A1.shut = .lst (ps.map pipV) ∧ ps.length ≤ 4 ∧ ∀ x ∈ ps, PipG vs.length x) ?_ ?_
      · refine xl_does (fun k T s' => T.length = 144 ∧ nth T 0 = some (.ptr [0] 0) ∧ nth T 2 = some (.ptr [1] 0) ∧ nth T 3 = some (.ptr [2] 0) ∧ nth T 4 = some (.int .i64 vs.length) ∧ nth T 9 = some (.int .i64 k) ∧ ∃ (m cb : Nat) (H : Heap) (ps : List Pip), s' = ⟨H, m + 3, [], false, []⟩ ∧ isD u H ∧ hget H [1] = some (.cells nil5 true 0) ∧ hget H [2] = some (.cells [A0, ownV [cb, 17, 0] (ps.map pipV), .nils, .nils, .nils] true 0) ∧ (ps ≠ [] → cb < m + 3 ∧ hget H [cb, 17, 0] = some (.tok ps.length 6)) ∧ ps.length + k ≤ 4 ∧ ∀ x ∈ ps, PipG vs.length x) (k := ct) (by omega) ?_ ?_
        · exact ⟨by simp -implicitDefEqProofs only [go_sem, hT], by simp -implicitDefEqProofs only [go_sem, a0], by simp -implicitDefEqProofs only [go_sem, a2], by simp -implicitDefEqProofs only [go_sem, a3], by simp -implicitDefEqProofs only [go_sem, a4], by simp -implicitDefEqProofs only [go_sem, hT], n, 0, _, [], rfl, isD_set0 hd, by rw [hs11 (by decide)]; exact g1, by rw [hs11 (by decide)]; exact g2, fun h => absurd rfl h, by show 0 + ct ≤ 4; omega, fun _ h => by cases h⟩
        clear a0 a2 a3 a4 a5 hT T hd g1 g2 H hct
        rintro k T s' ⟨hT, a0, a2, a3, a4, a9, m, cb, H, ps, rfl, hd, g1, g2, gb, hpl, hps⟩
        simp -implicitDefEqProofs only [go_sem, a4, a9, hT]
        by_cases hlo : (0 : Int) < (k : Int)
        · by_cases hn : (1 : Int) < (vs.length : Int)
          · have hl1 : k - 1 < k := by omega
            have ut := fun m jr j => upto_d (H := H) (m := m) (u := u) (p := []) (jr := jr) (j := j) vs.length (K + 7) hd (by omega)
            have har := upto_range (dW H) vs.length (by omega)
            generalize uptoN (dW H) vs.length = a at *
            generalize nextW (dW H) = w1 at *
            simp -implicitDefEqProofs only [go_sem, a0, a4, hT, hlo, hn, ut]
            clear ut
            obtain ⟨H1, hH1, d1, q1, q2, qb⟩ : ∃ H1, H1 = hset H [0] (.cells [.int .u64 w1] true u) ∧ isD u H1 ∧ hget H1 [1] = some (.cells nil5 true 0) ∧ hget H1 [2] = some (.cells [A0, ownV [cb, 17, 0] (ps.map pipV), .nils, .nils, .nils] true 0) ∧ (ps ≠ [] → cb < m + 3 ∧ hget H1 [cb, 17, 0] = some (.tok ps.length 6)) :=
              ⟨_, rfl, isD_set0 hd, by rw [hs11 (by decide)]; exact g1, by rw [hs11 (by decide)]; exact g2, fun h => ⟨(gb h).1, by rw [hs13]; exact (gb h).2⟩⟩
            rw [← hH1]
            clear hH1 hd g1 g2 gb H
            have p1 := fun m p => between_d (H := H1) (m := m) (u := u) (p := p) (jr := true) (j := []) 1 ((vs.length : Int) - 1) (K + 6) (by decide) (by omega) (by omega) d1
            have hbw := between_range (dW H1) 1 ((vs.length : Int) - 1) (by omega)
            generalize betweenN (dW H1) 1 ((vs.length : Int) - 1) = bw at *
            generalize nextW (dW H1) = w2 at *
            have p2 := fun m p => part_d (H := redoH H1 [([0], some (.cells [.int .u64 w2] true u))]) (m := m) (u := u) (p := p) (jr := true) (j := []) 120000 (K + 4) (by decide) (by decide) (isD_redo0 (u := u) (d := []) ▸ trivial)
            rw [dW_redo0] at p2
            have hr1 := rangeG w2 120000 (by decide)
            generalize rangeR w2 0 120000 = r1 at *
            generalize nextW (nextW w2) = w3 at *
            have p3 := fun m p => part_d (H := redoH (redoH H1 [([0], some (.cells [.int .u64 w2] true u))]) [([0], some (.cells [.int .u64 w3] true u))]) (m := m) (u := u) (p := p) (jr := true) (j := []) 120000 (K + 4) (by decide) (by decide) (isD_redo0 (u := u) (d := []) ▸ trivial)
            rw [dW_redo0] at p3
            have hr2 := rangeG w3 120000 (by decide)
            generalize rangeR w3 0 120000 = r2 at *
            generalize nextW (nextW w3) = w4 at *
            obtain ⟨b2, hb2, hP⟩ : ∃ b2, (a + bw).tmod vs.length = b2 ∧ PipG vs.length ⟨a, b2, r1, r2⟩ := by
              obtain ⟨x1, x2, x3⟩ := rem_pip har hbw
              exact ⟨_, rfl, har, ⟨x1, x2⟩, x3, hr1, hr2⟩
            have hn0 : ¬ (vs.length : Int) = 0 := by omega
            have hw6 : (wrapF .i64 (a + bw)).tmod vs.length = b2 := by rw [wrap_i64 (by omega) (by omega), hb2]
            have hw5 : wrapF .i64 ((vs.length : Int) - 1) = (vs.length : Int) - 1 := wrap_i64 (by omega) (by omega)
            clear hb2
            simp only [does_bind]
            refine Tr.Does.mono (Q := fun x => ∃ (T' : List AV) (H2 : Heap) (e : Pip), x = (T', (⟨H2, m + 4, [], false, []⟩ : St)) ∧ PipG vs.length e ∧ T'.length = 144 ∧ nth T' 0 = some (.ptr [0] 0) ∧ nth T' 2 = some (.ptr [1] 0) ∧ nth T' 3 = some (.ptr [2] 0) ∧ nth T' 4 = some (.int .i64 vs.length) ∧ nth T' 9 = some (.int .i64 k) ∧
              isD u H2 ∧ hget H2 [1] = some (.cells nil5 true 0) ∧ hget H2 [2] = some (.cells [A0, ownV [m + 3, 17, 0] ((ps ++ [e]).map pipV), .nils, .nils, .nils] true 0) ∧ hget H2 [m + 3, 17, 0] = some (.tok (ps ++ [e]).length 6)) ?_ ?_
            · have hap := fun (l : List AV) (n : Nat) (b p : Nm) (H : Heap) (hr : (l.length + 1) * 48 ≤ 140737488355328) (hg : l ≠ [] → hget H b = some (.tok l.length 6)) => append_abs (C := cfg.at 23) (sT := 34) (b := b) (l := l) (x := .agg [.int .i64 a, .int .i64 b2, .int .i64 r1.lo, .int .i64 r1.hi, .int .i64 r2.lo, .int .i64 r2.hi]) (H := H) (n := n) (p := p) (jr := true) (j := []) (z := 6) desc34 tget140 rfl rfl rfl rfl rfl rfl hr hg
              have gv : hget (hdel (hdel (hdel H1 [0]) [0]) [0]) [2] = some (.cells [A0, ownV [cb, 17, 0] (ps.map pipV), .nils, .nils, .nils] true 0) := by
                rw [hd11 (by decide), hd11 (by decide), hd11 (by decide)]; exact q2
              cases ps with
              | nil =>
                have hap0 := fun (n : Nat) (p : Nm) (H : Heap) => hap [] n [] p H (by simp) (fun h => absurd rfl h)
                simp only [ownV, dropTok, tokJ, List.nil_append, List.length_nil, List.map_nil] at hap0 q2 gv
                try simp only [does_bind]
                refine draw_machX [[], [0], [], [], [], [], [5], [4, 6, 5], [3, 7, 4, 6, 5], [], [8, 3, 7, 4, 6, 5, 9], [], [11, 7, 4, 6, 5], [], [13, 12, 11, 7, 4, 6, 5], [2, 10, 8, 3, 9, 14, 13, 12, 11, 7, 4, 6, 5], [15, 2, 10, 8, 3, 9, 14, 13, 12, 11, 7, 4, 6, 5], [1, 0, 16, 15, 2, 10, 8, 3, 9, 14, 13, 12, 11, 7, 4, 6, 5], [17, 1, 0, 16, 15, 2, 10, 8, 3, 9, 14, 13, 12, 11, 7, 4, 6, 5], [18, 17, 1, 0, 16, 15, 2, 10, 8, 3, 9, 14, 13, 12, 11, 7, 4, 6, 5]] [[], [], [], [], [], [], [], [[0]], [], [], [], [], [[0]], [], [[0]], [], [], [], [], [[2]]] (by kernel_rfl) rfl rfl ?_
                simp -implicitDefEqProofs only [go_sem, hget_redoH, lkn, lk11, lk31, Option.getD_some, Option.getD_none, a0, a3, a4, hT, q2, gv, p1, p2, p3, hw5, hw6, hn0, bs34, hap0, sameW_self]
                refine ⟨_, _, ⟨a, b2, r1, r2⟩, rfl, hP, by simp -implicitDefEqProofs only [go_sem, hT], by simp -implicitDefEqProofs only [go_sem, a0], by simp -implicitDefEqProofs only [go_sem, a2], by simp -implicitDefEqProofs only [go_sem, a3], by simp -implicitDefEqProofs only [go_sem, a4], by simp -implicitDefEqProofs only [go_sem, a9], by simp only [isD_redo0, isD_redo1, isD_redo3], ?_, ?_, ?_⟩
                all_goals clear hw5 hw6
                · simp (disch := omega) only [hget_redoH, lkn, lk11, lk31, Option.getD_none, q1]
                · simp (disch := omega) only [hget_redoH, lk_same, Option.getD_some] <;> rfl
                · simp (disch := omega) only [hget_redoH, lk_same, lk13, Option.getD_some] <;> rfl
              | cons b0 ps =>
                obtain ⟨hcb, r0⟩ := qb (by simp)
                have hapN := fun (n : Nat) (p : Nm) (H : Heap) (hg : hget H [cb, 17, 0] = some (.tok (b0 :: ps).length 6)) => hap ((b0 :: ps).map pipV) n [cb, 17, 0] p H (by rw [List.length_map]; omega) (fun _ => by rw [List.length_map]; exact hg)
                have hrel : ∀ e : Pip, ((b0 :: ps) ++ [e]).map pipV = (b0 :: ps).map pipV ++ [pipV e] := fun e => by rw [List.map_append]; rfl
                have hrl : ∀ e : Pip, ((b0 :: ps) ++ [e]).length = (b0 :: ps).length + 1 := fun e => by simp
                have n1 : (b0 :: ps).map pipV ≠ [] := by simp
                have hlm : ((b0 :: ps).map pipV).length = (b0 :: ps).length := List.length_map ..
                simp only [hrel, hrl]
                generalize (b0 :: ps).map pipV = R at *
                generalize (b0 :: ps).length = ln at *
                have o1 : ∀ b, ownV b R = .own b R := fun b => by cases R with | nil => exact absurd rfl n1 | cons a r => rfl
                have o3 : ∀ b j, tokJ R b j = (b, none) :: j := fun b j => by cases R with | nil => exact absurd rfl n1 | cons a r => rfl
                have o5 : ∀ b H, dropTok R b H = hdel H b := fun b H => by cases R with | nil => exact absurd rfl n1 | cons a r => rfl
                simp only [o1, o3, o5, ownV_snoc, hlm] at hapN q2 gv
                simp only [ownV_snoc]
                have ip2 : isPre [m + 3, 17] [cb, 17, 0] = false := Go.Am.isPre_ne _ _ (by omega)
                try simp only [does_bind]
                refine draw_machX [[], [0], [], [], [], [], [5], [4, 6, 5], [3, 7, 4, 6, 5], [], [8, 3, 7, 4, 6, 5, 9], [], [11, 7, 4, 6, 5], [], [13, 12, 11, 7, 4, 6, 5], [2, 10, 8, 3, 9, 14, 13, 12, 11, 7, 4, 6, 5], [15, 2, 10, 8, 3, 9, 14, 13, 12, 11, 7, 4, 6, 5], [1, 0, 16, 15, 2, 10, 8, 3, 9, 14, 13, 12, 11, 7, 4, 6, 5], [17, 1, 0, 16, 15, 2, 10, 8, 3, 9, 14, 13, 12, 11, 7, 4, 6, 5], [18, 17, 1, 0, 16, 15, 2, 10, 8, 3, 9, 14, 13, 12, 11, 7, 4, 6, 5]] [[], [], [], [], [], [], [], [[0]], [], [], [], [], [[0]], [], [[0]], [], [], [[cb, 17, 0]], [], [[2]]] (by kernel_rfl) rfl rfl ?_
                simp -implicitDefEqProofs only [go_sem, hget_redoH, lkn, lk11, lk13, lk31, Option.getD_some, Option.getD_none, a0, a3, a4, hT, q2, gv, r0, p1, p2, p3, hw5, hw6, hn0, bs34, hapN, ip2, sameW_self]
                refine ⟨_, _, ⟨a, b2, r1, r2⟩, rfl, hP, by simp -implicitDefEqProofs only [go_sem, hT], by simp -implicitDefEqProofs only [go_sem, a0], by simp -implicitDefEqProofs only [go_sem, a2], by simp -implicitDefEqProofs only [go_sem, a3], by simp -implicitDefEqProofs only [go_sem, a4], by simp -implicitDefEqProofs only [go_sem, a9], by simp only [isD_redo0, isD_redo1, isD_redo3], ?_, ?_, ?_⟩
                all_goals clear hw5 hw6
                · simp (disch := omega) only [hget_redoH, lkn, lk11, lk31, Option.getD_none, q1]
                · simp (disch := omega) only [hget_redoH, lk_same, Option.getD_some] <;> rfl
                · simp (disch := omega) only [hget_redoH, lk_same, lk13, Option.getD_some] <;> rfl
            clear hw5 hw6 p1 p2 p3 a0 a2 a3 a4 a9 hT T d1 q1 q2 qb H1
            rintro _ ⟨T, H, e, rfl, he, hT, a0, a2, a3, a4, a9, d1, q1, q2, qb⟩
            have hps2 : ∀ x ∈ ps ++ [e], PipG vs.length x := by
              intro x hx
              rcases List.mem_append.1 hx with hx | hx
              · exact hps x hx
              · rw [List.mem_singleton] at hx; rw [hx]; exact he
            have hpl2 : (ps ++ [e]).length + (k - 1) ≤ 4 := by rw [List.length_append, List.length_singleton]; omega
            have hlt : m + 3 < (m + 1) + 3 := by omega
            have e2 : wrapF .i64 ((k : Int) - 1) = ((k - 1 : Nat) : Int) := by rw [wrap_i64 (by omega) (by omega)]; omega
            simp -implicitDefEqProofs only [go_sem, a0, a2, a3, a4, a9, hT, e2]
            clear e2
            exact ⟨k - 1, hl1, trivial, trivial, trivial, trivial, trivial, rfl, m + 1, m + 3, _, ps ++ [e], rfl, d1, q1, q2, fun _ => ⟨hlt, qb⟩, hpl2, hps2⟩
          · simp -implicitDefEqProofs only [go_sem, hT, hlo, hn]
            exact ⟨_, m, H, ps, _, rfl, by simp -implicitDefEqProofs only [go_sem, hT], by simp -implicitDefEqProofs only [go_sem, a0], by simp -implicitDefEqProofs only [go_sem, a2], by simp -implicitDefEqProofs only [go_sem, a3], by simp -implicitDefEqProofs only [go_sem, a4], hd, g1, g2, shut_ownV _ _, by omega, hps⟩
        · simp -implicitDefEqProofs only [go_sem, hT, hlo]
          exact ⟨_, m, H, ps, _, rfl, by simp -implicitDefEqProofs only [go_sem, hT], by simp -implicitDefEqProofs only [go_sem, a0], by simp -implicitDefEqProofs only [go_sem, a2], by simp -implicitDefEqProofs only [go_sem, a3], by simp -implicitDefEqProofs only [go_sem, a4], hd, g1, g2, shut_ownV _ _, by omega, hps⟩
      clear a0 a2 a3 a4 a5 hT T hd g1 g2 H hct
      rintro _ ⟨T, m, H, ps, A1, rfl, hT, a0, a2, a3, a4, hd, g1, g2, hA1, hpsl, hps⟩
      have ut1 := fun m jr j => upto_d (H := H) (m := m) (u := u) (p := []) (jr := jr) (j := j) 3 (K + 7) hd (by decide)
      have hct := upto_range (dW H) 3 (by decide)
      generalize uptoN (dW H) 3 = ct0 at *
      generalize nextW (dW H) = w1 at *
      obtain ⟨ct, rfl⟩ : ∃ q : Nat, ct0 = q := ⟨ct0.toNat, by omega⟩
      simp -implicitDefEqProofs only [go_sem, a0, hT, ut1]
      clear ut1
      simp only [does_bind]
      refine Tr.Does.mono (Q := fun x => ∃ (T' : List AV) (m : Nat) (H : Heap) (ms : List Pmp) (A2 : AV), x = ((AExit.exit 6, T'), (⟨H, m + 3, [], false, []⟩ : St)) ∧ T'.length = 144 ∧ nth T' 0 = some (.ptr [0] 0) ∧ nth T' 2 = some (.ptr [1] 0) ∧ nth T' 3 = some (.ptr [2] 0) ∧ nth T' 4 = some (.int .i64 vs.length) ∧ isD u H ∧ hget H [1] = some (.cells nil5 true 0) ∧ hget H [2] = some (.cells [A0, A1, A2, .nils, .nils] true 0) ∧ A2.shut = .lst (ms.map pmpV) ∧ ms.length ≤ 2 ∧ ∀ x ∈ ms, PmpG vs.length x) ?_ ?_
      · refine xl_does (fun k T s' => T.length = 144 ∧ nth T 0 = some (.ptr [0] 0) ∧ nth T 2 = some (.ptr [1] 0) ∧ nth T 3 = some (.ptr [2] 0) ∧ nth T 4 = some (.int .i64 vs.length) ∧ nth T 11 = some (.int .i64 k) ∧ ∃ (m cb : Nat) (H : Heap) (ms : List Pmp), s' = ⟨H, m + 3, [], false, []⟩ ∧ isD u H ∧ hget H [1] = some (.cells nil5 true 0) ∧ hget H [2] = some (.cells [A0, A1, ownV [cb, 9, 0] (ms.map pmpV), .nils, .nils] true 0) ∧ (ms ≠ [] → cb < m + 3 ∧ hget H [cb, 9, 0] = some (.tok ms.length 3)) ∧ ms.length + k ≤ 2 ∧ ∀ x ∈ ms, PmpG vs.length x) (k := ct) (by omega) ?_ ?_
        · exact ⟨by simp -implicitDefEqProofs only [go_sem, hT], by simp -implicitDefEqProofs only [go_sem, a0], by simp -implicitDefEqProofs only [go_sem, a2], by simp -implicitDefEqProofs only [go_sem, a3], by simp -implicitDefEqProofs only [go_sem, a4], by simp -implicitDefEqProofs only [go_sem, hT], m, 0, _, [], rfl, isD_set0 hd, by rw [hs11 (by decide)]; exact g1, by rw [hs11 (by decide)]; exact g2, fun h => absurd rfl h, by show 0 + ct ≤ 2; omega, fun _ h => by cases h⟩
        clear a0 a2 a3 a4 hT T hd g1 g2 H hct m
        rintro k T s' ⟨hT, a0, a2, a3, a4, a9, m, cb, H1, ms, rfl, d1, q1, q2, qb, hpl, hps⟩
        simp -implicitDefEqProofs only [go_sem, a9, hT]
        by_cases hlo : (0 : Int) < (k : Int)
        · have hl1 : k - 1 < k := by omega
          have p1 := fun m p => upto_d (H := H1) (m := m) (u := u) (p := p) (jr := true) (j := []) vs.length (K + 7) d1 (by omega)
          have har := upto_range (dW H1) vs.length (by omega)
          generalize uptoN (dW H1) vs.length = a at *
          generalize nextW (dW H1) = w2 at *
          have p2 := fun m p => part_d (H := redoH H1 [([0], some (.cells [.int .u64 w2] true u))]) (m := m) (u := u) (p := p) (jr := true) (j := []) 200000 (K + 4) (by decide) (by decide) (isD_redo0 (u := u) (d := []) ▸ trivial)
          rw [dW_redo0] at p2
          have hr1 := rangeG w2 200000 (by decide)
          generalize rangeR w2 0 200000 = r1 at *
          generalize nextW (nextW w2) = w3 at *
          have hP : PmpG vs.length ⟨a, r1⟩ := ⟨har, hr1⟩
          simp -implicitDefEqProofs only [go_sem, hlo]
          simp only [does_bind]
          refine Tr.Does.mono (Q := fun x => ∃ (T' : List AV) (H2 : Heap) (e : Pmp), x = (T', (⟨H2, m + 4, [], false, []⟩ : St)) ∧ PmpG vs.length e ∧ T'.length = 144 ∧ nth T' 0 = some (.ptr [0] 0) ∧ nth T' 2 = some (.ptr [1] 0) ∧ nth T' 3 = some (.ptr [2] 0) ∧ nth T' 4 = some (.int .i64 vs.length) ∧ nth T' 11 = some (.int .i64 k) ∧
            isD u H2 ∧ hget H2 [1] = some (.cells nil5 true 0) ∧ hget H2 [2] = some (.cells [A0, A1, ownV [m + 3, 9, 0] ((ms ++ [e]).map pmpV), .nils, .nils] true 0) ∧ hget H2 [m + 3, 9, 0] = some (.tok (ms ++ [e]).length 3)) ?_ ?_
          · have hap := fun (l : List AV) (n : Nat) (b p : Nm) (H : Heap) (hr : (l.length + 1) * 24 ≤ 140737488355328) (hg : l ≠ [] → hget H b = some (.tok l.length 3)) => append_abs (C := cfg.at 23) (sT := 35) (b := b) (l := l) (x := .agg [.int .i64 a, .int .i64 r1.lo, .int .i64 r1.hi]) (H := H) (n := n) (p := p) (jr := true) (j := []) (z := 3) desc35 tget128 rfl rfl rfl rfl rfl rfl hr hg
            have gv : hget (hdel (hdel H1 [0]) [0]) [2] = some (.cells [A0, A1, ownV [cb, 9, 0] (ms.map pmpV), .nils, .nils] true 0) := by
              rw [hd11 (by decide), hd11 (by decide)]; exact q2
            cases ms with
            | nil =>
              have hap0 := fun (n : Nat) (p : Nm) (H : Heap) => hap [] n [] p H (by simp) (fun h => absurd rfl h)
              simp only [ownV, dropTok, tokJ, List.nil_append, List.length_nil, List.map_nil] at hap0 q2 gv
              try simp only [does_bind]
              refine draw_machX [[], [0], [], [], [2, 3], [], [5, 4, 2, 3], [6, 5, 4, 2, 3], [7, 6, 5, 4, 2, 3], [1, 0, 8, 7, 6, 5, 4, 2, 3], [9, 1, 0, 8, 7, 6, 5, 4, 2, 3], [10, 9, 1, 0, 8, 7, 6, 5, 4, 2, 3]] [[], [], [], [], [[0]], [], [[0]], [], [], [], [], [[2]]] (by kernel_rfl) rfl rfl ?_
              simp -implicitDefEqProofs only [go_sem, hget_redoH, lkn, lk11, lk31, Option.getD_some, Option.getD_none, a0, a3, a4, hT, q2, gv, p1, p2, bs35, hap0, sameW_self]
              refine ⟨_, _, ⟨a, r1⟩, rfl, hP, by simp -implicitDefEqProofs only [go_sem, hT], by simp -implicitDefEqProofs only [go_sem, a0], by simp -implicitDefEqProofs only [go_sem, a2], by simp -implicitDefEqProofs only [go_sem, a3], by simp -implicitDefEqProofs only [go_sem, a4], by simp -implicitDefEqProofs only [go_sem, a9], by simp only [isD_redo0, isD_redo1, isD_redo3], ?_, ?_, ?_⟩
              · simp (disch := omega) only [hget_redoH, lkn, lk11, lk31, Option.getD_none, q1]
              · simp (disch := omega) only [hget_redoH, lk_same, Option.getD_some] <;> rfl
              · simp (disch := omega) only [hget_redoH, lk_same, lk13, Option.getD_some] <;> rfl
            | cons b0 ms =>
              obtain ⟨hcb, r0⟩ := qb (by simp)
              have hapN := fun (n : Nat) (p : Nm) (H : Heap) (hg : hget H [cb, 9, 0] = some (.tok (b0 :: ms).length 3)) => hap ((b0 :: ms).map pmpV) n [cb, 9, 0] p H (by rw [List.length_map]; omega) (fun _ => by rw [List.length_map]; exact hg)
              have hrel : ∀ e : Pmp, ((b0 :: ms) ++ [e]).map pmpV = (b0 :: ms).map pmpV ++ [pmpV e] := fun e => by rw [List.map_append]; rfl
              have hrl : ∀ e : Pmp, ((b0 :: ms) ++ [e]).length = (b0 :: ms).length + 1 := fun e => by simp
              have n1 : (b0 :: ms).map pmpV ≠ [] := by simp
              have hlm : ((b0 :: ms).map pmpV).length = (b0 :: ms).length := List.length_map ..
              simp only [hrel, hrl]
              generalize (b0 :: ms).map pmpV = R at *
              generalize (b0 :: ms).length = ln at *
              have o1 : ∀ b, ownV b R = .own b R := fun b => by cases R with | nil => exact absurd rfl n1 | cons a r => rfl
              have o3 : ∀ b j, tokJ R b j = (b, none) :: j := fun b j => by cases R with | nil => exact absurd rfl n1 | cons a r => rfl
              have o5 : ∀ b H, dropTok R b H = hdel H b := fun b H => by cases R with | nil => exact absurd rfl n1 | cons a r => rfl
              simp only [o1, o3, o5, ownV_snoc, hlm] at hapN q2 gv
              simp only [ownV_snoc]
              have ip2 : isPre [m + 3, 9] [cb, 9, 0] = false := Go.Am.isPre_ne _ _ (by omega)
              try simp only [does_bind]
              refine draw_machX [[], [0], [], [], [2, 3], [], [5, 4, 2, 3], [6, 5, 4, 2, 3], [7, 6, 5, 4, 2, 3], [1, 0, 8, 7, 6, 5, 4, 2, 3], [9, 1, 0, 8, 7, 6, 5, 4, 2, 3], [10, 9, 1, 0, 8, 7, 6, 5, 4, 2, 3]] [[], [], [], [], [[0]], [], [[0]], [], [], [[cb, 9, 0]], [], [[2]]] (by kernel_rfl) rfl rfl ?_
              simp -implicitDefEqProofs only [go_sem, hget_redoH, lkn, lk11, lk13, lk31, Option.getD_some, Option.getD_none, a0, a3, a4, hT, q2, gv, p1, p2, bs35, r0, hapN, ip2, sameW_self]
              refine ⟨_, _, ⟨a, r1⟩, rfl, hP, by simp -implicitDefEqProofs only [go_sem, hT], by simp -implicitDefEqProofs only [go_sem, a0], by simp -implicitDefEqProofs only [go_sem, a2], by simp -implicitDefEqProofs only [go_sem, a3], by simp -implicitDefEqProofs only [go_sem, a4], by simp -implicitDefEqProofs only [go_sem, a9], by simp only [isD_redo0, isD_redo1, isD_redo3], ?_, ?_, ?_⟩
              · simp (disch := omega) only [hget_redoH, lkn, lk11, lk31, Option.getD_none, q1]
              · simp (disch := omega) only [hget_redoH, lk_same, Option.getD_some] <;> rfl
              · simp (disch := omega) only [hget_redoH, lk_same, lk13, Option.getD_some] <;> rfl
          clear p1 p2 a0 a2 a3 a4 a9 hT T d1 q1 q2 qb H1
          rintro _ ⟨T, H, e, rfl, he, hT, a0, a2, a3, a4, a9, d1, q1, q2, qb⟩
          have hps2 : ∀ x ∈ ms ++ [e], PmpG vs.length x := by
            intro x hx
            rcases List.mem_append.1 hx with hx | hx
            · exact hps x hx
            · rw [List.mem_singleton] at hx; rw [hx]; exact he
          have hpl2 : (ms ++ [e]).length + (k - 1) ≤ 2 := by rw [List.length_append, List.length_singleton]; omega
          have hlt : m + 3 < (m + 1) + 3 := by omega
          have e2 : wrapF .i64 ((k : Int) - 1) = ((k - 1 : Nat) : Int) := by rw [wrap_i64 (by omega) (by omega)]; omega
          simp -implicitDefEqProofs only [go_sem, a0, a2, a3, a4, a9, hT, e2]
          clear e2
          exact ⟨k - 1, hl1, trivial, trivial, trivial, trivial, trivial, rfl, m + 1, m + 3, _, ms ++ [e], rfl, d1, q1, q2, fun _ => ⟨hlt, qb⟩, hpl2, hps2⟩
        · simp -implicitDefEqProofs only [go_sem, hlo]
          exact ⟨_, m, H1, ms, _, rfl, by simp -implicitDefEqProofs only [go_sem, hT], by simp -implicitDefEqProofs only [go_sem, a0], by simp -implicitDefEqProofs only [go_sem, a2], by simp -implicitDefEqProofs only [go_sem, a3], by simp -implicitDefEqProofs only [go_sem, a4], d1, q1, q2, shut_ownV _ _, by omega, hps⟩
      clear a0 a2 a3 a4 hT T hd g1 g2 H hct m
      rintro _ ⟨T, m, H, ms, A2, rfl, hT, a0, a2, a3, a4, hd, g1, g2, hA2, hmsl, hms⟩
      have ut1 := fun m jr j => upto_d (H := H) (m := m) (u := u) (p := []) (jr := jr) (j := j) 3 (K + 7) hd (by decide)
      have hct := upto_range (dW H) 3 (by decide)
      generalize uptoN (dW H) 3 = ct0 at *
      generalize nextW (dW H) = w1 at *
      obtain ⟨ct, rfl⟩ : ∃ q : Nat, ct0 = q := ⟨ct0.toNat, by omega⟩
      simp -implicitDefEqProofs only [go_sem, a0, hT, ut1]
      clear ut1
      simp only [does_bind]
      refine Tr.Does.mono (Q := fun x => ∃ (T' : List AV) (m : Nat) (H : Heap) (ls : List Inl) (A3 : AV), x = ((AExit.exit 8, T'), (⟨H, m + 3, [], false, []⟩ : St)) ∧ T'.length = 144 ∧ nth T' 0 = some (.ptr [0] 0) ∧ nth T' 2 = some (.ptr [1] 0) ∧ nth T' 3 = some (.ptr [2] 0) ∧ nth T' 4 = some (.int .i64 vs.length) ∧ isD u H ∧ hget H [1] = some (.cells nil5 true 0) ∧ hget H [2] = some (.cells [A0, A1, A2, A3, .nils] true 0) ∧ A3.shut = .lst (ls.map inlV) ∧ ls.length ≤ 2 ∧ ∀ x ∈ ls, InlG vs.length x) ?_ ?_
      · refine xl_does (fun k T s' => T.length = 144 ∧ nth T 0 = some (.ptr [0] 0) ∧ nth T 2 = some (.ptr [1] 0) ∧ nth T 3 = some (.ptr [2] 0) ∧ nth T 4 = some (.int .i64 vs.length) ∧ nth T 12 = some (.int .i64 k) ∧ ∃ (m cb : Nat) (H : Heap) (ls : List Inl), s' = ⟨H, m + 3, [], false, []⟩ ∧ isD u H ∧ hget H [1] = some (.cells nil5 true 0) ∧ hget H [2] = some (.cells [A0, A1, A2, ownV [cb, 9, 0] (ls.map inlV), .nils] true 0) ∧ (ls ≠ [] → cb < m + 3 ∧ hget H [cb, 9, 0] = some (.tok ls.length 3)) ∧ ls.length + k ≤ 2 ∧ ∀ x ∈ ls, InlG vs.length x) (k := ct) (by omega) ?_ ?_
        · exact ⟨by simp -implicitDefEqProofs only [go_sem, hT], by simp -implicitDefEqProofs only [go_sem, a0], by simp -implicitDefEqProofs only [go_sem, a2], by simp -implicitDefEqProofs only [go_sem, a3], by simp -implicitDefEqProofs only [go_sem, a4], by simp -implicitDefEqProofs only [go_sem, hT], m, 0, _, [], rfl, isD_set0 hd, by rw [hs11 (by decide)]; exact g1, by rw [hs11 (by decide)]; exact g2, fun h => absurd rfl h, by show 0 + ct ≤ 2; omega, fun _ h => by cases h⟩
        clear a0 a2 a3 a4 hT T hd g1 g2 H hct m
        rintro k T s' ⟨hT, a0, a2, a3, a4, a9, m, cb, H1, ls, rfl, d1, q1, q2, qb, hpl, hps⟩
        simp -implicitDefEqProofs only [go_sem, a9, hT]
        by_cases hlo : (0 : Int) < (k : Int)
        · have hl1 : k - 1 < k := by omega
          have p1 := fun m p => upto_d (H := H1) (m := m) (u := u) (p := p) (jr := true) (j := []) vs.length (K + 7) d1 (by omega)
          have har := upto_range (dW H1) vs.length (by omega)
          generalize uptoN (dW H1) vs.length = a at *
          generalize nextW (dW H1) = w2 at *
          have p2 := fun m p => range_d (H := redoH H1 [([0], some (.cells [.int .u64 w2] true u))]) (m := m) (u := u) (p := p) (jr := true) (j := []) 0 30 (K + 5) (by decide) (by decide) (by decide) (isD_redo0 (u := u) (d := []) ▸ trivial)
          rw [dW_redo0] at p2
          have hr1 := rangeG w2 30 (by decide)
          generalize rangeR w2 0 30 = r1 at *
          generalize nextW (nextW w2) = w3 at *
          have hP : InlG vs.length ⟨a, r1⟩ := ⟨har, hr1⟩
          simp -implicitDefEqProofs only [go_sem, hlo]
          simp only [does_bind]
          refine Tr.Does.mono (Q := fun x => ∃ (T' : List AV) (H2 : Heap) (e : Inl), x = (T', (⟨H2, m + 4, [], false, []⟩ : St)) ∧ InlG vs.length e ∧ T'.length = 144 ∧ nth T' 0 = some (.ptr [0] 0) ∧ nth T' 2 = some (.ptr [1] 0) ∧ nth T' 3 = some (.ptr [2] 0) ∧ nth T' 4 = some (.int .i64 vs.length) ∧ nth T' 12 = some (.int .i64 k) ∧
            isD u H2 ∧ hget H2 [1] = some (.cells nil5 true 0) ∧ hget H2 [2] = some (.cells [A0, A1, A2, ownV [m + 3, 9, 0] ((ls ++ [e]).map inlV), .nils] true 0) ∧ hget H2 [m + 3, 9, 0] = some (.tok (ls ++ [e]).length 3)) ?_ ?_
          · have hap := fun (l : List AV) (n : Nat) (b p : Nm) (H : Heap) (hr : (l.length + 1) * 24 ≤ 140737488355328) (hg : l ≠ [] → hget H b = some (.tok l.length 3)) => append_abs (C := cfg.at 23) (sT := 36) (b := b) (l := l) (x := .agg [.int .i64 a, .int .i64 r1.lo, .int .i64 r1.hi]) (H := H) (n := n) (p := p) (jr := true) (j := []) (z := 3) desc36 tget61 rfl rfl rfl rfl rfl rfl hr hg
            have gv : hget (hdel (hdel H1 [0]) [0]) [2] = some (.cells [A0, A1, A2, ownV [cb, 9, 0] (ls.map inlV), .nils] true 0) := by
              rw [hd11 (by decide), hd11 (by decide)]; exact q2
            cases ls with
            | nil =>
              have hap0 := fun (n : Nat) (p : Nm) (H : Heap) => hap [] n [] p H (by simp) (fun h => absurd rfl h)
              simp only [ownV, dropTok, tokJ, List.nil_append, List.length_nil, List.map_nil] at hap0 q2 gv
              try simp only [does_bind]
              refine draw_machX [[], [0], [], [], [2, 3], [], [5, 4, 2, 3], [6, 5, 4, 2, 3], [7, 6, 5, 4, 2, 3], [1, 0, 8, 7, 6, 5, 4, 2, 3], [9, 1, 0, 8, 7, 6, 5, 4, 2, 3], [10, 9, 1, 0, 8, 7, 6, 5, 4, 2, 3]] [[], [], [], [], [[0]], [], [[0]], [], [], [], [], [[2]]] (by kernel_rfl) rfl rfl ?_
              simp -implicitDefEqProofs only [go_sem, hget_redoH, lkn, lk11, lk31, Option.getD_some, Option.getD_none, a0, a3, a4, hT, q2, gv, p1, p2, bs36, hap0, sameW_self]
              refine ⟨_, _, ⟨a, r1⟩, rfl, hP, by simp -implicitDefEqProofs only [go_sem, hT], by simp -implicitDefEqProofs only [go_sem, a0], by simp -implicitDefEqProofs only [go_sem, a2], by simp -implicitDefEqProofs only [go_sem, a3], by simp -implicitDefEqProofs only [go_sem, a4], by simp -implicitDefEqProofs only [go_sem, a9], by simp only [isD_redo0, isD_redo1, isD_redo3], ?_, ?_, ?_⟩
              · simp (disch := omega) only [hget_redoH, lkn, lk11, lk31, Option.getD_none, q1]
              · simp (disch := omega) only [hget_redoH, lk_same, Option.getD_some] <;> rfl
              · simp (disch := omega) only [hget_redoH, lk_same, lk13, Option.getD_some] <;> rfl
            | cons b0 ls =>
              obtain ⟨hcb, r0⟩ := qb (by simp)
              have hapN := fun (n : Nat) (p : Nm) (H : Heap) (hg : hget H [cb, 9, 0] = some (.tok (b0 :: ls).length 3)) => hap ((b0 :: ls).map inlV) n [cb, 9, 0] p H (by rw [List.length_map]; omega) (fun _ => by rw [List.length_map]; exact hg)
              have hrel : ∀ e : Inl, ((b0 :: ls) ++ [e]).map inlV = (b0 :: ls).map inlV ++ [inlV e] := fun e => by rw [List.map_append]; rfl
              have hrl : ∀ e : Inl, ((b0 :: ls) ++ [e]).length = (b0 :: ls).length + 1 := fun e => by simp
              have n1 : (b0 :: ls).map inlV ≠ [] := by simp
              have hlm : ((b0 :: ls).map inlV).length = (b0 :: ls).length := List.length_map ..
              simp only [hrel, hrl]
              generalize (b0 :: ls).map inlV = R at *
              generalize (b0 :: ls).length = ln at *
              have o1 : ∀ b, ownV b R = .own b R := fun b => by cases R with | nil => exact absurd rfl n1 | cons a r => rfl
              have o3 : ∀ b j, tokJ R b j = (b, none) :: j := fun b j => by cases R with | nil => exact absurd rfl n1 | cons a r => rfl
              have o5 : ∀ b H, dropTok R b H = hdel H b := fun b H => by cases R with | nil => exact absurd rfl n1 | cons a r => rfl
              simp only [o1, o3, o5, ownV_snoc, hlm] at hapN q2 gv
              simp only [ownV_snoc]
              have ip2 : isPre [m + 3, 9] [cb, 9, 0] = false := Go.Am.isPre_ne _ _ (by omega)
              try simp only [does_bind]
              refine draw_machX [[], [0], [], [], [2, 3], [], [5, 4, 2, 3], [6, 5, 4, 2, 3], [7, 6, 5, 4, 2, 3], [1, 0, 8, 7, 6, 5, 4, 2, 3], [9, 1, 0, 8, 7, 6, 5, 4, 2, 3], [10, 9, 1, 0, 8, 7, 6, 5, 4, 2, 3]] [[], [], [], [], [[0]], [], [[0]], [], [], [[cb, 9, 0]], [], [[2]]] (by kernel_rfl) rfl rfl ?_
              simp -implicitDefEqProofs only [go_sem, hget_redoH, lkn, lk11, lk13, lk31, Option.getD_some, Option.getD_none, a0, a3, a4, hT, q2, gv, p1, p2, bs36, r0, hapN, ip2, sameW_self]
              refine ⟨_, _, ⟨a, r1⟩, rfl, hP, by simp -implicitDefEqProofs only [go_sem, hT], by simp -implicitDefEqProofs only [go_sem, a0], by simp -implicitDefEqProofs only [go_sem, a2], by simp -implicitDefEqProofs only [go_sem, a3], by simp -implicitDefEqProofs only [go_sem, a4], by simp -implicitDefEqProofs only [go_sem, a9], by simp only [isD_redo0, isD_redo1, isD_redo3], ?_, ?_, ?_⟩
              · simp (disch := omega) only [hget_redoH, lkn, lk11, lk31, Option.getD_none, q1]
              · simp (disch := omega) only [hget_redoH, lk_same, Option.getD_some] <;> rfl
              · simp (disch := omega) only [hget_redoH, lk_same, lk13, Option.getD_some] <;> rfl
          clear p1 p2 a0 a2 a3 a4 a9 hT T d1 q1 q2 qb H1
          rintro _ ⟨T, H, e, rfl, he, hT, a0, a2, a3, a4, a9, d1, q1, q2, qb⟩
          have hps2 : ∀ x ∈ ls ++ [e], InlG vs.length x := by
            intro x hx
            rcases List.mem_append.1 hx with hx | hx
            · exact hps x hx
            · rw [List.mem_singleton] at hx; rw [hx]; exact he
          have hpl2 : (ls ++ [e]).length + (k - 1) ≤ 2 := by rw [List.length_append, List.length_singleton]; omega
          have hlt : m + 3 < (m + 1) + 3 := by omega
          have e2 : wrapF .i64 ((k : Int) - 1) = ((k - 1 : Nat) : Int) := by rw [wrap_i64 (by omega) (by omega)]; omega
          simp -implicitDefEqProofs only [go_sem, a0, a2, a3, a4, a9, hT, e2]
          clear e2
          exact ⟨k - 1, hl1, trivial, trivial, trivial, trivial, trivial, rfl, m + 1, m + 3, _, ls ++ [e], rfl, d1, q1, q2, fun _ => ⟨hlt, qb⟩, hpl2, hps2⟩
        · simp -implicitDefEqProofs only [go_sem, hlo]
          exact ⟨_, m, H1, ls, _, rfl, by simp -implicitDefEqProofs only [go_sem, hT], by simp -implicitDefEqProofs only [go_sem, a0], by simp -implicitDefEqProofs only [go_sem, a2], by simp -implicitDefEqProofs only [go_sem, a3], by simp -implicitDefEqProofs only [go_sem, a4], d1, q1, q2, shut_ownV _ _, by omega, hps⟩
      clear a0 a2 a3 a4 hT T hd g1 g2 H hct m
      rintro _ ⟨T, m, H, ls, A3, rfl, hT, a0, a2, a3, a4, hd, g1, g2, hA3, hlsl, hls⟩
      have ut1 := fun m jr j => upto_d (H := H) (m := m) (u := u) (p := []) (jr := jr) (j := j) 3 (K + 7) hd (by decide)
      have hct := upto_range (dW H) 3 (by decide)
      generalize uptoN (dW H) 3 = ct0 at *
      generalize nextW (dW H) = w1 at *
      obtain ⟨ct, rfl⟩ : ∃ q : Nat, ct0 = q := ⟨ct0.toNat, by omega⟩
      simp -implicitDefEqProofs only [go_sem, a0, hT, ut1]
      clear ut1
      simp only [does_bind]
      refine Tr.Does.mono (Q := fun x => ∃ (T' : List AV) (m : Nat) (H : Heap) (qs : List Gtr) (A4 : AV), x = ((AExit.exit 10, T'), (⟨H, m + 3, [], false, []⟩ : St)) ∧ T'.length = 144 ∧ nth T' 0 = some (.ptr [0] 0) ∧ nth T' 2 = some (.ptr [1] 0) ∧ nth T' 3 = some (.ptr [2] 0) ∧ nth T' 4 = some (.int .i64 vs.length) ∧ isD u H ∧ hget H [1] = some (.cells nil5 true 0) ∧ hget H [2] = some (.cells [A0, A1, A2, A3, A4] true 0) ∧ A4.shut = .lst (qs.map gtrV) ∧ qs.length ≤ 2 ∧ ∀ x ∈ qs, GtrG vs.length x) ?_ ?_
      · refine xl_does (fun k T s' => T.length = 144 ∧ nth T 0 = some (.ptr [0] 0) ∧ nth T 2 = some (.ptr [1] 0) ∧ nth T 3 = some (.ptr [2] 0) ∧ nth T 4 = some (.int .i64 vs.length) ∧ nth T 13 = some (.int .i64 k) ∧ ∃ (m cb : Nat) (H : Heap) (qs : List Gtr), s' = ⟨H, m + 3, [], false, []⟩ ∧ isD u H ∧ hget H [1] = some (.cells nil5 true 0) ∧ hget H [2] = some (.cells [A0, A1, A2, A3, ownV [cb, 11, 0] (qs.map gtrV)] true 0) ∧ (qs ≠ [] → cb < m + 3 ∧ hget H [cb, 11, 0] = some (.tok qs.length 5)) ∧ qs.length + k ≤ 2 ∧ ∀ x ∈ qs, GtrG vs.length x) (k := ct) (by omega) ?_ ?_
        · exact ⟨by simp -implicitDefEqProofs only [go_sem, hT], by simp -implicitDefEqProofs only [go_sem, a0], by simp -implicitDefEqProofs only [go_sem, a2], by simp -implicitDefEqProofs only [go_sem, a3], by simp -implicitDefEqProofs only [go_sem, a4], by simp -implicitDefEqProofs only [go_sem, hT], m, 0, _, [], rfl, isD_set0 hd, by rw [hs11 (by decide)]; exact g1, by rw [hs11 (by decide)]; exact g2, fun h => absurd rfl h, by show 0 + ct ≤ 2; omega, fun _ h => by cases h⟩
        clear a0 a2 a3 a4 hT T hd g1 g2 H hct m
        rintro k T s' ⟨hT, a0, a2, a3, a4, a9, m, cb, H1, qs, rfl, d1, q1, q2, qb, hpl, hps⟩
        simp -implicitDefEqProofs only [go_sem, a9, hT]
        by_cases hlo : (0 : Int) < (k : Int)
        · have hl1 : k - 1 < k := by omega
          have p1 := fun m p => upto_d (H := H1) (m := m) (u := u) (p := p) (jr := true) (j := []) vs.length (K + 7) d1 (by omega)
          have har := upto_range (dW H1) vs.length (by omega)
          generalize uptoN (dW H1) vs.length = a at *
          generalize nextW (dW H1) = w2 at *
          have p2 := fun m p => part_d (H := redoH H1 [([0], some (.cells [.int .u64 w2] true u))]) (m := m) (u := u) (p := p) (jr := true) (j := []) 300000 (K + 4) (by decide) (by decide) (isD_redo0 (u := u) (d := []) ▸ trivial)
          rw [dW_redo0] at p2
          have hr1 := rangeG w2 300000 (by decide)
          generalize rangeR w2 0 300000 = r1 at *
          generalize nextW (nextW w2) = w3 at *
          have p3 := fun m p => range_d (H := redoH (redoH H1 [([0], some (.cells [.int .u64 w2] true u))]) [([0], some (.cells [.int .u64 w3] true u))]) (m := m) (u := u) (p := p) (jr := true) (j := []) 0 9000 (K + 5) (by decide) (by decide) (by decide) (isD_redo0 (u := u) (d := []) ▸ trivial)
          rw [dW_redo0] at p3
          have hr2 := rangeG w3 9000 (by decide)
          generalize rangeR w3 0 9000 = r2 at *
          generalize nextW (nextW w3) = w4 at *
          have hP : GtrG vs.length ⟨a, r1, r2⟩ := ⟨har, hr1, hr2⟩
          simp -implicitDefEqProofs only [go_sem, hlo]
          simp only [does_bind]
          refine Tr.Does.mono (Q := fun x => ∃ (T' : List AV) (H2 : Heap) (e : Gtr), x = (T', (⟨H2, m + 4, [], false, []⟩ : St)) ∧ GtrG vs.length e ∧ T'.length = 144 ∧ nth T' 0 = some (.ptr [0] 0) ∧ nth T' 2 = some (.ptr [1] 0) ∧ nth T' 3 = some (.ptr [2] 0) ∧ nth T' 4 = some (.int .i64 vs.length) ∧ nth T' 13 = some (.int .i64 k) ∧
            isD u H2 ∧ hget H2 [1] = some (.cells nil5 true 0) ∧ hget H2 [2] = some (.cells [A0, A1, A2, A3, ownV [m + 3, 11, 0] ((qs ++ [e]).map gtrV)] true 0) ∧ hget H2 [m + 3, 11, 0] = some (.tok (qs ++ [e]).length 5)) ?_ ?_
          · have hap := fun (l : List AV) (n : Nat) (b p : Nm) (H : Heap) (hr : (l.length + 1) * 40 ≤ 140737488355328) (hg : l ≠ [] → hget H b = some (.tok l.length 5)) => append_abs (C := cfg.at 23) (sT := 37) (b := b) (l := l) (x := .agg [.int .i64 a, .int .i64 r1.lo, .int .i64 r1.hi, .int .i64 r2.lo, .int .i64 r2.hi]) (H := H) (n := n) (p := p) (jr := true) (j := []) (z := 5) desc37 tget142 rfl rfl rfl rfl rfl rfl hr hg
            have gv : hget (hdel (hdel (hdel H1 [0]) [0]) [0]) [2] = some (.cells [A0, A1, A2, A3, ownV [cb, 11, 0] (qs.map gtrV)] true 0) := by
              rw [hd11 (by decide), hd11 (by decide), hd11 (by decide)]; exact q2
            cases qs with
            | nil =>
              have hap0 := fun (n : Nat) (p : Nm) (H : Heap) => hap [] n [] p H (by simp) (fun h => absurd rfl h)
              simp only [ownV, dropTok, tokJ, List.nil_append, List.length_nil, List.map_nil] at hap0 q2 gv
              try simp only [does_bind]
              refine draw_machX [[], [0], [], [], [2, 3], [], [5, 4, 2, 3], [], [7, 6, 5, 4, 2, 3], [8, 7, 6, 5, 4, 2, 3], [9, 8, 7, 6, 5, 4, 2, 3], [1, 0, 10, 9, 8, 7, 6, 5, 4, 2, 3], [11, 1, 0, 10, 9, 8, 7, 6, 5, 4, 2, 3], [12, 11, 1, 0, 10, 9, 8, 7, 6, 5, 4, 2, 3]] [[], [], [], [], [[0]], [], [[0]], [], [[0]], [], [], [], [], [[2]]] (by kernel_rfl) rfl rfl ?_
              simp -implicitDefEqProofs only [go_sem, hget_redoH, lkn, lk11, lk31, Option.getD_some, Option.getD_none, a0, a3, a4, hT, q2, gv, p1, p2, p3, bs37, hap0, sameW_self]
              refine ⟨_, _, ⟨a, r1, r2⟩, rfl, hP, by simp -implicitDefEqProofs only [go_sem, hT], by simp -implicitDefEqProofs only [go_sem, a0], by simp -implicitDefEqProofs only [go_sem, a2], by simp -implicitDefEqProofs only [go_sem, a3], by simp -implicitDefEqProofs only [go_sem, a4], by simp -implicitDefEqProofs only [go_sem, a9], by simp only [isD_redo0, isD_redo1, isD_redo3], ?_, ?_, ?_⟩
              · simp (disch := omega) only [hget_redoH, lkn, lk11, lk31, Option.getD_none, q1]
              · simp (disch := omega) only [hget_redoH, lk_same, Option.getD_some] <;> rfl
              · simp (disch := omega) only [hget_redoH, lk_same, lk13, Option.getD_some] <;> rfl
            | cons b0 qs =>
              obtain ⟨hcb, r0⟩ := qb (by simp)
              have hapN := fun (n : Nat) (p : Nm) (H : Heap) (hg : hget H [cb, 11, 0] = some (.tok (b0 :: qs).length 5)) => hap ((b0 :: qs).map gtrV) n [cb, 11, 0] p H (by rw [List.length_map]; omega) (fun _ => by rw [List.length_map]; exact hg)
              have hrel : ∀ e : Gtr, ((b0 :: qs) ++ [e]).map gtrV = (b0 :: qs).map gtrV ++ [gtrV e] := fun e => by rw [List.map_append]; rfl
              have hrl : ∀ e : Gtr, ((b0 :: qs) ++ [e]).length = (b0 :: qs).length + 1 := fun e => by simp
              have n1 : (b0 :: qs).map gtrV ≠ [] := by simp
              have hlm : ((b0 :: qs).map gtrV).length = (b0 :: qs).length := List.length_map ..
              simp only [hrel, hrl]
              generalize (b0 :: qs).map gtrV = R at *
              generalize (b0 :: qs).length = ln at *
              have o1 : ∀ b, ownV b R = .own b R := fun b => by cases R with | nil => exact absurd rfl n1 | cons a r => rfl
              have o3 : ∀ b j, tokJ R b j = (b, none) :: j := fun b j => by cases R with | nil => exact absurd rfl n1 | cons a r => rfl
              have o5 : ∀ b H, dropTok R b H = hdel H b := fun b H => by cases R with | nil => exact absurd rfl n1 | cons a r => rfl
              simp only [o1, o3, o5, ownV_snoc, hlm] at hapN q2 gv
              simp only [ownV_snoc]
              have ip2 : isPre [m + 3, 11] [cb, 11, 0] = false := Go.Am.isPre_ne _ _ (by omega)
              try simp only [does_bind]
              refine draw_machX [[], [0], [], [], [2, 3], [], [5, 4, 2, 3], [], [7, 6, 5, 4, 2, 3], [8, 7, 6, 5, 4, 2, 3], [9, 8, 7, 6, 5, 4, 2, 3], [1, 0, 10, 9, 8, 7, 6, 5, 4, 2, 3], [11, 1, 0, 10, 9, 8, 7, 6, 5, 4, 2, 3], [12, 11, 1, 0, 10, 9, 8, 7, 6, 5, 4, 2, 3]] [[], [], [], [], [[0]], [], [[0]], [], [[0]], [], [], [[cb, 11, 0]], [], [[2]]] (by kernel_rfl) rfl rfl ?_
              simp -implicitDefEqProofs only [go_sem, hget_redoH, lkn, lk11, lk13, lk31, Option.getD_some, Option.getD_none, a0, a3, a4, hT, q2, gv, p1, p2, p3, bs37, r0, hapN, ip2, sameW_self]
              refine ⟨_, _, ⟨a, r1, r2⟩, rfl, hP, by simp -implicitDefEqProofs only [go_sem, hT], by simp -implicitDefEqProofs only [go_sem, a0], by simp -implicitDefEqProofs only [go_sem, a2], by simp -implicitDefEqProofs only [go_sem, a3], by simp -implicitDefEqProofs only [go_sem, a4], by simp -implicitDefEqProofs only [go_sem, a9], by simp only [isD_redo0, isD_redo1, isD_redo3], ?_, ?_, ?_⟩
              · simp (disch := omega) only [hget_redoH, lkn, lk11, lk31, Option.getD_none, q1]
              · simp (disch := omega) only [hget_redoH, lk_same, Option.getD_some] <;> rfl
              · simp (disch := omega) only [hget_redoH, lk_same, lk13, Option.getD_some] <;> rfl
          clear p1 p2 p3 a0 a2 a3 a4 a9 hT T d1 q1 q2 qb H1
          rintro _ ⟨T, H, e, rfl, he, hT, a0, a2, a3, a4, a9, d1, q1, q2, qb⟩
          have hps2 : ∀ x ∈ qs ++ [e], GtrG vs.length x := by
            intro x hx
            rcases List.mem_append.1 hx with hx | hx
            · exact hps x hx
            · rw [List.mem_singleton] at hx; rw [hx]; exact he
          have hpl2 : (qs ++ [e]).length + (k - 1) ≤ 2 := by rw [List.length_append, List.length_singleton]; omega
          have hlt : m + 3 < (m + 1) + 3 := by omega
          have e2 : wrapF .i64 ((k : Int) - 1) = ((k - 1 : Nat) : Int) := by rw [wrap_i64 (by omega) (by omega)]; omega
          simp -implicitDefEqProofs only [go_sem, a0, a2, a3, a4, a9, hT, e2]
          clear e2
          exact ⟨k - 1, hl1, trivial, trivial, trivial, trivial, trivial, rfl, m + 1, m + 3, _, qs ++ [e], rfl, d1, q1, q2, fun _ => ⟨hlt, qb⟩, hpl2, hps2⟩
        · simp -implicitDefEqProofs only [go_sem, hlo]
          exact ⟨_, m, H1, qs, _, rfl, by simp -implicitDefEqProofs only [go_sem, hT], by simp -implicitDefEqProofs only [go_sem, a0], by simp -implicitDefEqProofs only [go_sem, a2], by simp -implicitDefEqProofs only [go_sem, a3], by simp -implicitDefEqProofs only [go_sem, a4], d1, q1, q2, shut_ownV _ _, by omega, hps⟩
      clear a0 a2 a3 a4 hT T hd g1 g2 H hct m
      rintro _ ⟨T, m, H, qs, A4, rfl, hT, a0, a2, a3, a4, hd, g1, g2, hA4, hqsl, hqs⟩
      have e1 : ∀ Z, hget (hset H [1] Z) [1] = some Z := fun Z => hss g1
      have e0 : ∀ Z, hget (hset H [1] Z) [0] = hget H [0] := fun Z => hs11 (by decide)
      have hz : (AV.agg [A0, A1, A2, A3, A4]).shut = vacV ⟨vs, ps, ms, ls, qs⟩ := by
        simp only [AV.shut, shuts, hA0, hA1, hA2, hA3, hA4, vacV]
      simp only [nil5] at g1
      simp -implicitDefEqProofs only [go_sem, a2, a3, hT, g1, g2, e1, e0, Try.results23]
      exact ⟨⟨vs, ps, ms, ls, qs⟩, dW H, ⟨by show 1 ≤ vs.length; omega, by show vs.length ≤ 4; omega, hvs, hpsl, hps, hmsl, hms, hlsl, hls, hqsl, hqs⟩, hz, isD_get hd⟩
  obtain ⟨v, w', hg, hd⟩ := key
  refine ⟨v, w', hg, ?_⟩
  exact call4_shut (v := vacV v) mget23 fget23 hb rfl rfl rfl rfl rfl rfl (by rfl) (by simp only [vacV, renV, renVs, fl_ves, fl_pip, fl_pmp, fl_inl, fl_gtr]) hd
end Go.Proofs.Ytgnpnfkncbnjnaa
