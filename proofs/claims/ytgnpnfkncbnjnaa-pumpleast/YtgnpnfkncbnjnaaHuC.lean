/- Hunts made of numbers. -/
import Derived.Test.YtgnpnfkncbnjnaaAmD
import Derived.Test.YtgnpnfkncbnjnaaHuB
set_option linter.unusedSimpArgs false
set_option linter.unusedVariables false
set_option maxRecDepth 100000
namespace Go.Am
open Go
section
variable {C : Cfg} {K : Nat}
/-- With one block that has no references; its result is known by what it is when shut. -/
theorem call4_shut {f : FuncId} {fn : Func} {b : Nm} {o u : Nat} {rest cs cs' : List AV} {s : St} {v : AV} (hm : C.mode.get f = some 4) (hf : C.fn.get f = some fn) (hb : hget s.H b = some (.cells cs true u)) (hn : namesVs false rest [] = []) (hr : renVs [(b, [0])] rest = some rest)
    (hc : namesVs false cs [] = []) (hcr : renVs [(b, [0])] cs = some cs) (hc' : namesVs true cs' [] = []) (hcr' : renVs [([0], b)] cs' = some cs') (hv : namesV true v [] = []) (hvr : renV [([0], b)] v = some v)
    (hd : (bodyA (C.at f) (acall C K) (around C K) (K + 1) fn (.ptr [0] o :: rest) ⟨[([0], .cells cs true u)], 1, [], false, []⟩).Does fun x => x.1.shut = v ∧ hget x.2.H [0] = some (.cells cs' true u)) :
    acall C (K + 1) f (.ptr b o :: rest) s = .ret (v, s.put b (.cells cs' true u)) := by
  rw [acall_succ]
  unfold enterA
  rw [hf]; simp only
  rw [hm]; simp only
  obtain ⟨⟨v1, s1⟩, e1, e2v, e2⟩ := hd
  simp only at e2 e2v
  unfold handA
  have hl : lendM 200 (namesVs false (.ptr b o :: rest) []) [] [] s = .ret (([b], [.cells cs true u]), s) := by
    show lendM 200 (b :: namesVs false rest []) [] [] s = _
    rw [hn]
    show (getM b).bind (fun x => lendM 199 (namesB false x []) ([] ++ [b]) ([] ++ [x])) s = _
    rw [bind_app, getM_app, hb]
    show lendM 199 (namesVs false cs []) _ _ s = _
    rw [hc]; rfl
  rw [bind_app, hl]
  have hnd : nodupN [b] = true := rfl
  have hz : zipN [b] (namesFrom [] 0 [b].length) = [(b, [0])] := rfl
  have hra : renVs [(b, [0])] (.ptr b o :: rest) = some (.ptr [0] o :: rest) := by simp only [renVs, renV, lookN, eqb_self, hr]
  have hrb : renBs [(b, [0])] [.cells cs true u] = some [.cells cs true u] := by simp only [renBs, renB, hcr]
  have hcalm : calm [.cells cs true u] = true := rfl
  simp only [Tr.bind_ret, hnd, hz, hra, hrb, hcalm]
  have hst : (⟨zipB (namesFrom [] 0 [b].length) [.cells cs true u], [b].length, [], false, []⟩ : St) = ⟨[([0], .cells cs true u)], 1, [], false, []⟩ := rfl
  rw [hst, e1]
  have ho : oneR true (.ret (v1, s1)) = some (v, s1.H) := by rw [← e2v]; rfl
  have hy : getAll s1.H (namesFrom [] 0 [b].length) = some [.cells cs' true u] := by
    show getAll s1.H [[0]] = _
    simp only [getAll, e2]
  rw [ho]; simp only
  rw [hy]; simp only
  have hb' : namesBs true [.cells cs' true u] [] = [] := by show namesVs true cs' [] = []; exact hc'
  rw [hb', hv]
  have hre : reachL s1.H 200 [] (namesFrom [] 0 [b].length) [] = some ([[0]], []) := rfl
  rw [hre]; simp only
  have hn0 : nodupN [[0]] = true := rfl
  rw [hn0]; simp only
  have hz2 : zipN [[0]] ([b] ++ namesFrom s.pre s.n ([] : List Blk).length) = [([0], b)] := rfl
  rw [bind_app]
  show (Tr.ret ((s.pre, s.n), s)).bind _ = _
  rw [Tr.bind_ret]
  rw [hz2]
  have hrb' : renB [([0], b)] (.cells cs' true u) = some (.cells cs' true u) := by simp only [renB, hcr']
  simp only [hvr, hrb', renBs, putAll, newAll, bind_app, putM_app, hb, Tr.bind_ret, ret_app]
end
end Go.Am
namespace Go.Proofs.Ytgnpnfkncbnjnaa
open Go Go.Am
attribute [local congr] tr_congr does_congr all_congr
/-! ### Hunts made of numbers -/
theorem desc22' : cfg.desc 22 = some (.slice 3) := desc22
theorem desc75 : cfg.desc 75 = some (.slice 84) := by kernel_rfl
/-- Rising, from 0 to below k. -/
def Rising (k : Int) : List Int → Prop
  | [] => True
  | n :: l => 0 ≤ n ∧ n < k ∧ (∀ m ∈ l, n < m) ∧ Rising k l
theorem rising_mono {k k' : Int} (h : k ≤ k') : ∀ {l : List Int}, Rising k l → Rising k' l
  | [], _ => trivial
  | n :: l, hr => ⟨hr.1, by have := hr.2.1; omega, hr.2.2.1, rising_mono h hr.2.2.2⟩
theorem rising_snoc {k : Int} (hk : 0 ≤ k) : ∀ {l : List Int}, Rising k l → Rising (k + 1) (l ++ [k])
  | [], _ => ⟨hk, by omega, by simp, trivial⟩
  | n :: l, h => ⟨h.1, by have := h.2.1; omega, fun m hm => by
      rcases List.mem_append.1 hm with hm | hm
      · exact h.2.2.1 m hm
      · simp at hm; have := h.2.1; omega, rising_snoc hk h.2.2.2⟩
theorem rising_susp {k : Int} : ∀ (l : List Int) (last : Int), Rising k l → (∀ n ∈ l, last < n) → suspE k last l = 0
  | [], _, _, _ => rfl
  | n :: l, last, h, hl => by
    have h1 : fromB n 0 (k - 1) = true := by
      unfold fromB; exact decide_eq_true ⟨h.1, by have := h.2.1; omega⟩
    have h2 : ¬ n ≤ last := by have := hl n List.mem_cons_self; omega
    simp only [suspE]
    rw [if_pos h1, if_neg h2]
    exact rising_susp l n h.2.2.2 h.2.2.1
def TriG (s : Int) (t : Tri) : Prop := Rising s t.of ∧ t.of.length ≤ 12 ∧ 0 ≤ t.cost ∧ t.cost ≤ 8
def HntG (s t : Int) (h : Hnt) : Prop := 1 ≤ h.suspects ∧ h.suspects ≤ s ∧ (h.trials.length : Int) ≤ t ∧ ∀ x ∈ h.trials, TriG h.suspects x
theorem hntG_ok {s t : Int} {h : Hnt} (hs : s ≤ 12) (ht : t ≤ 12) (hg : HntG s t h) : huntE h = 0 := by
  obtain ⟨h1, h2, h3, h4⟩ := hg
  unfold huntE
  rw [if_pos (by unfold fromB; exact decide_eq_true ⟨h1, by omega⟩), if_neg (by omega)]
  generalize h.trials = l at *
  induction l with
  | nil => rfl
  | cons a l ih =>
    obtain ⟨g1, g2, g3, g4⟩ := h4 a List.mem_cons_self
    have hr : suspE h.suspects (-1) a.of = 0 := rising_susp a.of (-1) g1 fun n hn => by
      have : ∀ (l : List Int), Rising h.suspects l → ∀ n ∈ l, 0 ≤ n := by
        intro l
        induction l with
        | nil => intro _ n hn; cases hn
        | cons b l ih2 =>
          intro hb n hn
          rcases List.mem_cons.1 hn with rfl | hn
          · exact hb.1
          · exact ih2 hb.2.2.2 n hn
      have := this a.of g1 n hn
      omega
    simp only [trialsE]
    rw [if_pos hr, if_pos (by unfold fromB; exact decide_eq_true ⟨g3, by omega⟩)]
    exact ih (by simp at h3 ⊢; omega) fun x hx => h4 x (List.mem_cons_of_mem _ hx)
theorem hntG_Ok {s t : Int} {h : Hnt} (ht : t ≤ 12) (hg : HntG s t h) (K : Nat) (hK : 13 < K) : h.Ok K := by
  obtain ⟨h1, h2, h3, h4⟩ := hg
  exact ⟨by omega, fun x hx => by have := (h4 x hx).2.1; constructor <;> omega⟩
theorem huntOf_call (w s t : Int) (b : Nm) (u : Nat) (K : Nat) (st : St) (hb : hget st.H b = some (.cells [.int .u64 w] true u)) (hs1 : 1 ≤ s) (hs2 : s ≤ 12) (ht1 : 0 ≤ t) (ht2 : t ≤ 12) (hK : 100 < K) :
    ∃ h w', HntG s t h ∧ acall cfg (K + 10) 40 [.ptr b 0, .int .i64 s, .int .i64 t] st = .ret (hntV h, st.put b (.cells [.int .u64 w'] true u)) := by
  have key : ∃ h w', HntG s t h ∧ (bodyA (cfg.at 40) (acall cfg (K + 9)) (around cfg (K + 9)) (K + 9 + 1) Try.f40 [.ptr [0] 0, .int .i64 s, .int .i64 t] ⟨[([0], .cells [.int .u64 w] true u)], 1, [], false, []⟩).Does fun x => x.1.shut = hntV h ∧ hget x.2.H [0] = some (.cells [.int .u64 w'] true u) := by
    suffices hd : (bodyA (cfg.at 40) (acall cfg (K + 9)) (around cfg (K + 9)) (K + 9 + 1) Try.f40 [.ptr [0] 0, .int .i64 s, .int .i64 t] ⟨[([0], .cells [.int .u64 w] true u)], 1, [], false, []⟩).Does fun x => ∃ h w', HntG s t h ∧ x.1.shut = hntV h ∧ hget x.2.H [0] = some (.cells [.int .u64 w'] true u) by
      obtain ⟨x, e, h, w', hg, h1, h2⟩ := hd
      exact ⟨h, w', hg, x, e, h1, h2⟩
    refine body_does rfl fun T hT' hA => ?_
    have a0 := hA 0 _ rfl
    have a1 := hA 1 _ rfl
    have a2 := hA 2 _ rfl
    have hT : T.length = 50 := hT'
    clear hA hT'
    have hbt := fun (st : St) (w : Int) (hb : hget st.H [0] = some (.cells [.int .u64 w] true u)) => between_call w 1 s [0] u (K + 6) st hb (by omega) hs1 (by omega)
    have hr := between_range w 1 s hs1
    have hut := fun (st : St) (w : Int) (hb : hget st.H [0] = some (.cells [.int .u64 w] true u)) => upto_call w (t + 1) [0] u (K + 7) st hb (by omega)
    have hur := upto_range (nextW w) (t + 1) (by omega)
    have hw1 : wrapF .i64 (t + 1) = t + 1 := wrap_i64 (by omega) (by omega)
    have e1 := hbt ⟨[([1], .cells [.int .i64 0, .nils] true 0), ([0], .cells [.int .u64 w] true u)], 2, [], false, []⟩ w rfl
    simp -implicitDefEqProofs only [redoH, redo1, go_sem, Int.reduceEq, Int.reduceNeg, Nat.reduceEqDiff, Nat.reduceLT, Nat.reduceAdd, Nat.reduceSub, Nat.reduceMul, Int.reduceLE, Int.reduceLT, Int.reduceToNat, Int.toNat_natCast, Nat.reduceLeDiff, Bool.not_true, Bool.not_false, a0, a1, a2, hT, e1]
    have e2 := hut ⟨[([2], .cells [.int .i64 (betweenN w 1 s), .nils] true 0), ([1], .cells [.int .i64 0, .nils] true 0), ([0], .cells [.int .u64 (nextW w)] true u)], 3, [], false, []⟩ (nextW w) rfl
    simp -implicitDefEqProofs only [redoH, redo1, go_sem, Int.reduceEq, Int.reduceNeg, Nat.reduceEqDiff, Nat.reduceLT, Nat.reduceAdd, Nat.reduceSub, Nat.reduceMul, Int.reduceLE, Int.reduceLT, Int.reduceToNat, Int.toNat_natCast, Nat.reduceLeDiff, Bool.not_true, Bool.not_false, a0, a1, a2, hT, e1, e2, hw1]
    clear e1 e2 hw1 hbt hut
    generalize betweenN w 1 s = S at *
    generalize uptoN (nextW w) (t + 1) = N0 at *
    generalize nextW (nextW w) = w2
    obtain ⟨N, rfl⟩ : ∃ N : Nat, N0 = N := ⟨N0.toNat, by omega⟩
    simp only [does_bind]
    refine xl_does (fun k T s' => T.length = 50 ∧ nth T 0 = some (.ptr [0] 0) ∧ nth T 6 = some (.ptr [1] 0) ∧ nth T 7 = some (.ptr [2] 0) ∧ ∃ (i n to : Nat) (w : Int) (H : Heap) (TR : List Tri), nth T 8 = some (.int .i64 i) ∧ k = i ∧ s' = ⟨H, n + 3, [], false, []⟩ ∧ hget H [0] = some (.cells [.int .u64 w] true u) ∧ hget H [1] = some (.cells [.int .i64 0, .nils] true 0) ∧
      hget H [2] = some (.cells [.int .i64 S, ownV [to + 3] (TR.map triV)] true 0) ∧ (TR.map triV ≠ [] → to < n ∧ hget H [to + 3] = some (.tok TR.length 2)) ∧ TR.length + i = N ∧ ∀ x ∈ TR, TriG S x) (k := N) (by omega) ?_ ?_
    · exact ⟨by simp -implicitDefEqProofs only [redoH, redo1, go_sem, Int.reduceEq, Int.reduceNeg, Nat.reduceEqDiff, Nat.reduceLT, Nat.reduceAdd, Nat.reduceSub, Nat.reduceMul, Int.reduceLE, Int.reduceLT, Int.reduceToNat, Int.toNat_natCast, Nat.reduceLeDiff, Bool.not_true, Bool.not_false, hT], by simp -implicitDefEqProofs only [redoH, redo1, go_sem, Int.reduceEq, Int.reduceNeg, Nat.reduceEqDiff, Nat.reduceLT, Nat.reduceAdd, Nat.reduceSub, Nat.reduceMul, Int.reduceLE, Int.reduceLT, Int.reduceToNat, Int.toNat_natCast, Nat.reduceLeDiff, Bool.not_true, Bool.not_false, a0], by simp -implicitDefEqProofs only [redoH, redo1, go_sem, Int.reduceEq, Int.reduceNeg, Nat.reduceEqDiff, Nat.reduceLT, Nat.reduceAdd, Nat.reduceSub, Nat.reduceMul, Int.reduceLE, Int.reduceLT, Int.reduceToNat, Int.toNat_natCast, Nat.reduceLeDiff, Bool.not_true, Bool.not_false, hT], by simp -implicitDefEqProofs only [redoH, redo1, go_sem, Int.reduceEq, Int.reduceNeg, Nat.reduceEqDiff, Nat.reduceLT, Nat.reduceAdd, Nat.reduceSub, Nat.reduceMul, Int.reduceLE, Int.reduceLT, Int.reduceToNat, Int.toNat_natCast, Nat.reduceLeDiff, Bool.not_true, Bool.not_false, hT], N, 0, 0, w2, _, [], by simp -implicitDefEqProofs only [redoH, redo1, go_sem, Int.reduceEq, Int.reduceNeg, Nat.reduceEqDiff, Nat.reduceLT, Nat.reduceAdd, Nat.reduceSub, Nat.reduceMul, Int.reduceLE, Int.reduceLT, Int.reduceToNat, Int.toNat_natCast, Nat.reduceLeDiff, Bool.not_true, Bool.not_false, hT], rfl, rfl, rfl, rfl, rfl, fun hx => absurd rfl hx, by simp, by simp⟩
    clear a0 a1 a2 hT w2
    rintro k T s' ⟨hT, a0, a6, a7, i, n, to, w, H, TR, a8, rfl, rfl, g0, g1, g2, gt, hTR, hG⟩
    simp -implicitDefEqProofs only [redoH, redo1, go_sem, Int.reduceEq, Int.reduceNeg, Nat.reduceEqDiff, Nat.reduceLT, Nat.reduceAdd, Nat.reduceSub, Nat.reduceMul, Int.reduceLE, Int.reduceLT, Int.reduceToNat, Int.toNat_natCast, Nat.reduceLeDiff, Bool.not_true, Bool.not_false, a0, a6, a7, a8, hT]
    by_cases hlo : (0 : Int) < (k : Int)
    · have hut := upto_call w 9 [0] u (K + 7) ⟨H, n + 3, [], false, []⟩ g0 (by omega)
      have hur := upto_range w 9 (by omega)
      generalize uptoN w 9 = c0 at *
      have g0a := hget_hset_same (.cells [.int .u64 (nextW w)] true u) g0
      have hone := one_call (nextW w) 2 [0] u (K + 6) ⟨([n + 3], .cells [.nils, .int .i64 c0] true 0) :: hset H [0] (.cells [.int .u64 (nextW w)] true u), n + 4, [], false, []⟩ ((hget_cons_ne _ _ (nm_ne (by omega))).trans g0a) (by omega)
      obtain ⟨H1, hH1, q0, q1, q2, qt⟩ : ∃ H1, H1 = hset (hset H [0] (.cells [.int .u64 (nextW w)] true u)) [0] (.cells [.int .u64 (nextW (nextW w))] true u) ∧ hget H1 [0] = some (.cells [.int .u64 (nextW (nextW w))] true u) ∧ hget H1 [1] = some (.cells [.int .i64 0, .nils] true 0) ∧ hget H1 [2] = some (.cells [.int .i64 S, ownV [to + 3] (TR.map triV)] true 0) ∧ (TR.map triV ≠ [] → to < n ∧ hget H1 [to + 3] = some (.tok TR.length 2)) := by
        refine ⟨_, rfl, hget_hset_same _ g0a, ?_, ?_, fun hx => ⟨(gt hx).1, ?_⟩⟩
        · rw [hget_hset_ne _ _ (by decide), hget_hset_ne _ _ (by decide)]; exact g1
        · rw [hget_hset_ne _ _ (by decide), hget_hset_ne _ _ (by decide)]; exact g2
        · rw [hget_hset_ne _ _ (nm_ne (by omega)), hget_hset_ne _ _ (nm_ne (by omega))]; exact (gt hx).2
      have hone' : acall cfg (K + 6 + 3) 44 [.ptr [0] 0, .int .i64 2] ⟨([n + 3], .cells [.nils, .int .i64 c0] true 0) :: hset H [0] (.cells [.int .u64 (nextW w)] true u), n + 3 + 1, [], false, []⟩ = .ret (.bool (oneB (nextW w) 2), ⟨([n + 3], .cells [.nils, .int .i64 c0] true 0) :: H1, n + 3 + 1, [], false, []⟩) := by
        rw [hone, hH1]
        simp -implicitDefEqProofs only [redoH, redo1, go_sem, Int.reduceEq, Int.reduceNeg, Nat.reduceEqDiff, Nat.reduceLT, Nat.reduceAdd, Nat.reduceSub, Nat.reduceMul, Int.reduceLE, Int.reduceLT, Int.reduceToNat, Int.toNat_natCast, Nat.reduceLeDiff, Bool.not_true, Bool.not_false]
      clear hone hH1 g0a
      simp -implicitDefEqProofs only [redoH, redo1, go_sem, Int.reduceEq, Int.reduceNeg, Nat.reduceEqDiff, Nat.reduceLT, Nat.reduceAdd, Nat.reduceSub, Nat.reduceMul, Int.reduceLE, Int.reduceLT, Int.reduceToNat, Int.toNat_natCast, Nat.reduceLeDiff, Bool.not_true, Bool.not_false, a0, a6, a7, a8, hT, hlo, hut, hone']
      simp only [does_bind]
      refine Tr.Does.mono (Q := fun x => ∃ c T', x = ((AExit.normal, T'), (⟨([n + 3], .cells [.nils, .int .i64 c] true 0) :: H1, n + 4, [], false, []⟩ : St)) ∧ 0 ≤ c ∧ c ≤ 8 ∧ T'.length = 50 ∧ nth T' 0 = some (.ptr [0] 0) ∧ nth T' 6 = some (.ptr [1] 0) ∧ nth T' 7 = some (.ptr [2] 0) ∧ nth T' 8 = some (.int .i64 k) ∧ nth T' 9 = some (.ptr [n + 3] 0)) ?_ ?_
      · cases hob : oneB (nextW w) 2 with
        | true =>
          simp -implicitDefEqProofs only [redoH, redo1, go_sem, Int.reduceEq, Int.reduceNeg, Nat.reduceEqDiff, Nat.reduceLT, Nat.reduceAdd, Nat.reduceSub, Nat.reduceMul, Int.reduceLE, Int.reduceLT, Int.reduceToNat, Int.toNat_natCast, Nat.reduceLeDiff, Bool.not_true, Bool.not_false, a0, a6, a7, a8, hT, hob]
          exact ⟨1, _, rfl, by omega, by omega, by simp -implicitDefEqProofs only [redoH, redo1, go_sem, Int.reduceEq, Int.reduceNeg, Nat.reduceEqDiff, Nat.reduceLT, Nat.reduceAdd, Nat.reduceSub, Nat.reduceMul, Int.reduceLE, Int.reduceLT, Int.reduceToNat, Int.toNat_natCast, Nat.reduceLeDiff, Bool.not_true, Bool.not_false, hT], by simp -implicitDefEqProofs only [redoH, redo1, go_sem, Int.reduceEq, Int.reduceNeg, Nat.reduceEqDiff, Nat.reduceLT, Nat.reduceAdd, Nat.reduceSub, Nat.reduceMul, Int.reduceLE, Int.reduceLT, Int.reduceToNat, Int.toNat_natCast, Nat.reduceLeDiff, Bool.not_true, Bool.not_false, a0], by simp -implicitDefEqProofs only [redoH, redo1, go_sem, Int.reduceEq, Int.reduceNeg, Nat.reduceEqDiff, Nat.reduceLT, Nat.reduceAdd, Nat.reduceSub, Nat.reduceMul, Int.reduceLE, Int.reduceLT, Int.reduceToNat, Int.toNat_natCast, Nat.reduceLeDiff, Bool.not_true, Bool.not_false, a6], by simp -implicitDefEqProofs only [redoH, redo1, go_sem, Int.reduceEq, Int.reduceNeg, Nat.reduceEqDiff, Nat.reduceLT, Nat.reduceAdd, Nat.reduceSub, Nat.reduceMul, Int.reduceLE, Int.reduceLT, Int.reduceToNat, Int.toNat_natCast, Nat.reduceLeDiff, Bool.not_true, Bool.not_false, a7], by simp -implicitDefEqProofs only [redoH, redo1, go_sem, Int.reduceEq, Int.reduceNeg, Nat.reduceEqDiff, Nat.reduceLT, Nat.reduceAdd, Nat.reduceSub, Nat.reduceMul, Int.reduceLE, Int.reduceLT, Int.reduceToNat, Int.toNat_natCast, Nat.reduceLeDiff, Bool.not_true, Bool.not_false, a8], by simp -implicitDefEqProofs only [redoH, redo1, go_sem, Int.reduceEq, Int.reduceNeg, Nat.reduceEqDiff, Nat.reduceLT, Nat.reduceAdd, Nat.reduceSub, Nat.reduceMul, Int.reduceLE, Int.reduceLT, Int.reduceToNat, Int.toNat_natCast, Nat.reduceLeDiff, Bool.not_true, Bool.not_false, hT]⟩
        | false =>
          simp -implicitDefEqProofs only [redoH, redo1, go_sem, Int.reduceEq, Int.reduceNeg, Nat.reduceEqDiff, Nat.reduceLT, Nat.reduceAdd, Nat.reduceSub, Nat.reduceMul, Int.reduceLE, Int.reduceLT, Int.reduceToNat, Int.toNat_natCast, Nat.reduceLeDiff, Bool.not_true, Bool.not_false, a0, a6, a7, a8, hT, hob]
          exact ⟨c0, _, rfl, by omega, by omega, by simp -implicitDefEqProofs only [redoH, redo1, go_sem, Int.reduceEq, Int.reduceNeg, Nat.reduceEqDiff, Nat.reduceLT, Nat.reduceAdd, Nat.reduceSub, Nat.reduceMul, Int.reduceLE, Int.reduceLT, Int.reduceToNat, Int.toNat_natCast, Nat.reduceLeDiff, Bool.not_true, Bool.not_false, hT], by simp -implicitDefEqProofs only [redoH, redo1, go_sem, Int.reduceEq, Int.reduceNeg, Nat.reduceEqDiff, Nat.reduceLT, Nat.reduceAdd, Nat.reduceSub, Nat.reduceMul, Int.reduceLE, Int.reduceLT, Int.reduceToNat, Int.toNat_natCast, Nat.reduceLeDiff, Bool.not_true, Bool.not_false, a0], by simp -implicitDefEqProofs only [redoH, redo1, go_sem, Int.reduceEq, Int.reduceNeg, Nat.reduceEqDiff, Nat.reduceLT, Nat.reduceAdd, Nat.reduceSub, Nat.reduceMul, Int.reduceLE, Int.reduceLT, Int.reduceToNat, Int.toNat_natCast, Nat.reduceLeDiff, Bool.not_true, Bool.not_false, a6], by simp -implicitDefEqProofs only [redoH, redo1, go_sem, Int.reduceEq, Int.reduceNeg, Nat.reduceEqDiff, Nat.reduceLT, Nat.reduceAdd, Nat.reduceSub, Nat.reduceMul, Int.reduceLE, Int.reduceLT, Int.reduceToNat, Int.toNat_natCast, Nat.reduceLeDiff, Bool.not_true, Bool.not_false, a7], by simp -implicitDefEqProofs only [redoH, redo1, go_sem, Int.reduceEq, Int.reduceNeg, Nat.reduceEqDiff, Nat.reduceLT, Nat.reduceAdd, Nat.reduceSub, Nat.reduceMul, Int.reduceLE, Int.reduceLT, Int.reduceToNat, Int.toNat_natCast, Nat.reduceLeDiff, Bool.not_true, Bool.not_false, a8], by simp -implicitDefEqProofs only [redoH, redo1, go_sem, Int.reduceEq, Int.reduceNeg, Nat.reduceEqDiff, Nat.reduceLT, Nat.reduceAdd, Nat.reduceSub, Nat.reduceMul, Int.reduceLE, Int.reduceLT, Int.reduceToNat, Int.toNat_natCast, Nat.reduceLeDiff, Bool.not_true, Bool.not_false, hT]⟩
      generalize nextW (nextW w) = w1 at *
      clear a0 a6 a7 a8 hT T g0 g1 g2 gt hut hone' H
      rintro _ ⟨c, T, rfl, hc0, hc8, hT, a0, a6, a7, a8, a9⟩
      simp -implicitDefEqProofs only [redoH, redo1, go_sem, Int.reduceEq, Int.reduceNeg, Nat.reduceEqDiff, Nat.reduceLT, Nat.reduceAdd, Nat.reduceSub, Nat.reduceMul, Int.reduceLE, Int.reduceLT, Int.reduceToNat, Int.toNat_natCast, Nat.reduceLeDiff, Bool.not_true, Bool.not_false, a0, a6, a7, a8, hT, a9]
      simp only [does_bind]
      refine xl_does (fun l T s' => T.length = 50 ∧ nth T 0 = some (.ptr [0] 0) ∧ nth T 6 = some (.ptr [1] 0) ∧ nth T 7 = some (.ptr [2] 0) ∧ nth T 8 = some (.int .i64 k) ∧ nth T 9 = some (.ptr [n + 3] 0) ∧ ∃ (i m tc : Nat) (w : Int) (H : Heap) (row : List Int), nth T 10 = some (.int .i64 i) ∧ (i : Int) ≤ S ∧ l = S.toNat - i ∧ s' = ⟨H, m + n + 4, [], false, []⟩ ∧ hget H [0] = some (.cells [.int .u64 w] true u) ∧ hget H [1] = some (.cells [.int .i64 0, .nils] true 0) ∧
        hget H [2] = some (.cells [.int .i64 S, ownV [to + 3] (TR.map triV)] true 0) ∧ (TR.map triV ≠ [] → to < n ∧ hget H [to + 3] = some (.tok TR.length 2)) ∧ hget H [n + 3] = some (.cells [ownV [tc + n + 4] (row.map iV), .int .i64 c] true 0) ∧ (row.map iV ≠ [] → tc < m ∧ hget H [tc + n + 4] = some (.tok row.length 1)) ∧ Rising (i : Int) row ∧ row.length ≤ i) (k := S.toNat) (by omega) ?_ ?_
      · exact ⟨by simp -implicitDefEqProofs only [redoH, redo1, go_sem, Int.reduceEq, Int.reduceNeg, Nat.reduceEqDiff, Nat.reduceLT, Nat.reduceAdd, Nat.reduceSub, Nat.reduceMul, Int.reduceLE, Int.reduceLT, Int.reduceToNat, Int.toNat_natCast, Nat.reduceLeDiff, Bool.not_true, Bool.not_false, hT], by simp -implicitDefEqProofs only [redoH, redo1, go_sem, Int.reduceEq, Int.reduceNeg, Nat.reduceEqDiff, Nat.reduceLT, Nat.reduceAdd, Nat.reduceSub, Nat.reduceMul, Int.reduceLE, Int.reduceLT, Int.reduceToNat, Int.toNat_natCast, Nat.reduceLeDiff, Bool.not_true, Bool.not_false, a0], by simp -implicitDefEqProofs only [redoH, redo1, go_sem, Int.reduceEq, Int.reduceNeg, Nat.reduceEqDiff, Nat.reduceLT, Nat.reduceAdd, Nat.reduceSub, Nat.reduceMul, Int.reduceLE, Int.reduceLT, Int.reduceToNat, Int.toNat_natCast, Nat.reduceLeDiff, Bool.not_true, Bool.not_false, a6], by simp -implicitDefEqProofs only [redoH, redo1, go_sem, Int.reduceEq, Int.reduceNeg, Nat.reduceEqDiff, Nat.reduceLT, Nat.reduceAdd, Nat.reduceSub, Nat.reduceMul, Int.reduceLE, Int.reduceLT, Int.reduceToNat, Int.toNat_natCast, Nat.reduceLeDiff, Bool.not_true, Bool.not_false, a7], by simp -implicitDefEqProofs only [redoH, redo1, go_sem, Int.reduceEq, Int.reduceNeg, Nat.reduceEqDiff, Nat.reduceLT, Nat.reduceAdd, Nat.reduceSub, Nat.reduceMul, Int.reduceLE, Int.reduceLT, Int.reduceToNat, Int.toNat_natCast, Nat.reduceLeDiff, Bool.not_true, Bool.not_false, a8], by simp -implicitDefEqProofs only [redoH, redo1, go_sem, Int.reduceEq, Int.reduceNeg, Nat.reduceEqDiff, Nat.reduceLT, Nat.reduceAdd, Nat.reduceSub, Nat.reduceMul, Int.reduceLE, Int.reduceLT, Int.reduceToNat, Int.toNat_natCast, Nat.reduceLeDiff, Bool.not_true, Bool.not_false, a9], 0, 0, 0, w1, _, [], by simp -implicitDefEqProofs only [redoH, redo1, go_sem, Int.reduceEq, Int.reduceNeg, Nat.reduceEqDiff, Nat.reduceLT, Nat.reduceAdd, Nat.reduceSub, Nat.reduceMul, Int.reduceLE, Int.reduceLT, Int.reduceToNat, Int.toNat_natCast, Nat.reduceLeDiff, Bool.not_true, Bool.not_false, hT]; rfl, by omega, rfl, by rw [Nat.zero_add]; rfl, (hget_cons_ne _ _ (nm_ne (by omega))).trans q0, (hget_cons_ne _ _ (nm_ne (by omega))).trans q1, (hget_cons_ne _ _ (nm_ne (by omega))).trans q2, fun hx => ⟨(qt hx).1, (hget_cons_ne _ _ (nm_ne (by have := (qt hx).1; omega))).trans (qt hx).2⟩, hget_cons_same .., fun hx => absurd rfl hx, trivial, by simp⟩
      clear a0 a6 a7 a8 a9 hT T q0 q1 q2 qt H1 w1
      rintro l T s' ⟨hT, a0, a6, a7, a8, a9, i, m, tc, w1, H, row, a10, hi, rfl, rfl, q0, q1, q2, qt, qa, qr, hris, hrl⟩
      simp -implicitDefEqProofs only [redoH, redo1, go_sem, Int.reduceEq, Int.reduceNeg, Nat.reduceEqDiff, Nat.reduceLT, Nat.reduceAdd, Nat.reduceSub, Nat.reduceMul, Int.reduceLE, Int.reduceLT, Int.reduceToNat, Int.toNat_natCast, Nat.reduceLeDiff, Bool.not_true, Bool.not_false, a0, a6, a7, a8, hT, a9, a10, q2]
      by_cases hin : (i : Int) < S
      · have hiS : ((i + 1 : Nat) : Int) ≤ S := by omega
        have hrl1 : row.length ≤ i + 1 := by omega
        have hone := one_call w1 2 [0] u (K + 6) ⟨H, m + n + 4, [], false, []⟩ q0 (by omega)
        obtain ⟨H1, hH1, r0, r1, r2, rt, ra, rr⟩ : ∃ H1, H1 = hset H [0] (.cells [.int .u64 (nextW w1)] true u) ∧ hget H1 [0] = some (.cells [.int .u64 (nextW w1)] true u) ∧ hget H1 [1] = some (.cells [.int .i64 0, .nils] true 0) ∧ hget H1 [2] = some (.cells [.int .i64 S, ownV [to + 3] (TR.map triV)] true 0) ∧ (TR.map triV ≠ [] → to < n ∧ hget H1 [to + 3] = some (.tok TR.length 2)) ∧ hget H1 [n + 3] = some (.cells [ownV [tc + n + 4] (row.map iV), .int .i64 c] true 0) ∧ (row.map iV ≠ [] → tc < m ∧ hget H1 [tc + n + 4] = some (.tok row.length 1)) := by
          refine ⟨_, rfl, hget_hset_same _ q0, ?_, ?_, fun hx => ⟨(qt hx).1, ?_⟩, ?_, fun hx => ⟨(qr hx).1, ?_⟩⟩
          · rw [hget_hset_ne _ _ (by decide)]; exact q1
          · rw [hget_hset_ne _ _ (by decide)]; exact q2
          · rw [hget_hset_ne _ _ (nm_ne (by omega))]; exact (qt hx).2
          · rw [hget_hset_ne _ _ (nm_ne (by omega))]; exact qa
          · rw [hget_hset_ne _ _ (nm_ne (by omega))]; exact (qr hx).2
        have hone' : acall cfg (K + 6 + 3) 44 [.ptr [0] 0, .int .i64 2] ⟨H, m + n + 4, [], false, []⟩ = .ret (.bool (oneB w1 2), ⟨H1, m + n + 4, [], false, []⟩) := by
          rw [hone, hH1]; rfl
        clear hone hH1 q0 q1 q2 qt qa qr
        have hk1 : S.toNat - (i + 1) < S.toNat - i := by omega
        have hris2 : Rising ((i + 1 : Nat) : Int) row := rising_mono (by omega) hris
        have hris3 : Rising ((i + 1 : Nat) : Int) (row ++ [(i : Int)]) := rising_snoc (by omega) hris
        simp -implicitDefEqProofs only [redoH, redo1, go_sem, Int.reduceEq, Int.reduceNeg, Nat.reduceEqDiff, Nat.reduceLT, Nat.reduceAdd, Nat.reduceSub, Nat.reduceMul, Int.reduceLE, Int.reduceLT, Int.reduceToNat, Int.toNat_natCast, Nat.reduceLeDiff, Bool.not_true, Bool.not_false, a0, a6, a7, a8, hT, a9, a10, hin, hone']
        cases hob : oneB w1 2 with
        | true =>
          have hap := append_abs (C := cfg.at 40) (sT := 22) (b := [tc + n + 4]) (l := row.map iV) (x := iV i) (H := H1) (n := m + n + 4) (p := []) (jr := false) (j := []) (z := 1) desc22 tget3 rfl rfl rfl rfl rfl rfl (by rw [List.length_map]; show (row.length + 1) * 8 ≤ _; omega) (fun hx => by rw [List.length_map]; exact (rr hx).2)
          have hown : ∀ b, ownV b (row.map iV ++ [iV i]) = .own b (row.map iV ++ [iV i]) := fun b => by cases row.map iV <;> rfl
          have hrm : (row ++ [(i : Int)]).map iV = row.map iV ++ [iV i] := by simp
          rw [hown] at hap
          obtain ⟨H2, hH2, s0, s1, s2, st, sa⟩ : ∃ H2, H2 = dropTok (row.map iV) [tc + n + 4] H1 ∧ hget H2 [0] = some (.cells [.int .u64 (nextW w1)] true u) ∧ hget H2 [1] = some (.cells [.int .i64 0, .nils] true 0) ∧ hget H2 [2] = some (.cells [.int .i64 S, ownV [to + 3] (TR.map triV)] true 0) ∧ (TR.map triV ≠ [] → to < n ∧ hget H2 [to + 3] = some (.tok TR.length 2)) ∧ hget H2 [n + 3] = some (.cells [ownV [tc + n + 4] (row.map iV), .int .i64 c] true 0) :=
            ⟨_, rfl, (hget_dropTok _ _ (nm_ne (by omega))).trans r0, (hget_dropTok _ _ (nm_ne (by omega))).trans r1, (hget_dropTok _ _ (nm_ne (by omega))).trans r2, fun hx => ⟨(rt hx).1, (hget_dropTok _ _ (nm_ne (by have := (rt hx).1; omega))).trans (rt hx).2⟩, (hget_dropTok _ _ (nm_ne (by omega))).trans ra⟩
          rw [← hH2] at hap
          clear hH2
          have hnn : (m + n + 4 = n + 3) = False := by simp; omega
          simp only [iV] at hap
          have hw1 : wrapF .i64 ((i : Int) + 1) = ((i + 1 : Nat) : Int) := wrap_i64 (by omega) (by omega)
          simp -implicitDefEqProofs only [redoH, redo1, go_sem, Int.reduceEq, Int.reduceNeg, Nat.reduceEqDiff, Nat.reduceLT, Nat.reduceAdd, Nat.reduceSub, Nat.reduceMul, Int.reduceLE, Int.reduceLT, Int.reduceToNat, Int.toNat_natCast, Nat.reduceLeDiff, Bool.not_true, Bool.not_false, a0, a6, a7, a8, hT, a9, a10, hob, ra, hap, desc22, sa, hnn, hw1]
          clear hw1
          refine ⟨S.toNat - (i + 1), hk1, trivial, trivial, trivial, trivial, trivial, trivial, i + 1, m + 1, m, nextW w1, _, row ++ [(i : Int)], rfl, by omega, rfl, by rw [show m + 1 + n + 4 = m + n + 4 + 1 by omega], ?_, ?_, ?_, fun hx => ⟨(st hx).1, ?_⟩, ?_, fun _ => ⟨by omega, ?_⟩, hris3, by simp; omega⟩
          · exact (hget_cons_ne _ _ (nm_ne (by omega))).trans ((hget_hset_ne _ _ (nm_ne (by omega))).trans s0)
          · exact (hget_cons_ne _ _ (nm_ne (by omega))).trans ((hget_hset_ne _ _ (nm_ne (by omega))).trans s1)
          · exact (hget_cons_ne _ _ (nm_ne (by omega))).trans ((hget_hset_ne _ _ (nm_ne (by omega))).trans s2)
          · exact (hget_cons_ne _ _ (nm_ne (by have := (st hx).1; omega))).trans ((hget_hset_ne _ _ (nm_ne (by have := (st hx).1; omega))).trans (st hx).2)
          · rw [hrm, hown]
            exact (hget_cons_ne _ _ (nm_ne (by omega))).trans (hget_hset_same _ sa)
          · rw [hget_cons, if_pos rfl]
            simp
        | false =>
          have hw1 : wrapF .i64 ((i : Int) + 1) = ((i + 1 : Nat) : Int) := wrap_i64 (by omega) (by omega)
          simp -implicitDefEqProofs only [redoH, redo1, go_sem, Int.reduceEq, Int.reduceNeg, Nat.reduceEqDiff, Nat.reduceLT, Nat.reduceAdd, Nat.reduceSub, Nat.reduceMul, Int.reduceLE, Int.reduceLT, Int.reduceToNat, Int.toNat_natCast, Nat.reduceLeDiff, Bool.not_true, Bool.not_false, a0, a6, a7, a8, hT, a9, a10, hob, hw1]
          exact ⟨S.toNat - (i + 1), hk1, trivial, trivial, trivial, trivial, trivial, trivial, i + 1, m, tc, nextW w1, H1, row, rfl, hiS, rfl, rfl, r0, r1, r2, rt, ra, rr, hris2, hrl1⟩
      · have hiS : (i : Int) = S := by omega
        have hap := append_abs (C := cfg.at 40) (sT := 75) (b := [to + 3]) (l := TR.map triV) (x := .agg [.lst (row.map iV), .int .i64 c]) (H := H) (n := m + n + 4) (p := []) (jr := false) (j := []) (z := 2) desc75 tget84 rfl rfl rfl rfl rfl rfl (by rw [List.length_map]; show (TR.length + 1) * 32 ≤ _; omega) (fun hx => by rw [List.length_map]; exact (qt hx).2)
        have hown : ∀ b, ownV b (TR.map triV ++ [.agg [.lst (row.map iV), .int .i64 c]]) = .own b (TR.map triV ++ [.agg [.lst (row.map iV), .int .i64 c]]) := fun b => by cases TR.map triV <;> rfl
        have hrm : (TR ++ [(⟨row, c⟩ : Tri)]).map triV = TR.map triV ++ [.agg [.lst (row.map iV), .int .i64 c]] := by simp [triV]
        rw [hown] at hap
        obtain ⟨H2, hH2, s0, s1, s2⟩ : ∃ H2, H2 = dropTok (TR.map triV) [to + 3] H ∧ hget H2 [0] = some (.cells [.int .u64 w1] true u) ∧ hget H2 [1] = some (.cells [.int .i64 0, .nils] true 0) ∧ hget H2 [2] = some (.cells [.int .i64 S, ownV [to + 3] (TR.map triV)] true 0) :=
          ⟨_, rfl, (hget_dropTok _ _ (nm_ne (by omega))).trans q0, (hget_dropTok _ _ (nm_ne (by omega))).trans q1, (hget_dropTok _ _ (nm_ne (by omega))).trans q2⟩
        rw [← hH2] at hap
        clear hH2
        have hlt : k - 1 < k := by omega
        have hTR2 : (TR ++ [(⟨row, c⟩ : Tri)]).length + (k - 1) = N := by simp; omega
        have hG2 : ∀ x ∈ TR ++ [(⟨row, c⟩ : Tri)], TriG S x := by
          intro x hx
          rcases List.mem_append.1 hx with hx | hx
          · exact hG x hx
          · simp at hx; subst hx
            exact ⟨by rw [← hiS]; exact hris, by show row.length ≤ 12; omega, hc0, hc8⟩
        have hto : m + n + 1 < m + n + 2 := by omega
        have e1 : m + n + 2 + 3 = m + n + 4 + 1 := by omega
        have p0 := fun X Z => (hget_cons_ne (i := [m + n + 4]) (j := [0]) X (hset H2 [2] Z) (nm_ne (by omega))).trans ((hget_hset_ne H2 Z (nm_ne (by omega))).trans s0)
        have p1 := fun X Z => (hget_cons_ne (i := [m + n + 4]) (j := [1]) X (hset H2 [2] Z) (nm_ne (by omega))).trans ((hget_hset_ne H2 Z (nm_ne (by omega))).trans s1)
        have p2 := fun X Z => (hget_cons_ne (i := [m + n + 4]) (j := [2]) X (hset H2 [2] Z) (nm_ne (by omega))).trans (hget_hset_same Z s2)
        have hw1 : wrapF .i64 ((k : Int) - 1) = ((k - 1 : Nat) : Int) := by rw [wrap_i64 (by omega) (by omega)]; omega
        simp -implicitDefEqProofs only [redoH, redo1, go_sem, Int.reduceEq, Int.reduceNeg, Nat.reduceEqDiff, Nat.reduceLT, Nat.reduceAdd, Nat.reduceSub, Nat.reduceMul, Int.reduceLE, Int.reduceLT, Int.reduceToNat, Int.toNat_natCast, Nat.reduceLeDiff, Bool.not_true, Bool.not_false, a0, a6, a7, a8, hT, a9, a10, hin, q2, qa, hap, desc75, s2, hw1]
        clear hw1
        refine ⟨k - 1, hlt, trivial, trivial, trivial, trivial, k - 1, m + n + 2, m + n + 1, w1, _, TR ++ [(⟨row, c⟩ : Tri)], rfl, rfl, by rw [e1], p0 _ _, p1 _ _, ?_, fun _ => ⟨hto, ?_⟩, hTR2, hG2⟩
        · rw [hrm, hown]
          exact p2 _ _
        · rw [show m + n + 1 + 3 = m + n + 4 by omega, hget_cons, if_pos rfl]
          simp
    · have p1 := fun Z => hget_hset_same (H := H) (i := [1]) Z g1
      have p0 := fun Z => (hget_hset_ne H (i := [1]) (j := [0]) Z (by decide)).trans g0
      have hsh : ∀ b, (ownV b (TR.map triV)).shut = .lst (TR.map triV) := fun b => shut_ownV b _
      simp -implicitDefEqProofs only [redoH, redo1, go_sem, Int.reduceEq, Int.reduceNeg, Nat.reduceEqDiff, Nat.reduceLT, Nat.reduceAdd, Nat.reduceSub, Nat.reduceMul, Int.reduceLE, Int.reduceLT, Int.reduceToNat, Int.toNat_natCast, Nat.reduceLeDiff, Bool.not_true, Bool.not_false, a0, a6, a7, a8, hT, hlo, g1, g2, p1, p0, hsh, Try.results40]
      refine ⟨⟨S, TR⟩, w, ⟨hr.1, hr.2, ?_, hG⟩, rfl, rfl⟩
      simp only
      omega
  obtain ⟨h, w', hg, hd⟩ := key
  refine ⟨h, w', hg, ?_⟩
  exact call4_shut (v := hntV h) mget40 fget40 hb rfl rfl rfl rfl rfl rfl (by rfl) (by simp only [hntV, renV, renVs, fl_tri]) hd
end Go.Proofs.Ytgnpnfkncbnjnaa
