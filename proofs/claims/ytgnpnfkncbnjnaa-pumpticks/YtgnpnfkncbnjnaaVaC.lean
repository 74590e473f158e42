/- Vacuum systems: what leaves vessels, and the checks of the program. -/
import Derived.Test.YtgnpnfkncbnjnaaVaB
import Derived.Test.YtgnpnfkncbnjnaaVaA
import Derived.Test.YtgnpnfkncbnjnaaAmD
set_option linter.unusedSimpArgs false
set_option linter.unusedVariables false
set_option maxRecDepth 100000
attribute [local go_sem_proc] Int.reduceEq Int.reduceNeg Nat.reduceEqDiff Nat.reduceLT Nat.reduceAdd Nat.reduceSub Nat.reduceMul Int.reduceLE Int.reduceLT Int.reduceToNat Nat.reduceLeDiff
attribute [local go_sem] Int.toNat_natCast Bool.not_true Bool.not_false
namespace Go.Proofs.Ytgnpnfkncbnjnaa
open Go Go.Am
attribute [local congr] tr_congr does_congr all_congr
attribute [local go_sem] Go.Am.buildSliceA Go.Am.frozen Go.Am.freezeG Go.Am.freezeGs Go.Am.minmax
def getS : List (Int × Rg) → Int → Rg
  | [], _ => ⟨0, 0⟩
  | a :: r, k => if k = a.1 then a.2 else getS r k
def setS : List (Int × Rg) → Int → Rg → List (Int × Rg)
  | [], k, x => [(k, x)]
  | a :: r, k, x => if k = a.1 then (k, x) :: r else a :: setS r k x
theorem get_set (k : Int) (x : Rg) : ∀ (es : List (Int × Rg)) (q : Int), getS (setS es k x) q = if q = k then x else getS es q
  | [], q => by simp only [setS, getS]
  | a :: r, q => by
    unfold setS
    by_cases h : k = a.1
    · rw [if_pos h]
      simp only [getS]
      by_cases hq : q = k
      · rw [if_pos hq, if_pos hq]
      · rw [if_neg hq, if_neg hq, if_neg (by rw [← h]; exact hq)]
    · rw [if_neg h]
      simp only [getS]
      by_cases hq : q = a.1
      · rw [if_pos hq, if_neg (by rw [hq]; exact Ne.symm h), if_pos hq]
      · rw [if_neg hq, get_set k x r q, if_neg hq]
def encE (es : List (Int × Rg)) : List (AV × AV) := es.map fun e => (iV e.1, rgV e.2)
theorem flat_encE : ∀ es, flatE (encE es) = true
  | [] => rfl
  | a :: r => flat_encE r
theorem find_enc (k : Int) : ∀ (es : List (Int × Rg)) (i : Nat), (findA (.int .i64 k) (encE es) i = some none ∧ getS es k = ⟨0, 0⟩ ∧ ∀ x, encE (setS es k x) = encE es ++ [(iV k, rgV x)]) ∨
    ∃ j, findA (.int .i64 k) (encE es) i = some (some (i + j, rgV (getS es k))) ∧ ∀ x, encE (setS es k x) = setNth (encE es) j (iV k, rgV x)
  | [], i => .inl ⟨rfl, rfl, fun _ => rfl⟩
  | a :: r, i => by
    have he : eqSame (.int .i64 k) (iV a.1) = some (decide (k = a.1)) := rfl
    have hu : findA (.int .i64 k) (encE (a :: r)) i = (match eqSame (.int .i64 k) (iV a.1) with
      | some true => some (some (i, rgV a.2))
      | some false => findA (.int .i64 k) (encE r) (i + 1)
      | none => none) := rfl
    by_cases h : k = a.1
    · refine .inr ⟨0, ?_, fun x => ?_⟩
      · rw [hu, he, decide_eq_true h]
        simp only [getS, if_pos h, Nat.add_zero]
      · simp only [setS, if_pos h]; rfl
    · have hd : decide (k = a.1) = false := decide_eq_false h
      rcases find_enc k r (i + 1) with ⟨h1, h2, h3⟩ | ⟨j, h1, h2⟩
      · refine .inl ⟨?_, ?_, fun x => ?_⟩
        · rw [hu, he, hd]; exact h1
        · simp only [getS, if_neg h]; exact h2
        · simp only [setS, if_neg h]
          show (iV a.1, rgV a.2) :: encE (setS r k x) = _
          rw [h3]; rfl
      · refine .inr ⟨j + 1, ?_, fun x => ?_⟩
        · rw [hu, he, hd]
          simp only [getS, if_neg h]
          rw [h1, show i + 1 + j = i + (j + 1) by omega]
        · simp only [setS, if_neg h]
          show (iV a.1, rgV a.2) :: encE (setS r k x) = _
          rw [h2]; rfl
theorem desc181 : cfg.desc 181 = some (.map 3 26) := by kernel_rfl
theorem desc3' : cfg.desc 3 = some (.int .i64) := by kernel_rfl
theorem look_s {C : Cfg} (hC : C.ty = cfg.ty) {es : List (Int × Rg)} {k : Int} {b : Nm} {s : St} {fz : Bool} (hg : hget s.H b = some (.map (encE es) fz)) :
    lookupA C 181 (.map b) (.int .i64 k) false s = .ret (rgV (getS es k), s) := by
  have d1 : C.desc 181 = some (.map 3 26) := by unfold Cfg.desc; rw [hC]; exact desc181
  have d3 : C.desc 3 = some (.int .i64) := by unfold Cfg.desc; rw [hC]; exact desc3'
  unfold lookupA
  rw [d1]
  simp only [bind_app, entriesA, getM_app, hg, Tr.bind_ret, ret_app]
  rw [d3, hC, tget26]
  rcases find_enc k es 0 with ⟨h1, h2, _⟩ | ⟨j, h1, _⟩
  · simp only [h1, keyKind, decide_true]
    rw [h2]; rfl
  · simp only [h1, keyKind, decide_true]
    rfl
theorem upd_s {C : Cfg} (hC : C.ty = cfg.ty) {es : List (Int × Rg)} {k : Int} {x : Rg} {b : Nm} {s : St} (hg : hget s.H b = some (.map (encE es) false)) :
    updateA C 181 (.map b) (.int .i64 k) (rgV x) s = .ret ((), s.put b (.map (encE (setS es k x)) false)) := by
  have d1 : C.desc 181 = some (.map 3 26) := by unfold Cfg.desc; rw [hC]; exact desc181
  have d3 : C.desc 3 = some (.int .i64) := by unfold Cfg.desc; rw [hC]; exact desc3'
  unfold updateA
  rw [d1]
  simp only [bind_app, getM_app, hg, Tr.bind_ret]
  rw [d3]
  rcases find_enc k es 0 with ⟨h1, _, h2⟩ | ⟨j, h1, h2⟩
  · have ho : (rgV x).okc = true := rfl
    simp only [h1, keyKind, decide_true, ho]
    rw [putM_app, hg]
    simp only
    rw [h2]; rfl
  · have ho : (rgV x).okc = true := rfl
    simp only [h1, keyKind, decide_true, ho]
    rw [putM_app, hg]
    simp only
    rw [h2, Nat.zero_add]; rfl
def leaveP (shut : List Int) : Nat → List (Int × Rg) → List Pip → List (Int × Rg)
  | _, es, [] => es
  | i, es, p :: r => if (i : Int) ∈ shut then leaveP shut (i + 1) es r else
    leaveP shut (i + 1) (setS (setS es p.a (plusR (getS es p.a) p.out)) p.b (plusR (getS (setS es p.a (plusR (getS es p.a) p.out)) p.b) p.back)) r
def leaveM : List (Int × Rg) → List Pmp → List (Int × Rg)
  | es, [] => es
  | es, q :: r => leaveM (setS es q.at' (plusR (getS es q.at') q.part)) r
def leaveL (v : Vac) (shut : List Int) : List (Int × Rg) := leaveM (leaveP shut 0 [] v.pipes) v.pumps
theorem leaveP_get (shut : List Int) (x : Int) : ∀ (l : List Pip) (i : Nat) (es : List (Int × Rg)), getS (leaveP shut i es l) x = outP x shut i (getS es x) l
  | [], _, _ => rfl
  | p :: r, i, es => by
    simp only [leaveP, outP]
    split
    · exact leaveP_get shut x r _ _
    · rw [leaveP_get shut x r _ _]
      congr 1
      rw [get_set]
      by_cases h1 : x = p.b
      · subst h1
        rw [if_pos rfl, if_pos rfl, get_set]
        by_cases h2 : p.b = p.a
        · rw [if_pos h2, if_pos h2.symm, ← h2]
        · rw [if_neg h2, if_neg (Ne.symm h2)]
      · rw [if_neg h1, if_neg (fun h => h1 h.symm), get_set]
        by_cases h2 : x = p.a
        · subst h2
          simp
        · rw [if_neg h2, if_neg (fun h => h2 h.symm)]
theorem leaveM_get (x : Int) : ∀ (l : List Pmp) (es : List (Int × Rg)), getS (leaveM es l) x = outM x (getS es x) l
  | [], _ => rfl
  | q :: r, es => by
    simp only [leaveM, outM]
    rw [leaveM_get x r, get_set]
    by_cases h : q.at' = x
    · rw [if_pos h.symm, if_pos h, h]
    · rw [if_neg (Ne.symm h), if_neg h]
theorem leave_get (v : Vac) (shut : List Int) (x : Int) : getS (leaveL v shut) x = outR v x shut := by
  unfold leaveL outR
  rw [leaveM_get, leaveP_get shut x v.pipes 0 []]; rfl
end Go.Proofs.Ytgnpnfkncbnjnaa
namespace Go.Proofs.Ytgnpnfkncbnjnaa
open Go Go.Am
attribute [local congr] tr_congr does_congr all_congr
attribute [local go_sem] Go.Am.buildSliceA Go.Am.frozen Go.Am.freezeG Go.Am.freezeGs Go.Am.minmax
theorem leaving_call (v : Vac) (shut : List Int) (K : Nat) (s : St) (hv : v.Lens K) (hs : shut.length < K) (hs2 : shut.length ≤ 9223372036854775807) :
    acall cfg (K + 3) 118 [vacV v, .lst (shut.map iV)] s = .ret (.map (s.pre ++ [s.n]), s.new (.map (encE (leaveL v shut)) false)) := by
  refine call3_newmap mget118 fget118 rfl (by simp only [renVs, renV, vacV, fl_ves, fl_pip, fl_pmp, fl_inl, fl_gtr, fl_i]) (flat_encE _) ?_
  refine body_does rfl fun T hT' hA => ?_
  have a0 := hA 0 _ rfl
  have a1 := hA 1 _ rfl
  have hT : T.length = 63 := hT'
  clear hA hT'
  obtain ⟨⟨_, _⟩, ⟨hp1, hp2⟩, ⟨hm1, hm2⟩, _, _, _⟩ := hv
  have hh := fun n s => contains_call shut n K s hs hs2
  have had := fun a b s => plus_call a b (K + 1) s
  have hlk := fun (es : List (Int × Rg)) (k : Int) (s : St) (hg : hget s.H [1] = some (.map (encE es) false)) => look_s (C := cfg.at 118) rfl (k := k) hg
  have hup := fun (es : List (Int × Rg)) (k : Int) (x : Rg) (s : St) (hg : hget s.H [1] = some (.map (encE es) false)) => upd_s (C := cfg.at 118) rfl (k := k) (x := x) hg
  simp only [rgV] at had hlk hup
  simp -implicitDefEqProofs only [go_sem, a0, hT]
  simp only [does_bind]
  refine xl_does (fun k T s' => T.length = 63 ∧ nth T 1 = some (.lst (shut.map iV)) ∧ nth T 2 = some (.ptr [0] 0) ∧ nth T 5 = some (.map [1]) ∧ nth T 12 = some (.lst (v.pipes.map pipV)) ∧ nth T 13 = some (.int .i64 v.pipes.length) ∧ ∃ (i n : Nat) (es : List (Int × Rg)) (H : Heap), nth T 14 = some (.int .i64 i) ∧ i ≤ v.pipes.length ∧ k = v.pipes.length - i ∧ s' = ⟨H, n + 2, [], false, []⟩ ∧ hget H [0] = some (.cells [.lst (v.vessels.map vesV), .lst (v.pipes.map pipV), .lst (v.pumps.map pmpV), .lst (v.leaks.map inlV), .lst (v.getters.map gtrV)] true 0) ∧
    hget H [1] = some (.map (encE es) false) ∧ leaveP shut 0 [] v.pipes = leaveP shut i es (v.pipes.drop i)) (k := v.pipes.length) (by omega) ?_ ?_
  · exact ⟨by simp -implicitDefEqProofs only [go_sem, hT], by simp -implicitDefEqProofs only [go_sem, a1], by simp -implicitDefEqProofs only [go_sem, hT], by simp -implicitDefEqProofs only [go_sem, hT], by simp -implicitDefEqProofs only [go_sem, hT], by simp -implicitDefEqProofs only [go_sem, hT], 0, 0, [], _, by simp -implicitDefEqProofs only [go_sem, hT] <;> rfl, by omega, rfl, rfl, rfl, rfl, rfl⟩
  clear a0 a1 hT T
  rintro k T s' ⟨hT, a1, a2, a5, a12, a13, i, n, es, H, a14, hi, rfl, rfl, g0, g1, he⟩
  simp -implicitDefEqProofs only [go_sem, a13, a14, hT]
  by_cases hil : (i : Int) < (v.pipes.length : Int)
  · have hi' : i < v.pipes.length := by omega
    have e1 := elemAt_map (f := pipV) (l := v.pipes) (i := i) (z := 6) hi' rfl
    have hkk : v.pipes.length - (i + 1) < v.pipes.length - i := by omega
    rw [List.drop_eq_getElem_cons hi'] at he
    generalize v.pipes[i] = p at *
    simp only [leaveP] at he
    have k0 : ∀ X, hget (([n + 2], X) :: H) [0] = _ := fun X => (hget_cons_ne _ _ (nm_ne' (by omega))).trans g0
    have k1 : ∀ X, hget (([n + 2], X) :: H) [1] = _ := fun X => (hget_cons_ne _ _ (nm_ne' (by omega))).trans g1
    have j1 : ∀ X Z, hget (([n + 2], X) :: hset H [1] Z) [1] = _ := fun X Z => (hget_cons_ne _ _ (nm_ne' (by omega))).trans (hget_hset_same Z g1)
    have w1 : ∀ Z, hget (hset H [1] Z) [1] = some Z := fun Z => hget_hset_same Z g1
    have w2 : ∀ Z Y, hget (hset (hset H [1] Z) [1] Y) [1] = some Y := fun Z Y => hget_hset_same Y (w1 Z)
    have d0 : ∀ X Z Y, hget (([n + 2], X) :: hset (hset H [1] Z) [1] Y) [0] = _ := fun X Z Y => (hget_cons_ne _ _ (nm_ne' (by omega))).trans ((hget_hset_ne _ Y (by decide)).trans ((hget_hset_ne H Z (by decide)).trans g0))
    have d1 : ∀ X Z Y, hget (([n + 2], X) :: hset (hset H [1] Z) [1] Y) [1] = _ := fun X Z Y => (hget_cons_ne _ _ (nm_ne' (by omega))).trans (w2 Z Y)
    have hw1 : wrapF .i64 ((i : Int) + 1) = ((i + 1 : Nat) : Int) := wrap_i64 (by omega) (by omega)
    simp -implicitDefEqProofs only [go_sem, a1, a12, a14, hT, hil, e1, hh]
    by_cases c1 : (i : Int) ∈ shut
    · rw [if_pos c1] at he
      simp -implicitDefEqProofs only [go_sem, a1, a2, a5, a12, a13, a14, hT, c1, hw1]
      exact ⟨v.pipes.length - (i + 1), hkk, trivial, trivial, trivial, trivial, trivial, trivial, i + 1, n + 1, es, _, rfl, hi', rfl, rfl, k0 _, k1 _, he⟩
    · rw [if_neg c1] at he
      simp -implicitDefEqProofs only [go_sem, c1]
      simp only [does_bind]
      refine draw_mach [10] [10] (by kernel_rfl) ?_
      simp -implicitDefEqProofs only [redoH, redo1, go_sem, a5, hT, k1, hlk es p.a, had (getS es p.a) ⟨p.out.lo, p.out.hi⟩, hup es p.a (plusR (getS es p.a) p.out)]
      generalize hes : setS es p.a (plusR (getS es p.a) p.out) = es1 at *
      simp only [does_bind]
      refine draw_mach [10] [10] (by kernel_rfl) ?_
      simp -implicitDefEqProofs only [redoH, redo1, go_sem, a1, a2, a5, a12, a13, a14, hT, j1, hlk es1 p.b, had (getS es1 p.b) ⟨p.back.lo, p.back.hi⟩, hup es1 p.b (plusR (getS es1 p.b) p.back), hw1]
      exact ⟨v.pipes.length - (i + 1), hkk, trivial, trivial, trivial, trivial, trivial, trivial, i + 1, n + 3, setS es1 p.b (plusR (getS es1 p.b) p.back), _, rfl, hi', rfl, rfl, d0 _ _ _, d1 _ _ _, he⟩
  · have hie : i = v.pipes.length := by omega
    subst hie
    rw [List.drop_length] at he
    simp only [leaveP] at he
    have hL : leaveL v shut = leaveM es v.pumps := by unfold leaveL; rw [he]
    rw [hL]
    simp -implicitDefEqProofs only [go_sem, a2, hT, hil, g0]
    simp only [does_bind]
    refine xl_does (fun k T s' => T.length = 63 ∧ nth T 5 = some (.map [1]) ∧ nth T 45 = some (.lst (v.pumps.map pmpV)) ∧ nth T 46 = some (.int .i64 v.pumps.length) ∧ ∃ (i n : Nat) (es2 : List (Int × Rg)) (H : Heap), nth T 47 = some (.int .i64 i) ∧ i ≤ v.pumps.length ∧ k = v.pumps.length - i ∧ s' = ⟨H, n + 2, [], false, []⟩ ∧
      hget H [1] = some (.map (encE es2) false) ∧ leaveM es v.pumps = leaveM es2 (v.pumps.drop i)) (k := v.pumps.length) (by omega) ?_ ?_
    · exact ⟨by simp -implicitDefEqProofs only [go_sem, hT], by simp -implicitDefEqProofs only [go_sem, a5], by simp -implicitDefEqProofs only [go_sem, hT], by simp -implicitDefEqProofs only [go_sem, hT], 0, n, es, H, by simp -implicitDefEqProofs only [go_sem, hT] <;> rfl, by omega, rfl, rfl, g1, rfl⟩
    clear a1 a2 a5 a12 a13 a14 hT T g0 g1 H n
    rintro k T s' ⟨hT, a5, a45, a46, i, n, es2, H, a47, hi, rfl, rfl, g1, he2⟩
    simp -implicitDefEqProofs only [go_sem, a46, a47, hT]
    by_cases hil2 : (i : Int) < (v.pumps.length : Int)
    · have hi' : i < v.pumps.length := by omega
      have e1 := elemAt_map (f := pmpV) (l := v.pumps) (i := i) (z := 3) hi' rfl
      have hkk : v.pumps.length - (i + 1) < v.pumps.length - i := by omega
      rw [List.drop_eq_getElem_cons hi'] at he2
      generalize v.pumps[i] = q at *
      simp only [leaveM] at he2
      have k1 : ∀ X, hget (([n + 2], X) :: H) [1] = _ := fun X => (hget_cons_ne _ _ (nm_ne' (by omega))).trans g1
      have j1 : ∀ X Z, hget (([n + 2], X) :: hset H [1] Z) [1] = _ := fun X Z => (hget_cons_ne _ _ (nm_ne' (by omega))).trans (hget_hset_same Z g1)
      have hw1 : wrapF .i64 ((i : Int) + 1) = ((i + 1 : Nat) : Int) := wrap_i64 (by omega) (by omega)
      simp -implicitDefEqProofs only [go_sem, a45, a47, hT, hil2, e1]
      simp only [does_bind]
      refine draw_mach [10] [10] (by kernel_rfl) ?_
      simp -implicitDefEqProofs only [redoH, redo1, go_sem, a5, a45, a46, a47, hT, k1, hlk es2 q.at', had (getS es2 q.at') ⟨q.part.lo, q.part.hi⟩, hup es2 q.at' (plusR (getS es2 q.at') q.part), hw1]
      exact ⟨v.pumps.length - (i + 1), hkk, trivial, trivial, trivial, trivial, i + 1, n + 2, setS es2 q.at' (plusR (getS es2 q.at') q.part), _, rfl, hi', rfl, rfl, j1 _ _, he2⟩
    · have hie : i = v.pumps.length := by omega
      subst hie
      rw [List.drop_length] at he2
      simp only [leaveM] at he2
      rw [he2]
      simp -implicitDefEqProofs only [go_sem, a5, hT, hil2, Try.results118]
      exact ⟨_, rfl, g1⟩
end Go.Proofs.Ytgnpnfkncbnjnaa
namespace Go.Proofs.Ytgnpnfkncbnjnaa
open Go Go.Am
attribute [local congr] tr_congr does_congr all_congr
attribute [local go_sem] Go.Am.buildSliceA Go.Am.frozen Go.Am.freezeG Go.Am.freezeGs Go.Am.minmax
theorem at_call (at' : Int) (r : Rg) (most N : Int) (b : Nm) (K : Nat) (H : Heap) (n : Nat) (p : Nm) (jr : Bool) (j : Delta) (hb : hget H b = some (.cells [.int .i64 N] true 0)) (h1 : 0 ≤ N) (h2 : N ≤ 9223372036854775807) :
    acall cfg (K + 2) 104 [.int .i64 at', rgV r, .int .i64 most, .ptr b 0] ⟨H, n, p, jr, j⟩ = .ret (.int .i64 (atE N at' r most), ⟨H, n, p, jr, backJ jr [b] [.cells [.int .i64 N] true 0] j⟩) := by
  refine call3_ro (bs := [b]) (xs := [.cells [.int .i64 N] true 0]) (args' := [.int .i64 at', rgV r, .int .i64 most, .ptr [0] 0]) (xs' := [.cells [.int .i64 N] true 0]) mget104 fget104 (by show lendM (199 + 1) [b] [] [] _ = _; rw [lend1 199 rfl hb]; exact lendM_nil 198 _ _ _) (by simp only [getAll, hb]) rfl rfl (by show renVs [(b, [0])] _ = _; simp only [renVs, renV, rgV, lookN, eqb_self]) rfl rfl (fun _ => rfl) (fun _ h => by cases h) (show (0 : Nat) < 200 by decide) rfl rfl ?_
  refine body_does rfl fun T hT' hA => ?_
  have a0 := hA 0 _ rfl
  have a1 := hA 1 _ rfl
  have a2 := hA 2 _ rfl
  have a3 := hA 3 _ rfl
  have hT : T.length = 16 := hT'
  clear hA hT'
  have hg : hget (zipB (namesFrom [] 0 [b].length) [.cells [.int .i64 N] true 0]) [0] = some (.cells [.int .i64 N] true 0) := rfl
  have hz : zipB (namesFrom [] 0 [b].length) [Blk.cells [.int .i64 N] true 0] = [([0], .cells [.int .i64 N] true 0)] := rfl
  have hy : getAll [([1], Blk.cells [.int .i64 r.lo, .int .i64 r.hi] true 0), ([0], .cells [.int .i64 N] true 0)] (namesFrom [] 0 [b].length) = some [.cells [.int .i64 N] true 0] := rfl
  rw [hz]
  have hc := fun s => from_call at' 0 (N - 1) K s
  have hsp := fun s => spans_call r most K s
  have hw : wrapF .i64 (N - 1) = N - 1 := wrap_i64 (by omega) (by omega)
  simp only [rgV] at hsp
  unfold atE
  by_cases c1 : fromB at' 0 (N - 1) = true
  · rw [if_pos c1]
    simp -implicitDefEqProofs only [go_sem, a0, a1, a2, a3, hT, hw, hc, c1, hsp, Try.results104]
    exact ⟨trivial, hy⟩
  · rw [if_neg c1]
    simp -implicitDefEqProofs only [go_sem, a0, a1, a3, hT, hw, hc, c1, Try.results104]
    exact ⟨trivial, hy⟩
theorem pipe_call (x : Pip) (N : Int) (b : Nm) (K : Nat) (H : Heap) (n : Nat) (p : Nm) (jr : Bool) (j : Delta) (hb : hget H b = some (.cells [.int .i64 N] true 0)) (h1 : 0 ≤ N) (h2 : N ≤ 9223372036854775807) :
    acall cfg (K + 2) 107 [pipV x, .ptr b 0] ⟨H, n, p, jr, j⟩ = .ret (.int .i64 (pipE N x), ⟨H, n, p, jr, backJ jr [b] [.cells [.int .i64 N] true 0] j⟩) := by
  refine call3_ro (bs := [b]) (xs := [.cells [.int .i64 N] true 0]) (args' := [pipV x, .ptr [0] 0]) (xs' := [.cells [.int .i64 N] true 0]) mget107 fget107 (by show lendM (199 + 1) [b] [] [] _ = _; rw [lend1 199 rfl hb]; exact lendM_nil 198 _ _ _) (by simp only [getAll, hb]) rfl rfl (by show renVs [(b, [0])] _ = _; simp only [renVs, renV, pipV, lookN, eqb_self]) rfl rfl (fun _ => rfl) (fun _ h => by cases h) (show (0 : Nat) < 200 by decide) rfl rfl ?_
  refine body_does rfl fun T hT' hA => ?_
  have a0 := hA 0 _ rfl
  have a1 := hA 1 _ rfl
  have hT : T.length = 35 := hT'
  clear hA hT'
  have hz : zipB (namesFrom [] 0 [b].length) [Blk.cells [.int .i64 N] true 0] = [([0], .cells [.int .i64 N] true 0)] := rfl
  have hy : ∀ X, getAll [([1], X), ([0], .cells [.int .i64 N] true 0)] (namesFrom [] 0 [b].length) = some [.cells [.int .i64 N] true 0] := fun _ => rfl
  rw [hz]
  have hc := fun m s => from_call m 0 (N - 1) K s
  have hsp := fun r s => spans_call r 1000000 K s
  have hw : wrapF .i64 (N - 1) = N - 1 := wrap_i64 (by omega) (by omega)
  simp only [rgV] at hsp
  unfold pipE
  by_cases c1 : fromB x.a 0 (N - 1) = true
  · by_cases c2 : fromB x.b 0 (N - 1) = true
    · rw [if_pos ⟨c1, c2⟩]
      by_cases c3 : x.a = x.b
      · rw [if_pos c3]
        simp -implicitDefEqProofs only [go_sem, a0, a1, hT, hw, hc, c2, c3, Try.results107]
        exact ⟨trivial, hy _⟩
      · rw [if_neg c3]
        by_cases c4 : spansE x.out 1000000 = 0
        · rw [if_pos c4]
          simp -implicitDefEqProofs only [go_sem, a0, a1, hT, hw, hc, c1, c2, c3, hsp ⟨x.out.lo, x.out.hi⟩, hsp ⟨x.back.lo, x.back.hi⟩, c4, Try.results107]
          exact ⟨trivial, hy _⟩
        · rw [if_neg c4]
          simp -implicitDefEqProofs only [go_sem, a0, a1, hT, hw, hc, c1, c2, c3, hsp ⟨x.out.lo, x.out.hi⟩, c4, Try.results107]
          exact ⟨trivial, hy _⟩
    · rw [if_neg (fun h => c2 h.2)]
      simp -implicitDefEqProofs only [go_sem, a0, a1, hT, hw, hc, c1, c2, Try.results107]
      exact ⟨trivial, hy _⟩
  · rw [if_neg (fun h => c1 h.1)]
    simp -implicitDefEqProofs only [go_sem, a0, a1, hT, hw, hc, c1, Try.results107]
    exact ⟨trivial, hy _⟩
theorem pumpC_call (x : Pmp) (N : Int) (b4 b3 : Nm) (hne : b3 ≠ b4) (K : Nat) (H : Heap) (n : Nat) (p : Nm) (jr : Bool) (j : Delta) (hb4 : hget H b4 = some (.cells [.func 104 [.ptr b3 0]] true 0)) (hb3 : hget H b3 = some (.cells [.int .i64 N] true 0)) (h1 : 0 ≤ N) (h2 : N ≤ 9223372036854775807) :
    acall cfg (K + 3) 108 [pmpV x, .ptr b4 0] ⟨H, n, p, jr, j⟩ = .ret (.int .i64 (atE N x.at' x.part 1000000), ⟨H, n, p, jr, backJ jr [b4, b3] [.cells [.func 104 [.ptr b3 0]] true 0, .cells [.int .i64 N] true 0] j⟩) := by
  have e34 := eqb_ne hne
  have e43 := eqb_ne (Ne.symm hne)
  refine call3_ro (bs := [b4, b3]) (xs := [.cells [.func 104 [.ptr b3 0]] true 0, .cells [.int .i64 N] true 0]) (args' := [pmpV x, .ptr [0] 0]) (xs' := [.cells [.func 104 [.ptr [1] 0]] true 0, .cells [.int .i64 N] true 0]) mget108 fget108 (by show lendM (199 + 1) [b4] [] [] _ = _; rw [lend1 199 rfl hb4]; show lendM (198 + 1) [b3] [b4] [_] _ = _; rw [lend1 198 (by simp only [memNm, e34]) hb3]; exact lendM_nil 197 _ _ _) (by simp only [getAll, hb4, hb3]) (by simp only [nodupN, memNm, e43]) rfl (by show renVs [(b4, [0]), (b3, [1])] _ = _; simp only [renVs, renV, pmpV, lookN, eqb_self])
    (by show renBs [(b4, [0]), (b3, [1])] _ = _; simp only [renBs, renB, renVs, renV, lookN, e34, eqb_self]) rfl (fun _ => rfl) (fun c h => by rcases List.mem_cons.1 h with rfl | h; rfl; cases h) (show (1 : Nat) < 200 by decide) rfl rfl ?_
  refine body_does rfl fun T hT' hA => ?_
  have a0 := hA 0 _ rfl
  have a1 := hA 1 _ rfl
  have hT : T.length = 10 := hT'
  clear hA hT'
  have hz : zipB (namesFrom [] 0 [b4, b3].length) [Blk.cells [.func 104 [.ptr [1] 0]] true 0, .cells [.int .i64 N] true 0] = [([0], .cells [.func 104 [.ptr [1] 0]] true 0), ([1], .cells [.int .i64 N] true 0)] := rfl
  have hy : ∀ X, getAll [([2], X), ([0], .cells [.func 104 [.ptr [1] 0]] true 0), ([1], .cells [.int .i64 N] true 0)] (namesFrom [] 0 [b4, b3].length) = some [.cells [.func 104 [.ptr [1] 0]] true 0, .cells [.int .i64 N] true 0] := fun _ => rfl
  have hl2 : [b4, b3].length = 2 := rfl
  rw [hz, hl2]
  rw [hl2] at hy
  have hat := fun X at' r most j => at_call at' r most N [1] K [([2], X), ([0], .cells [.func 104 [.ptr [1] 0]] true 0), ([1], .cells [.int .i64 N] true 0)] 3 [] false j rfl h1 h2
  simp only [rgV, backJ_false] at hat
  simp -implicitDefEqProofs only [go_sem, a0, a1, hT, hat _ x.at' ⟨x.part.lo, x.part.hi⟩, Try.results108]
  exact ⟨trivial, hy _⟩
theorem leakC_call (x : Inl) (N : Int) (b4 b3 : Nm) (hne : b3 ≠ b4) (K : Nat) (H : Heap) (n : Nat) (p : Nm) (jr : Bool) (j : Delta) (hb4 : hget H b4 = some (.cells [.func 104 [.ptr b3 0]] true 0)) (hb3 : hget H b3 = some (.cells [.int .i64 N] true 0)) (h1 : 0 ≤ N) (h2 : N ≤ 9223372036854775807) :
    acall cfg (K + 3) 109 [inlV x, .ptr b4 0] ⟨H, n, p, jr, j⟩ = .ret (.int .i64 (atE N x.at' x.gas 100000), ⟨H, n, p, jr, backJ jr [b4, b3] [.cells [.func 104 [.ptr b3 0]] true 0, .cells [.int .i64 N] true 0] j⟩) := by
  have e34 := eqb_ne hne
  have e43 := eqb_ne (Ne.symm hne)
  refine call3_ro (bs := [b4, b3]) (xs := [.cells [.func 104 [.ptr b3 0]] true 0, .cells [.int .i64 N] true 0]) (args' := [inlV x, .ptr [0] 0]) (xs' := [.cells [.func 104 [.ptr [1] 0]] true 0, .cells [.int .i64 N] true 0]) mget109 fget109 (by show lendM (199 + 1) [b4] [] [] _ = _; rw [lend1 199 rfl hb4]; show lendM (198 + 1) [b3] [b4] [_] _ = _; rw [lend1 198 (by simp only [memNm, e34]) hb3]; exact lendM_nil 197 _ _ _) (by simp only [getAll, hb4, hb3]) (by simp only [nodupN, memNm, e43]) rfl (by show renVs [(b4, [0]), (b3, [1])] _ = _; simp only [renVs, renV, inlV, lookN, eqb_self])
    (by show renBs [(b4, [0]), (b3, [1])] _ = _; simp only [renBs, renB, renVs, renV, lookN, e34, eqb_self]) rfl (fun _ => rfl) (fun c h => by rcases List.mem_cons.1 h with rfl | h; rfl; cases h) (show (1 : Nat) < 200 by decide) rfl rfl ?_
  refine body_does rfl fun T hT' hA => ?_
  have a0 := hA 0 _ rfl
  have a1 := hA 1 _ rfl
  have hT : T.length = 10 := hT'
  clear hA hT'
  have hz : zipB (namesFrom [] 0 [b4, b3].length) [Blk.cells [.func 104 [.ptr [1] 0]] true 0, .cells [.int .i64 N] true 0] = [([0], .cells [.func 104 [.ptr [1] 0]] true 0), ([1], .cells [.int .i64 N] true 0)] := rfl
  have hy : ∀ X, getAll [([2], X), ([0], .cells [.func 104 [.ptr [1] 0]] true 0), ([1], .cells [.int .i64 N] true 0)] (namesFrom [] 0 [b4, b3].length) = some [.cells [.func 104 [.ptr [1] 0]] true 0, .cells [.int .i64 N] true 0] := fun _ => rfl
  have hl2 : [b4, b3].length = 2 := rfl
  rw [hz, hl2]
  rw [hl2] at hy
  have hat := fun X at' r most j => at_call at' r most N [1] K [([2], X), ([0], .cells [.func 104 [.ptr [1] 0]] true 0), ([1], .cells [.int .i64 N] true 0)] 3 [] false j rfl h1 h2
  simp only [rgV, backJ_false] at hat
  simp -implicitDefEqProofs only [go_sem, a0, a1, hT, hat _ x.at' ⟨x.gas.lo, x.gas.hi⟩, Try.results109]
  exact ⟨trivial, hy _⟩
theorem getC_call (x : Gtr) (N : Int) (b4 b3 : Nm) (hne : b3 ≠ b4) (K : Nat) (H : Heap) (n : Nat) (p : Nm) (jr : Bool) (j : Delta) (hb4 : hget H b4 = some (.cells [.func 104 [.ptr b3 0]] true 0)) (hb3 : hget H b3 = some (.cells [.int .i64 N] true 0)) (h1 : 0 ≤ N) (h2 : N ≤ 9223372036854775807) :
    acall cfg (K + 3) 110 [gtrV x, .ptr b4 0] ⟨H, n, p, jr, j⟩ = .ret (.int .i64 (getE N x), ⟨H, n, p, jr, backJ jr [b4, b3] [.cells [.func 104 [.ptr b3 0]] true 0, .cells [.int .i64 N] true 0] j⟩) := by
  have e34 := eqb_ne hne
  have e43 := eqb_ne (Ne.symm hne)
  refine call3_ro (bs := [b4, b3]) (xs := [.cells [.func 104 [.ptr b3 0]] true 0, .cells [.int .i64 N] true 0]) (args' := [gtrV x, .ptr [0] 0]) (xs' := [.cells [.func 104 [.ptr [1] 0]] true 0, .cells [.int .i64 N] true 0]) mget110 fget110 (by show lendM (199 + 1) [b4] [] [] _ = _; rw [lend1 199 rfl hb4]; show lendM (198 + 1) [b3] [b4] [_] _ = _; rw [lend1 198 (by simp only [memNm, e34]) hb3]; exact lendM_nil 197 _ _ _) (by simp only [getAll, hb4, hb3]) (by simp only [nodupN, memNm, e43]) rfl (by show renVs [(b4, [0]), (b3, [1])] _ = _; simp only [renVs, renV, gtrV, lookN, eqb_self])
    (by show renBs [(b4, [0]), (b3, [1])] _ = _; simp only [renBs, renB, renVs, renV, lookN, e34, eqb_self]) rfl (fun _ => rfl) (fun c h => by rcases List.mem_cons.1 h with rfl | h; rfl; cases h) (show (1 : Nat) < 200 by decide) rfl rfl ?_
  refine body_does rfl fun T hT' hA => ?_
  have a0 := hA 0 _ rfl
  have a1 := hA 1 _ rfl
  have hT : T.length = 17 := hT'
  clear hA hT'
  have hz : zipB (namesFrom [] 0 [b4, b3].length) [Blk.cells [.func 104 [.ptr [1] 0]] true 0, .cells [.int .i64 N] true 0] = [([0], .cells [.func 104 [.ptr [1] 0]] true 0), ([1], .cells [.int .i64 N] true 0)] := rfl
  have hy : ∀ X, getAll [([2], X), ([0], .cells [.func 104 [.ptr [1] 0]] true 0), ([1], .cells [.int .i64 N] true 0)] (namesFrom [] 0 [b4, b3].length) = some [.cells [.func 104 [.ptr [1] 0]] true 0, .cells [.int .i64 N] true 0] := fun _ => rfl
  have hl2 : [b4, b3].length = 2 := rfl
  rw [hz, hl2]
  rw [hl2] at hy
  have hat := fun X at' r most j => at_call at' r most N [1] K [([2], X), ([0], .cells [.func 104 [.ptr [1] 0]] true 0), ([1], .cells [.int .i64 N] true 0)] 3 [] false j rfl h1 h2
  simp only [rgV, backJ_false] at hat
  have hsp := fun r s => spans_call r 1000000000 (K + 1) s
  simp only [rgV] at hsp
  unfold getE
  by_cases c1 : atE N x.at' x.part 1000000 = 0
  · rw [if_pos c1]
    simp -implicitDefEqProofs only [go_sem, a0, a1, hT, hat _ x.at' ⟨x.part.lo, x.part.hi⟩, c1, hsp ⟨x.room.lo, x.room.hi⟩, Try.results110]
    exact ⟨trivial, hy _⟩
  · rw [if_neg c1]
    simp -implicitDefEqProofs only [go_sem, a0, a1, hT, hat _ x.at' ⟨x.part.lo, x.part.hi⟩, c1, Try.results110]
    exact ⟨trivial, hy _⟩
end Go.Proofs.Ytgnpnfkncbnjnaa
namespace Go.Proofs.Ytgnpnfkncbnjnaa
open Go Go.Am
attribute [local congr] tr_congr does_congr all_congr
attribute [local go_sem] Go.Am.buildSliceA Go.Am.frozen Go.Am.freezeG Go.Am.freezeGs Go.Am.minmax
theorem evV_call (l : List Ves) (bl bf : Nm) (nblbf : bl ≠ bf) (K : Nat) (H : Heap) (n : Nat) (p : Nm) (jr : Bool) (j : Delta) (hbl : hget H bl = some (.cells [.lst (l.map vesV)] true 0)) (hbf : hget H bf = some (.cells [.func 113 []] true 0)) (hK : 20 < K) (hl : l.length < K) (hl2 : l.length ≤ 9223372036854775807) (hb : ∀ v ∈ l, v.bands.length ≤ 9223372036854775807) :
    acall cfg (K + 4) 153 [.ptr bl 0, .ptr bf 0] ⟨H, n, p, jr, j⟩ = .ret (.int .i64 (firstE vesE l), ⟨H, n, p, jr, backJ jr [bl, bf] [.cells [.lst (l.map vesV)] true 0, .cells [.func 113 []] true 0] j⟩) := by
  have eblbf := eqb_ne nblbf
  have ebfbl := eqb_ne (Ne.symm nblbf)
  refine call3_ro (bs := [bl, bf]) (xs := [.cells [.lst (l.map vesV)] true 0, .cells [.func 113 []] true 0]) (args' := [.ptr [0] 0, .ptr [1] 0]) (xs' := [.cells [.lst (l.map vesV)] true 0, .cells [.func 113 []] true 0]) mget153 fget153 (by show lendM (199 + 1) [bl, bf] [] [] _ = _; rw [lend1 199 rfl hbl]; show lendM (198 + 1) [bf] [bl] [_] _ = _; rw [lend1 198 (by simp only [memNm, ebfbl]) hbf]; exact lendM_nil 197 _ _ _) (by simp only [getAll, hbl, hbf]) (by simp only [nodupN, memNm, eblbf]) rfl (by show renVs [(bl, [0]), (bf, [1])] _ = _; simp only [renVs, renV, lookN, eqb_self, ebfbl])
    (by show renBs [(bl, [0]), (bf, [1])] _ = _; simp only [renBs, renB, renVs, renV, fl_ves]) rfl (fun _ => rfl) (fun c h => by cases h) (show (0 : Nat) < 200 by decide) rfl (by show renBs [([0], bl), ([1], bf)] _ = _; simp only [renBs, renB, renVs, renV, fl_ves]) ?_
  refine body_does rfl fun T hT' hA => ?_
  have a0 := hA 0 _ rfl
  have a1 := hA 1 _ rfl
  have hT : T.length = 19 := hT'
  clear hA hT'
  have hz : zipB (namesFrom [] 0 [bl, bf].length) [Blk.cells [.lst (l.map vesV)] true 0, Blk.cells [.func 113 []] true 0] = [([0], .cells [.lst (l.map vesV)] true 0), ([1], .cells [.func 113 []] true 0)] := rfl
  have hl3 : [bl, bf].length = 2 := rfl
  rw [hz, hl3]
  simp -implicitDefEqProofs only [go_sem, a0, hT]
  simp only [does_bind]
  refine xl_does (fun k T s' => T.length = 19 ∧ nth T 1 = some (.ptr [1] 0) ∧ nth T 6 = some (.lst (l.map vesV)) ∧ nth T 7 = some (.int .i64 l.length) ∧ ∃ (i n : Nat) (H : Heap), nth T 8 = some (.int .i64 i) ∧ i ≤ l.length ∧ k = l.length - i ∧ s' = ⟨H, n + 2, [], false, []⟩ ∧ hget H [0] = some (.cells [.lst (l.map vesV)] true 0) ∧ hget H [1] = some (.cells [.func 113 []] true 0) ∧ firstE vesE l = firstE vesE (l.drop i)) (k := l.length) (by omega) ?_ ?_
  · exact ⟨by simp -implicitDefEqProofs only [go_sem, hT], by simp -implicitDefEqProofs only [go_sem, a1], by simp -implicitDefEqProofs only [go_sem, hT], by simp -implicitDefEqProofs only [go_sem, hT], 0, 0, _, by simp -implicitDefEqProofs only [go_sem, hT] <;> rfl, by omega, rfl, rfl, rfl, rfl, rfl⟩
  clear a0 a1 hT T
  rintro k T s' ⟨hT, a1, a6, a7, i, n, H, a8, hi, rfl, rfl, g0, g1, he⟩
  have hy : getAll H (namesFrom [] 0 2) = some [.cells [.lst (l.map vesV)] true 0, .cells [.func 113 []] true 0] := by show getAll H [[0], [1]] = _; simp only [getAll, g0, g1]
  simp -implicitDefEqProofs only [go_sem, a7, a8, hT]
  by_cases hil : (i : Int) < (l.length : Int)
  · have hi' : i < l.length := by omega
    have e1 := elemAt_map (f := vesV) (l := l) (i := i) (z := 6) hi' rfl
    have hkk : l.length - (i + 1) < l.length - i := by omega
    have hbi := hb (l[i]) (List.getElem_mem hi')
    rw [List.drop_eq_getElem_cons hi'] at he
    have hw1 : wrapF .i64 ((i : Int) + 1) = ((i + 1 : Nat) : Int) := wrap_i64 (by omega) (by omega)
    generalize l[i] = x at *
    simp only [firstE] at he
    have k0 : ∀ X, hget (([n + 2], X) :: H) [0] = _ := fun X => (hget_cons_ne _ _ (nm_ne' (by omega))).trans g0
    have k1 : ∀ X, hget (([n + 2], X) :: H) [1] = _ := fun X => (hget_cons_ne _ _ (nm_ne' (by omega))).trans g1
    have hy2 : ∀ X, getAll (([n + 2], X) :: H) (namesFrom [] 0 2) = some [.cells [.lst (l.map vesV)] true 0, .cells [.func 113 []] true 0] := fun X => by show getAll _ [[0], [1]] = _; simp only [getAll, k0 X, k1 X]
    have hc := fun s => vessel_call x (K + 1) s (by omega) hbi
    simp only [vesV] at hc
    simp only [vesV] at e1
    by_cases c1 : vesE x = 0
    · rw [if_pos c1] at he
      simp -implicitDefEqProofs only [go_sem, a1, a6, a7, a8, hT, hil, e1, hc, c1, hw1, k1]
      exact ⟨l.length - (i + 1), hkk, trivial, trivial, trivial, trivial, i + 1, n + 1, _, rfl, hi', rfl, rfl, k0 _, k1 _, he⟩
    · rw [if_neg c1] at he
      simp -implicitDefEqProofs only [go_sem, a1, a6, a8, hT, hil, e1, hc, c1, k1, he, Try.results153]
      exact ⟨trivial, hy2 _⟩
  · have hie : i = l.length := by omega
    subst hie
    rw [List.drop_length] at he
    simp only [firstE] at he
    simp -implicitDefEqProofs only [go_sem, hT, hil, he, Try.results153]
    exact ⟨trivial, hy⟩
theorem evP_call (l : List Pip) (N : Int) (bl bf b3 : Nm) (nblbf : bl ≠ bf) (nblb3 : bl ≠ b3) (nbfb3 : bf ≠ b3) (K : Nat) (H : Heap) (n : Nat) (p : Nm) (jr : Bool) (j : Delta) (hbl : hget H bl = some (.cells [.lst (l.map pipV)] true 0)) (hbf : hget H bf = some (.cells [.func 107 [.ptr b3 0]] true 0)) (hb3 : hget H b3 = some (.cells [.int .i64 N] true 0)) (h1 : 0 ≤ N) (h2 : N ≤ 9223372036854775807) (hK : 20 < K) (hl : l.length < K) (hl2 : l.length ≤ 9223372036854775807) :
    acall cfg (K + 4) 154 [.ptr bl 0, .ptr bf 0] ⟨H, n, p, jr, j⟩ = .ret (.int .i64 (firstE (pipE N) l), ⟨H, n, p, jr, backJ jr [bl, bf, b3] [.cells [.lst (l.map pipV)] true 0, .cells [.func 107 [.ptr b3 0]] true 0, .cells [.int .i64 N] true 0] j⟩) := by
  have eblbf := eqb_ne nblbf
  have ebfbl := eqb_ne (Ne.symm nblbf)
  have eblb3 := eqb_ne nblb3
  have eb3bl := eqb_ne (Ne.symm nblb3)
  have ebfb3 := eqb_ne nbfb3
  have eb3bf := eqb_ne (Ne.symm nbfb3)
  refine call3_ro (bs := [bl, bf, b3]) (xs := [.cells [.lst (l.map pipV)] true 0, .cells [.func 107 [.ptr b3 0]] true 0, .cells [.int .i64 N] true 0]) (args' := [.ptr [0] 0, .ptr [1] 0]) (xs' := [.cells [.lst (l.map pipV)] true 0, .cells [.func 107 [.ptr [2] 0]] true 0, .cells [.int .i64 N] true 0]) mget154 fget154 (by show lendM (199 + 1) [bl, bf] [] [] _ = _; rw [lend1 199 rfl hbl]; show lendM (198 + 1) [bf] [bl] [_] _ = _; rw [lend1 198 (by simp only [memNm, ebfbl]) hbf]; show lendM (197 + 1) [b3] [bl, bf] _ _ = _; rw [lend1 197 (by simp only [memNm, eb3bl, eb3bf]) hb3]; exact lendM_nil 196 _ _ _) (by simp only [getAll, hbl, hbf, hb3]) (by simp only [nodupN, memNm, eblbf, eblb3, ebfb3]) rfl (by show renVs [(bl, [0]), (bf, [1]), (b3, [2])] _ = _; simp only [renVs, renV, lookN, eqb_self, ebfbl])
    (by show renBs [(bl, [0]), (bf, [1]), (b3, [2])] _ = _; simp only [renBs, renB, renVs, renV, lookN, fl_pip, eqb_self, eb3bl, eb3bf]) rfl (fun _ => rfl) (fun c h => by rcases List.mem_cons.1 h with rfl | h; rfl; cases h) (show (1 : Nat) < 200 by decide) rfl (by show renBs [([0], bl), ([1], bf), ([2], b3)] _ = _; simp only [renBs, renB, renVs, renV, fl_pip]; rfl) ?_
  refine body_does rfl fun T hT' hA => ?_
  have a0 := hA 0 _ rfl
  have a1 := hA 1 _ rfl
  have hT : T.length = 19 := hT'
  clear hA hT'
  have hz : zipB (namesFrom [] 0 [bl, bf, b3].length) [Blk.cells [.lst (l.map pipV)] true 0, Blk.cells [.func 107 [.ptr [2] 0]] true 0, Blk.cells [.int .i64 N] true 0] = [([0], .cells [.lst (l.map pipV)] true 0), ([1], .cells [.func 107 [.ptr [2] 0]] true 0), ([2], .cells [.int .i64 N] true 0)] := rfl
  have hl3 : [bl, bf, b3].length = 3 := rfl
  rw [hz, hl3]
  simp -implicitDefEqProofs only [go_sem, a0, hT]
  simp only [does_bind]
  refine xl_does (fun k T s' => T.length = 19 ∧ nth T 1 = some (.ptr [1] 0) ∧ nth T 6 = some (.lst (l.map pipV)) ∧ nth T 7 = some (.int .i64 l.length) ∧ ∃ (i n : Nat) (H : Heap), nth T 8 = some (.int .i64 i) ∧ i ≤ l.length ∧ k = l.length - i ∧ s' = ⟨H, n + 3, [], false, []⟩ ∧ hget H [0] = some (.cells [.lst (l.map pipV)] true 0) ∧ hget H [1] = some (.cells [.func 107 [.ptr [2] 0]] true 0) ∧ hget H [2] = some (.cells [.int .i64 N] true 0) ∧ firstE (pipE N) l = firstE (pipE N) (l.drop i)) (k := l.length) (by omega) ?_ ?_
  · exact ⟨by simp -implicitDefEqProofs only [go_sem, hT], by simp -implicitDefEqProofs only [go_sem, a1], by simp -implicitDefEqProofs only [go_sem, hT], by simp -implicitDefEqProofs only [go_sem, hT], 0, 0, _, by simp -implicitDefEqProofs only [go_sem, hT] <;> rfl, by omega, rfl, rfl, rfl, rfl, rfl, rfl⟩
  clear a0 a1 hT T
  rintro k T s' ⟨hT, a1, a6, a7, i, n, H, a8, hi, rfl, rfl, g0, g1, g2, he⟩
  have hy : getAll H (namesFrom [] 0 3) = some [.cells [.lst (l.map pipV)] true 0, .cells [.func 107 [.ptr [2] 0]] true 0, .cells [.int .i64 N] true 0] := by show getAll H [[0], [1], [2]] = _; simp only [getAll, g0, g1, g2]
  simp -implicitDefEqProofs only [go_sem, a7, a8, hT]
  by_cases hil : (i : Int) < (l.length : Int)
  · have hi' : i < l.length := by omega
    have e1 := elemAt_map (f := pipV) (l := l) (i := i) (z := 6) hi' rfl
    have hkk : l.length - (i + 1) < l.length - i := by omega
    rw [List.drop_eq_getElem_cons hi'] at he
    have hw1 : wrapF .i64 ((i : Int) + 1) = ((i + 1 : Nat) : Int) := wrap_i64 (by omega) (by omega)
    generalize l[i] = x at *
    simp only [firstE] at he
    have k0 : ∀ X, hget (([n + 3], X) :: H) [0] = _ := fun X => (hget_cons_ne _ _ (nm_ne' (by omega))).trans g0
    have k1 : ∀ X, hget (([n + 3], X) :: H) [1] = _ := fun X => (hget_cons_ne _ _ (nm_ne' (by omega))).trans g1
    have k2 : ∀ X, hget (([n + 3], X) :: H) [2] = _ := fun X => (hget_cons_ne _ _ (nm_ne' (by omega))).trans g2
    have hy2 : ∀ X, getAll (([n + 3], X) :: H) (namesFrom [] 0 3) = some [.cells [.lst (l.map pipV)] true 0, .cells [.func 107 [.ptr [2] 0]] true 0, .cells [.int .i64 N] true 0] := fun X => by show getAll _ [[0], [1], [2]] = _; simp only [getAll, k0 X, k1 X, k2 X]
    have hc := fun X => pipe_call x N [2] (K + 1) (([n + 3], X) :: H) (n + 3 + 1) [] false [] (k2 X) h1 h2
    simp only [pipV, backJ_false] at hc
    by_cases c1 : pipE N x = 0
    · rw [if_pos c1] at he
      simp -implicitDefEqProofs only [go_sem, a1, a6, a7, a8, hT, hil, e1, hc, c1, hw1, k1]
      exact ⟨l.length - (i + 1), hkk, trivial, trivial, trivial, trivial, i + 1, n + 1, _, rfl, hi', rfl, rfl, k0 _, k1 _, k2 _, he⟩
    · rw [if_neg c1] at he
      simp -implicitDefEqProofs only [go_sem, a1, a6, a8, hT, hil, e1, hc, c1, k1, he, Try.results154]
      exact ⟨trivial, hy2 _⟩
  · have hie : i = l.length := by omega
    subst hie
    rw [List.drop_length] at he
    simp only [firstE] at he
    simp -implicitDefEqProofs only [go_sem, hT, hil, he, Try.results154]
    exact ⟨trivial, hy⟩
theorem evM_call (l : List Pmp) (N : Int) (bl bf b4 b3 : Nm) (nblbf : bl ≠ bf) (nblb4 : bl ≠ b4) (nblb3 : bl ≠ b3) (nbfb4 : bf ≠ b4) (nbfb3 : bf ≠ b3) (nb4b3 : b4 ≠ b3) (K : Nat) (H : Heap) (n : Nat) (p : Nm) (jr : Bool) (j : Delta) (hbl : hget H bl = some (.cells [.lst (l.map pmpV)] true 0)) (hbf : hget H bf = some (.cells [.func 108 [.ptr b4 0]] true 0)) (hb4 : hget H b4 = some (.cells [.func 104 [.ptr b3 0]] true 0)) (hb3 : hget H b3 = some (.cells [.int .i64 N] true 0)) (h1 : 0 ≤ N) (h2 : N ≤ 9223372036854775807) (hK : 20 < K) (hl : l.length < K) (hl2 : l.length ≤ 9223372036854775807) :
    acall cfg (K + 4) 155 [.ptr bl 0, .ptr bf 0] ⟨H, n, p, jr, j⟩ = .ret (.int .i64 (firstE (fun q : Pmp => atE N q.at' q.part 1000000) l), ⟨H, n, p, jr, backJ jr [bl, bf, b4, b3] [.cells [.lst (l.map pmpV)] true 0, .cells [.func 108 [.ptr b4 0]] true 0, .cells [.func 104 [.ptr b3 0]] true 0, .cells [.int .i64 N] true 0] j⟩) := by
  have eblbf := eqb_ne nblbf
  have ebfbl := eqb_ne (Ne.symm nblbf)
  have eblb4 := eqb_ne nblb4
  have eb4bl := eqb_ne (Ne.symm nblb4)
  have eblb3 := eqb_ne nblb3
  have eb3bl := eqb_ne (Ne.symm nblb3)
  have ebfb4 := eqb_ne nbfb4
  have eb4bf := eqb_ne (Ne.symm nbfb4)
  have ebfb3 := eqb_ne nbfb3
  have eb3bf := eqb_ne (Ne.symm nbfb3)
  have eb4b3 := eqb_ne nb4b3
  have eb3b4 := eqb_ne (Ne.symm nb4b3)
  refine call3_ro (bs := [bl, bf, b4, b3]) (xs := [.cells [.lst (l.map pmpV)] true 0, .cells [.func 108 [.ptr b4 0]] true 0, .cells [.func 104 [.ptr b3 0]] true 0, .cells [.int .i64 N] true 0]) (args' := [.ptr [0] 0, .ptr [1] 0]) (xs' := [.cells [.lst (l.map pmpV)] true 0, .cells [.func 108 [.ptr [2] 0]] true 0, .cells [.func 104 [.ptr [3] 0]] true 0, .cells [.int .i64 N] true 0]) mget155 fget155 (by show lendM (199 + 1) [bl, bf] [] [] _ = _; rw [lend1 199 rfl hbl]; show lendM (198 + 1) [bf] [bl] [_] _ = _; rw [lend1 198 (by simp only [memNm, ebfbl]) hbf]; show lendM (197 + 1) [b4] [bl, bf] _ _ = _; rw [lend1 197 (by simp only [memNm, eb4bl, eb4bf]) hb4]; show lendM (196 + 1) [b3] [bl, bf, b4] _ _ = _; rw [lend1 196 (by simp only [memNm, eb3bl, eb3bf, eb3b4]) hb3]; exact lendM_nil 195 _ _ _) (by simp only [getAll, hbl, hbf, hb4, hb3]) (by simp only [nodupN, memNm, eblbf, eblb4, eblb3, ebfb4, ebfb3, eb4b3]) rfl (by show renVs [(bl, [0]), (bf, [1]), (b4, [2]), (b3, [3])] _ = _; simp only [renVs, renV, lookN, eqb_self, ebfbl])
    (by show renBs [(bl, [0]), (bf, [1]), (b4, [2]), (b3, [3])] _ = _; simp only [renBs, renB, renVs, renV, lookN, fl_pmp, eqb_self, eb4bl, eb3bl, eb4bf, eb3bf, eb3b4]) rfl (fun _ => rfl) (fun c h => by rcases List.mem_cons.1 h with rfl | h; rfl; rcases List.mem_cons.1 h with rfl | h; rfl; cases h) (show (2 : Nat) < 200 by decide) rfl (by show renBs [([0], bl), ([1], bf), ([2], b4), ([3], b3)] _ = _; simp only [renBs, renB, renVs, renV, fl_pmp]; rfl) ?_
  refine body_does rfl fun T hT' hA => ?_
  have a0 := hA 0 _ rfl
  have a1 := hA 1 _ rfl
  have hT : T.length = 19 := hT'
  clear hA hT'
  have hz : zipB (namesFrom [] 0 [bl, bf, b4, b3].length) [Blk.cells [.lst (l.map pmpV)] true 0, Blk.cells [.func 108 [.ptr [2] 0]] true 0, Blk.cells [.func 104 [.ptr [3] 0]] true 0, Blk.cells [.int .i64 N] true 0] = [([0], .cells [.lst (l.map pmpV)] true 0), ([1], .cells [.func 108 [.ptr [2] 0]] true 0), ([2], .cells [.func 104 [.ptr [3] 0]] true 0), ([3], .cells [.int .i64 N] true 0)] := rfl
  have hl3 : [bl, bf, b4, b3].length = 4 := rfl
  rw [hz, hl3]
  simp -implicitDefEqProofs only [go_sem, a0, hT]
  simp only [does_bind]
  refine xl_does (fun k T s' => T.length = 19 ∧ nth T 1 = some (.ptr [1] 0) ∧ nth T 6 = some (.lst (l.map pmpV)) ∧ nth T 7 = some (.int .i64 l.length) ∧ ∃ (i n : Nat) (H : Heap), nth T 8 = some (.int .i64 i) ∧ i ≤ l.length ∧ k = l.length - i ∧ s' = ⟨H, n + 4, [], false, []⟩ ∧ hget H [0] = some (.cells [.lst (l.map pmpV)] true 0) ∧ hget H [1] = some (.cells [.func 108 [.ptr [2] 0]] true 0) ∧ hget H [2] = some (.cells [.func 104 [.ptr [3] 0]] true 0) ∧ hget H [3] = some (.cells [.int .i64 N] true 0) ∧ firstE (fun q : Pmp => atE N q.at' q.part 1000000) l = firstE (fun q : Pmp => atE N q.at' q.part 1000000) (l.drop i)) (k := l.length) (by omega) ?_ ?_
  · exact ⟨by simp -implicitDefEqProofs only [go_sem, hT], by simp -implicitDefEqProofs only [go_sem, a1], by simp -implicitDefEqProofs only [go_sem, hT], by simp -implicitDefEqProofs only [go_sem, hT], 0, 0, _, by simp -implicitDefEqProofs only [go_sem, hT] <;> rfl, by omega, rfl, rfl, rfl, rfl, rfl, rfl, rfl⟩
  clear a0 a1 hT T
  rintro k T s' ⟨hT, a1, a6, a7, i, n, H, a8, hi, rfl, rfl, g0, g1, g2, g3, he⟩
  have hy : getAll H (namesFrom [] 0 4) = some [.cells [.lst (l.map pmpV)] true 0, .cells [.func 108 [.ptr [2] 0]] true 0, .cells [.func 104 [.ptr [3] 0]] true 0, .cells [.int .i64 N] true 0] := by show getAll H [[0], [1], [2], [3]] = _; simp only [getAll, g0, g1, g2, g3]
  simp -implicitDefEqProofs only [go_sem, a7, a8, hT]
  by_cases hil : (i : Int) < (l.length : Int)
  · have hi' : i < l.length := by omega
    have e1 := elemAt_map (f := pmpV) (l := l) (i := i) (z := 3) hi' rfl
    have hkk : l.length - (i + 1) < l.length - i := by omega
    rw [List.drop_eq_getElem_cons hi'] at he
    have hw1 : wrapF .i64 ((i : Int) + 1) = ((i + 1 : Nat) : Int) := wrap_i64 (by omega) (by omega)
    generalize l[i] = x at *
    simp only [firstE] at he
    have k0 : ∀ X, hget (([n + 4], X) :: H) [0] = _ := fun X => (hget_cons_ne _ _ (nm_ne' (by omega))).trans g0
    have k1 : ∀ X, hget (([n + 4], X) :: H) [1] = _ := fun X => (hget_cons_ne _ _ (nm_ne' (by omega))).trans g1
    have k2 : ∀ X, hget (([n + 4], X) :: H) [2] = _ := fun X => (hget_cons_ne _ _ (nm_ne' (by omega))).trans g2
    have k3 : ∀ X, hget (([n + 4], X) :: H) [3] = _ := fun X => (hget_cons_ne _ _ (nm_ne' (by omega))).trans g3
    have hy2 : ∀ X, getAll (([n + 4], X) :: H) (namesFrom [] 0 4) = some [.cells [.lst (l.map pmpV)] true 0, .cells [.func 108 [.ptr [2] 0]] true 0, .cells [.func 104 [.ptr [3] 0]] true 0, .cells [.int .i64 N] true 0] := fun X => by show getAll _ [[0], [1], [2], [3]] = _; simp only [getAll, k0 X, k1 X, k2 X, k3 X]
    have hc := fun X => pumpC_call x N [2] [3] (by decide) K (([n + 4], X) :: H) (n + 4 + 1) [] false [] (k2 X) (k3 X) h1 h2
    simp only [pmpV, backJ_false] at hc
    by_cases c1 : atE N x.at' x.part 1000000 = 0
    · rw [if_pos c1] at he
      simp -implicitDefEqProofs only [go_sem, a1, a6, a7, a8, hT, hil, e1, hc, c1, hw1, k1]
      exact ⟨l.length - (i + 1), hkk, trivial, trivial, trivial, trivial, i + 1, n + 1, _, rfl, hi', rfl, rfl, k0 _, k1 _, k2 _, k3 _, he⟩
    · rw [if_neg c1] at he
      simp -implicitDefEqProofs only [go_sem, a1, a6, a8, hT, hil, e1, hc, c1, k1, he, Try.results155]
      exact ⟨trivial, hy2 _⟩
  · have hie : i = l.length := by omega
    subst hie
    rw [List.drop_length] at he
    simp only [firstE] at he
    simp -implicitDefEqProofs only [go_sem, hT, hil, he, Try.results155]
    exact ⟨trivial, hy⟩
theorem evI_call (l : List Inl) (N : Int) (bl bf b4 b3 : Nm) (nblbf : bl ≠ bf) (nblb4 : bl ≠ b4) (nblb3 : bl ≠ b3) (nbfb4 : bf ≠ b4) (nbfb3 : bf ≠ b3) (nb4b3 : b4 ≠ b3) (K : Nat) (H : Heap) (n : Nat) (p : Nm) (jr : Bool) (j : Delta) (hbl : hget H bl = some (.cells [.lst (l.map inlV)] true 0)) (hbf : hget H bf = some (.cells [.func 109 [.ptr b4 0]] true 0)) (hb4 : hget H b4 = some (.cells [.func 104 [.ptr b3 0]] true 0)) (hb3 : hget H b3 = some (.cells [.int .i64 N] true 0)) (h1 : 0 ≤ N) (h2 : N ≤ 9223372036854775807) (hK : 20 < K) (hl : l.length < K) (hl2 : l.length ≤ 9223372036854775807) :
    acall cfg (K + 4) 156 [.ptr bl 0, .ptr bf 0] ⟨H, n, p, jr, j⟩ = .ret (.int .i64 (firstE (fun l : Inl => atE N l.at' l.gas 100000) l), ⟨H, n, p, jr, backJ jr [bl, bf, b4, b3] [.cells [.lst (l.map inlV)] true 0, .cells [.func 109 [.ptr b4 0]] true 0, .cells [.func 104 [.ptr b3 0]] true 0, .cells [.int .i64 N] true 0] j⟩) := by
  have eblbf := eqb_ne nblbf
  have ebfbl := eqb_ne (Ne.symm nblbf)
  have eblb4 := eqb_ne nblb4
  have eb4bl := eqb_ne (Ne.symm nblb4)
  have eblb3 := eqb_ne nblb3
  have eb3bl := eqb_ne (Ne.symm nblb3)
  have ebfb4 := eqb_ne nbfb4
  have eb4bf := eqb_ne (Ne.symm nbfb4)
  have ebfb3 := eqb_ne nbfb3
  have eb3bf := eqb_ne (Ne.symm nbfb3)
  have eb4b3 := eqb_ne nb4b3
  have eb3b4 := eqb_ne (Ne.symm nb4b3)
  refine call3_ro (bs := [bl, bf, b4, b3]) (xs := [.cells [.lst (l.map inlV)] true 0, .cells [.func 109 [.ptr b4 0]] true 0, .cells [.func 104 [.ptr b3 0]] true 0, .cells [.int .i64 N] true 0]) (args' := [.ptr [0] 0, .ptr [1] 0]) (xs' := [.cells [.lst (l.map inlV)] true 0, .cells [.func 109 [.ptr [2] 0]] true 0, .cells [.func 104 [.ptr [3] 0]] true 0, .cells [.int .i64 N] true 0]) mget156 fget156 (by show lendM (199 + 1) [bl, bf] [] [] _ = _; rw [lend1 199 rfl hbl]; show lendM (198 + 1) [bf] [bl] [_] _ = _; rw [lend1 198 (by simp only [memNm, ebfbl]) hbf]; show lendM (197 + 1) [b4] [bl, bf] _ _ = _; rw [lend1 197 (by simp only [memNm, eb4bl, eb4bf]) hb4]; show lendM (196 + 1) [b3] [bl, bf, b4] _ _ = _; rw [lend1 196 (by simp only [memNm, eb3bl, eb3bf, eb3b4]) hb3]; exact lendM_nil 195 _ _ _) (by simp only [getAll, hbl, hbf, hb4, hb3]) (by simp only [nodupN, memNm, eblbf, eblb4, eblb3, ebfb4, ebfb3, eb4b3]) rfl (by show renVs [(bl, [0]), (bf, [1]), (b4, [2]), (b3, [3])] _ = _; simp only [renVs, renV, lookN, eqb_self, ebfbl])
    (by show renBs [(bl, [0]), (bf, [1]), (b4, [2]), (b3, [3])] _ = _; simp only [renBs, renB, renVs, renV, lookN, fl_inl, eqb_self, eb4bl, eb3bl, eb4bf, eb3bf, eb3b4]) rfl (fun _ => rfl) (fun c h => by rcases List.mem_cons.1 h with rfl | h; rfl; rcases List.mem_cons.1 h with rfl | h; rfl; cases h) (show (2 : Nat) < 200 by decide) rfl (by show renBs [([0], bl), ([1], bf), ([2], b4), ([3], b3)] _ = _; simp only [renBs, renB, renVs, renV, fl_inl]; rfl) ?_
  refine body_does rfl fun T hT' hA => ?_
  have a0 := hA 0 _ rfl
  have a1 := hA 1 _ rfl
  have hT : T.length = 19 := hT'
  clear hA hT'
  have hz : zipB (namesFrom [] 0 [bl, bf, b4, b3].length) [Blk.cells [.lst (l.map inlV)] true 0, Blk.cells [.func 109 [.ptr [2] 0]] true 0, Blk.cells [.func 104 [.ptr [3] 0]] true 0, Blk.cells [.int .i64 N] true 0] = [([0], .cells [.lst (l.map inlV)] true 0), ([1], .cells [.func 109 [.ptr [2] 0]] true 0), ([2], .cells [.func 104 [.ptr [3] 0]] true 0), ([3], .cells [.int .i64 N] true 0)] := rfl
  have hl3 : [bl, bf, b4, b3].length = 4 := rfl
  rw [hz, hl3]
  simp -implicitDefEqProofs only [go_sem, a0, hT]
  simp only [does_bind]
  refine xl_does (fun k T s' => T.length = 19 ∧ nth T 1 = some (.ptr [1] 0) ∧ nth T 6 = some (.lst (l.map inlV)) ∧ nth T 7 = some (.int .i64 l.length) ∧ ∃ (i n : Nat) (H : Heap), nth T 8 = some (.int .i64 i) ∧ i ≤ l.length ∧ k = l.length - i ∧ s' = ⟨H, n + 4, [], false, []⟩ ∧ hget H [0] = some (.cells [.lst (l.map inlV)] true 0) ∧ hget H [1] = some (.cells [.func 109 [.ptr [2] 0]] true 0) ∧ hget H [2] = some (.cells [.func 104 [.ptr [3] 0]] true 0) ∧ hget H [3] = some (.cells [.int .i64 N] true 0) ∧ firstE (fun l : Inl => atE N l.at' l.gas 100000) l = firstE (fun l : Inl => atE N l.at' l.gas 100000) (l.drop i)) (k := l.length) (by omega) ?_ ?_
  · exact ⟨by simp -implicitDefEqProofs only [go_sem, hT], by simp -implicitDefEqProofs only [go_sem, a1], by simp -implicitDefEqProofs only [go_sem, hT], by simp -implicitDefEqProofs only [go_sem, hT], 0, 0, _, by simp -implicitDefEqProofs only [go_sem, hT] <;> rfl, by omega, rfl, rfl, rfl, rfl, rfl, rfl, rfl⟩
  clear a0 a1 hT T
  rintro k T s' ⟨hT, a1, a6, a7, i, n, H, a8, hi, rfl, rfl, g0, g1, g2, g3, he⟩
  have hy : getAll H (namesFrom [] 0 4) = some [.cells [.lst (l.map inlV)] true 0, .cells [.func 109 [.ptr [2] 0]] true 0, .cells [.func 104 [.ptr [3] 0]] true 0, .cells [.int .i64 N] true 0] := by show getAll H [[0], [1], [2], [3]] = _; simp only [getAll, g0, g1, g2, g3]
  simp -implicitDefEqProofs only [go_sem, a7, a8, hT]
  by_cases hil : (i : Int) < (l.length : Int)
  · have hi' : i < l.length := by omega
    have e1 := elemAt_map (f := inlV) (l := l) (i := i) (z := 3) hi' rfl
    have hkk : l.length - (i + 1) < l.length - i := by omega
    rw [List.drop_eq_getElem_cons hi'] at he
    have hw1 : wrapF .i64 ((i : Int) + 1) = ((i + 1 : Nat) : Int) := wrap_i64 (by omega) (by omega)
    generalize l[i] = x at *
    simp only [firstE] at he
    have k0 : ∀ X, hget (([n + 4], X) :: H) [0] = _ := fun X => (hget_cons_ne _ _ (nm_ne' (by omega))).trans g0
    have k1 : ∀ X, hget (([n + 4], X) :: H) [1] = _ := fun X => (hget_cons_ne _ _ (nm_ne' (by omega))).trans g1
    have k2 : ∀ X, hget (([n + 4], X) :: H) [2] = _ := fun X => (hget_cons_ne _ _ (nm_ne' (by omega))).trans g2
    have k3 : ∀ X, hget (([n + 4], X) :: H) [3] = _ := fun X => (hget_cons_ne _ _ (nm_ne' (by omega))).trans g3
    have hy2 : ∀ X, getAll (([n + 4], X) :: H) (namesFrom [] 0 4) = some [.cells [.lst (l.map inlV)] true 0, .cells [.func 109 [.ptr [2] 0]] true 0, .cells [.func 104 [.ptr [3] 0]] true 0, .cells [.int .i64 N] true 0] := fun X => by show getAll _ [[0], [1], [2], [3]] = _; simp only [getAll, k0 X, k1 X, k2 X, k3 X]
    have hc := fun X => leakC_call x N [2] [3] (by decide) K (([n + 4], X) :: H) (n + 4 + 1) [] false [] (k2 X) (k3 X) h1 h2
    simp only [inlV, backJ_false] at hc
    by_cases c1 : atE N x.at' x.gas 100000 = 0
    · rw [if_pos c1] at he
      simp -implicitDefEqProofs only [go_sem, a1, a6, a7, a8, hT, hil, e1, hc, c1, hw1, k1]
      exact ⟨l.length - (i + 1), hkk, trivial, trivial, trivial, trivial, i + 1, n + 1, _, rfl, hi', rfl, rfl, k0 _, k1 _, k2 _, k3 _, he⟩
    · rw [if_neg c1] at he
      simp -implicitDefEqProofs only [go_sem, a1, a6, a8, hT, hil, e1, hc, c1, k1, he, Try.results156]
      exact ⟨trivial, hy2 _⟩
  · have hie : i = l.length := by omega
    subst hie
    rw [List.drop_length] at he
    simp only [firstE] at he
    simp -implicitDefEqProofs only [go_sem, hT, hil, he, Try.results156]
    exact ⟨trivial, hy⟩
theorem evG_call (l : List Gtr) (N : Int) (bl bf b4 b3 : Nm) (nblbf : bl ≠ bf) (nblb4 : bl ≠ b4) (nblb3 : bl ≠ b3) (nbfb4 : bf ≠ b4) (nbfb3 : bf ≠ b3) (nb4b3 : b4 ≠ b3) (K : Nat) (H : Heap) (n : Nat) (p : Nm) (jr : Bool) (j : Delta) (hbl : hget H bl = some (.cells [.lst (l.map gtrV)] true 0)) (hbf : hget H bf = some (.cells [.func 110 [.ptr b4 0]] true 0)) (hb4 : hget H b4 = some (.cells [.func 104 [.ptr b3 0]] true 0)) (hb3 : hget H b3 = some (.cells [.int .i64 N] true 0)) (h1 : 0 ≤ N) (h2 : N ≤ 9223372036854775807) (hK : 20 < K) (hl : l.length < K) (hl2 : l.length ≤ 9223372036854775807) :
    acall cfg (K + 4) 157 [.ptr bl 0, .ptr bf 0] ⟨H, n, p, jr, j⟩ = .ret (.int .i64 (firstE (getE N) l), ⟨H, n, p, jr, backJ jr [bl, bf, b4, b3] [.cells [.lst (l.map gtrV)] true 0, .cells [.func 110 [.ptr b4 0]] true 0, .cells [.func 104 [.ptr b3 0]] true 0, .cells [.int .i64 N] true 0] j⟩) := by
  have eblbf := eqb_ne nblbf
  have ebfbl := eqb_ne (Ne.symm nblbf)
  have eblb4 := eqb_ne nblb4
  have eb4bl := eqb_ne (Ne.symm nblb4)
  have eblb3 := eqb_ne nblb3
  have eb3bl := eqb_ne (Ne.symm nblb3)
  have ebfb4 := eqb_ne nbfb4
  have eb4bf := eqb_ne (Ne.symm nbfb4)
  have ebfb3 := eqb_ne nbfb3
  have eb3bf := eqb_ne (Ne.symm nbfb3)
  have eb4b3 := eqb_ne nb4b3
  have eb3b4 := eqb_ne (Ne.symm nb4b3)
  refine call3_ro (bs := [bl, bf, b4, b3]) (xs := [.cells [.lst (l.map gtrV)] true 0, .cells [.func 110 [.ptr b4 0]] true 0, .cells [.func 104 [.ptr b3 0]] true 0, .cells [.int .i64 N] true 0]) (args' := [.ptr [0] 0, .ptr [1] 0]) (xs' := [.cells [.lst (l.map gtrV)] true 0, .cells [.func 110 [.ptr [2] 0]] true 0, .cells [.func 104 [.ptr [3] 0]] true 0, .cells [.int .i64 N] true 0]) mget157 fget157 (by show lendM (199 + 1) [bl, bf] [] [] _ = _; rw [lend1 199 rfl hbl]; show lendM (198 + 1) [bf] [bl] [_] _ = _; rw [lend1 198 (by simp only [memNm, ebfbl]) hbf]; show lendM (197 + 1) [b4] [bl, bf] _ _ = _; rw [lend1 197 (by simp only [memNm, eb4bl, eb4bf]) hb4]; show lendM (196 + 1) [b3] [bl, bf, b4] _ _ = _; rw [lend1 196 (by simp only [memNm, eb3bl, eb3bf, eb3b4]) hb3]; exact lendM_nil 195 _ _ _) (by simp only [getAll, hbl, hbf, hb4, hb3]) (by simp only [nodupN, memNm, eblbf, eblb4, eblb3, ebfb4, ebfb3, eb4b3]) rfl (by show renVs [(bl, [0]), (bf, [1]), (b4, [2]), (b3, [3])] _ = _; simp only [renVs, renV, lookN, eqb_self, ebfbl])
    (by show renBs [(bl, [0]), (bf, [1]), (b4, [2]), (b3, [3])] _ = _; simp only [renBs, renB, renVs, renV, lookN, fl_gtr, eqb_self, eb4bl, eb3bl, eb4bf, eb3bf, eb3b4]) rfl (fun _ => rfl) (fun c h => by rcases List.mem_cons.1 h with rfl | h; rfl; rcases List.mem_cons.1 h with rfl | h; rfl; cases h) (show (2 : Nat) < 200 by decide) rfl (by show renBs [([0], bl), ([1], bf), ([2], b4), ([3], b3)] _ = _; simp only [renBs, renB, renVs, renV, fl_gtr]; rfl) ?_
  refine body_does rfl fun T hT' hA => ?_
  have a0 := hA 0 _ rfl
  have a1 := hA 1 _ rfl
  have hT : T.length = 19 := hT'
  clear hA hT'
  have hz : zipB (namesFrom [] 0 [bl, bf, b4, b3].length) [Blk.cells [.lst (l.map gtrV)] true 0, Blk.cells [.func 110 [.ptr [2] 0]] true 0, Blk.cells [.func 104 [.ptr [3] 0]] true 0, Blk.cells [.int .i64 N] true 0] = [([0], .cells [.lst (l.map gtrV)] true 0), ([1], .cells [.func 110 [.ptr [2] 0]] true 0), ([2], .cells [.func 104 [.ptr [3] 0]] true 0), ([3], .cells [.int .i64 N] true 0)] := rfl
  have hl3 : [bl, bf, b4, b3].length = 4 := rfl
  rw [hz, hl3]
  simp -implicitDefEqProofs only [go_sem, a0, hT]
  simp only [does_bind]
  refine xl_does (fun k T s' => T.length = 19 ∧ nth T 1 = some (.ptr [1] 0) ∧ nth T 6 = some (.lst (l.map gtrV)) ∧ nth T 7 = some (.int .i64 l.length) ∧ ∃ (i n : Nat) (H : Heap), nth T 8 = some (.int .i64 i) ∧ i ≤ l.length ∧ k = l.length - i ∧ s' = ⟨H, n + 4, [], false, []⟩ ∧ hget H [0] = some (.cells [.lst (l.map gtrV)] true 0) ∧ hget H [1] = some (.cells [.func 110 [.ptr [2] 0]] true 0) ∧ hget H [2] = some (.cells [.func 104 [.ptr [3] 0]] true 0) ∧ hget H [3] = some (.cells [.int .i64 N] true 0) ∧ firstE (getE N) l = firstE (getE N) (l.drop i)) (k := l.length) (by omega) ?_ ?_
  · exact ⟨by simp -implicitDefEqProofs only [go_sem, hT], by simp -implicitDefEqProofs only [go_sem, a1], by simp -implicitDefEqProofs only [go_sem, hT], by simp -implicitDefEqProofs only [go_sem, hT], 0, 0, _, by simp -implicitDefEqProofs only [go_sem, hT] <;> rfl, by omega, rfl, rfl, rfl, rfl, rfl, rfl, rfl⟩
  clear a0 a1 hT T
  rintro k T s' ⟨hT, a1, a6, a7, i, n, H, a8, hi, rfl, rfl, g0, g1, g2, g3, he⟩
  have hy : getAll H (namesFrom [] 0 4) = some [.cells [.lst (l.map gtrV)] true 0, .cells [.func 110 [.ptr [2] 0]] true 0, .cells [.func 104 [.ptr [3] 0]] true 0, .cells [.int .i64 N] true 0] := by show getAll H [[0], [1], [2], [3]] = _; simp only [getAll, g0, g1, g2, g3]
  simp -implicitDefEqProofs only [go_sem, a7, a8, hT]
  by_cases hil : (i : Int) < (l.length : Int)
  · have hi' : i < l.length := by omega
    have e1 := elemAt_map (f := gtrV) (l := l) (i := i) (z := 5) hi' rfl
    have hkk : l.length - (i + 1) < l.length - i := by omega
    rw [List.drop_eq_getElem_cons hi'] at he
    have hw1 : wrapF .i64 ((i : Int) + 1) = ((i + 1 : Nat) : Int) := wrap_i64 (by omega) (by omega)
    generalize l[i] = x at *
    simp only [firstE] at he
    have k0 : ∀ X, hget (([n + 4], X) :: H) [0] = _ := fun X => (hget_cons_ne _ _ (nm_ne' (by omega))).trans g0
    have k1 : ∀ X, hget (([n + 4], X) :: H) [1] = _ := fun X => (hget_cons_ne _ _ (nm_ne' (by omega))).trans g1
    have k2 : ∀ X, hget (([n + 4], X) :: H) [2] = _ := fun X => (hget_cons_ne _ _ (nm_ne' (by omega))).trans g2
    have k3 : ∀ X, hget (([n + 4], X) :: H) [3] = _ := fun X => (hget_cons_ne _ _ (nm_ne' (by omega))).trans g3
    have hy2 : ∀ X, getAll (([n + 4], X) :: H) (namesFrom [] 0 4) = some [.cells [.lst (l.map gtrV)] true 0, .cells [.func 110 [.ptr [2] 0]] true 0, .cells [.func 104 [.ptr [3] 0]] true 0, .cells [.int .i64 N] true 0] := fun X => by show getAll _ [[0], [1], [2], [3]] = _; simp only [getAll, k0 X, k1 X, k2 X, k3 X]
    have hc := fun X => getC_call x N [2] [3] (by decide) K (([n + 4], X) :: H) (n + 4 + 1) [] false [] (k2 X) (k3 X) h1 h2
    simp only [gtrV, backJ_false] at hc
    by_cases c1 : getE N x = 0
    · rw [if_pos c1] at he
      simp -implicitDefEqProofs only [go_sem, a1, a6, a7, a8, hT, hil, e1, hc, c1, hw1, k1]
      exact ⟨l.length - (i + 1), hkk, trivial, trivial, trivial, trivial, i + 1, n + 1, _, rfl, hi', rfl, rfl, k0 _, k1 _, k2 _, k3 _, he⟩
    · rw [if_neg c1] at he
      simp -implicitDefEqProofs only [go_sem, a1, a6, a8, hT, hil, e1, hc, c1, k1, he, Try.results157]
      exact ⟨trivial, hy2 _⟩
  · have hie : i = l.length := by omega
    subst hie
    rw [List.drop_length] at he
    simp only [firstE] at he
    simp -implicitDefEqProofs only [go_sem, hT, hil, he, Try.results157]
    exact ⟨trivial, hy⟩
end Go.Proofs.Ytgnpnfkncbnjnaa
namespace Go.Proofs.Ytgnpnfkncbnjnaa
open Go Go.Am
attribute [local congr] tr_congr does_congr all_congr
attribute [local go_sem] Go.Am.buildSliceA Go.Am.frozen Go.Am.freezeG Go.Am.freezeGs Go.Am.minmax
@[go_sem] theorem oc_nilf : ofConst .nilFunc = some .nilf := rfl
theorem every112 (l : List AV) (g : FuncId) (c : List AV) (K : Nat) (s : St) : acall cfg (K + 1) 112 [.lst l, .func g c] s = .ret (.func 153 [.ptr s.name 0, .ptr (s.new (.cells [.lst l] true 0)).name 0], (s.new (.cells [.lst l] true 0)).new (.cells [.func g c] true 0)) := by
  suffices h : (acall cfg (K + 1) 112 [.lst l, .func g c] s).Does fun x => x = (.func 153 [.ptr s.name 0, .ptr (s.new (.cells [.lst l] true 0)).name 0], (s.new (.cells [.lst l] true 0)).new (.cells [.func g c] true 0)) by
    obtain ⟨a, e, rfl⟩ := h; exact e
  rw [call0 mget112 fget112]
  refine body_does rfl fun T hT' hA => ?_
  have a0 := hA 0 _ rfl
  have a1 := hA 1 _ rfl
  have hT : T.length = 6 := hT'
  clear hA hT'
  obtain ⟨H, n, p, jr, j⟩ := s
  simp -implicitDefEqProofs only [go_sem, a0, a1, hT, Try.results112]
theorem every114 (l : List AV) (g : FuncId) (c : List AV) (K : Nat) (s : St) : acall cfg (K + 1) 114 [.lst l, .func g c] s = .ret (.func 154 [.ptr s.name 0, .ptr (s.new (.cells [.lst l] true 0)).name 0], (s.new (.cells [.lst l] true 0)).new (.cells [.func g c] true 0)) := by
  suffices h : (acall cfg (K + 1) 114 [.lst l, .func g c] s).Does fun x => x = (.func 154 [.ptr s.name 0, .ptr (s.new (.cells [.lst l] true 0)).name 0], (s.new (.cells [.lst l] true 0)).new (.cells [.func g c] true 0)) by
    obtain ⟨a, e, rfl⟩ := h; exact e
  rw [call0 mget114 fget114]
  refine body_does rfl fun T hT' hA => ?_
  have a0 := hA 0 _ rfl
  have a1 := hA 1 _ rfl
  have hT : T.length = 6 := hT'
  clear hA hT'
  obtain ⟨H, n, p, jr, j⟩ := s
  simp -implicitDefEqProofs only [go_sem, a0, a1, hT, Try.results114]
theorem every115 (l : List AV) (g : FuncId) (c : List AV) (K : Nat) (s : St) : acall cfg (K + 1) 115 [.lst l, .func g c] s = .ret (.func 155 [.ptr s.name 0, .ptr (s.new (.cells [.lst l] true 0)).name 0], (s.new (.cells [.lst l] true 0)).new (.cells [.func g c] true 0)) := by
  suffices h : (acall cfg (K + 1) 115 [.lst l, .func g c] s).Does fun x => x = (.func 155 [.ptr s.name 0, .ptr (s.new (.cells [.lst l] true 0)).name 0], (s.new (.cells [.lst l] true 0)).new (.cells [.func g c] true 0)) by
    obtain ⟨a, e, rfl⟩ := h; exact e
  rw [call0 mget115 fget115]
  refine body_does rfl fun T hT' hA => ?_
  have a0 := hA 0 _ rfl
  have a1 := hA 1 _ rfl
  have hT : T.length = 6 := hT'
  clear hA hT'
  obtain ⟨H, n, p, jr, j⟩ := s
  simp -implicitDefEqProofs only [go_sem, a0, a1, hT, Try.results115]
theorem every116 (l : List AV) (g : FuncId) (c : List AV) (K : Nat) (s : St) : acall cfg (K + 1) 116 [.lst l, .func g c] s = .ret (.func 156 [.ptr s.name 0, .ptr (s.new (.cells [.lst l] true 0)).name 0], (s.new (.cells [.lst l] true 0)).new (.cells [.func g c] true 0)) := by
  suffices h : (acall cfg (K + 1) 116 [.lst l, .func g c] s).Does fun x => x = (.func 156 [.ptr s.name 0, .ptr (s.new (.cells [.lst l] true 0)).name 0], (s.new (.cells [.lst l] true 0)).new (.cells [.func g c] true 0)) by
    obtain ⟨a, e, rfl⟩ := h; exact e
  rw [call0 mget116 fget116]
  refine body_does rfl fun T hT' hA => ?_
  have a0 := hA 0 _ rfl
  have a1 := hA 1 _ rfl
  have hT : T.length = 6 := hT'
  clear hA hT'
  obtain ⟨H, n, p, jr, j⟩ := s
  simp -implicitDefEqProofs only [go_sem, a0, a1, hT, Try.results116]
theorem every117 (l : List AV) (g : FuncId) (c : List AV) (K : Nat) (s : St) : acall cfg (K + 1) 117 [.lst l, .func g c] s = .ret (.func 157 [.ptr s.name 0, .ptr (s.new (.cells [.lst l] true 0)).name 0], (s.new (.cells [.lst l] true 0)).new (.cells [.func g c] true 0)) := by
  suffices h : (acall cfg (K + 1) 117 [.lst l, .func g c] s).Does fun x => x = (.func 157 [.ptr s.name 0, .ptr (s.new (.cells [.lst l] true 0)).name 0], (s.new (.cells [.lst l] true 0)).new (.cells [.func g c] true 0)) by
    obtain ⟨a, e, rfl⟩ := h; exact e
  rw [call0 mget117 fget117]
  refine body_does rfl fun T hT' hA => ?_
  have a0 := hA 0 _ rfl
  have a1 := hA 1 _ rfl
  have hT : T.length = 6 := hT'
  clear hA hT'
  obtain ⟨H, n, p, jr, j⟩ := s
  simp -implicitDefEqProofs only [go_sem, a0, a1, hT, Try.results117]
structure Chk' where
  f : FuncId
  c : List AV
  e : Int
  J : Delta → Delta
def Chk'.av (x : Chk') : AV := .func x.f x.c
def firstJ : List Chk' → Delta → Delta
  | [], j => j
  | x :: r, j => if x.e = 0 then firstJ r (x.J j) else x.J j
theorem firstC_call (cs : List Chk') (K : Nat) (H : Heap) (n : Nat) (p : Nm) (jr : Bool) (j : Delta) (hc : ∀ x ∈ cs, ∀ j, acall cfg K x.f x.c ⟨H, n, p, jr, j⟩ = .ret (.int .i64 x.e, ⟨H, n, p, jr, x.J j⟩))
    (hl : cs.length < K) (hl2 : cs.length ≤ 9223372036854775807) :
    acall cfg (K + 1) 111 [.lst (cs.map Chk'.av)] ⟨H, n, p, jr, j⟩ = .ret (.int .i64 (firstE Chk'.e cs), ⟨H, n, p, jr, firstJ cs j⟩) := by
  suffices h : (acall cfg (K + 1) 111 [.lst (cs.map Chk'.av)] ⟨H, n, p, jr, j⟩).Does fun x => x = (.int .i64 (firstE Chk'.e cs), ⟨H, n, p, jr, firstJ cs j⟩) by
    obtain ⟨a, e, rfl⟩ := h; exact e
  rw [call0 mget111 fget111]
  refine body_does rfl fun T hT' hA => ?_
  have a0 := hA 0 _ rfl
  have hT : T.length = 18 := hT'
  clear hA hT'
  simp -implicitDefEqProofs only [go_sem, a0, hT]
  simp only [does_bind]
  refine xl_does (fun k T s' => T.length = 18 ∧ nth T 6 = some (.lst (cs.map Chk'.av)) ∧ nth T 7 = some (.int .i64 cs.length) ∧ ∃ (i : Nat) (j2 : Delta), nth T 8 = some (.int .i64 i) ∧ i ≤ cs.length ∧ k = cs.length - i ∧ s' = ⟨H, n, p, jr, j2⟩ ∧ firstE Chk'.e cs = firstE Chk'.e (cs.drop i) ∧ firstJ cs j = firstJ (cs.drop i) j2) (k := cs.length) (by omega) ?_ ?_
  · exact ⟨by simp -implicitDefEqProofs only [go_sem, hT], by simp -implicitDefEqProofs only [go_sem, hT], by simp -implicitDefEqProofs only [go_sem, hT], 0, j, by simp -implicitDefEqProofs only [go_sem, hT] <;> rfl, by omega, rfl, rfl, rfl, rfl⟩
  clear a0 hT T
  rintro k T s' ⟨hT, a6, a7, i, j2, a8, hi, rfl, rfl, he, hj⟩
  simp -implicitDefEqProofs only [go_sem, a7, a8, hT]
  by_cases hil : (i : Int) < (cs.length : Int)
  · have hi' : i < cs.length := by omega
    have e1 := elemAt_map (f := Chk'.av) (l := cs) (i := i) (z := 1) hi' rfl
    have hkk : cs.length - (i + 1) < cs.length - i := by omega
    have hc1 := hc _ (List.getElem_mem hi')
    rw [List.drop_eq_getElem_cons hi'] at he hj
    have hw1 : wrapF .i64 ((i : Int) + 1) = ((i + 1 : Nat) : Int) := wrap_i64 (by omega) (by omega)
    generalize cs[i] = x at *
    simp only [firstE] at he
    simp only [firstJ] at hj
    simp only [Chk'.av] at e1
    by_cases c1 : x.e = 0
    · rw [if_pos c1] at he hj
      simp -implicitDefEqProofs only [go_sem, a6, a7, a8, hT, hil, e1, hc1, c1, hw1]
      exact ⟨cs.length - (i + 1), hkk, trivial, trivial, trivial, i + 1, _, rfl, hi', rfl, rfl, he, hj⟩
    · rw [if_neg c1] at he hj
      simp -implicitDefEqProofs only [go_sem, a6, a8, hT, hil, e1, hc1, c1, he, hj, Try.results111]
  · have hie : i = cs.length := by omega
    subst hie
    rw [List.drop_length] at he hj
    simp only [firstE] at he
    simp only [firstJ] at hj
    simp -implicitDefEqProofs only [go_sem, hT, hil, he, hj, Try.results111]
end Go.Proofs.Ytgnpnfkncbnjnaa
namespace Go.Proofs.Ytgnpnfkncbnjnaa
open Go Go.Am
def keysIn (P : Int → Prop) (es : List (Int × Rg)) : Prop := ∀ e ∈ es, P e.1
def KeyND : List (Int × Rg) → Prop
  | [] => True
  | e :: r => (∀ x ∈ r, x.1 ≠ e.1) ∧ KeyND r
theorem set_keys {P : Int → Prop} {k : Int} {x : Rg} (hk : P k) : ∀ {es : List (Int × Rg)}, keysIn P es → keysIn P (setS es k x)
  | [], _ => fun e he => by
    simp only [setS, List.mem_singleton] at he
    subst he; exact hk
  | a :: r, h => fun e he => by
    unfold setS at he
    split at he
    · rcases List.mem_cons.1 he with rfl | he
      · exact hk
      · exact h e (List.mem_cons_of_mem _ he)
    · rcases List.mem_cons.1 he with rfl | he
      · exact h _ List.mem_cons_self
      · exact set_keys hk (fun e he => h e (List.mem_cons_of_mem _ he)) e he
theorem set_nd {k : Int} {x : Rg} : ∀ {es : List (Int × Rg)}, KeyND es → KeyND (setS es k x)
  | [], _ => ⟨fun _ h => (by cases h), trivial⟩
  | a :: r, h => by
    unfold setS
    split
    · rename_i hk
      refine ⟨fun y hy => ?_, h.2⟩
      show y.1 ≠ k
      rw [hk]; exact h.1 y hy
    · rename_i hk
      refine ⟨?_, set_nd h.2⟩
      exact set_keys (P := fun q => q ≠ a.1) hk h.1
theorem get_mem : ∀ {es : List (Int × Rg)}, KeyND es → ∀ e ∈ es, getS es e.1 = e.2
  | [], _, _, h => by cases h
  | a :: r, hn, e, h => by
    unfold getS
    rcases List.mem_cons.1 h with rfl | h
    · rw [if_pos rfl]
    · rw [if_neg (hn.1 e h)]
      exact get_mem hn.2 e h
theorem mem_get : ∀ (es : List (Int × Rg)) (k : Int), (k, getS es k) ∈ es ∨ getS es k = ⟨0, 0⟩
  | [], _ => .inr rfl
  | a :: r, k => by
    unfold getS
    split
    · rename_i h; subst h; exact .inl List.mem_cons_self
    · rcases mem_get r k with h | h
      · exact .inl (List.mem_cons_of_mem _ h)
      · exact .inr h
theorem leaveP_ok {P : Int → Prop} (shut : List Int) : ∀ (l : List Pip) (i : Nat) (es : List (Int × Rg)), (∀ p ∈ l, P p.a ∧ P p.b) → keysIn P es → KeyND es → keysIn P (leaveP shut i es l) ∧ KeyND (leaveP shut i es l)
  | [], _, _, _, h1, h2 => ⟨h1, h2⟩
  | p :: r, i, es, h, h1, h2 => by
    unfold leaveP
    have hp := h p List.mem_cons_self
    have hr := fun q hq => h q (List.mem_cons_of_mem _ hq)
    split
    · exact leaveP_ok shut r _ _ hr h1 h2
    · exact leaveP_ok shut r _ _ hr (set_keys hp.2 (set_keys hp.1 h1)) (set_nd (set_nd h2))
theorem leaveM_ok {P : Int → Prop} : ∀ (l : List Pmp) (es : List (Int × Rg)), (∀ q ∈ l, P q.at') → keysIn P es → KeyND es → keysIn P (leaveM es l) ∧ KeyND (leaveM es l)
  | [], _, _, h1, h2 => ⟨h1, h2⟩
  | q :: r, es, h, h1, h2 => by
    unfold leaveM
    exact leaveM_ok r _ (fun x hx => h x (List.mem_cons_of_mem _ hx)) (set_keys (h q List.mem_cons_self) h1) (set_nd h2)
theorem first_zero {α : Type} {f : α → Int} : ∀ {l : List α}, firstE f l = 0 → ∀ a ∈ l, f a = 0
  | [], _, _, h => by cases h
  | x :: r, he, a, h => by
    unfold firstE at he
    split at he
    · rename_i hx
      rcases List.mem_cons.1 h with rfl | h
      · exact hx
      · exact first_zero he a h
    · contradiction
theorem at_zero {n a most : Int} {r : Rg} (h : atE n a r most = 0) : 0 ≤ a ∧ a < n := by
  unfold atE at h
  split at h
  · rename_i hc; unfold fromB at hc; simp only [decide_eq_true_eq] at hc; omega
  · exact absurd h (by decide)
theorem pip_zero {n : Int} {p : Pip} (h : pipE n p = 0) : (0 ≤ p.a ∧ p.a < n) ∧ (0 ≤ p.b ∧ p.b < n) ∧ p.a ≠ p.b ∧ spansE p.out 1000000 = 0 ∧ spansE p.back 1000000 = 0 := by
  unfold pipE at h
  split at h
  · rename_i hc
    unfold fromB at hc; simp only [decide_eq_true_eq] at hc
    split at h
    · exact absurd h (by decide)
    · rename_i hne
      split at h
      · rename_i h0; exact ⟨⟨by omega, by omega⟩, ⟨by omega, by omega⟩, hne, h0, h⟩
      · contradiction
  · exact absurd h (by decide)
theorem leave_ok (v : Vac) (shut : List Int) (h : partsE v = 0) : keysIn (fun k => 0 ≤ k ∧ k < v.vessels.length) (leaveL v shut) ∧ KeyND (leaveL v shut) := by
  unfold partsE at h
  split at h
  · rename_i h1
    split at h
    · rename_i h2
      have a := leaveP_ok (P := fun k => 0 ≤ k ∧ k < (v.vessels.length : Int)) shut v.pipes 0 [] (fun p hp => ⟨(pip_zero (first_zero h1 p hp)).1, (pip_zero (first_zero h1 p hp)).2.1⟩) (fun _ h => by cases h) trivial
      exact leaveM_ok v.pumps _ (fun q hq => at_zero (first_zero h2 q hq)) a.1 a.2
    · contradiction
  · contradiction
theorem set_len (k : Int) (x : Rg) : ∀ es : List (Int × Rg), (setS es k x).length ≤ es.length + 1
  | [] => by simp [setS]
  | a :: r => by
    unfold setS
    split
    · simp
    · simp only [List.length_cons]; have := set_len k x r; omega
theorem leaveP_len (shut : List Int) : ∀ (l : List Pip) (i : Nat) (es : List (Int × Rg)), (leaveP shut i es l).length ≤ es.length + 2 * l.length
  | [], _, es => by simp [leaveP]
  | p :: r, i, es => by
    unfold leaveP
    split
    · have := leaveP_len shut r (i + 1) es; simp only [List.length_cons]; omega
    · refine Nat.le_trans (leaveP_len shut r _ _) ?_
      have h1 := set_len p.a (plusR (getS es p.a) p.out) es
      have h2 := set_len p.b (plusR (getS (setS es p.a (plusR (getS es p.a) p.out)) p.b) p.back) (setS es p.a (plusR (getS es p.a) p.out))
      simp only [List.length_cons]; omega
theorem leaveM_len : ∀ (l : List Pmp) (es : List (Int × Rg)), (leaveM es l).length ≤ es.length + l.length
  | [], es => by simp [leaveM]
  | q :: r, es => by
    unfold leaveM
    refine Nat.le_trans (leaveM_len r _) ?_
    have h1 := set_len q.at' (plusR (getS es q.at') q.part) es
    simp only [List.length_cons]; omega
theorem leave_len (v : Vac) (shut : List Int) : (leaveL v shut).length ≤ 2 * v.pipes.length + v.pumps.length := by
  unfold leaveL
  refine Nat.le_trans (leaveM_len _ _) ?_
  have := leaveP_len shut v.pipes 0 []
  simp only [List.length_nil] at this
  omega
theorem outB_iff (v : Vac) : ∀ (k i : Nat), outB v i k = true ↔ ∃ m, i ≤ m ∧ m < i + k ∧ 1000000 < (outR v m []).hi
  | 0, i => by
    constructor
    · intro h; cases h
    · rintro ⟨m, h1, h2, _⟩; omega
  | k + 1, i => by
    unfold outB
    rw [Bool.or_eq_true, decide_eq_true_eq, outB_iff v k (i + 1)]
    constructor
    · rintro (h | ⟨m, h1, h2, h3⟩)
      · exact ⟨i, by omega, by omega, h⟩
      · exact ⟨m, by omega, by omega, h3⟩
    · rintro ⟨m, h1, h2, h3⟩
      by_cases h : m = i
      · subst h; exact .inl h3
      · exact .inr ⟨m, by omega, by omega, h3⟩
theorem over_hit (v : Vac) (h : partsE v = 0) (e : Int × Rg) (he : e ∈ leaveL v []) (hi : 1000000 < e.2.hi) : outB v 0 v.vessels.length = true := by
  obtain ⟨h1, h2⟩ := leave_ok v [] h
  rw [outB_iff]
  have hk := h1 e he
  refine ⟨e.1.toNat, by omega, by omega, ?_⟩
  rw [show ((e.1.toNat : Nat) : Int) = e.1 by omega, ← leave_get, get_mem h2 e he]
  exact hi
theorem over_none (v : Vac) (h : ∀ e ∈ leaveL v [], ¬ 1000000 < e.2.hi) : ¬ outB v 0 v.vessels.length = true := by
  rw [outB_iff]
  rintro ⟨m, _, _, hm⟩
  rw [← leave_get] at hm
  rcases mem_get (leaveL v []) m with h1 | h1
  · exact h _ h1 hm
  · rw [h1] at hm; exact absurd hm (by decide)
end Go.Proofs.Ytgnpnfkncbnjnaa
namespace Go.Proofs.Ytgnpnfkncbnjnaa
open Go Go.Am
attribute [local congr] tr_congr does_congr all_congr
attribute [local go_sem] Go.Am.buildSliceA Go.Am.frozen Go.Am.freezeG Go.Am.freezeGs
def max3 (a b c : Int) : Int := if (if a < b then b else a) < c then c else if a < b then b else a
theorem mm3 (a b c : Int) : minmax true (.int .i64 a) [.int .i64 b, .int .i64 c] = some (.int .i64 (max3 a b c)) := by
  unfold max3
  by_cases h : a < b
  · rw [if_pos h]
    by_cases h2 : b < c
    · rw [if_pos h2]; simp [minmax, h, h2]
    · rw [if_neg h2]; simp [minmax, h, h2]
  · rw [if_neg h]
    by_cases h2 : a < c
    · rw [if_pos h2]; simp [minmax, h, h2]
    · rw [if_neg h2]; simp [minmax, h, h2]
theorem max3_gt (a b c : Int) : (decide (8 < a) || decide (8 < b) || decide (8 < c)) = decide (8 < max3 a b c) := by
  rw [Bool.eq_iff_iff]; simp only [Bool.or_eq_true, decide_eq_true_eq]
  unfold max3
  split <;> split <;> omega
theorem check_call (v : Vac) (K : Nat) (s : St) (hK : 50 < K) (hv : v.Lens K) : acall cfg (K + 9) 49 [vacV v] s = .ret (.int .i64 (checkE v), s) := by
  refine call1_all mget49 fget49 (by first | rfl | simp -implicitDefEqProofs only [redoH, redo1, go_sem]) (by first | rfl | simp -implicitDefEqProofs only [go_sem]) (by first | rfl | simp -implicitDefEqProofs only [redoH, redo1, go_sem]) ?_
  refine body_all rfl fun T hT' hA => ?_
  have a0 := hA 0 _ rfl
  have hT : T.length = 77 := hT'
  clear hA hT'
  have hlc := fun s => leaving_call v [] (K + 5) s ⟨⟨by have := hv.ves.1; omega, hv.ves.2⟩, ⟨by have := hv.pip.1; omega, hv.pip.2⟩, ⟨by have := hv.pmp.1; omega, hv.pmp.2⟩, ⟨by have := hv.inl.1; omega, hv.inl.2⟩, ⟨by have := hv.gtr.1; omega, hv.gtr.2⟩, hv.bands⟩ (by simp) (by simp)
  obtain ⟨⟨hv1, hv2⟩, ⟨hp1, hp2⟩, ⟨hm1, hm2⟩, ⟨hi1, hi2⟩, ⟨hg1, hg2⟩, hbd⟩ := hv
  simp only [vacV, List.map_nil] at hlc
  have q1 : (8 : Int) < (v.vessels.length : Int) ↔ 8 < v.vessels.length := by omega
  have q2 : (16 : Int) < (v.pipes.length : Int) ↔ 16 < v.pipes.length := by omega
  have q3 : (8 : Int) < (v.pumps.length : Int) ↔ 8 < v.pumps.length := by omega
  have q4 : (8 : Int) < (v.leaks.length : Int) ↔ 8 < v.leaks.length := by omega
  have q5 : (8 : Int) < (v.getters.length : Int) ↔ 8 < v.getters.length := by omega
  unfold checkE
  simp -implicitDefEqProofs only [go_sem, a0, hT]
  by_cases c1 : v.vessels.length = 0
  · have c1' : (v.vessels.length : Int) = 0 := by omega
    rw [if_pos c1]
    simp -implicitDefEqProofs only [go_sem, hT, c1', Try.results49]
  · have c1' : ¬ (v.vessels.length : Int) = 0 := by omega
    rw [if_neg c1]
    simp -implicitDefEqProofs only [go_sem, hT, c1']
    have hov : overB v = (decide ((8 : Int) < (v.vessels.length : Int)) || decide ((16 : Int) < (v.pipes.length : Int)) || decide ((8 : Int) < (v.pumps.length : Int)) || decide ((8 : Int) < (v.leaks.length : Int)) || decide ((8 : Int) < (v.getters.length : Int))) := by
      unfold overB
      simp only [q1, q2, q3, q4, q5]
    rw [hov]
    by_cases o1 : (8 : Int) < (v.vessels.length : Int)
    · simp -implicitDefEqProofs only [go_sem, hT, o1, Bool.true_or, Try.results49]
    · by_cases o2 : (16 : Int) < (v.pipes.length : Int)
      · simp -implicitDefEqProofs only [go_sem, hT, o1, o2, Bool.true_or, Bool.or_true, Try.results49]
      · rw [show ((decide ((8 : Int) < (v.vessels.length : Int)) || decide ((16 : Int) < (v.pipes.length : Int)) || decide ((8 : Int) < (v.pumps.length : Int)) || decide ((8 : Int) < (v.leaks.length : Int)) || decide ((8 : Int) < (v.getters.length : Int)))) = decide (8 < max3 v.pumps.length v.leaks.length v.getters.length) by rw [← max3_gt, decide_eq_false o1, decide_eq_false o2]; rfl]
        simp -implicitDefEqProofs only [go_sem, hT, o1, o2, mm3]
        by_cases o3 : 8 < max3 v.pumps.length v.leaks.length v.getters.length
        · simp -implicitDefEqProofs only [go_sem, hT, o3, Try.results49]
        · clear q1 q2 q3 q4 q5 hov
          simp -implicitDefEqProofs only [go_sem, hT, o3, Bool.false_eq_true, if_false]
          have hne1 : (0 : Int) ≤ v.vessels.length := by omega
          have hN : (v.vessels.length : Int) ≤ 9223372036854775807 := by omega
          let cs : List Chk' := [⟨153, [.ptr [3, 2, 0] 0, .ptr [3, 2, 1] 0], firstE vesE v.vessels, backJ true [[3, 2, 0], [3, 2, 1]] [.cells [.lst (v.vessels.map vesV)] true 0, .cells [.func 113 []] true 0]⟩,
            ⟨154, [.ptr [3, 6, 0] 0, .ptr [3, 6, 1] 0], firstE (pipE v.vessels.length) v.pipes, backJ true [[3, 6, 0], [3, 6, 1], [1]] [.cells [.lst (v.pipes.map pipV)] true 0, .cells [.func 107 [.ptr [1] 0]] true 0, .cells [.int .i64 v.vessels.length] true 0]⟩,
            ⟨155, [.ptr [3, 10, 0] 0, .ptr [3, 10, 1] 0], firstE (fun q : Pmp => atE v.vessels.length q.at' q.part 1000000) v.pumps, backJ true [[3, 10, 0], [3, 10, 1], [2], [1]] [.cells [.lst (v.pumps.map pmpV)] true 0, .cells [.func 108 [.ptr [2] 0]] true 0, .cells [.func 104 [.ptr [1] 0]] true 0, .cells [.int .i64 v.vessels.length] true 0]⟩,
            ⟨156, [.ptr [3, 14, 0] 0, .ptr [3, 14, 1] 0], firstE (fun l : Inl => atE v.vessels.length l.at' l.gas 100000) v.leaks, backJ true [[3, 14, 0], [3, 14, 1], [2], [1]] [.cells [.lst (v.leaks.map inlV)] true 0, .cells [.func 109 [.ptr [2] 0]] true 0, .cells [.func 104 [.ptr [1] 0]] true 0, .cells [.int .i64 v.vessels.length] true 0]⟩,
            ⟨157, [.ptr [3, 18, 0] 0, .ptr [3, 18, 1] 0], firstE (getE v.vessels.length) v.getters, backJ true [[3, 18, 0], [3, 18, 1], [2], [1]] [.cells [.lst (v.getters.map gtrV)] true 0, .cells [.func 110 [.ptr [2] 0]] true 0, .cells [.func 104 [.ptr [1] 0]] true 0, .cells [.int .i64 v.vessels.length] true 0]⟩]
          have hfc : ∀ H n p, hget H [1] = some (.cells [.int .i64 v.vessels.length] true 0) → hget H [2] = some (.cells [.func 104 [.ptr [1] 0]] true 0) → hget H [3, 2, 0] = some (.cells [.lst (v.vessels.map vesV)] true 0) → hget H [3, 2, 1] = some (.cells [.func 113 []] true 0) →
              hget H [3, 6, 0] = some (.cells [.lst (v.pipes.map pipV)] true 0) → hget H [3, 6, 1] = some (.cells [.func 107 [.ptr [1] 0]] true 0) → hget H [3, 10, 0] = some (.cells [.lst (v.pumps.map pmpV)] true 0) → hget H [3, 10, 1] = some (.cells [.func 108 [.ptr [2] 0]] true 0) →
              hget H [3, 14, 0] = some (.cells [.lst (v.leaks.map inlV)] true 0) → hget H [3, 14, 1] = some (.cells [.func 109 [.ptr [2] 0]] true 0) → hget H [3, 18, 0] = some (.cells [.lst (v.getters.map gtrV)] true 0) → hget H [3, 18, 1] = some (.cells [.func 110 [.ptr [2] 0]] true 0) →
              acall cfg (K + 8) 111 [.lst (cs.map Chk'.av)] ⟨H, n, p, true, []⟩ = .ret (.int .i64 (firstE Chk'.e cs), ⟨H, n, p, true, firstJ cs []⟩) := by
            intro H n p k1 k2 v0 v1 p0 p1 m0 m1 i0 i1 q0 q1
            refine firstC_call cs (K + 7) H n p true [] (fun x hx j => ?_) (show 5 < K + 7 by omega) (show 5 ≤ 9223372036854775807 by decide)
            rcases List.mem_cons.1 hx with rfl | hx
            · exact evV_call v.vessels [3, 2, 0] [3, 2, 1] (by decide) (K + 3) H n p true j v0 v1 (by omega) (by omega) (by omega) hbd
            rcases List.mem_cons.1 hx with rfl | hx
            · exact evP_call v.pipes v.vessels.length [3, 6, 0] [3, 6, 1] [1] (by decide) (by decide) (by decide) (K + 3) H n p true j p0 p1 k1 hne1 hN (by omega) (by omega) (by omega)
            rcases List.mem_cons.1 hx with rfl | hx
            · exact evM_call v.pumps v.vessels.length [3, 10, 0] [3, 10, 1] [2] [1] (by decide) (by decide) (by decide) (by decide) (by decide) (by decide) (K + 3) H n p true j m0 m1 k2 k1 hne1 hN (by omega) (by omega) (by omega)
            rcases List.mem_cons.1 hx with rfl | hx
            · exact evI_call v.leaks v.vessels.length [3, 14, 0] [3, 14, 1] [2] [1] (by decide) (by decide) (by decide) (by decide) (by decide) (by decide) (K + 3) H n p true j i0 i1 k2 k1 hne1 hN (by omega) (by omega) (by omega)
            rcases List.mem_cons.1 hx with rfl | hx
            · exact evG_call v.getters v.vessels.length [3, 18, 0] [3, 18, 1] [2] [1] (by decide) (by decide) (by decide) (by decide) (by decide) (by decide) (K + 3) H n p true j q0 q1 k2 k1 hne1 hN (by omega) (by omega) (by omega)
            cases hx
          have hE : firstE Chk'.e cs = if firstE vesE v.vessels = 0 then partsE v else firstE vesE v.vessels := by
            simp only [cs, firstE, partsE]
            split
            · split
              · split
                · split
                  · split
                    · rename_i h; exact h.symm
                    · rfl
                  · rfl
                · rfl
              · rfl
            · rfl
          have hJ : firstE Chk'.e cs = 0 → firstJ cs [] = backJ true [[3, 18, 0], [3, 18, 1], [2], [1]] [.cells [.lst (v.getters.map gtrV)] true 0, .cells [.func 110 [.ptr [2] 0]] true 0, .cells [.func 104 [.ptr [1] 0]] true 0, .cells [.int .i64 v.vessels.length] true 0]
              (backJ true [[3, 14, 0], [3, 14, 1], [2], [1]] [.cells [.lst (v.leaks.map inlV)] true 0, .cells [.func 109 [.ptr [2] 0]] true 0, .cells [.func 104 [.ptr [1] 0]] true 0, .cells [.int .i64 v.vessels.length] true 0]
              (backJ true [[3, 10, 0], [3, 10, 1], [2], [1]] [.cells [.lst (v.pumps.map pmpV)] true 0, .cells [.func 108 [.ptr [2] 0]] true 0, .cells [.func 104 [.ptr [1] 0]] true 0, .cells [.int .i64 v.vessels.length] true 0]
              (backJ true [[3, 6, 0], [3, 6, 1], [1]] [.cells [.lst (v.pipes.map pipV)] true 0, .cells [.func 107 [.ptr [1] 0]] true 0, .cells [.int .i64 v.vessels.length] true 0]
              (backJ true [[3, 2, 0], [3, 2, 1]] [.cells [.lst (v.vessels.map vesV)] true 0, .cells [.func 113 []] true 0] [])))) := by
            simp only [cs, firstE, firstJ]
            intro h
            split at h
            · rename_i h1; rw [if_pos h1]
              split at h
              · rename_i h1; rw [if_pos h1]
                split at h
                · rename_i h1; rw [if_pos h1]
                  split at h
                  · rename_i h1; rw [if_pos h1]
                    split at h
                    · rename_i h1; rw [if_pos h1]
                    · contradiction
                  · contradiction
                · contradiction
              · contradiction
            · contradiction
          generalize firstE Chk'.e cs = E0 at *
          generalize firstJ cs [] = J0 at *
          simp only [cs, List.map_cons, List.map_nil, Chk'.av] at hfc
          clear_value cs
          simp only [Tr.all_bind]
          refine Tr.Does.all ?_
          refine draw_machH [[], [0], [1, 0], [], [3], [], [4, 3, 5, 2, 1, 0], [], [7], [], [8, 7, 9, 6, 4, 3, 5, 2, 1, 0], [], [11], [], [12, 11, 13, 10, 8, 7, 9, 6, 4, 3, 5, 2, 1, 0], [], [15], [], [16, 15, 17, 14, 12, 11, 13, 10, 8, 7, 9, 6, 4, 3, 5, 2, 1, 0], [18, 16, 15, 17, 14, 12, 11, 13, 10, 8, 7, 9, 6, 4, 3, 5, 2, 1, 0], [19, 18, 16, 15, 17, 14, 12, 11, 13, 10, 8, 7, 9, 6, 4, 3, 5, 2, 1, 0], [20, 19, 18, 16, 15, 17, 14, 12, 11, 13, 10, 8, 7, 9, 6, 4, 3, 5, 2, 1, 0]] [20] (by kernel_rfl) (by kernel_rfl) ?_
          simp -implicitDefEqProofs only [redoH, redo1, go_sem, hT, every112, every114, every115, every116, every117, hfc]
          by_cases e0 : E0 = 0
          · have hF : firstE vesE v.vessels = 0 ∧ partsE v = 0 := by
              rw [e0] at hE
              split at hE
              · rename_i h; exact ⟨h, hE.symm⟩
              · rename_i h; exact absurd hE.symm h
            rw [if_pos hF.1, if_pos hF.2]
            rw [hJ e0]
            have hrg := fun (H : Heap) (n : Nat) (hm : hget H [4] = some (.map (encE (leaveL v [])) false)) => range_map (C := cfg.at 49) (t := 181) (m := [4]) (s := ⟨H, n, [], false, []⟩) desc181 hm
            have hln := leave_len v []
            have hx3 : v.pumps.length ≤ 8 := by
              have h := max3_gt v.pumps.length v.leaks.length v.getters.length
              rw [decide_eq_false o3, Bool.or_eq_false_iff, Bool.or_eq_false_iff] at h
              have := h.1.1
              simp only [decide_eq_false_iff_not] at this
              omega
            have hx2 : v.pipes.length ≤ 16 := by omega
            clear hfc hJ hE
            generalize hes : leaveL v [] = es at *
            simp -implicitDefEqProofs only [redoH, redo1, go_sem, hT, e0, backJ, hlc, hrg]
            simp only [Tr.all_bind]
            refine xl_all (fun k T s' => T.length = 77 ∧ nth T 69 = some (.ptr [5] 0) ∧ ∃ (left : List (Int × Rg)) (cur : Option (AV × AV)) (n : Nat) (H : Heap), k = left.length ∧ s' = ⟨H, n + 6, [], false, []⟩ ∧ hget H [5] = some (.mapIter [4] (encE left) cur) ∧ hget H [4] = some (.map (encE es) true) ∧
              (∀ e ∈ es, e ∈ left ∨ ¬ 1000000 < e.2.hi) ∧ (∀ e ∈ left, e ∈ es)) (k := es.length) (by omega) ?_ ?_
            · exact ⟨by simp -implicitDefEqProofs only [go_sem, hT], by simp -implicitDefEqProofs only [go_sem, hT], es, none, 0, _, rfl, rfl, rfl, rfl, fun e h => .inl h, fun e h => h⟩
            clear a0 hT T
            rintro k T s' ⟨hT, a69, left, cur, n, H, rfl, rfl, g5, g4, hL, hS⟩
            simp -implicitDefEqProofs only [go_sem, a69]
            simp only [Tr.all_bind]
            refine next_all g5 g4 (fun h0 => ?_) (fun i hi => ?_)
            · have hn := over_none v (fun e he => by
                rw [hes] at he
                rcases hL e he with h | h
                · have h0' : left = [] := List.map_eq_nil_iff.1 h0
                  rw [h0'] at h; cases h
                · exact h)
              rw [if_neg hn]
              simp -implicitDefEqProofs only [go_sem, hT, Try.results49]
            · have hi' : i < left.length := by rw [show (encE left).length = left.length from List.length_map _] at hi; exact hi
              have hge : (encE left)[i] = (iV left[i].1, rgV left[i].2) := List.getElem_map _
              have hgd : dropAt (encE left) i = encE (dropAt left i) := drop_map _ left i
              have hdl := drop_len left i hi'
              have hdm := drop_mem left i hi'
              have hhit := over_hit v hF.2 left[i] (by rw [hes]; exact hS _ (List.getElem_mem hi'))
              rw [hge, hgd]
              generalize left[i] = e at *
              have u5 : ∀ X, hget (hset H [5] X) [5] = some X := fun X => hget_hset_same X g5
              have u4 : ∀ X, hget (hset H [5] X) [4] = some (.map (encE es) true) := fun X => (hget_hset_ne H X (by decide)).trans g4
              have w5 : ∀ X Y, hget (([n + 6], Y) :: hset H [5] X) [5] = some X := fun X Y => (hget_cons_ne _ _ (nm_ne' (by omega))).trans (u5 X)
              have w4 : ∀ X Y, hget (([n + 6], Y) :: hset H [5] X) [4] = some (.map (encE es) true) := fun X Y => (hget_cons_ne _ _ (nm_ne' (by omega))).trans (u4 X)
              have hent := entry_s (s := ⟨hset H [5] (.mapIter [4] (encE (dropAt left i)) (some (iV e.1, rgV e.2))), n + 6, [], false, []⟩) (u5 _) (u4 _)
              simp only [rgV, iV] at hent
              by_cases ov : 1000000 < e.2.hi
              · rw [if_pos (hhit ov)]
                simp -implicitDefEqProofs only [go_sem, a69, hT, hent, ov, Try.results49]
              · simp -implicitDefEqProofs only [go_sem, a69, hT, hent, ov]
                refine ⟨(dropAt left i).length, by omega, trivial, trivial, dropAt left i, _, n + 1, _, rfl, rfl, w5 _ _, w4 _ _, fun x hx => ?_, fun x hx => hS x ((hdm x).2 (.inr hx))⟩
                rcases hL x hx with h | h
                · rcases (hdm x).1 h with rfl | h
                  · exact .inr ov
                  · exact .inl h
                · exact .inr h
          · have hF : (if firstE vesE v.vessels = 0 then if partsE v = 0 then if outB v 0 v.vessels.length = true then 14 else 0 else partsE v else firstE vesE v.vessels) = E0 := by
              rw [hE]
              split
              · rename_i h
                rw [if_pos h] at hE
                rw [if_neg (by rw [← hE]; exact e0)]
              · rfl
            rw [hF]
            simp -implicitDefEqProofs only [go_sem, hT, e0, Try.results49]
end Go.Proofs.Ytgnpnfkncbnjnaa
