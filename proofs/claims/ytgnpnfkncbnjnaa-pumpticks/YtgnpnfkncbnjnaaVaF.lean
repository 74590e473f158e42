/- Gas that belongs to a system, pressures, what may be sealed, and gas made of numbers. -/
import Derived.Test.YtgnpnfkncbnjnaaVaE
import Derived.Test.YtgnpnfkncbnjnaaAmD
import Derived.Test.YtgnpnfkncbnjnaaVaA
set_option linter.unusedSimpArgs false
set_option linter.unusedVariables false
set_option maxRecDepth 100000
attribute [local go_sem_proc] Int.reduceEq Int.reduceNeg Nat.reduceEqDiff Nat.reduceLT Nat.reduceAdd Nat.reduceSub Nat.reduceMul Int.reduceLE Int.reduceLT Int.reduceToNat Nat.reduceLeDiff
attribute [local go_sem] Int.toNat_natCast Bool.not_true Bool.not_false
namespace Go.Proofs.Ytgnpnfkncbnjnaa
open Go Go.Am
attribute [local congr] tr_congr does_congr all_congr
attribute [local go_sem] Go.Am.buildSliceA Go.Am.frozen Go.Am.freezeG Go.Am.freezeGs Go.Am.minmax
def RowM (lo n : Nat) (H : Heap) (v : AV) (L : List Rg) : Prop := (L = [] ∧ v = .nils) ∨ ∃ (b c : Nat) (cs : List AV), v = .slice [b] 0 L.length c false ∧ lo ≤ b ∧ b < n ∧ hget H [b] = some (.cells cs true 2) ∧ (L ≠ [] → cs = L.flatMap rgC)
theorem flatA_rg (l : List Rg) : flatA (l.map rgV) = l.flatMap rgC := by
  induction l with
  | nil => rfl
  | cons a l ih => simp only [List.map_cons, flatA, List.flatMap_cons, ih]; rfl
theorem append_rowM {lo n : Nat} {H : Heap} {v : AV} {L : List Rg} (hv : RowM lo n H v L) (hlo : lo ≤ n) (l2 : List Rg) (hr : (L.length + l2.length) * 16 ≤ 140737488355328) (C : Cfg) (hC : C.ty = cfg.ty) :
    ∃ v' H' n', appendA C false 50 50 v (.lst (l2.map rgV)) ⟨H, n, [], false, []⟩ = .ret (v', ⟨H', n', [], false, []⟩) ∧ RowM lo n' H' v' (L ++ l2) ∧ n ≤ n' ∧ ∀ k, k < lo → hget H' [k] = hget H [k] := by
  have hd : C.desc 50 = some (.slice 26) := by unfold Cfg.desc; rw [hC]; exact desc50
  have hi : C.ty.get 26 = some ty26 := by rw [hC]; exact tget26
  have e0 : ∀ s, appendA C false 50 50 v (.lst (l2.map rgV)) s = appendTo ty26 v l2.length (l2.flatMap rgC) s := fun s => by
    unfold appendA
    rw [hd]; simp only
    rw [hi]; simp only
    have hz : ty26.zero = some (.agg [.int .i64 0, .int .i64 0]) := rfl
    rw [hz]; simp only
    have hb : Nat.beq (AV.agg [.int .i64 0, .int .i64 0]).cells.length ty26.size = true := rfl
    rw [hb]; simp only
    have hs : srcA ty26 (.agg [.int .i64 0, .int .i64 0]) (.slice 26) (.lst (l2.map rgV)) = M.ret (l2.length, l2.flatMap rgC) := by
      show (match okZ 2 (l2.map rgV) with | true => M.ret ((l2.map rgV).length, flatA (l2.map rgV)) | false => M.fail) = _
      rw [z_rg, flatA_rg, List.length_map]
    rw [hs, bind_app, ret_app, Tr.bind_ret]
  have hroom : ∀ k m, k + m = L.length + l2.length → roomy k m ty26.bytes = true := fun k m h => by
    unfold roomy
    have h16 : ty26.bytes = 16 := rfl
    rw [h16, Nat.ble_eq_true_of_le (show (k + m) * 16 ≤ 140737488355328 by rw [h]; exact hr)]
  rw [e0]
  cases l2 with
  | nil =>
    have e1 : appendTo ty26 v 0 [] = M.ret v := by
      rcases hv with ⟨_, rfl⟩ | ⟨b, c, cs, rfl, _⟩ <;> rfl
    refine ⟨v, H, n, by show appendTo ty26 v 0 [] _ = _; rw [e1]; rfl, by rw [List.append_nil]; exact hv, Nat.le_refl _, fun _ _ => rfl⟩
  | cons a r =>
    have hm : (a :: r).length = r.length + 1 := rfl
    rcases hv with ⟨rfl, rfl⟩ | ⟨b, c, cs, rfl, h1, h2, h3, h4⟩
    · refine ⟨.slice [n] 0 (a :: r).length (a :: r).length false, ([n], .cells ((a :: r).flatMap rgC) true 2) :: H, n + 1, ?_, .inr ⟨n, _, _, rfl, hlo, by omega, hget_cons_same .., fun _ => rfl⟩, by omega, fun k hk => hc11 (by omega)⟩
      unfold appendTo
      rw [hm]
      simp only
      have hr1 := hroom 0 (r.length + 1) (by simp)
      rw [hr1]; simp only
      unfold grow
      rw [bind_app, newM_app, Tr.bind_ret]
      rfl
    · refine ⟨.slice [n] 0 (L.length + (a :: r).length) (L.length + (a :: r).length) false, ([n], .cells ((L ++ a :: r).flatMap rgC) true 2) :: hdel H [b], n + 1, ?_, .inr ⟨n, _, _, by rw [List.length_append], hlo, by omega, hget_cons_same .., fun _ => rfl⟩, by omega, fun k hk => (hc11 (by omega)).trans (hd11 (by omega))⟩
      unfold appendTo
      rw [hm]
      simp only [bind_app, getM_app, h3, Tr.bind_ret]
      have hr1 := hroom L.length (r.length + 1) rfl
      rw [hr1]; simp only
      have ho : oldA cs 0 L.length ty26.size = some (L.flatMap rgC) := by
        cases L with
        | nil => rfl
        | cons x y =>
          have := h4 (by simp)
          subst this
          show readN ((x :: y).flatMap rgC) 0 ((x :: y).length * 2) = _
          exact readN_all' _ _ (rows_len _)
      rw [ho]; simp only
      have hu : Nat.beq 2 ty26.size = true := rfl
      have hu1 : Nat.ble 1 2 = true := rfl
      rw [hu]
      simp only [hu1]
      rw [bind_app, delM_app]
      simp only [h3, Tr.bind_ret]
      unfold grow
      rw [bind_app, newM_app, Tr.bind_ret, List.flatMap_append]
      rfl
theorem so_nils (s : St) : sliceOp (cfg.at 171) 50 .nils none (some (.int .i64 0)) none s = .ret (.nils, s) := by
  have h0 : (0 : Int) ≤ ((0 : Nat) : Int) := by decide
  simp -implicitDefEqProofs only [go_sem, sliceOp, h0]
theorem so_row (b : Nm) (k : Nat) (cs : List AV) (s : St) (hb : hget s.H b = some (.cells cs true 2)) : sliceOp (cfg.at 171) 50 (.slice b 0 k k false) none (some (.int .i64 0)) none s = .ret (.slice b 0 0 k false, s) := by
  have h0 : (0 : Int) ≤ (k : Int) := by omega
  simp -implicitDefEqProofs only [go_sem, sliceOp, unitM, hb, Int.le_refl, h0, Nat.sub_zero]
theorem so_new (b : Nm) (k : Nat) (cs : List AV) (H : Heap) (n : Nat) (p : Nm) (jr : Bool) (j : Delta) : sliceOp (cfg.at 171) 50 (.slice b 0 k k false) none (some (.int .i64 0)) none ⟨(b, .cells cs true 2) :: H, n, p, jr, j⟩ = .ret (.slice b 0 0 k false, ⟨(b, .cells cs true 2) :: H, n, p, jr, j⟩) :=
  so_row b k cs _ (hget_cons_same ..)
theorem roomy_of (m : Nat) (h : m ≤ 1000001) : roomy 0 m ty26.bytes = true := by
  unfold roomy
  have h16 : ty26.bytes = 16 := rfl
  rw [h16, Nat.ble_eq_true_of_le (show (0 + m) * 16 ≤ 140737488355328 by omega)]
theorem src_gen (i : TI) (z : AV) (n : Int) (m : Nat) (hw : wrapF .i64 n = (m : Int)) (hb : m * i.bytes ≤ 140737488355328) : srcA i z (.int .i64) (.int .i64 n) = M.ret (m, repeatN z.cells m) := by
  have h0' : decide ((0 : Int) ≤ (m : Int)) = true := decide_eq_true (by omega)
  have hzz : (m : Int).toNat = m := by omega
  have hb' := Nat.ble_eq_true_of_le hb
  show (match decide (0 ≤ wrapF .i64 n), Nat.ble ((wrapF .i64 n).toNat * i.bytes) 140737488355328 with
      | true, true => M.ret ((wrapF .i64 n).toNat, repeatN z.cells (wrapF .i64 n).toNat)
      | _, _ => M.fail) = _
  rw [hw, h0', hzz, hb']
theorem src_int (m : Nat) (h : m ≤ 1000001) : srcA ty26 (.agg [.int .i64 0, .int .i64 0]) (.int .i64) (.int .i64 (m : Int)) = M.ret (m, repeatN [.int .i64 0, .int .i64 0] m) :=
  src_gen ty26 _ m m (wrap_i64 (by omega) (by omega)) (show m * 16 ≤ _ by omega)
theorem ap_int (n : Nat) (s : St) (hn : n ≤ 1000000) : appendA (cfg.at 171) false 50 3 .nils (.int .i64 ((n + 1 : Nat) : Int)) s = .ret (.slice s.name 0 (n + 1) (n + 1) false, s.new (.cells (repeatN [.int .i64 0, .int .i64 0] (n + 1)) true 2)) := by
  have hr := roomy_of (n + 1) (by omega)
  have hd : (cfg.at 171).desc 50 = some (.slice 26) := desc50
  have hd3 : (cfg.at 171).desc 3 = some (.int .i64) := by kernel_rfl
  have hsrc := src_int (n + 1) (by omega)
  unfold appendA
  rw [hd, hd3]; simp only
  rw [show (cfg.at 171).ty.get 26 = some ty26 from tget26]; simp only
  rw [show ty26.zero = some (.agg [.int .i64 0, .int .i64 0]) from rfl]; simp only
  rw [show Nat.beq (AV.agg [.int .i64 0, .int .i64 0]).cells.length ty26.size = true from rfl]; simp only
  rw [hsrc, bind_app, ret_app, Tr.bind_ret]
  unfold appendTo
  simp only [hr]
  unfold grow
  rw [bind_app, newM_app, Tr.bind_ret]
  rfl
theorem grow_call (n : Nat) (K : Nat) (s : St) (hn : n ≤ 1000000) : acall cfg (K + 1) 171 [.nils, .int .i64 n] s = .ret (match n with | 0 => (.nils, s) | n + 1 => (.slice s.name 0 0 (n + 1) false, s.new (.cells (repeatN [.int .i64 0, .int .i64 0] (n + 1)) true 2))) := by
  suffices h : (acall cfg (K + 1) 171 [.nils, .int .i64 n] s).Does fun x => x = (match n with | 0 => (.nils, s) | n + 1 => (.slice s.name 0 0 (n + 1) false, s.new (.cells (repeatN [.int .i64 0, .int .i64 0] (n + 1)) true 2))) by
    obtain ⟨a, e, rfl⟩ := h; exact e
  rw [call0 mget171 fget171]
  refine body_does rfl fun T hT' hA => ?_
  have a0 := hA 0 _ rfl
  have a1 := hA 1 _ rfl
  have hT : T.length = 27 := hT'
  clear hA hT'
  obtain ⟨H, m, p, jr, j⟩ := s
  have hn0 : ¬ (n : Int) < 0 := by omega
  cases n with
  | zero =>
    have a1' : nth T 1 = some (.int .i64 0) := a1
    have hw0 : wrapF .i64 0 = 0 := rfl
    clear a1
    simp -implicitDefEqProofs only [go_sem, a0, a1', hT, hw0, Int.sub_self, Int.lt_irrefl, Try.results171]
  | succ n =>
    have h0 : (0 : Int) < ((n + 1 : Nat) : Int) := by omega
    have h0' : (0 : Int) ≤ ((n + 1 : Nat) : Int) := by omega
    have hw : wrapF .i64 (((n + 1 : Nat) : Int) - 0) = ((n + 1 : Nat) : Int) := by rw [wrap_i64 (by omega) (by omega)]; omega
    have hw2 : wrapF .i64 ((n + 1 : Nat) : Int) = ((n + 1 : Nat) : Int) := wrap_i64 (by omega) (by omega)
    have hw0 : wrapF .i64 (0 - 0) = 0 := rfl
    have hn' : n ≤ 1000000 := by omega
    have hzz : ((n + 1 : Nat) : Int).toNat = n + 1 := by omega
    simp -implicitDefEqProofs only [go_sem, a0, a1, hT, hn0, h0, hw0, hw, so_nils, so_new, ap_int, hn', Try.results171]
end Go.Proofs.Ytgnpnfkncbnjnaa
namespace Go.Proofs.Ytgnpnfkncbnjnaa
open Go Go.Am
attribute [local congr] tr_congr does_congr all_congr
attribute [local go_sem] Go.Am.buildSliceA Go.Am.minmax
def rowV (l : List Rg) : AV := .lst (l.map rgV)
@[go_sem] theorem fl_row (R : List (List Rg)) : flats (R.map rowV) = true := by
  induction R with
  | nil => rfl
  | cons a r ih =>
    show flats (AV.lst (a.map rgV) :: r.map rowV) = true
    simp only [flats, AV.flat, fl_rg, ih]
theorem frozen_rowM {lo n : Nat} {H : Heap} {v : AV} {L : List Rg} (h : RowM lo n H v L) : Go.Am.frozen H v = some (.lst (L.map rgV)) := by
  have h1 : freezeG (freezeD H 6) H v = some (.lst (L.map rgV)) := by
    rcases h with ⟨rfl, rfl⟩ | ⟨b, c, cs, rfl, _, _, hb, hcs⟩
    · rfl
    · cases L with
      | nil => rfl
      | cons x y =>
        have := hcs (by simp)
        subst this
        exact freeze_row (g := rgC) (z := 2) rgC_len (by decide) (f := rgV) (fun _ => rfl) (row := freezeD H 6) (H := H) (x :: y) (fz_row _) hb c false
  unfold Go.Am.frozen
  rw [h1]
  have h2 : (AV.lst (L.map rgV)).flat = true := by simp only [AV.flat, fl_rg]
  simp only [h2]
theorem flat_take {α : Type} (R : List (List α)) {i : Nat} (h : i < R.length) : (R.take (i + 1)).flatten = (R.take i).flatten ++ R[i] := by
  rw [List.take_succ_eq_append_getElem h, List.flatten_append]; simp
theorem flat_take_le {α : Type} (R : List (List α)) (i : Nat) : (R.take i).flatten.length ≤ R.flatten.length := by
  conv => rhs; rw [← List.take_append_drop i R, List.flatten_append, List.length_append]
  omega
theorem grow_row (n : Nat) (K : Nat) (hn : n ≤ 1000000) : ∃ v H m, acall cfg (K + 1) 171 [.nils, .int .i64 n] ⟨[], 0, [], false, []⟩ = .ret (v, ⟨H, m, [], false, []⟩) ∧ RowM 0 m H v [] := by
  cases n with
  | zero => exact ⟨_, _, _, grow_call 0 K _ hn, .inl ⟨rfl, rfl⟩⟩
  | succ m => exact ⟨_, _, _, grow_call (m + 1) K _ hn, .inr ⟨0, _, _, rfl, Nat.le_refl _, by decide, rfl, fun h => absurd rfl h⟩⟩
theorem concat_call (R : List (List Rg)) (K : Nat) (s : St) (hR : R.length < K) (hR2 : R.length ≤ 1000000) (hs : R.flatten.length ≤ 1000000) :
    acall cfg (K + 2) 133 [.lst (R.map rowV)] s = .ret (.lst (R.flatten.map rgV), s) := by
  refine call1 mget133 fget133 (by first | rfl | simp -implicitDefEqProofs only [redoH, redo1, go_sem]) (by first | rfl | simp -implicitDefEqProofs only [go_sem]) (by first | rfl | simp -implicitDefEqProofs only [go_sem]) ?_
  refine body_does rfl fun T hT' hA => ?_
  have a0 := hA 0 _ rfl
  have hT : T.length = 36 := hT'
  clear hA hT'
  simp -implicitDefEqProofs only [go_sem, a0, hT]
  simp only [does_bind]
  refine Tr.Does.mono (Q := fun x => ∃ T', x = ((AExit.exit 0, T'), s0) ∧ T'.length = 36 ∧ nth T' 0 = some (.lst (R.map rowV)) ∧ nth T' 3 = some (.int .i64 R.flatten.length)) ?_ ?_
  · refine xl_does (fun k T s' => T.length = 36 ∧ nth T 0 = some (.lst (R.map rowV)) ∧ nth T 9 = some (.lst (R.map rowV)) ∧ nth T 10 = some (.int .i64 R.length) ∧ s' = s0 ∧ ∃ i : Nat, nth T 11 = some (.int .i64 i) ∧ i ≤ R.length ∧ k = R.length - i ∧ nth T 3 = some (.int .i64 (R.take i).flatten.length)) (k := R.length) (by omega) ?_ ?_
    · exact ⟨by simp -implicitDefEqProofs only [go_sem, hT], by simp -implicitDefEqProofs only [go_sem, a0], by simp -implicitDefEqProofs only [go_sem, hT], by simp -implicitDefEqProofs only [go_sem, hT], rfl, 0, by simp -implicitDefEqProofs only [go_sem, hT] <;> rfl, by omega, rfl, by simp -implicitDefEqProofs only [go_sem, hT] <;> rfl⟩
    clear a0 hT T
    rintro k T s' ⟨hT, a0, a9, a10, rfl, i, a11, hi, rfl, a3⟩
    simp -implicitDefEqProofs only [go_sem, a10, a11, hT]
    by_cases hil : (i : Int) < (R.length : Int)
    · have hi' : i < R.length := by omega
      have e1 := elemAt_map (f := rowV) (l := R) (i := i) (z := 1) hi' rfl
      have hkk : R.length - (i + 1) < R.length - i := by omega
      have hle := flat_take_le R (i + 1)
      rw [flat_take R hi', List.length_append] at hle
      have htk : (R.take (i + 1)).flatten.length = (R.take i).flatten.length + R[i].length := by rw [flat_take R hi', List.length_append]
      generalize R[i] = x at *
      have h0 : ¬ (((R.take i).flatten.length : Int) + (x.length : Int)) < 0 := by omega
      have hw2 : wrapF .i64 (((R.take i).flatten.length : Int) + (x.length : Int)) = ((R.take i).flatten.length : Int) + (x.length : Int) := wrap_i64 (by omega) (by omega)
      have hw1 : wrapF .i64 ((i : Int) + 1) = ((i + 1 : Nat) : Int) := wrap_i64 (by omega) (by omega)
      simp only [rowV] at e1
      simp -implicitDefEqProofs only [go_sem, a0, a9, a10, a11, a3, hT, hil, e1, hw2, h0, hw1]
      refine ⟨R.length - (i + 1), hkk, trivial, trivial, trivial, trivial, trivial, i + 1, rfl, hi', rfl, ?_⟩
      rw [htk]; rfl
    · have hie : i = R.length := by omega
      subst hie
      rw [List.take_length] at a3
      simp -implicitDefEqProofs only [go_sem, hil]
      exact ⟨_, rfl, by simp -implicitDefEqProofs only [go_sem, hT], by simp -implicitDefEqProofs only [go_sem, a0], by simp -implicitDefEqProofs only [go_sem, a3]⟩
  clear a0 hT T
  rintro _ ⟨T, rfl, hT, a0, a3⟩
  obtain ⟨v, H, n, hgr, hrow⟩ := grow_row R.flatten.length K hs
  simp -implicitDefEqProofs only [go_sem, a0, a3, hT, hgr]
  simp only [does_bind]
  refine xl_does (fun k T s' => T.length = 36 ∧ nth T 25 = some (.lst (R.map rowV)) ∧ nth T 26 = some (.int .i64 R.length) ∧ ∃ (i n : Nat) (H : Heap) (v : AV), nth T 27 = some (.int .i64 i) ∧ i ≤ R.length ∧ k = R.length - i ∧ s' = ⟨H, n, [], false, []⟩ ∧ nth T 6 = some v ∧ RowM 0 n H v (R.take i).flatten) (k := R.length) (by omega) ?_ ?_
  · exact ⟨by simp -implicitDefEqProofs only [go_sem, hT], by simp -implicitDefEqProofs only [go_sem, hT], by simp -implicitDefEqProofs only [go_sem, hT], 0, n, H, v, by simp -implicitDefEqProofs only [go_sem, hT] <;> rfl, by omega, rfl, rfl, by simp -implicitDefEqProofs only [go_sem, hT], hrow⟩
  clear a0 a3 hT T hgr hrow n H v
  rintro k T s' ⟨hT, a25, a26, i, n, H, v, a27, hi, rfl, rfl, a6, hrow⟩
  simp -implicitDefEqProofs only [go_sem, a26, a27, hT]
  by_cases hil : (i : Int) < (R.length : Int)
  · have hi' : i < R.length := by omega
    have e1 := elemAt_map (f := rowV) (l := R) (i := i) (z := 1) hi' rfl
    have hkk : R.length - (i + 1) < R.length - i := by omega
    have hle := flat_take_le R (i + 1)
    rw [flat_take R hi', List.length_append] at hle
    have htk := flat_take R hi'
    generalize R[i] = x at *
    obtain ⟨v', H', n', hap, hrow', _, _⟩ := append_rowM hrow (Nat.zero_le _) x (by omega) (cfg.at 133) rfl
    have hw1 : wrapF .i64 ((i : Int) + 1) = ((i + 1 : Nat) : Int) := wrap_i64 (by omega) (by omega)
    simp only [rowV] at e1
    simp -implicitDefEqProofs only [go_sem, a25, a26, a27, a6, hT, hil, e1, hap, hw1]
    exact ⟨R.length - (i + 1), hkk, trivial, trivial, trivial, i + 1, n', H', v', rfl, hi', rfl, rfl, rfl, by rw [htk]; exact hrow'⟩
  · have hie : i = R.length := by omega
    subst hie
    rw [List.take_length] at hrow
    have hf := frozen_rowM hrow
    simp -implicitDefEqProofs only [go_sem, a6, hT, hil, Try.results133]
    exact hf
end Go.Proofs.Ytgnpnfkncbnjnaa
namespace Go.Proofs.Ytgnpnfkncbnjnaa
open Go Go.Am
attribute [local congr] tr_congr does_congr all_congr
attribute [local go_sem] Go.Am.frozen Go.Am.freezeG Go.Am.freezeGs Go.Am.minmax
def gasL (g : Gs) : List Rg := g.free ++ g.bound ++ g.room
def belongsE (v : Vac) (g : Gs) : Int :=
  if checkE v = 0 then if g.free.length ≠ v.vessels.length ∨ g.bound.length ≠ v.vessels.length ∨ g.room.length ≠ v.getters.length then 3 else
    if firstE (fun r => spansE r 68719476736) (gasL g) = 0 then if fromB g.most 0 68719476736 = true then 0 else 2 else firstE (fun r => spansE r 68719476736) (gasL g)
  else checkE v
structure Gs.Lens (g : Gs) : Prop where
  f : g.free.length ≤ 9223372036854775807
  b : g.bound.length ≤ 9223372036854775807
  r : g.room.length ≤ 9223372036854775807
theorem check_le {v : Vac} (h : checkE v = 0) : 1 ≤ v.vessels.length ∧ v.vessels.length ≤ 8 ∧ v.pipes.length ≤ 16 ∧ v.pumps.length ≤ 8 ∧ v.leaks.length ≤ 8 ∧ v.getters.length ≤ 8 := by
  unfold checkE at h
  split at h
  · exact absurd h (by decide)
  · split at h
    · exact absurd h (by decide)
    · rename_i h0 h1
      unfold overB at h1
      simp only [Bool.or_eq_true, decide_eq_true_eq] at h1
      omega
theorem belongs_call (v : Vac) (g : Gs) (K : Nat) (s : St) (hK : 100 < K) (hv : v.Lens K) (hg : g.Lens) : acall cfg (K + 11) 72 [vacV v, gsV g] s = .ret (.int .i64 (belongsE v g), s) := by
  refine call1 mget72 fget72 (by first | rfl | simp -implicitDefEqProofs only [redoH, redo1, go_sem]) (by first | rfl | simp -implicitDefEqProofs only [go_sem]) (by first | rfl | simp -implicitDefEqProofs only [redoH, redo1, go_sem]) ?_
  refine body_does rfl fun T hT' hA => ?_
  have a0 := hA 0 _ rfl
  have a1 := hA 1 _ rfl
  have hT : T.length = 62 := hT'
  clear hA hT'
  have hc := fun s => check_call v (K + 1) s (by omega) (hv.more 1)
  simp only [vacV] at hc
  unfold belongsE
  by_cases c0 : checkE v = 0
  · obtain ⟨n1, n2, _, _, _, n6⟩ := check_le c0
    rw [if_pos c0]
    have hq1 : ((g.free.length : Int) = (v.vessels.length : Int)) ↔ g.free.length = v.vessels.length := by omega
    have hq2 : ((g.bound.length : Int) = (v.vessels.length : Int)) ↔ g.bound.length = v.vessels.length := by omega
    have hq3 : ((g.room.length : Int) = (v.getters.length : Int)) ↔ g.room.length = v.getters.length := by omega
    by_cases c1 : g.free.length = v.vessels.length
    · by_cases c2 : g.bound.length = v.vessels.length
      · by_cases c3 : g.room.length = v.getters.length
        · rw [if_neg (fun h => h.elim (fun h => h c1) fun h => h.elim (fun h => h c2) fun h => h c3)]
          have hco := fun s => concat_call [g.free, g.bound, g.room] (K + 8) s (by show 3 < _; omega) (by show 3 ≤ _; omega) (by simp; omega)
          have hfl : [g.free, g.bound, g.room].flatten = gasL g := by simp [gasL]
          have hgl : (gasL g).length ≤ 24 := by unfold gasL; simp; omega
          rw [hfl] at hco
          simp only [List.map_cons, List.map_nil, rowV] at hco
          generalize gasL g = L at *
          have hbs : ∀ (x y z : List AV) s, buildSliceA (cfg.at 72) true 226 3 [(0, .lst x), (1, .lst y), (2, .lst z)] s = .ret (.lst [.lst x, .lst y, .lst z], s) := fun x y z s => by simp -implicitDefEqProofs only [go_sem, Go.Am.buildSliceA]
          simp -implicitDefEqProofs only [go_sem, a0, a1, hT, hc, c0, c1, c2, c3, hco, hbs]
          simp only [does_bind]
          refine xl_does (fun k T s' => T.length = 62 ∧ nth T 3 = some (.ptr [1] 0) ∧ nth T 46 = some (.lst (L.map rgV)) ∧ nth T 47 = some (.int .i64 L.length) ∧ ∃ (i n : Nat) (H : Heap), nth T 48 = some (.int .i64 i) ∧ i ≤ L.length ∧ k = L.length - i ∧ s' = ⟨H, n + 2, [], false, []⟩ ∧ hget H [1] = some (.cells [.lst (g.free.map rgV), .lst (g.bound.map rgV), .lst (g.room.map rgV), .int .i64 g.most, .bool g.flashed] true 0) ∧ firstE (fun r => spansE r 68719476736) L = firstE (fun r => spansE r 68719476736) (L.drop i)) (k := L.length) (by omega) ?_ ?_
          · exact ⟨by simp -implicitDefEqProofs only [go_sem, hT], by simp -implicitDefEqProofs only [go_sem, hT], by simp -implicitDefEqProofs only [go_sem, hT], by simp -implicitDefEqProofs only [go_sem, hT], 0, 0, _, by simp -implicitDefEqProofs only [go_sem, hT] <;> rfl, by omega, rfl, rfl, rfl, rfl⟩
          clear a0 a1 hT T hco hc
          rintro k T s' ⟨hT, a3, a46, a47, i, n, H, a48, hi, rfl, rfl, g1, he⟩
          simp -implicitDefEqProofs only [go_sem, a47, a48, hT]
          by_cases hil : (i : Int) < (L.length : Int)
          · have hi' : i < L.length := by omega
            have e1 := elemAt_map (f := rgV) (l := L) (i := i) (z := 2) hi' rfl
            have hkk : L.length - (i + 1) < L.length - i := by omega
            rw [List.drop_eq_getElem_cons hi'] at he
            generalize L[i] = x at *
            simp only [firstE] at he
            have hsp := fun s => spans_call x 68719476736 (K + 9) s
            have k1 : ∀ X, hget (([n + 2], X) :: H) [1] = hget H [1] := fun X => hc11 (by omega)
            simp only [rgV] at e1 hsp
            by_cases cx : spansE x 68719476736 = 0
            · rw [if_pos cx] at he
              have hw1 : wrapF .i64 ((i : Int) + 1) = ((i + 1 : Nat) : Int) := wrap_i64 (by omega) (by omega)
              simp -implicitDefEqProofs only [go_sem, a3, a46, a47, a48, hT, hil, e1, hsp, cx, hw1]
              exact ⟨L.length - (i + 1), hkk, trivial, trivial, trivial, trivial, i + 1, n + 1, _, rfl, hi', rfl, rfl, by rw [k1]; exact g1, he⟩
            · rw [if_neg cx] at he
              rw [he, if_neg cx]
              simp -implicitDefEqProofs only [go_sem, a46, a48, hT, hil, e1, hsp, cx, Try.results72]
          · have hie : i = L.length := by omega
            subst hie
            rw [List.drop_length] at he
            simp only [firstE] at he
            rw [if_pos he]
            have hfr := fun s => from_call g.most 0 68719476736 (K + 9) s
            by_cases cf : fromB g.most 0 68719476736 = true
            · rw [if_pos cf]
              simp -implicitDefEqProofs only [go_sem, a3, hT, hil, g1, hfr, cf, Try.results72]
            · rw [if_neg cf]
              simp -implicitDefEqProofs only [go_sem, a3, hT, hil, g1, hfr, cf, Try.results72]
        · rw [if_pos (.inr (.inr c3))]
          simp -implicitDefEqProofs only [go_sem, a0, a1, hT, hc, c0, hq3, c1, c2, c3, Try.results72]
      · rw [if_pos (.inr (.inl c2))]
        simp -implicitDefEqProofs only [go_sem, a0, a1, hT, hc, c0, hq2, c1, c2, Try.results72]
    · rw [if_pos (.inl c1)]
      simp -implicitDefEqProofs only [go_sem, a0, a1, hT, hc, c0, hq1, c1, Try.results72]
  · rw [if_neg c0]
    simp -implicitDefEqProofs only [go_sem, a0, a1, hT, hc, c0, Try.results72]
theorem rbelongs_call (v : Vac) (g : Gs) (K : Nat) (s : St) (hK : 100 < K) (hv : v.Lens K) (hg : g.Lens) : acall cfg (K + 11) 75 [vacV v, gsV g] s = .ret (.int .i64 (belongsE v g), s) := by
  refine call1 mget75 fget75 (by first | rfl | simp -implicitDefEqProofs only [redoH, redo1, go_sem]) (by first | rfl | simp -implicitDefEqProofs only [go_sem]) (by first | rfl | simp -implicitDefEqProofs only [redoH, redo1, go_sem]) ?_
  refine body_does rfl fun T hT' hA => ?_
  have a0 := hA 0 _ rfl
  have a1 := hA 1 _ rfl
  have hT : T.length = 67 := hT'
  clear hA hT'
  have hc := fun s => rcheck_call v (K + 6) s (by omega) (hv.more 6)
  simp only [vacV] at hc
  unfold belongsE
  by_cases c0 : checkE v = 0
  · obtain ⟨n1, n2, _, _, _, n6⟩ := check_le c0
    rw [if_pos c0]
    have hq1 : ((g.free.length : Int) = (v.vessels.length : Int)) ↔ g.free.length = v.vessels.length := by omega
    have hq2 : ((g.bound.length : Int) = (v.vessels.length : Int)) ↔ g.bound.length = v.vessels.length := by omega
    have hq3 : ((g.room.length : Int) = (v.getters.length : Int)) ↔ g.room.length = v.getters.length := by omega
    by_cases c1 : g.free.length = v.vessels.length
    · by_cases c2 : g.bound.length = v.vessels.length
      · by_cases c3 : g.room.length = v.getters.length
        · rw [if_neg (fun h => h.elim (fun h => h c1) fun h => h.elim (fun h => h c2) fun h => h c3)]
          have hgl : (gasL g).length ≤ 24 := by unfold gasL; simp; omega
          simp -implicitDefEqProofs only [go_sem, a0, a1, hT, hc, c0, c1, c2, c3]
          simp only [does_bind]
          refine Tr.Does.mono (Q := fun x => ∃ (T' : List AV) (H : Heap) (b : Nm), x = (T', (⟨H, 3, [], false, []⟩ : St)) ∧ T'.length = 67 ∧ nth T' 3 = some (.ptr [1] 0) ∧ nth T' 6 = some (.own b ((gasL g).map rgV)) ∧ hget H [1] = some (.cells [.lst (g.free.map rgV), .lst (g.bound.map rgV), .lst (g.room.map rgV), .int .i64 g.most, .bool g.flashed] true 0)) ?_ ?_
          · have f1 := fun (p : Nm) (H : Heap) => append_empty (C := cfg.at 75) (sT := 50) (l2 := g.free.map rgV) (H := H) (n := 0) (z := 2) (p := p) (jr := true) (j := []) desc50 tget26 rfl rfl rfl rfl rfl (z_rg _) (by rw [List.length_map]; show (0 + g.free.length) * 16 ≤ _; omega) (fun h => by have := congrArg List.length h; rw [List.length_map, List.length_nil] at this; omega)
            have f2 := fun (b p : Nm) (H : Heap) (hg : hget H b = some (.tok (g.free.map rgV).length 2)) => append_own (C := cfg.at 75) (sT := 50) (b := b) (l := g.free.map rgV) (l2 := g.bound.map rgV) (H := H) (n := 0) (z := 2) (p := p) (jr := true) (j := []) desc50 tget26 rfl rfl rfl rfl rfl (z_rg _) (by rw [List.length_map, List.length_map]; show (g.free.length + g.bound.length) * 16 ≤ _; omega) (fun h => by have := congrArg List.length h; rw [List.length_map, List.length_nil] at this; omega) hg
            have hbs : ∀ s, buildSliceA (cfg.at 75) true 50 0 [] s = .ret (.empty, s) := fun s => by simp -implicitDefEqProofs only [go_sem, Go.Am.buildSliceA]
            cases hro : g.room with
            | nil =>
              have hgl2 : (gasL g).map rgV = g.free.map rgV ++ g.bound.map rgV := by unfold gasL; rw [hro]; simp
              have f3 := fun (b : Nm) (s : St) => append_none (C := cfg.at 75) (sT := 50) (b := b) (l := g.free.map rgV ++ g.bound.map rgV) (s := s) desc50 tget26 rfl rfl
              rw [hgl2]
              generalize g.free.map rgV = F at *
              generalize g.bound.map rgV = B at *
              try simp only [does_bind]
              refine draw_machX [[], [], [1], [0, 2, 1], [], [4], [5, 4, 3, 0, 2, 1], [], [7], [8, 7, 6, 5, 4, 3, 0, 2, 1], [9, 8, 7, 6, 5, 4, 3, 0, 2, 1]] [[], [], [], [], [], [], [[2, 3, 0]], [], [], [], []] (by kernel_rfl) rfl rfl ?_
              simp -implicitDefEqProofs only [go_sem, hget_redoH, lk_same, Option.getD_some, hT, hbs, f1, f2, f3, sameW_self, List.map_nil]
              exact ⟨_, _, [2, 6, 0], rfl, by simp -implicitDefEqProofs only [go_sem, hT], by simp -implicitDefEqProofs only [go_sem, hT], by simp -implicitDefEqProofs only [go_sem, hT], by simp (disch := omega) only [hget_cons_same, hget_redoH, lkn, lk31, Option.getD_none] <;> rfl⟩
            | cons x r =>
              have hgl2 : (gasL g).map rgV = g.free.map rgV ++ g.bound.map rgV ++ (x :: r).map rgV := by unfold gasL; rw [hro]; simp
              have hrl : (x :: r).length ≤ 8 := by rw [← hro]; omega
              have f3 := fun (b p : Nm) (H : Heap) (hg : hget H b = some (.tok (g.free.map rgV ++ g.bound.map rgV).length 2)) => append_own (C := cfg.at 75) (sT := 50) (b := b) (l := g.free.map rgV ++ g.bound.map rgV) (l2 := (x :: r).map rgV) (H := H) (n := 0) (z := 2) (p := p) (jr := true) (j := []) desc50 tget26 rfl rfl rfl rfl rfl (z_rg _) (by rw [List.length_append, List.length_map, List.length_map, List.length_map]; show (g.free.length + g.bound.length + (x :: r).length) * 16 ≤ _; omega) (by simp) hg
              rw [hgl2]
              generalize g.free.map rgV = F at *
              generalize g.bound.map rgV = B at *
              generalize (x :: r).map rgV = R at *
              try simp only [does_bind]
              refine draw_machX [[], [], [1], [0, 2, 1], [], [4], [5, 4, 3, 0, 2, 1], [], [7], [8, 7, 6, 5, 4, 3, 0, 2, 1], [9, 8, 7, 6, 5, 4, 3, 0, 2, 1]] [[], [], [], [], [], [], [[2, 3, 0]], [], [], [[2, 6, 0]], []] (by kernel_rfl) rfl rfl ?_
              simp -implicitDefEqProofs only [go_sem, hget_redoH, lkn, lk_same, lk33k, Option.getD_some, Option.getD_none, hT, hbs, f1, f2, f3, sameW_self]
              exact ⟨_, _, [2, 9, 0], rfl, by simp -implicitDefEqProofs only [go_sem, hT], by simp -implicitDefEqProofs only [go_sem, hT], by simp -implicitDefEqProofs only [go_sem, hT], by simp (disch := omega) only [hget_cons_same, hget_redoH, lkn, lk31, Option.getD_none] <;> rfl⟩
          clear a0 a1 hT T
          rintro _ ⟨T, H, b, rfl, hT, a3, a6, g1⟩
          generalize gasL g = L at *
          simp -implicitDefEqProofs only [go_sem]
          simp only [does_bind]
          refine xl_does (fun k T s' => T.length = 67 ∧ nth T 3 = some (.ptr [1] 0) ∧ nth T 6 = some (.own b (L.map rgV)) ∧ s' = ⟨H, 3, [], false, []⟩ ∧ ∃ i : Nat, nth T 7 = some (.int .i64 i) ∧ i ≤ L.length ∧ k = L.length - i ∧ firstE (fun r => spansE r 68719476736) L = firstE (fun r => spansE r 68719476736) (L.drop i)) (k := L.length) (by omega) ?_ ?_
          · exact ⟨by simp -implicitDefEqProofs only [go_sem, hT], by simp -implicitDefEqProofs only [go_sem, a3], by simp -implicitDefEqProofs only [go_sem, a6], rfl, 0, by simp -implicitDefEqProofs only [go_sem, hT] <;> rfl, by omega, rfl, rfl⟩
          clear a3 a6 hT T hc
          rintro k T s' ⟨hT, a3, a6, rfl, i, a7, hi, rfl, he⟩
          simp -implicitDefEqProofs only [go_sem, a6, a7, hT]
          by_cases hil : (i : Int) < (L.length : Int)
          · have hi' : i < L.length := by omega
            have e1 := elemAt_map (f := rgV) (l := L) (i := i) (z := 2) hi' rfl
            have hkk : L.length - (i + 1) < L.length - i := by omega
            rw [List.drop_eq_getElem_cons hi'] at he
            generalize L[i] = x at *
            simp only [firstE] at he
            have hsp := fun s => checkRange_call x 68719476736 (K + 9) s
            simp only [rgV] at e1 hsp
            by_cases cx : spansE x 68719476736 = 0
            · rw [if_pos cx] at he
              have hw1 : wrapF .i64 ((i : Int) + 1) = ((i + 1 : Nat) : Int) := wrap_i64 (by omega) (by omega)
              simp -implicitDefEqProofs only [go_sem, a3, a6, a7, hT, hil, e1, hsp, cx, hw1]
              exact ⟨L.length - (i + 1), hkk, trivial, trivial, trivial, trivial, i + 1, rfl, hi', rfl, he⟩
            · rw [if_neg cx] at he
              rw [he, if_neg cx]
              simp -implicitDefEqProofs only [go_sem, a6, a7, hT, hil, e1, hsp, cx, Try.results75]
          · have hie : i = L.length := by omega
            subst hie
            rw [List.drop_length] at he
            simp only [firstE] at he
            rw [if_pos he]
            have hfr := fun s => within_call g.most 0 68719476736 (K + 9) s
            by_cases cf : fromB g.most 0 68719476736 = true
            · rw [if_pos cf]
              simp -implicitDefEqProofs only [go_sem, a3, hT, hil, g1, hfr, cf, Try.results75]
            · rw [if_neg cf]
              simp -implicitDefEqProofs only [go_sem, a3, hT, hil, g1, hfr, cf, Try.results75]
        · rw [if_pos (.inr (.inr c3))]
          simp -implicitDefEqProofs only [go_sem, a0, a1, hT, hc, c0, hq3, c1, c2, c3, Try.results75]
      · rw [if_pos (.inr (.inl c2))]
        simp -implicitDefEqProofs only [go_sem, a0, a1, hT, hc, c0, hq2, c1, c2, Try.results75]
    · rw [if_pos (.inl c1)]
      simp -implicitDefEqProofs only [go_sem, a0, a1, hT, hc, c0, hq1, c1, Try.results75]
  · rw [if_neg c0]
    simp -implicitDefEqProofs only [go_sem, a0, a1, hT, hc, c0, Try.results75]
end Go.Proofs.Ytgnpnfkncbnjnaa
namespace Go.Proofs.Ytgnpnfkncbnjnaa
open Go Go.Am
attribute [local congr] tr_congr does_congr all_congr
attribute [local go_sem] Go.Am.buildSliceA Go.Am.frozen Go.Am.freezeG Go.Am.freezeGs Go.Am.minmax
theorem belongs_zero {v : Vac} {g : Gs} (h : belongsE v g = 0) : checkE v = 0 ∧ g.free.length = v.vessels.length ∧ g.bound.length = v.vessels.length ∧ g.room.length = v.getters.length ∧ (∀ r ∈ gasL g, spansE r 68719476736 = 0) ∧ fromB g.most 0 68719476736 = true := by
  unfold belongsE at h
  by_cases c0 : checkE v = 0
  · rw [if_pos c0] at h
    split at h
    · exact absurd h (by decide)
    · rename_i h1
      split at h
      · rename_i h2
        split at h
        · rename_i h3
          exact ⟨c0, Decidable.byContradiction fun e => h1 (.inl e), Decidable.byContradiction fun e => h1 (.inr (.inl e)), Decidable.byContradiction fun e => h1 (.inr (.inr e)), fun r hr => first_zero h2 r hr, h3⟩
        · exact absurd h (by decide)
      · rename_i h2
        exact absurd h h2
  · rw [if_neg c0] at h
    exact absurd h c0
end Go.Proofs.Ytgnpnfkncbnjnaa
namespace Go.Proofs.Ytgnpnfkncbnjnaa
open Go Go.Am
attribute [local congr] tr_congr does_congr all_congr
attribute [local go_sem] Go.Am.buildSliceA Go.Am.frozen Go.Am.freezeG Go.Am.freezeGs Go.Am.minmax
end Go.Proofs.Ytgnpnfkncbnjnaa
namespace Go.Proofs.Ytgnpnfkncbnjnaa
open Go Go.Am
attribute [local congr] tr_congr does_congr all_congr
attribute [local go_sem] Go.Am.frozen Go.Am.freezeG Go.Am.freezeGs Go.Am.minmax
structure GasG (v : Vac) (g : Gs) : Prop where
  fl : g.free.length = v.vessels.length
  bl : g.bound.length = v.vessels.length
  rl : g.room.length = v.getters.length
  f : ∀ r ∈ g.free, RgG 30000 r
  b : ∀ r ∈ g.bound, RgG 60000 r
  r : ∀ r ∈ g.room, RgG 9000 r
  m : 0 ≤ g.most ∧ g.most ≤ 1000000
theorem bs50 (f : FuncId) (a b : Int) (s : St) : buildSliceA (cfg.at f) true 50 1 [(0, .agg [.int .i64 a, .int .i64 b])] s = .ret (.lst [.agg [.int .i64 a, .int .i64 b]], s) := by
  simp -implicitDefEqProofs only [go_sem, Go.Am.buildSliceA]
def gasC (F B R : AV) (m : Int) (fl : Bool) : Blk := .cells [F, B, R, .int .i64 m, .bool fl] true 0
def vacC (v : Vac) : Blk := .cells [.lst (v.vessels.map vesV), .lst (v.pipes.map pipV), .lst (v.pumps.map pmpV), .lst (v.leaks.map inlV), .lst (v.getters.map gtrV)] true 0
theorem gasOf_all (v : Vac) (hg : VacG v) (w : Int) (u : Nat) (K : Nat) (hK : 100 < K) :
    ∃ g w', GasG v g ∧ ∀ (b : Nm) (st : St), hget st.H b = some (.cells [.int .u64 w] true u) → acall cfg (K + 10) 70 [.ptr b 0, vacV v] st = .ret (gsV g, st.put b (.cells [.int .u64 w'] true u)) := by
  have key : ∃ g w', GasG v g ∧ (bodyA (cfg.at 70) (acall cfg (K + 9)) (around cfg (K + 9)) (K + 9 + 1) Try.f70 [.ptr [0] 0, vacV v] ⟨[([0], .cells [.int .u64 w] true u)], 1, [], false, []⟩).Does fun x => x.1.shut = gsV g ∧ hget x.2.H [0] = some (.cells [.int .u64 w'] true u) := by
    suffices h : (bodyA (cfg.at 70) (acall cfg (K + 9)) (around cfg (K + 9)) (K + 9 + 1) Try.f70 [.ptr [0] 0, vacV v] ⟨[([0], .cells [.int .u64 w] true u)], 1, [], false, []⟩).Does fun x => ∃ g w', GasG v g ∧ x.1.shut = gsV g ∧ hget x.2.H [0] = some (.cells [.int .u64 w'] true u) by
      obtain ⟨x, e, v, w', h1, h2, h3⟩ := h
      exact ⟨v, w', h1, x, e, h2, h3⟩
    refine body_does rfl fun T hT' hA => ?_
    have a0 := hA 0 _ rfl
    have a1 := hA 1 _ rfl
    have hT : T.length = 69 := hT'
    clear hA hT'
    have hn4 := hg.n4
    have hng := hg.ng
    have ot := fun H m jr j hd => one_d (H := H) (m := m) (u := u) (p := []) (jr := jr) (j := j) 2 (K + 6) hd (by decide)
    have d0 : isD u [([0], .cells [.int .u64 w] true u)] := ⟨w, rfl⟩
    simp -implicitDefEqProofs (maxDischargeDepth := 9) only [go_sem, dW_cons0, isD_cons1, dW_cons1, a0, a1, hT, ot, d0]
    generalize oneB w 2 = fl at *
    generalize nextW w = w1 at *
    clear ot d0
    simp only [does_bind]
    refine Tr.Does.mono (Q := fun x => ∃ (T' : List AV) (m : Nat) (H : Heap) (A0 A1 : AV) (F B : List Rg) (q : Int), x = ((AExit.exit 0, T'), (⟨H, m + 4, [], false, []⟩ : St)) ∧ T'.length = 69 ∧ nth T' 0 = some (.ptr [0] 0) ∧ nth T' 3 = some (.ptr [1] 0) ∧ nth T' 4 = some (.ptr [2] 0) ∧ nth T' 5 = some (.ptr [3] 0) ∧ isD u H ∧ hget H [1] = some (vacC v) ∧ hget H [2] = some (gasC .nils .nils .nils 0 false) ∧ hget H [3] = some (gasC A0 A1 .nils q fl) ∧ A0.shut = .lst (F.map rgV) ∧ A1.shut = .lst (B.map rgV) ∧ F.length = v.vessels.length ∧ B.length = v.vessels.length ∧ (∀ r ∈ F, RgG 30000 r) ∧ (∀ r ∈ B, RgG 60000 r) ∧ 0 ≤ q ∧ q ≤ 360000) ?_ ?_
    · refine xl_does (fun k T s' => T.length = 69 ∧ nth T 0 = some (.ptr [0] 0) ∧ nth T 3 = some (.ptr [1] 0) ∧ nth T 4 = some (.ptr [2] 0) ∧ nth T 5 = some (.ptr [3] 0) ∧ ∃ (i m c : Nat) (H : Heap) (F B : List Rg) (q : Int), nth T 6 = some (.int .i64 i) ∧ i ≤ v.vessels.length ∧ k = v.vessels.length - i ∧ s' = ⟨H, m + 4, [], false, []⟩ ∧ isD u H ∧ hget H [1] = some (vacC v) ∧ hget H [2] = some (gasC .nils .nils .nils 0 false) ∧ hget H [3] = some (gasC (ownV [c, 5, 0] (F.map rgV)) (ownV [c, 11, 0] (B.map rgV)) .nils q fl) ∧ (i ≠ 0 → c < m + 4 ∧ hget H [c, 5, 0] = some (.tok i 2) ∧ hget H [c, 11, 0] = some (.tok i 2)) ∧ F.length = i ∧ B.length = i ∧ (∀ r ∈ F, RgG 30000 r) ∧ (∀ r ∈ B, RgG 60000 r) ∧ 0 ≤ q ∧ q ≤ 90000 * i) (k := v.vessels.length) (by omega) ?_ ?_
      · exact ⟨by simp -implicitDefEqProofs only [go_sem, hT], by simp -implicitDefEqProofs only [go_sem, a0], by simp -implicitDefEqProofs only [go_sem, hT], by simp -implicitDefEqProofs only [go_sem, hT], by simp -implicitDefEqProofs only [go_sem, hT], 0, 0, 0, _, [], [], 0, by simp -implicitDefEqProofs only [go_sem, hT] <;> rfl, by omega, rfl, rfl, ⟨_, rfl⟩, rfl, rfl, rfl, fun h => absurd rfl h, rfl, rfl, (fun _ h => by cases h), (fun _ h => by cases h), Int.le_refl _, Int.le_refl _⟩
      clear a0 a1 hT T
      rintro k T s' ⟨hT, a0, a3, a4, a5, i, m, c, H, F, B, q, a6, hi, rfl, rfl, hd, g1, g2, g3, gt, hF, hB, hF2, hB2, hq1, hq2⟩
      simp only [vacC, gasC] at g1 g2 g3
      simp -implicitDefEqProofs only [go_sem, a3, a6, hT, g1]
      by_cases hil : (i : Int) < (v.vessels.length : Int)
      · have p1 : ∀ m p, acall cfg (K + 9) 87 [.ptr [0] 0, .int .i64 0, .int .i64 30000] ⟨H, m, p, true, []⟩ = .ret (rgV (rangeR (dW H) 0 30000), ⟨hset H [0] (.cells [.int .u64 (nextW (nextW (dW H)))] true u), m, p, true, [([0], some (.cells [.int .u64 (nextW (nextW (dW H)))] true u))]⟩) := fun m p => range_d (H := H) (m := m) (u := u) (p := p) (jr := true) (j := []) 0 30000 (K + 5) (by decide) (by decide) (by decide) hd
        have hr1 := rangeG (dW H) 30000 (by decide)
        generalize rangeR (dW H) 0 30000 = r1 at *
        generalize nextW (nextW (dW H)) = w2 at *
        have p2 : ∀ H' m p, isD u H' → dW H' = w2 → acall cfg (K + 9) 87 [.ptr [0] 0, .int .i64 0, .int .i64 60000] ⟨H', m, p, true, []⟩ = .ret (rgV (rangeR w2 0 60000), ⟨hset H' [0] (.cells [.int .u64 (nextW (nextW w2))] true u), m, p, true, [([0], some (.cells [.int .u64 (nextW (nextW w2))] true u))]⟩) := fun H' m p h1 h2 => by
          rw [← h2]; exact range_d (H := H') (m := m) (u := u) (p := p) (jr := true) (j := []) 0 60000 (K + 5) (by decide) (by decide) (by decide) h1
        have hr2 := rangeG w2 60000 (by decide)
        generalize rangeR w2 0 60000 = r2 at *
        generalize nextW (nextW w2) = w3 at *
        simp only [rgV] at p1 p2
        have hi' : i < v.vessels.length := by omega
        simp -implicitDefEqProofs only [go_sem, hil]
        simp only [does_bind]
        refine Tr.Does.mono (Q := fun x => ∃ (T' : List AV) (H2 : Heap), x = (T', (⟨H2, m + 5, [], false, []⟩ : St)) ∧ T'.length = 69 ∧ nth T' 0 = some (.ptr [0] 0) ∧ nth T' 3 = some (.ptr [1] 0) ∧ nth T' 4 = some (.ptr [2] 0) ∧ nth T' 5 = some (.ptr [3] 0) ∧ nth T' 6 = some (.int .i64 i) ∧ isD u H2 ∧ hget H2 [1] = some (vacC v) ∧ hget H2 [2] = some (gasC .nils .nils .nils 0 false) ∧ hget H2 [3] = some (gasC (ownV [m + 4, 5, 0] ((F ++ [r1]).map rgV)) (ownV [m + 4, 11, 0] ((B ++ [r2]).map rgV)) .nils q fl) ∧ hget H2 [m + 4, 5, 0] = some (.tok (i + 1) 2) ∧ hget H2 [m + 4, 11, 0] = some (.tok (i + 1) 2)) ?_ ?_
        · have hap := fun (l : List AV) (r : Rg) (n : Nat) (b p : Nm) (H : Heap) (hr : (l.length + 1) * 16 ≤ 140737488355328) (hg : l ≠ [] → hget H b = some (.tok l.length 2)) => append_abs (C := cfg.at 70) (sT := 50) (b := b) (l := l) (x := .agg [.int .i64 r.lo, .int .i64 r.hi]) (H := H) (n := n) (p := p) (jr := true) (j := []) (z := 2) desc50 tget26 rfl rfl rfl rfl rfl rfl hr hg
          have bs := fun a b s => bs50 70 a b s
          simp only [vacC, gasC]
          by_cases i0 : i = 0
          · subst i0
            obtain rfl : F = [] := List.length_eq_zero_iff.1 hF
            obtain rfl : B = [] := List.length_eq_zero_iff.1 hB
            have hap0 := fun (r : Rg) (n : Nat) (p : Nm) (H : Heap) => hap [] r n [] p H (by simp) (fun h => absurd rfl h)
            simp only [ownV, dropTok, tokJ, List.nil_append, List.length_nil, List.map_nil] at hap0 g3
            have gv : hget (hdel (hdel H [0]) [0]) [3] = hget H [3] := by rw [hd11 (by decide), hd11 (by decide)]
            have gv1 : hget (hdel H [0]) [3] = hget H [3] := hd11 (by decide)
            try simp only [does_bind]
            refine draw_machX [[], [0], [], [2], [3, 2], [1, 0, 4, 3, 2], [], [6], [], [8, 5, 1, 0, 4, 3, 2], [9, 8, 5, 1, 0, 4, 3, 2], [7, 6, 10, 9, 8, 5, 1, 0, 4, 3, 2], [5, 1, 0, 4, 3, 2, 7, 6], [12, 11, 10, 9, 8, 5, 1, 0, 4, 3, 2, 7, 6], [13, 12, 11, 10, 9, 8, 5, 1, 0, 4, 3, 2, 7, 6], [14, 13, 12, 11, 10, 9, 8, 5, 1, 0, 4, 3, 2, 7, 6]] [[], [], [], [[0]], [], [], [], [], [], [[0]], [], [], [], [[3]], [], [[3]]] (by kernel_rfl) rfl rfl ?_
            simp -implicitDefEqProofs (maxDischargeDepth := 9) only [go_sem, hget_redoH, lkn, lk_same, lk11, lk31, Option.getD_some, Option.getD_none, isD_redo0, dW_redo0, isD_redo3, dW_redo3, isD_nil, dW_nil, a0, a5, hT, g3, gv, gv1, p1, p2, bs, hap0 r1, hap0 r2, sameW_self]
            refine ⟨_, _, rfl, by simp -implicitDefEqProofs only [go_sem, hT], by simp -implicitDefEqProofs only [go_sem, a0], by simp -implicitDefEqProofs only [go_sem, a3], by simp -implicitDefEqProofs only [go_sem, a4], by simp -implicitDefEqProofs only [go_sem, a5], by simp -implicitDefEqProofs only [go_sem, a6], by simp only [isD_redo0, isD_redo1, isD_redo3], ?_, ?_, ?_, ?_, ?_⟩
            · simp (disch := omega) only [hget_redoH, lkn, lk11, lk31, Option.getD_none, g1]
            · simp (disch := omega) only [hget_redoH, lkn, lk11, lk31, Option.getD_none, g2]
            · simp (disch := omega) only [hget_redoH, lk_same, Option.getD_some] <;> rfl
            · simp (disch := omega) only [hget_redoH, lk_same, lk13, lk33k, Option.getD_some] <;> rfl
            · simp (disch := omega) only [hget_redoH, lk_same, lk13, Option.getD_some] <;> rfl
          · obtain ⟨hc, t1, t2⟩ := gt i0
            have n1 : F.map rgV ≠ [] := fun e => i0 (by rw [← hF, ← List.length_map (f := rgV), e]; rfl)
            have n2 : B.map rgV ≠ [] := fun e => i0 (by rw [← hB, ← List.length_map (f := rgV), e]; rfl)
            have hl1 : (F.map rgV).length = i := by rw [List.length_map]; exact hF
            have hl2 : (B.map rgV).length = i := by rw [List.length_map]; exact hB
            have m1 : (F ++ [r1]).map rgV = F.map rgV ++ [.agg [.int .i64 r1.lo, .int .i64 r1.hi]] := by rw [List.map_append]; rfl
            have m2 : (B ++ [r2]).map rgV = B.map rgV ++ [.agg [.int .i64 r2.lo, .int .i64 r2.hi]] := by rw [List.map_append]; rfl
            rw [m1, m2]
            generalize F.map rgV = RF at *
            generalize B.map rgV = RB at *
            have hapF := fun (n : Nat) (p : Nm) (H : Heap) (hg : hget H [c, 5, 0] = some (.tok i 2)) => hap RF r1 n [c, 5, 0] p H (by omega) (fun _ => by rw [hl1]; exact hg)
            have hapB := fun (n : Nat) (p : Nm) (H : Heap) (hg : hget H [c, 11, 0] = some (.tok i 2)) => hap RB r2 n [c, 11, 0] p H (by omega) (fun _ => by rw [hl2]; exact hg)
            have o1 : ∀ b, ownV b RF = .own b RF := fun b => by cases RF with | nil => exact absurd rfl n1 | cons a r => rfl
            have o2 : ∀ b, ownV b RB = .own b RB := fun b => by cases RB with | nil => exact absurd rfl n2 | cons a r => rfl
            have o3 : ∀ b j, tokJ RF b j = (b, none) :: j := fun b j => by cases RF with | nil => exact absurd rfl n1 | cons a r => rfl
            have o4 : ∀ b j, tokJ RB b j = (b, none) :: j := fun b j => by cases RB with | nil => exact absurd rfl n2 | cons a r => rfl
            have o5 : ∀ b H, dropTok RF b H = hdel H b := fun b H => by cases RF with | nil => exact absurd rfl n1 | cons a r => rfl
            have o6 : ∀ b H, dropTok RB b H = hdel H b := fun b H => by cases RB with | nil => exact absurd rfl n2 | cons a r => rfl
            simp only [o1, o2, o3, o4, o5, o6, ownV_snoc, hl1, hl2] at hapF hapB g3
            simp only [ownV_snoc]
            have gv0 : ∀ X : Heap, hget (hdel X [0]) [3] = hget X [3] := fun X => hd11 (by decide)
            have gv5 : ∀ X : Heap, hget (hdel X [c, 5, 0]) [3] = hget X [3] := fun X => hd31
            have nc : (m + 4 = c) = False := eq_false (by omega)
            try simp only [does_bind]
            refine draw_machX [[], [0], [], [2], [3, 2], [1, 0, 4, 3, 2], [], [6], [], [8, 5, 1, 0, 4, 3, 2], [9, 8, 5, 1, 0, 4, 3, 2], [7, 6, 10, 9, 8, 5, 1, 0, 4, 3, 2], [5, 1, 0, 4, 3, 2, 7, 6], [12, 11, 10, 9, 8, 5, 1, 0, 4, 3, 2, 7, 6], [13, 12, 11, 10, 9, 8, 5, 1, 0, 4, 3, 2, 7, 6], [14, 13, 12, 11, 10, 9, 8, 5, 1, 0, 4, 3, 2, 7, 6]] [[], [], [], [[0]], [], [[c, 5, 0]], [], [], [], [[0]], [], [[c, 11, 0]], [], [[3]], [], [[3]]] (by kernel_rfl) rfl rfl ?_
            simp -implicitDefEqProofs (maxDischargeDepth := 9) only [go_sem, hget_redoH, lkn, lk_same, lk11, lk13, lk31, lk33, lk33k, Option.getD_some, Option.getD_none, isD_redo0, dW_redo0, isD_redo3, dW_redo3, isD_nil, dW_nil, a0, a5, hT, g3, gv0, gv5, t1, t2, p1, p2, bs, hapF, hapB, nc, sameW_self]
            refine ⟨_, _, rfl, by simp -implicitDefEqProofs only [go_sem, hT], by simp -implicitDefEqProofs only [go_sem, a0], by simp -implicitDefEqProofs only [go_sem, a3], by simp -implicitDefEqProofs only [go_sem, a4], by simp -implicitDefEqProofs only [go_sem, a5], by simp -implicitDefEqProofs only [go_sem, a6], by simp only [isD_redo0, isD_redo1, isD_redo3], ?_, ?_, ?_, ?_, ?_⟩
            · simp (disch := omega) only [hget_redoH, lkn, lk11, lk31, Option.getD_none, g1]
            · simp (disch := omega) only [hget_redoH, lkn, lk11, lk31, Option.getD_none, g2]
            · simp (disch := omega) only [hget_redoH, lk_same, Option.getD_some] <;> rfl
            · simp (disch := omega) only [hget_redoH, lk_same, lk13, lk33, lk33k, Option.getD_some] <;> rfl
            · simp (disch := omega) only [hget_redoH, lk_same, lk13, Option.getD_some] <;> rfl
        clear a0 a3 a4 a5 a6 hT T hd g1 g2 g3 gt H p1 p2
        rintro _ ⟨T, H, rfl, hT, a0, a3, a4, a5, a6, hd, g1, g2, g3, t1, t2⟩
        have e1 := elemAt_map (f := rgV) (l := F ++ [r1]) (i := i) (z := 2) (by simp; omega) rfl
        have e2 := elemAt_map (f := rgV) (l := B ++ [r2]) (i := i) (z := 2) (by simp; omega) rfl
        have x1 : (F ++ [r1])[i]'(by simp; omega) = r1 := by subst hF; simp
        have x2 : (B ++ [r2])[i]'(by simp; omega) = r2 := by subst hB; simp
        rw [x1] at e1
        rw [x2] at e2
        clear x1 x2
        have hF3 : ∀ r ∈ F ++ [r1], RgG 30000 r := by
          intro r hr
          rcases List.mem_append.1 hr with hr | hr
          · exact hF2 r hr
          · rw [List.mem_singleton] at hr; rw [hr]; exact hr1
        have hB3 : ∀ r ∈ B ++ [r2], RgG 60000 r := by
          intro r hr
          rcases List.mem_append.1 hr with hr | hr
          · exact hB2 r hr
          · rw [List.mem_singleton] at hr; rw [hr]; exact hr2
        have hF4 : (F ++ [r1]).length = i + 1 := by simp; omega
        have hB4 : (B ++ [r2]).length = i + 1 := by simp; omega
        have hq3 : 0 ≤ q + r1.hi + r2.hi := by have := hr1.lo; have := hr1.le; have := hr2.lo; have := hr2.le; omega
        have hq4 : q + r1.hi + r2.hi ≤ 90000 * ((i + 1 : Nat) : Int) := by have := hr1.hi; have := hr2.hi; omega
        have hkk : v.vessels.length - (i + 1) < v.vessels.length - i := by omega
        have hlt : m + 4 < (m + 2) + 4 := by omega
        rw [ownV_map_snoc, ownV_map_snoc] at g3
        have o1 : ∀ b, ownV b ((F ++ [r1]).map rgV) = .own b ((F ++ [r1]).map rgV) := fun b => ownV_map_snoc _ _ _ _
        have o2 : ∀ b, ownV b ((B ++ [r2]).map rgV) = .own b ((B ++ [r2]).map rgV) := fun b => ownV_map_snoc _ _ _ _
        generalize F ++ [r1] = FF at *
        generalize B ++ [r2] = BB at *
        have hw1 : wrapF .i64 (q + r1.hi) = q + r1.hi := wrap_i64 (by have := hr1.lo; have := hr1.le; omega) (by have := hr1.hi; omega)
        have hw2 : wrapF .i64 (q + r1.hi + r2.hi) = q + r1.hi + r2.hi := wrap_i64 (by omega) (by omega)
        have hw3 : wrapF .i64 ((i : Int) + 1) = ((i + 1 : Nat) : Int) := wrap_i64 (by omega) (by omega)
        simp only [vacC, gasC, rgV] at g1 g2 g3 e1 e2
        simp -implicitDefEqProofs only [go_sem]
        try simp only [does_bind]
        refine draw_machX [[], [0], [], [2], [], [3, 2, 4], [5, 3, 2, 4], [6, 5, 3, 2, 4], [1, 0, 7, 6, 5, 3, 2, 4], [], [9], [], [10, 9, 11], [12, 10, 9, 11], [13, 12, 10, 9, 11], [8, 1, 0, 7, 6, 5, 3, 2, 4, 14, 13, 12, 10, 9, 11], [15, 8, 1, 0, 7, 6, 5, 3, 2, 4, 14, 13, 12, 10, 9, 11], [16, 15, 8, 1, 0, 7, 6, 5, 3, 2, 4, 14, 13, 12, 10, 9, 11]] [[], [], [], [], [], [], [], [], [], [], [], [], [], [], [], [], [], [[3]]] (by kernel_rfl) rfl rfl ?_
        simp -implicitDefEqProofs only [go_sem, Option.getD_some, a0, a3, a4, a5, a6, hT, g3, e1, e2, hw1, hw2, hw3, sameW_self]
        refine ⟨v.vessels.length - (i + 1), hkk, trivial, trivial, trivial, trivial, trivial, i + 1, m + 2, m + 4, _, FF, BB, q + r1.hi + r2.hi, rfl, hi', rfl, rfl, ?_, ?_, ?_, ?_, fun _ => ⟨hlt, ?_, ?_⟩, hF4, hB4, hF3, hB3, hq3, hq4⟩
        all_goals clear hw1 hw2 hw3
        · simp only [isD_redo1, isD_nil, hd]
        · simp (disch := omega) only [hget_redoH, lkn, lk11, Option.getD_none, g1]; rfl
        · simp (disch := omega) only [hget_redoH, lkn, lk11, Option.getD_none, g2]; rfl
        · rw [o1, o2]; simp (disch := omega) only [hget_redoH, lk_same, Option.getD_some]; rfl
        · simp (disch := omega) only [hget_redoH, lkn, lk13, Option.getD_none, t1]
        · simp (disch := omega) only [hget_redoH, lkn, lk13, Option.getD_none, t2]
      · have hie : i = v.vessels.length := by omega
        subst hie
        simp -implicitDefEqProofs only [go_sem, hil]
        exact ⟨_, m, H, _, _, F, B, q, rfl, by simp -implicitDefEqProofs only [go_sem, hT], by simp -implicitDefEqProofs only [go_sem, a0], by simp -implicitDefEqProofs only [go_sem, a3], by simp -implicitDefEqProofs only [go_sem, a4], by simp -implicitDefEqProofs only [go_sem, a5], hd, g1, g2, g3, shut_ownV _ _, shut_ownV _ _, hF, hB, hF2, hB2, hq1, by omega⟩
    clear a0 a1 hT T
    rintro _ ⟨T, m, H, A0, A1, F, B, q, rfl, hT, a0, a3, a4, a5, hd, g1, g2, g3, hA0, hA1, hF, hB, hF2, hB2, hq1, hq2⟩
    simp -implicitDefEqProofs only [go_sem]
    simp only [does_bind]
    refine Tr.Does.mono (Q := fun x => ∃ (T' : List AV) (m : Nat) (H : Heap) (A2 : AV) (R : List Rg), x = ((AExit.exit 2, T'), (⟨H, m + 4, [], false, []⟩ : St)) ∧ T'.length = 69 ∧ nth T' 0 = some (.ptr [0] 0) ∧ nth T' 3 = some (.ptr [1] 0) ∧ nth T' 4 = some (.ptr [2] 0) ∧ nth T' 5 = some (.ptr [3] 0) ∧ isD u H ∧ hget H [2] = some (gasC .nils .nils .nils 0 false) ∧ hget H [3] = some (gasC A0 A1 A2 q fl) ∧ A2.shut = .lst (R.map rgV) ∧ R.length = v.getters.length ∧ (∀ r ∈ R, RgG 9000 r)) ?_ ?_
    · refine xl_does (fun k T s' => T.length = 69 ∧ nth T 0 = some (.ptr [0] 0) ∧ nth T 3 = some (.ptr [1] 0) ∧ nth T 4 = some (.ptr [2] 0) ∧ nth T 5 = some (.ptr [3] 0) ∧ ∃ (i m c : Nat) (H : Heap) (R : List Rg), nth T 7 = some (.int .i64 i) ∧ i ≤ v.getters.length ∧ k = v.getters.length - i ∧ s' = ⟨H, m + 4, [], false, []⟩ ∧ isD u H ∧ hget H [1] = some (vacC v) ∧ hget H [2] = some (gasC .nils .nils .nils 0 false) ∧ hget H [3] = some (gasC A0 A1 (ownV [c, 5, 0] (R.map rgV)) q fl) ∧ (i ≠ 0 → c < m + 4 ∧ hget H [c, 5, 0] = some (.tok i 2)) ∧ R.length = i ∧ (∀ r ∈ R, RgG 9000 r)) (k := v.getters.length) (by omega) ?_ ?_
      · exact ⟨by simp -implicitDefEqProofs only [go_sem, hT], by simp -implicitDefEqProofs only [go_sem, a0], by simp -implicitDefEqProofs only [go_sem, a3], by simp -implicitDefEqProofs only [go_sem, a4], by simp -implicitDefEqProofs only [go_sem, a5], 0, m, 0, H, [], by simp -implicitDefEqProofs only [go_sem, hT] <;> rfl, by omega, rfl, rfl, hd, g1, g2, g3, fun h => absurd rfl h, rfl, (fun _ h => by cases h)⟩
      clear a0 a3 a4 a5 hT T hd g1 g2 g3 m H
      rintro k T s' ⟨hT, a0, a3, a4, a5, i, m, c, H, R, a7, hi, rfl, rfl, hd, g1, g2, g3, gt, hR, hR2⟩
      simp only [vacC, gasC] at g1 g2 g3
      simp -implicitDefEqProofs only [go_sem, a3, a7, hT, g1]
      by_cases hil : (i : Int) < (v.getters.length : Int)
      · have p1 : ∀ m p, acall cfg (K + 9) 87 [.ptr [0] 0, .int .i64 0, .int .i64 9000] ⟨H, m, p, true, []⟩ = .ret (rgV (rangeR (dW H) 0 9000), ⟨hset H [0] (.cells [.int .u64 (nextW (nextW (dW H)))] true u), m, p, true, [([0], some (.cells [.int .u64 (nextW (nextW (dW H)))] true u))]⟩) := fun m p => range_d (H := H) (m := m) (u := u) (p := p) (jr := true) (j := []) 0 9000 (K + 5) (by decide) (by decide) (by decide) hd
        have hr1 := rangeG (dW H) 9000 (by decide)
        generalize rangeR (dW H) 0 9000 = r1 at *
        generalize nextW (nextW (dW H)) = w2 at *
        simp only [rgV] at p1
        have hi' : i < v.getters.length := by omega
        simp -implicitDefEqProofs only [go_sem, hil]
        simp only [does_bind]
        refine Tr.Does.mono (Q := fun x => ∃ (T' : List AV) (H2 : Heap), x = (T', (⟨H2, m + 5, [], false, []⟩ : St)) ∧ T'.length = 69 ∧ nth T' 0 = some (.ptr [0] 0) ∧ nth T' 3 = some (.ptr [1] 0) ∧ nth T' 4 = some (.ptr [2] 0) ∧ nth T' 5 = some (.ptr [3] 0) ∧ nth T' 7 = some (.int .i64 i) ∧ isD u H2 ∧ hget H2 [1] = some (vacC v) ∧ hget H2 [2] = some (gasC .nils .nils .nils 0 false) ∧ hget H2 [3] = some (gasC A0 A1 (ownV [m + 4, 5, 0] ((R ++ [r1]).map rgV)) q fl) ∧ hget H2 [m + 4, 5, 0] = some (.tok (i + 1) 2)) ?_ ?_
        · have hap := fun (l : List AV) (r : Rg) (n : Nat) (b p : Nm) (H : Heap) (hr : (l.length + 1) * 16 ≤ 140737488355328) (hg : l ≠ [] → hget H b = some (.tok l.length 2)) => append_abs (C := cfg.at 70) (sT := 50) (b := b) (l := l) (x := .agg [.int .i64 r.lo, .int .i64 r.hi]) (H := H) (n := n) (p := p) (jr := true) (j := []) (z := 2) desc50 tget26 rfl rfl rfl rfl rfl rfl hr hg
          have bs := fun a b s => bs50 70 a b s
          have gv0 : ∀ X : Heap, hget (hdel X [0]) [3] = hget X [3] := fun X => hd11 (by decide)
          simp only [vacC, gasC]
          by_cases i0 : i = 0
          · subst i0
            obtain rfl : R = [] := List.length_eq_zero_iff.1 hR
            have hap0 := fun (r : Rg) (n : Nat) (p : Nm) (H : Heap) => hap [] r n [] p H (by simp) (fun h => absurd rfl h)
            simp only [ownV, dropTok, tokJ, List.nil_append, List.length_nil, List.map_nil] at hap0 g3
            try simp only [does_bind]
            refine draw_machX [[], [0], [], [2], [3, 2], [1, 0, 4, 3, 2], [5, 1, 0, 4, 3, 2], [6, 5, 1, 0, 4, 3, 2]] [[], [], [], [[0]], [], [], [], [[3]]] (by kernel_rfl) rfl rfl ?_
            simp -implicitDefEqProofs only [go_sem, hget_redoH, lkn, lk11, lk31, Option.getD_some, Option.getD_none, a0, a5, hT, g3, gv0, p1, bs, hap0 r1, sameW_self]
            refine ⟨_, _, rfl, by simp -implicitDefEqProofs only [go_sem, hT], by simp -implicitDefEqProofs only [go_sem, a0], by simp -implicitDefEqProofs only [go_sem, a3], by simp -implicitDefEqProofs only [go_sem, a4], by simp -implicitDefEqProofs only [go_sem, a5], by simp -implicitDefEqProofs only [go_sem, a7], by simp only [isD_redo0, isD_redo1, isD_redo3], ?_, ?_, ?_, ?_⟩
            · simp (disch := omega) only [hget_redoH, lkn, lk11, lk31, Option.getD_none, g1]
            · simp (disch := omega) only [hget_redoH, lkn, lk11, lk31, Option.getD_none, g2]
            · simp (disch := omega) only [hget_redoH, lk_same, Option.getD_some] <;> rfl
            · simp (disch := omega) only [hget_redoH, lk_same, lk13, Option.getD_some] <;> rfl
          · obtain ⟨hc, t1⟩ := gt i0
            have n1 : R.map rgV ≠ [] := fun e => i0 (by rw [← hR, ← List.length_map (f := rgV), e]; rfl)
            have hl1 : (R.map rgV).length = i := by rw [List.length_map]; exact hR
            have m1 : (R ++ [r1]).map rgV = R.map rgV ++ [.agg [.int .i64 r1.lo, .int .i64 r1.hi]] := by rw [List.map_append]; rfl
            rw [m1]
            generalize R.map rgV = RF at *
            have hapF := fun (n : Nat) (p : Nm) (H : Heap) (hg : hget H [c, 5, 0] = some (.tok i 2)) => hap RF r1 n [c, 5, 0] p H (by omega) (fun _ => by rw [hl1]; exact hg)
            have o1 : ∀ b, ownV b RF = .own b RF := fun b => by cases RF with | nil => exact absurd rfl n1 | cons a r => rfl
            have o3 : ∀ b j, tokJ RF b j = (b, none) :: j := fun b j => by cases RF with | nil => exact absurd rfl n1 | cons a r => rfl
            have o5 : ∀ b H, dropTok RF b H = hdel H b := fun b H => by cases RF with | nil => exact absurd rfl n1 | cons a r => rfl
            simp only [o1, o3, o5, ownV_snoc, hl1] at hapF g3
            simp only [ownV_snoc]
            have nc : (m + 4 = c) = False := eq_false (by omega)
            try simp only [does_bind]
            refine draw_machX [[], [0], [], [2], [3, 2], [1, 0, 4, 3, 2], [5, 1, 0, 4, 3, 2], [6, 5, 1, 0, 4, 3, 2]] [[], [], [], [[0]], [], [[c, 5, 0]], [], [[3]]] (by kernel_rfl) rfl rfl ?_
            simp -implicitDefEqProofs only [go_sem, hget_redoH, lkn, lk11, lk13, lk31, Option.getD_some, Option.getD_none, a0, a5, hT, g3, gv0, t1, p1, bs, hapF, nc, sameW_self]
            refine ⟨_, _, rfl, by simp -implicitDefEqProofs only [go_sem, hT], by simp -implicitDefEqProofs only [go_sem, a0], by simp -implicitDefEqProofs only [go_sem, a3], by simp -implicitDefEqProofs only [go_sem, a4], by simp -implicitDefEqProofs only [go_sem, a5], by simp -implicitDefEqProofs only [go_sem, a7], by simp only [isD_redo0, isD_redo1, isD_redo3], ?_, ?_, ?_, ?_⟩
            · simp (disch := omega) only [hget_redoH, lkn, lk11, lk31, Option.getD_none, g1]
            · simp (disch := omega) only [hget_redoH, lkn, lk11, lk31, Option.getD_none, g2]
            · simp (disch := omega) only [hget_redoH, lk_same, Option.getD_some] <;> rfl
            · simp (disch := omega) only [hget_redoH, lk_same, lk13, Option.getD_some] <;> rfl
        clear a0 a3 a4 a5 a7 hT T hd g1 g2 g3 gt H p1
        rintro _ ⟨T, H, rfl, hT, a0, a3, a4, a5, a7, hd, g1, g2, g3, t1⟩
        have hR3 : ∀ r ∈ R ++ [r1], RgG 9000 r := by
          intro r hr
          rcases List.mem_append.1 hr with hr | hr
          · exact hR2 r hr
          · rw [List.mem_singleton] at hr; rw [hr]; exact hr1
        have hR4 : (R ++ [r1]).length = i + 1 := by simp; omega
        have hkk : v.getters.length - (i + 1) < v.getters.length - i := by omega
        have hlt : m + 4 < (m + 1) + 4 := by omega
        have hw3 : wrapF .i64 ((i : Int) + 1) = ((i + 1 : Nat) : Int) := wrap_i64 (by omega) (by omega)
        simp -implicitDefEqProofs only [go_sem, a0, a3, a4, a5, a7, hT, hw3]
        clear hw3
        exact ⟨v.getters.length - (i + 1), hkk, trivial, trivial, trivial, trivial, trivial, i + 1, m + 1, m + 4, H, R ++ [r1], rfl, hi', rfl, rfl, hd, g1, g2, g3, fun _ => ⟨hlt, t1⟩, hR4, hR3⟩
      · have hie : i = v.getters.length := by omega
        subst hie
        simp -implicitDefEqProofs only [go_sem, hil]
        exact ⟨_, m, H, _, R, rfl, by simp -implicitDefEqProofs only [go_sem, hT], by simp -implicitDefEqProofs only [go_sem, a0], by simp -implicitDefEqProofs only [go_sem, a3], by simp -implicitDefEqProofs only [go_sem, a4], by simp -implicitDefEqProofs only [go_sem, a5], hd, g2, g3, shut_ownV _ _, hR, hR2⟩
    clear a0 a3 a4 a5 hT T hd g1 g2 g3 m H
    rintro _ ⟨T, m, H, A2, R, rfl, hT, a0, a3, a4, a5, hd, g2, g3, hA2, hR, hR2⟩
    have ot := fun m jr j => one_d (H := H) (m := m) (u := u) (p := []) (jr := jr) (j := j) 4 (K + 6) hd (by decide)
    generalize oneB (dW H) 4 = ob at *
    generalize nextW (dW H) = w2 at *
    have d1 : isD u (hset H [0] (.cells [.int .u64 w2] true u)) := isD_set0 hd
    have q2 : hget (hset H [0] (.cells [.int .u64 w2] true u)) [2] = hget H [2] := hs11 (by decide)
    have q3 : hget (hset H [0] (.cells [.int .u64 w2] true u)) [3] = hget H [3] := hs11 (by decide)
    simp only [gasC] at g2 g3
    rw [g2] at q2
    rw [g3] at q3
    generalize hset H [0] (.cells [.int .u64 w2] true u) = H1 at *
    clear hd g2 g3
    have hsh : ∀ (q : Int), (AV.agg [A0, A1, A2, .int .i64 q, .bool fl]).shut = gsV ⟨F, B, R, q, fl⟩ := fun q => by
      simp only [AV.shut, shuts, hA0, hA1, hA2, gsV]
    cases ob with
    | false =>
      have e1 : ∀ Z, hget (hset H1 [2] Z) [2] = some Z := fun Z => hss q2
      have e0 : ∀ Z, hget (hset H1 [2] Z) [0] = hget H1 [0] := fun Z => hs11 (by decide)
      simp -implicitDefEqProofs only [go_sem, a0, a4, a5, hT, ot, q2, q3, e1, e0, Try.results70]
      exact ⟨⟨F, B, R, q, fl⟩, dW H1, ⟨hF, hB, hR, hF2, hB2, hR2, hq1, by show q ≤ _; omega⟩, hsh q, isD_get d1⟩
    | true =>
      have ut := fun m jr j => upto_d (H := H1) (m := m) (u := u) (p := []) (jr := jr) (j := j) 40000 (K + 7) d1 (by decide)
      have hur := upto_range (dW H1) 40000 (by decide)
      generalize uptoN (dW H1) 40000 = q9 at *
      generalize nextW (dW H1) = w3 at *
      have d2 : isD u (hset H1 [0] (.cells [.int .u64 w3] true u)) := isD_set0 d1
      have x2 : hget (hset H1 [0] (.cells [.int .u64 w3] true u)) [2] = hget H1 [2] := hs11 (by decide)
      have x3 : hget (hset H1 [0] (.cells [.int .u64 w3] true u)) [3] = hget H1 [3] := hs11 (by decide)
      rw [q2] at x2
      rw [q3] at x3
      generalize hset H1 [0] (.cells [.int .u64 w3] true u) = H2 at *
      have x3' : ∀ Z, hget (hset H2 [3] Z) [3] = some Z := fun Z => hss x3
      have x2' : ∀ Z, hget (hset H2 [3] Z) [2] = hget H2 [2] := fun Z => hs11 (by decide)
      have e1 : ∀ Z Y, hget (hset (hset H2 [3] Y) [2] Z) [2] = some Z := fun Z Y => hss ((hs11 (by decide)).trans x2)
      have e0 : ∀ Z Y, hget (hset (hset H2 [3] Y) [2] Z) [0] = hget H2 [0] := fun Z Y => (hs11 (by decide)).trans (hs11 (by decide))
      simp -implicitDefEqProofs only [go_sem, a0, a4, a5, hT, ot, ut, x2, x3, x2', x3', e1, e0, Try.results70]
      exact ⟨⟨F, B, R, q9, fl⟩, dW H2, ⟨hF, hB, hR, hF2, hB2, hR2, hur.1, by show q9 ≤ _; omega⟩, hsh q9, isD_get d2⟩
  obtain ⟨g, w', hg, hd⟩ := key
  refine ⟨g, w', hg, fun b st hb => ?_⟩
  exact call4_shut (v := gsV g) mget70 fget70 hb rfl (by simp only [vacV, renV, renVs, fl_ves, fl_pip, fl_pmp, fl_inl, fl_gtr]) rfl rfl rfl rfl (by rfl) (by simp only [gsV, renV, renVs, fl_rg]) hd
end Go.Proofs.Ytgnpnfkncbnjnaa
