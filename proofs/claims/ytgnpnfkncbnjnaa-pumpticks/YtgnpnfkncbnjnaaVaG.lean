/- A tick of the program, its parts. -/
import Derived.Test.YtgnpnfkncbnjnaaVaF
import Derived.Test.YtgnpnfkncbnjnaaVaA
set_option linter.unusedSimpArgs false
set_option linter.unusedVariables false
set_option maxRecDepth 100000
attribute [local go_sem_proc] Int.reduceEq Int.reduceNeg Nat.reduceEqDiff Nat.reduceLT Nat.reduceAdd Nat.reduceSub Nat.reduceMul Int.reduceLE Int.reduceLT Int.reduceToNat Nat.reduceLeDiff
attribute [local go_sem] Int.toNat_natCast Bool.not_true Bool.not_false
namespace Go.Proofs.Ytgnpnfkncbnjnaa
open Go Go.Am
attribute [local congr] tr_congr does_congr all_congr
attribute [local go_sem] Go.Am.frozen Go.Am.freezeG Go.Am.freezeGs Go.Am.minmax
def rowX (b : Nm) : Nat → AV
  | 0 => .lst []
  | n + 1 => .slice b 0 (n + 1) (n + 1) false
def rgB (L : List Rg) : Blk := .cells (L.flatMap rgC) true 2
def sysB (v : Vac) (f b r : Nm) (g : Gs) : Blk := .cells [.lst (v.vessels.map vesV), .lst (v.pipes.map pipV), .lst (v.pumps.map pmpV), .lst (v.leaks.map inlV), .lst (v.getters.map gtrV), .slice f 0 g.free.length g.free.length false, .slice b 0 g.bound.length g.bound.length false, rowX r g.room.length, .int .i64 g.most, .bool g.flashed] true 0
structure SysAt (H : Heap) (X f b r : Nm) (v : Vac) (g : Gs) : Prop where
  x : hget H X = some (sysB v f b r g)
  f : hget H f = some (rgB g.free)
  b : hget H b = some (rgB g.bound)
  r : g.room ≠ [] → hget H r = some (rgB g.room)
structure Apart (X f b r : Nm) : Prop where
  xf : X ≠ f
  xb : X ≠ b
  xr : X ≠ r
  fb : f ≠ b
  fr : f ≠ r
  br : b ≠ r
noncomputable def sysPut (X f b r : Nm) (v : Vac) (g : Gs) (H : Heap) : Heap := match g.room with
  | [] => putsH [X, f, b] [sysB v f b r g, rgB g.free, rgB g.bound] H
  | _ :: _ => putsH [X, f, b, r] [sysB v f b r g, rgB g.free, rgB g.bound, rgB g.room] H
theorem sysPut_at {H : Heap} {X f b r : Nm} {v : Vac} {g g' : Gs} (h : SysAt H X f b r v g) (ha : Apart X f b r) (hr : g'.room.length = g.room.length) : SysAt (sysPut X f b r v g' H) X f b r v g' := by
  unfold sysPut
  cases hg : g'.room with
  | nil =>
    show SysAt (hset (hset (hset H X _) f _) b _) X f b r v g'
    exact ⟨by rw [hget_hset_ne _ _ (Ne.symm ha.xb), hget_hset_ne _ _ (Ne.symm ha.xf)]; exact hss h.x, by rw [hget_hset_ne _ _ (Ne.symm ha.fb)]; exact hss ((hget_hset_ne _ _ ha.xf).trans h.f), hss ((hget_hset_ne _ _ ha.fb).trans ((hget_hset_ne _ _ ha.xb).trans h.b)), fun e => absurd hg e⟩
  | cons a l =>
    have hr2 := h.r (fun e => by rw [hg, e] at hr; simp at hr)
    show SysAt (hset (hset (hset (hset H X _) f _) b _) r _) X f b r v g'
    exact ⟨by rw [hget_hset_ne _ _ (Ne.symm ha.xr), hget_hset_ne _ _ (Ne.symm ha.xb), hget_hset_ne _ _ (Ne.symm ha.xf)]; exact hss h.x, by rw [hget_hset_ne _ _ (Ne.symm ha.fr), hget_hset_ne _ _ (Ne.symm ha.fb)]; exact hss ((hget_hset_ne _ _ ha.xf).trans h.f), by rw [hget_hset_ne _ _ (Ne.symm ha.br)]; exact hss ((hget_hset_ne _ _ ha.fb).trans ((hget_hset_ne _ _ ha.xb).trans h.b)),
      fun _ => by rw [hg]; exact hss ((hget_hset_ne _ _ ha.br).trans ((hget_hset_ne _ _ ha.fr).trans ((hget_hset_ne _ _ ha.xr).trans hr2)))⟩
theorem ren_rg (mp : List (Nm × Nm)) (L : List Rg) : renB mp (rgB L) = some (rgB L) := ren_cells (rows_bare L)
theorem sys_call {F : FuncId} {fn : Func} {K : Nat} {X f b r : Nm} {v : Vac} {g g' : Gs} {s : Bk} {H : Heap} {n : Nat} {p : Nm} {j : Delta} (hm : cfg.mode.get F = some 3) (hf : cfg.fn.get F = some fn)
    (h : SysAt H X f b r v g) (ha : Apart X f b r) (h1 : g.free ≠ []) (h2 : g.bound ≠ []) (hl1 : g'.free.length = g.free.length) (hl2 : g'.bound.length = g.bound.length) (hl3 : g'.room.length = g.room.length)
    (hd : ∀ H0 m, SysAt H0 [0] [1] [2] [3] v g → (g.room ≠ [] → 1 ≤ m) → (bodyA (cfg.at F) (acall cfg K) (around cfg K) (K + 1) fn [.ptr [0] 0, bkV s] ⟨H0, m + 3, [], false, []⟩).Does fun x => x.1 = .tuple [] ∧ SysAt x.2.H [0] [1] [2] [3] v g') :
    acall cfg (K + 1) F [.ptr X 0, bkV s] ⟨H, n, p, false, j⟩ = .ret (.tuple [], ⟨sysPut X f b r v g' H, n, p, false, j⟩) := by
  have exf := eqb_ne ha.xf
  have exb := eqb_ne ha.xb
  have exr := eqb_ne ha.xr
  have efb := eqb_ne ha.fb
  have efr := eqb_ne ha.fr
  have ebr := eqb_ne ha.br
  have efx := eqb_ne (Ne.symm ha.xf)
  have ebx := eqb_ne (Ne.symm ha.xb)
  have erx := eqb_ne (Ne.symm ha.xr)
  have ebf := eqb_ne (Ne.symm ha.fb)
  have erf := eqb_ne (Ne.symm ha.fr)
  have erb := eqb_ne (Ne.symm ha.br)
  have nb : ∀ op L r, namesB op (rgB L) r = r := fun op L r => (rows_bare L).nm op r
  have hx := h.x
  unfold sysPut
  cases hg : g.room with
  | nil =>
    have hg' : g'.room = [] := List.length_eq_zero_iff.1 (by rw [hl3, hg]; rfl)
    rw [hg']
    simp only
    have hl0 : rowX r g.room.length = .lst [] := by rw [hg]; rfl
    have hl0' : ∀ q, rowX q g'.room.length = .lst [] := fun q => by rw [hg']; rfl
    have hn1 : namesB false (sysB v f b r g) [] = [f, b] := by
      unfold sysB
      rw [hl0]; rfl
    have hn2 : namesBs true [sysB v [1] [2] [3] g', rgB g'.free, rgB g'.bound] [] = [[1], [2]] := by
      show namesB true (sysB v [1] [2] [3] g') (namesB true (rgB g'.free) (namesB true (rgB g'.bound) [])) = _
      rw [nb, nb]
      unfold sysB
      rw [hl0']; rfl
    have hx0 : ∀ mp l1 l2 : List (Nm × Nm), ∀ a c d : Nm, lookN f mp = some a → lookN b mp = some c → renB mp (sysB v f b r g) = some (sysB v a c d g) := fun mp _ _ a c d e1 e2 => by
      have hl0'' : rowX d g.room.length = .lst [] := by rw [hg]; rfl
      unfold sysB
      rw [hl0, hl0'']
      simp only [renB, renVs, renV, e1, e2, fl_ves, fl_pip, fl_pmp, fl_inl, fl_gtr, flats]
    have hx1 : ∀ mp : List (Nm × Nm), lookN [1] mp = some f → lookN [2] mp = some b → renB mp (sysB v [1] [2] [3] g') = some (sysB v f b r g') := fun mp e1 e2 => by
      unfold sysB
      rw [hl0', hl0']
      simp only [renB, renVs, renV, e1, e2, fl_ves, fl_pip, fl_pmp, fl_inl, fl_gtr, flats]
    refine call3_keep (bs := [X, f, b]) (xs := [sysB v f b r g, rgB g.free, rgB g.bound]) (args' := [.ptr [0] 0, bkV s]) (xs0 := [sysB v [1] [2] [3] g, rgB g.free, rgB g.bound]) (ys := [sysB v [1] [2] [3] g', rgB g'.free, rgB g'.bound]) hm hf ?_ ?_ rfl ?_ ?_ rfl (fun _ => rfl) ?_ ?_ rfl ?_ rfl ?_ ?_
    · show lendM (199 + 1) [X] [] [] _ = _
      rw [lend1 199 rfl hx, hn1]
      show lendM (198 + 1) [f, b] [X] [_] _ = _
      rw [lend1 198 (by simp only [memNm, efx]) h.f, nb]
      show lendM (197 + 1) [b] [X, f] [_, _] _ = _
      rw [lend1 197 (by simp only [memNm, ebx, ebf]) h.b, nb]
      exact lendM_nil 196 _ _ _
    · simp only [nodupN, memNm, exf, exb, efb]
    · show renVs [(X, [0]), (f, [1]), (b, [2])] _ = _
      simp only [renVs, renV, bkV, lookN, eqb_self, fl_i]
    · show renBs [(X, [0]), (f, [1]), (b, [2])] _ = _
      simp only [renBs, ren_rg, hx0 [(X, [0]), (f, [1]), (b, [2])] [] [] [1] [2] [3] (by simp only [lookN, efx, eqb_self]) (by simp only [lookN, ebx, ebf, eqb_self])]
    · rw [hn2]
      intro q hq
      simp only [List.mem_cons, List.not_mem_nil, or_false] at hq
      rcases hq with rfl | rfl <;> rfl
    · rw [hn2]; decide
    · show renBs [([0], X), ([1], f), ([2], b)] _ = _
      simp only [renBs, ren_rg, hx1 [([0], X), ([1], f), ([2], b)] rfl rfl]
    · intro q hq
      simp only [List.mem_cons, List.not_mem_nil, or_false] at hq
      rcases hq with rfl | rfl | rfl
      · exact ⟨_, hx⟩
      · exact ⟨_, h.f⟩
      · exact ⟨_, h.b⟩
    · refine (hd _ 0 ⟨rfl, rfl, rfl, fun e => absurd hg e⟩ fun e => absurd hg e).mono ?_
      rintro x ⟨h1, h2⟩
      refine ⟨h1, ?_⟩
      show getAll x.2.H [[0], [1], [2]] = _
      simp only [getAll, h2.x, h2.f, h2.b]
  | cons a l =>
    have hrn : g.room ≠ [] := by rw [hg]; simp
    obtain ⟨a', l', hg'⟩ : ∃ a' l', g'.room = a' :: l' := by
      cases hq : g'.room with
      | nil => rw [hq, hg] at hl3; simp at hl3
      | cons a' l' => exact ⟨a', l', rfl⟩
    have hlm : ∃ m, g.room.length = m + 1 := ⟨l.length, by rw [hg]; rfl⟩
    obtain ⟨m, hlm⟩ := hlm
    have hl0 : ∀ q, rowX q g.room.length = .slice q 0 (m + 1) (m + 1) false := fun q => by rw [hlm]; rfl
    have hl0' : ∀ q, rowX q g'.room.length = .slice q 0 (m + 1) (m + 1) false := fun q => by rw [hl3, hlm]; rfl
    have hr := h.r hrn
    have hn1 : namesB false (sysB v f b r g) [] = [f, b, r] := by
      unfold sysB
      rw [hl0]; rfl
    have hn2 : namesBs true [sysB v [1] [2] [3] g', rgB g'.free, rgB g'.bound, rgB g'.room] [] = [[1], [2], [3]] := by
      show namesB true (sysB v [1] [2] [3] g') (namesB true (rgB g'.free) (namesB true (rgB g'.bound) (namesB true (rgB g'.room) []))) = _
      rw [nb, nb, nb]
      unfold sysB
      rw [hl0']; rfl
    have hx0 : ∀ mp : List (Nm × Nm), lookN f mp = some [1] → lookN b mp = some [2] → lookN r mp = some [3] → renB mp (sysB v f b r g) = some (sysB v [1] [2] [3] g) := fun mp e1 e2 e3 => by
      unfold sysB
      rw [hl0, hl0]
      simp only [renB, renVs, renV, e1, e2, e3, fl_ves, fl_pip, fl_pmp, fl_inl, fl_gtr]
    have hx1 : ∀ mp : List (Nm × Nm), lookN [1] mp = some f → lookN [2] mp = some b → lookN [3] mp = some r → renB mp (sysB v [1] [2] [3] g') = some (sysB v f b r g') := fun mp e1 e2 e3 => by
      unfold sysB
      rw [hl0', hl0']
      simp only [renB, renVs, renV, e1, e2, e3, fl_ves, fl_pip, fl_pmp, fl_inl, fl_gtr]
    rw [hg']
    simp only
    rw [← hg']
    refine call3_keep (bs := [X, f, b, r]) (xs := [sysB v f b r g, rgB g.free, rgB g.bound, rgB g.room]) (args' := [.ptr [0] 0, bkV s]) (xs0 := [sysB v [1] [2] [3] g, rgB g.free, rgB g.bound, rgB g.room]) (ys := [sysB v [1] [2] [3] g', rgB g'.free, rgB g'.bound, rgB g'.room]) hm hf ?_ ?_ rfl ?_ ?_ rfl (fun _ => rfl) ?_ ?_ rfl ?_ rfl ?_ ?_
    · show lendM (199 + 1) [X] [] [] _ = _
      rw [lend1 199 rfl hx, hn1]
      show lendM (198 + 1) [f, b, r] [X] [_] _ = _
      rw [lend1 198 (by simp only [memNm, efx]) h.f, nb]
      show lendM (197 + 1) [b, r] [X, f] [_, _] _ = _
      rw [lend1 197 (by simp only [memNm, ebx, ebf]) h.b, nb]
      show lendM (196 + 1) [r] [X, f, b] [_, _, _] _ = _
      rw [lend1 196 (by simp only [memNm, erx, erf, erb]) hr, nb]
      exact lendM_nil 195 _ _ _
    · simp only [nodupN, memNm, exf, exb, exr, efb, efr, ebr]
    · show renVs [(X, [0]), (f, [1]), (b, [2]), (r, [3])] _ = _
      simp only [renVs, renV, bkV, lookN, eqb_self, fl_i]
    · show renBs [(X, [0]), (f, [1]), (b, [2]), (r, [3])] _ = _
      simp only [renBs, ren_rg, hx0 [(X, [0]), (f, [1]), (b, [2]), (r, [3])] (by simp only [lookN, efx, eqb_self]) (by simp only [lookN, ebx, ebf, eqb_self]) (by simp only [lookN, erx, erf, erb, eqb_self])]
    · rw [hn2]
      intro q hq
      simp only [List.mem_cons, List.not_mem_nil, or_false] at hq
      rcases hq with rfl | rfl | rfl <;> rfl
    · rw [hn2]; decide
    · show renBs [([0], X), ([1], f), ([2], b), ([3], r)] _ = _
      simp only [renBs, ren_rg, hx1 [([0], X), ([1], f), ([2], b), ([3], r)] rfl rfl rfl]
    · intro q hq
      simp only [List.mem_cons, List.not_mem_nil, or_false] at hq
      rcases hq with rfl | rfl | rfl | rfl
      · exact ⟨_, hx⟩
      · exact ⟨_, h.f⟩
      · exact ⟨_, h.b⟩
      · exact ⟨_, hr⟩
    · refine (hd _ 1 ⟨rfl, rfl, rfl, fun e => rfl⟩ fun e => Nat.le_refl 1).mono ?_
      rintro x ⟨h1, h2⟩
      refine ⟨h1, ?_⟩
      show getAll x.2.H [[0], [1], [2], [3]] = _
      simp only [getAll, h2.x, h2.f, h2.b, h2.r (by rw [hg']; simp)]
end Go.Proofs.Ytgnpnfkncbnjnaa
namespace Go.Proofs.Ytgnpnfkncbnjnaa
open Go Go.Am
attribute [local congr] tr_congr does_congr all_congr
attribute [local go_sem] Go.Am.frozen Go.Am.freezeG Go.Am.freezeGs
def min2 (a b : Int) : Int := if b < a then b else a
def max2 (a b : Int) : Int := if a < b then b else a
theorem mm_min (a b : Int) : minmax false (.int .i64 a) [.int .i64 b] = some (.int .i64 (min2 a b)) := by
  unfold min2
  by_cases c : b < a
  · simp -implicitDefEqProofs only [go_sem, Go.Am.minmax, c, if_true]
  · simp -implicitDefEqProofs only [go_sem, Go.Am.minmax, c, if_false]
theorem mm_max (a b : Int) : minmax true (.int .i64 a) [.int .i64 b] = some (.int .i64 (max2 a b)) := by
  unfold max2
  by_cases c : a < b
  · simp -implicitDefEqProofs only [go_sem, Go.Am.minmax, c, if_true]
  · simp -implicitDefEqProofs only [go_sem, Go.Am.minmax, c, if_false]
def leakF : Int → List Inl → Int
  | m, [] => m
  | m, l :: r => leakF (min2 68719476736 (wrapF .i64 (m + l.gas.hi))) r
def beginT (v : Vac) (g : Gs) (s : Bk) : Gs := ⟨g.free, g.bound, g.room, leakF g.most v.leaks, g.flashed || s.flash⟩
theorem tbegin_call {K : Nat} {X f b r : Nm} {v : Vac} {g : Gs} {s : Bk} {H : Heap} {n : Nat} {p : Nm} {j : Delta} (h : SysAt H X f b r v g) (ha : Apart X f b r) (h1 : g.free ≠ []) (h2 : g.bound ≠ []) (hK : v.leaks.length < K) (hl : v.leaks.length ≤ 1000000) :
    acall cfg (K + 1) 147 [.ptr X 0, bkV s] ⟨H, n, p, false, j⟩ = .ret (.tuple [], ⟨sysPut X f b r v (beginT v g s) H, n, p, false, j⟩) := by
  refine sys_call mget147 fget147 h ha h1 h2 rfl rfl rfl fun H0 m hs hm => ?_
  refine body_does rfl fun T hT' hA => ?_
  have a0 := hA 0 _ rfl
  have a1 := hA 1 _ rfl
  have hT : T.length = 44 := hT'
  clear hA hT'
  have g0 := hs.x
  unfold sysB at g0
  have hb := hs.b
  have hf := hs.f
  have hr := hs.r
  simp -implicitDefEqProofs only [go_sem, a0, a1, hT, g0]
  have k0 : ∀ X, hget (([m + 3], X) :: H0) [0] = hget H0 [0] := fun X => hc11 (by omega)
  have k0' : ∀ Z, hget (hset H0 [0] Z) [0] = some Z := fun Z => hss g0
  unfold beginT
  cases hfl : g.flashed with
  | true =>
    simp -implicitDefEqProofs only [go_sem, a0, hT, g0, hfl, k0, k0', Bool.true_or]
    simp only [does_bind]
    refine xl_does (fun k T s' => T.length = 44 ∧ nth T 0 = some (.ptr [0] 0) ∧ nth T 23 = some (.lst (v.leaks.map inlV)) ∧ nth T 24 = some (.int .i64 v.leaks.length) ∧ ∃ (i m : Nat) (H : Heap) (q : Int), nth T 25 = some (.int .i64 i) ∧ i ≤ v.leaks.length ∧ k = v.leaks.length - i ∧ s' = ⟨H, m + 3, [], false, []⟩ ∧ hget H [0] = some (.cells [.lst (v.vessels.map vesV), .lst (v.pipes.map pipV), .lst (v.pumps.map pmpV), .lst (v.leaks.map inlV), .lst (v.getters.map gtrV), .slice [1] 0 g.free.length g.free.length false, .slice [2] 0 g.bound.length g.bound.length false, rowX [3] g.room.length, .int .i64 q, .bool true] true 0) ∧ hget H [1] = some (rgB g.free) ∧ hget H [2] = some (rgB g.bound) ∧ (g.room ≠ [] → 1 ≤ m ∧ hget H [3] = some (rgB g.room)) ∧ leakF g.most v.leaks = leakF q (v.leaks.drop i)) (k := v.leaks.length) (by omega) ?_ ?_
    · exact ⟨by simp -implicitDefEqProofs only [go_sem, hT], by simp -implicitDefEqProofs only [go_sem, a0], by simp -implicitDefEqProofs only [go_sem, hT], by simp -implicitDefEqProofs only [go_sem, hT], 0, m + 1, _, g.most, by simp -implicitDefEqProofs only [go_sem, hT] <;> rfl, by omega, rfl, rfl, (hc11 (by omega)).trans (k0' _), (hc11 (by omega)).trans ((hs11 (by decide)).trans hf), (hc11 (by omega)).trans ((hs11 (by decide)).trans hb), fun e => ⟨by omega, (hc11 (by have := hm e; omega)).trans ((hs11 (by decide)).trans (hr e))⟩, rfl⟩
    clear a0 a1 hT T g0 k0 k0' hb hf hr hs hm m H0
    rintro k T s' ⟨hT, a0, a23, a24, i, m, H0, q, a25, hi, rfl, rfl, g0, hf, hb, hr, he⟩
    simp -implicitDefEqProofs only [go_sem, a24, a25, hT]
    by_cases hil : (i : Int) < (v.leaks.length : Int)
    · have hi' : i < v.leaks.length := by omega
      have e1 := elemAt_map (f := inlV) (l := v.leaks) (i := i) (z := 3) hi' rfl
      have hkk : v.leaks.length - (i + 1) < v.leaks.length - i := by omega
      rw [List.drop_eq_getElem_cons hi'] at he
      generalize v.leaks[i] = x at *
      simp only [leakF] at he
      have hw1 : wrapF .i64 ((i : Int) + 1) = ((i + 1 : Nat) : Int) := wrap_i64 (by omega) (by omega)
      have k0 : ∀ X, hget (([m + 3], X) :: H0) [0] = hget H0 [0] := fun X => hc11 (by omega)
      have k3 : ∀ X, hget (([m + 3], X) :: H0) [m + 3] = some X := fun X => hget_cons_same ..
      simp only [inlV] at e1
      simp -implicitDefEqProofs only [go_sem, a23, a25, hT, hil, e1]
      try simp only [does_bind]
      refine draw_machX [[], [], [1], [2, 1], [3, 2, 1], [4, 3, 2, 1], [], [6], [7, 6], [5, 4, 3, 2, 1, 8, 7, 6], [9, 5, 4, 3, 2, 1, 8, 7, 6], [0, 10, 9, 5, 4, 3, 2, 1, 8, 7, 6], [11, 0, 10, 9, 5, 4, 3, 2, 1, 8, 7, 6], [12, 11, 0, 10, 9, 5, 4, 3, 2, 1, 8, 7, 6], [13, 12, 11, 0, 10, 9, 5, 4, 3, 2, 1, 8, 7, 6]] [[], [], [], [], [], [], [], [], [], [], [], [], [], [], [[0]]] (by kernel_rfl) rfl rfl ?_
      simp -implicitDefEqProofs only [go_sem, Option.getD_some, a0, a23, a24, a25, hT, k0, k3, g0, mm_min, hw1, sameW_self]
      refine ⟨v.leaks.length - (i + 1), hkk, trivial, trivial, trivial, trivial, i + 1, m + 2, _, min2 68719476736 (wrapF .i64 (q + x.gas.hi)), rfl, hi', rfl, rfl, ?_, ?_, ?_, fun e => ⟨by omega, ?_⟩, he⟩
      all_goals clear hw1
      · simp (disch := omega) only [hc11, hget_redoH, lk_same, Option.getD_some]
      · simp (disch := omega) only [hc11, hget_redoH, lkn, lk11, Option.getD_none, hf]
      · simp (disch := omega) only [hc11, hget_redoH, lkn, lk11, Option.getD_none, hb]
      · have := (hr e).1
        simp (disch := omega) only [hc11, hget_redoH, lkn, lk11, Option.getD_none, (hr e).2]
    · have hie : i = v.leaks.length := by omega
      subst hie
      rw [List.drop_length] at he
      simp only [leakF] at he
      simp -implicitDefEqProofs only [go_sem, hil, Try.results147]
      rw [he]
      exact ⟨trivial, ⟨g0, hf, hb, fun e => (hr e).2⟩⟩
  | false =>
    simp -implicitDefEqProofs only [go_sem, a0, hT, g0, hfl, k0, k0', Bool.false_or]
    simp only [does_bind]
    refine xl_does (fun k T s' => T.length = 44 ∧ nth T 0 = some (.ptr [0] 0) ∧ nth T 23 = some (.lst (v.leaks.map inlV)) ∧ nth T 24 = some (.int .i64 v.leaks.length) ∧ ∃ (i m : Nat) (H : Heap) (q : Int), nth T 25 = some (.int .i64 i) ∧ i ≤ v.leaks.length ∧ k = v.leaks.length - i ∧ s' = ⟨H, m + 3, [], false, []⟩ ∧ hget H [0] = some (.cells [.lst (v.vessels.map vesV), .lst (v.pipes.map pipV), .lst (v.pumps.map pmpV), .lst (v.leaks.map inlV), .lst (v.getters.map gtrV), .slice [1] 0 g.free.length g.free.length false, .slice [2] 0 g.bound.length g.bound.length false, rowX [3] g.room.length, .int .i64 q, .bool s.flash] true 0) ∧ hget H [1] = some (rgB g.free) ∧ hget H [2] = some (rgB g.bound) ∧ (g.room ≠ [] → 1 ≤ m ∧ hget H [3] = some (rgB g.room)) ∧ leakF g.most v.leaks = leakF q (v.leaks.drop i)) (k := v.leaks.length) (by omega) ?_ ?_
    · exact ⟨by simp -implicitDefEqProofs only [go_sem, hT], by simp -implicitDefEqProofs only [go_sem, a0], by simp -implicitDefEqProofs only [go_sem, hT], by simp -implicitDefEqProofs only [go_sem, hT], 0, m + 1, _, g.most, by simp -implicitDefEqProofs only [go_sem, hT] <;> rfl, by omega, rfl, rfl, (hc11 (by omega)).trans (k0' _), (hc11 (by omega)).trans ((hs11 (by decide)).trans hf), (hc11 (by omega)).trans ((hs11 (by decide)).trans hb), fun e => ⟨by omega, (hc11 (by have := hm e; omega)).trans ((hs11 (by decide)).trans (hr e))⟩, rfl⟩
    clear a0 a1 hT T g0 k0 k0' hb hf hr hs hm m H0
    rintro k T s' ⟨hT, a0, a23, a24, i, m, H0, q, a25, hi, rfl, rfl, g0, hf, hb, hr, he⟩
    simp -implicitDefEqProofs only [go_sem, a24, a25, hT]
    by_cases hil : (i : Int) < (v.leaks.length : Int)
    · have hi' : i < v.leaks.length := by omega
      have e1 := elemAt_map (f := inlV) (l := v.leaks) (i := i) (z := 3) hi' rfl
      have hkk : v.leaks.length - (i + 1) < v.leaks.length - i := by omega
      rw [List.drop_eq_getElem_cons hi'] at he
      generalize v.leaks[i] = x at *
      simp only [leakF] at he
      have hw1 : wrapF .i64 ((i : Int) + 1) = ((i + 1 : Nat) : Int) := wrap_i64 (by omega) (by omega)
      have k0 : ∀ X, hget (([m + 3], X) :: H0) [0] = hget H0 [0] := fun X => hc11 (by omega)
      have k3 : ∀ X, hget (([m + 3], X) :: H0) [m + 3] = some X := fun X => hget_cons_same ..
      simp only [inlV] at e1
      simp -implicitDefEqProofs only [go_sem, a23, a25, hT, hil, e1]
      try simp only [does_bind]
      refine draw_machX [[], [], [1], [2, 1], [3, 2, 1], [4, 3, 2, 1], [], [6], [7, 6], [5, 4, 3, 2, 1, 8, 7, 6], [9, 5, 4, 3, 2, 1, 8, 7, 6], [0, 10, 9, 5, 4, 3, 2, 1, 8, 7, 6], [11, 0, 10, 9, 5, 4, 3, 2, 1, 8, 7, 6], [12, 11, 0, 10, 9, 5, 4, 3, 2, 1, 8, 7, 6], [13, 12, 11, 0, 10, 9, 5, 4, 3, 2, 1, 8, 7, 6]] [[], [], [], [], [], [], [], [], [], [], [], [], [], [], [[0]]] (by kernel_rfl) rfl rfl ?_
      simp -implicitDefEqProofs only [go_sem, Option.getD_some, a0, a23, a24, a25, hT, k0, k3, g0, mm_min, hw1, sameW_self]
      refine ⟨v.leaks.length - (i + 1), hkk, trivial, trivial, trivial, trivial, i + 1, m + 2, _, min2 68719476736 (wrapF .i64 (q + x.gas.hi)), rfl, hi', rfl, rfl, ?_, ?_, ?_, fun e => ⟨by omega, ?_⟩, he⟩
      all_goals clear hw1
      · simp (disch := omega) only [hc11, hget_redoH, lk_same, Option.getD_some]
      · simp (disch := omega) only [hc11, hget_redoH, lkn, lk11, Option.getD_none, hf]
      · simp (disch := omega) only [hc11, hget_redoH, lkn, lk11, Option.getD_none, hb]
      · have := (hr e).1
        simp (disch := omega) only [hc11, hget_redoH, lkn, lk11, Option.getD_none, (hr e).2]
    · have hie : i = v.leaks.length := by omega
      subst hie
      rw [List.drop_length] at he
      simp only [leakF] at he
      simp -implicitDefEqProofs only [go_sem, hil, Try.results147]
      rw [he]
      exact ⟨trivial, ⟨g0, hf, hb, fun e => (hr e).2⟩⟩
end Go.Proofs.Ytgnpnfkncbnjnaa
namespace Go.Proofs.Ytgnpnfkncbnjnaa
open Go Go.Am
attribute [local congr] tr_congr does_congr all_congr
attribute [local go_sem] Go.Am.frozen Go.Am.freezeG Go.Am.freezeGs
def cutR (q : Int) (r : Rg) : Rg := ⟨min2 r.lo q, min2 r.hi q⟩
def cutT (v : Vac) (g : Gs) (s : Bk) : Gs := ⟨g.free.map (cutR g.most), g.bound.map (cutR g.most), g.room, g.most, g.flashed⟩
theorem row_nth0 (L : List Rg) {c : Nat} (h : c < L.length) : nth (L.flatMap rgC) (c * 2) = some (.int .i64 L[c].lo) := nth_cells (g := rgC) (z := 2) rgC_len L h (k := 0) (by decide)
theorem row_nth1 (L : List Rg) {c : Nat} (h : c < L.length) : nth (L.flatMap rgC) (c * 2 + 1) = some (.int .i64 L[c].hi) := nth_cells (g := rgC) (z := 2) rgC_len L h (k := 1) (by decide)
theorem row_wr (L : List Rg) {c : Nat} (h : c < L.length) (y : Rg) : writeN (L.flatMap rgC) (c * 2) [.int .i64 y.lo, .int .i64 y.hi] = some ((L.set c y).flatMap rgC) := wr_cells (g := rgC) (z := 2) rgC_len L h y
theorem row_off (cs : List AV) (c : Nat) (v : AV) : nth (setNth cs (c * 2) v) (c * 2 + 1) = nth cs (c * 2 + 1) := nth_set_ne cs v (by omega)
theorem row_set (L : List Rg) {c : Nat} (h : c < L.length) (y : Rg) : setNth (setNth (L.flatMap rgC) (c * 2) (.int .i64 y.lo)) (c * 2 + 1) (.int .i64 y.hi) = (L.set c y).flatMap rgC := by
  have e := row_wr L h y
  simp only [writeN, row_nth0 L h, row_off, row_nth1 L h] at e
  injection e
theorem sysB_cg {v : Vac} {a b c : Nm} {g g' : Gs} (h1 : g'.free.length = g.free.length) (h2 : g'.bound.length = g.bound.length) (h3 : g'.room.length = g.room.length) (h4 : g'.most = g.most) (h5 : g'.flashed = g.flashed) : sysB v a b c g' = sysB v a b c g := by
  unfold sysB
  rw [h1, h2, h3, h4, h5]
theorem cut_call {K : Nat} {X f b r : Nm} {v : Vac} {g : Gs} {s : Bk} {H : Heap} {n : Nat} {p : Nm} {j : Delta} (h : SysAt H X f b r v g) (ha : Apart X f b r) (h1 : g.free ≠ []) (h2 : g.bound ≠ []) (hK : g.free.length + g.bound.length + 2 < K) (hl : g.free.length + g.bound.length ≤ 1000000) :
    acall cfg (K + 1) 151 [.ptr X 0, bkV s] ⟨H, n, p, false, j⟩ = .ret (.tuple [], ⟨sysPut X f b r v (cutT v g s) H, n, p, false, j⟩) := by
  refine sys_call mget151 fget151 h ha h1 h2 (List.length_map ..) (List.length_map ..) rfl fun H0 m hs hm => ?_
  refine body_does rfl fun T hT' hA => ?_
  have a0 := hA 0 _ rfl
  have a1 := hA 1 _ rfl
  have hT : T.length = 51 := hT'
  clear hA hT'
  have g0 := hs.x
  unfold sysB at g0
  have k0 : ∀ X, hget (([m + 3], X) :: H0) [0] = hget H0 [0] := fun X => hc11 (by omega)
  simp -implicitDefEqProofs only [go_sem, a1]
  try simp only [does_bind]
  refine draw_machX [[], [0], [1, 0], [2, 1, 0], [3, 2, 1, 0], [], [5], [6, 5], [7, 6, 5], [8, 7, 6, 5], [4, 3, 2, 1, 0, 9, 8, 7, 6, 5], []] [[], [], [], [], [], [], [], [], [], [], [], []] (by kernel_rfl) rfl rfl ?_
  simp -implicitDefEqProofs only [go_sem, Option.getD_some, a0, hT, g0, k0, sameW_self]
  simp only [does_bind]
  refine xl_does (fun k T s' => T.length = 51 ∧ nth T 0 = some (.ptr [0] 0) ∧ nth T 18 = some (.agg [.slice [1] 0 g.free.length g.free.length false, .slice [2] 0 g.bound.length g.bound.length false]) ∧ ∃ (i m : Nat) (H : Heap) (F B : List Rg), nth T 19 = some (.int .i64 i) ∧ i ≤ 2 ∧ k = 2 - i ∧ s' = ⟨H, m + 3, [], false, []⟩ ∧ (g.room ≠ [] → 1 ≤ m) ∧ SysAt H [0] [1] [2] [3] v ⟨F, B, g.room, g.most, g.flashed⟩ ∧ F = (if i = 0 then g.free else g.free.map (cutR g.most)) ∧ B = (if i = 2 then g.bound.map (cutR g.most) else g.bound)) (k := 2) (by omega) ?_ ?_
  · exact ⟨by simp -implicitDefEqProofs only [go_sem, hT], by simp -implicitDefEqProofs only [go_sem, a0], by simp -implicitDefEqProofs only [go_sem, hT], 0, m + 2, _, g.free, g.bound, by simp -implicitDefEqProofs only [go_sem, hT] <;> rfl, by omega, rfl, rfl, fun e => by omega, ⟨by simp (disch := omega) only [hc11, hget_redoH, lkn, Option.getD_none]; exact hs.x, by simp (disch := omega) only [hc11, hget_redoH, lkn, Option.getD_none]; exact hs.f, by simp (disch := omega) only [hc11, hget_redoH, lkn, Option.getD_none]; exact hs.b, fun e => by have := hm e; simp (disch := omega) only [hc11, hget_redoH, lkn, Option.getD_none]; exact hs.r e⟩, rfl, rfl⟩
  clear a0 a1 hT T g0 k0 hs hm m H0
  rintro k T s' ⟨hT, a0, a18, i, m, H0, F, B, a19, hi, rfl, rfl, hm, hs, rfl, rfl⟩
  rcases (show i = 0 ∨ i = 1 ∨ i = 2 by omega) with rfl | rfl | rfl
  · simp only [if_true] at hs
    have hs : SysAt H0 [0] [1] [2] [3] v ⟨g.free, g.bound, g.room, g.most, g.flashed⟩ := hs
    have b19 : nth T 19 = some (.int .i64 0) := a19
    clear a19 hi
    have hin : inR 0 2 = some 0 := rfl
    simp -implicitDefEqProofs only [go_sem, a18, b19, hT, hin]
    simp only [does_bind]
    refine Tr.Does.mono (Q := fun x => ∃ (T' : List AV) (m' : Nat) (H' : Heap), x = ((AExit.exit 2, T'), (⟨H', m' + 3, [], false, []⟩ : St)) ∧ m ≤ m' ∧ T'.length = 51 ∧ nth T' 0 = some (.ptr [0] 0) ∧ nth T' 18 = some (.agg [.slice [1] 0 g.free.length g.free.length false, .slice [2] 0 g.bound.length g.bound.length false]) ∧ nth T' 19 = some (.int .i64 0) ∧ hget H' [1] = some (rgB (g.free.map (cutR g.most))) ∧ ∀ k, k < m + 3 → k ≠ 1 → hget H' [k] = hget H0 [k]) ?_ ?_
    · refine xl_does (fun k T s' => T.length = 51 ∧ nth T 0 = some (.ptr [0] 0) ∧ nth T 18 = some (.agg [.slice [1] 0 g.free.length g.free.length false, .slice [2] 0 g.bound.length g.bound.length false]) ∧ nth T 19 = some (.int .i64 0) ∧ nth T 5 = some (.slice [1] 0 g.free.length g.free.length false) ∧ nth T 22 = some (.slice [1] 0 g.free.length g.free.length false) ∧ nth T 23 = some (.int .i64 g.free.length) ∧ ∃ (c m' : Nat) (H' : Heap), nth T 24 = some (.int .i64 c) ∧ c ≤ g.free.length ∧ k = g.free.length - c ∧ s' = ⟨H', m' + 3, [], false, []⟩ ∧ m ≤ m' ∧ hget H' [1] = some (rgB ((g.free.take c).map (cutR g.most) ++ g.free.drop c)) ∧ ∀ k, k < m + 3 → k ≠ 1 → hget H' [k] = hget H0 [k]) (k := g.free.length) (by omega) ?_ ?_
      · exact ⟨by simp -implicitDefEqProofs only [go_sem, hT], by simp -implicitDefEqProofs only [go_sem, a0], by simp -implicitDefEqProofs only [go_sem, a18], by simp -implicitDefEqProofs only [go_sem, b19], by simp -implicitDefEqProofs only [go_sem, hT], by simp -implicitDefEqProofs only [go_sem, hT], by simp -implicitDefEqProofs only [go_sem, hT], 0, m, H0, by simp -implicitDefEqProofs only [go_sem, hT] <;> rfl, by omega, rfl, rfl, Nat.le_refl _, hs.f, fun _ _ _ => rfl⟩
      clear a0 a18 b19 hT T
      rintro k T s' ⟨hT, a0, a18, a19, a5, a22, a23, c, m', H', a24, hc, rfl, rfl, hmm, hb, hfr⟩
      have g0 := (hfr 0 (by omega) (by decide)).trans hs.x
      unfold sysB at g0
      simp only at g0
      simp -implicitDefEqProofs only [go_sem, a23, a24, hT]
      by_cases hcl : (c : Int) < (g.free.length : Int)
      · have hc' : c < g.free.length := by omega
        have hinr : inR (c : Int) g.free.length = some c := inR_of hc'
        obtain ⟨R, hR⟩ : ∃ R, R = (g.free.take c).map (cutR g.most) ++ g.free.drop c := ⟨_, rfl⟩
        have hRl : R.length = g.free.length := by rw [hR, List.length_append, List.length_map, List.length_take, List.length_drop]; omega
        have hRc : c < R.length := by omega
        have hRx : R[c] = g.free[c] := by subst hR; rw [List.getElem_append_right (by simp; omega)]; simp; congr 1; omega
        have hRs : R.set c (cutR g.most g.free[c]) = (g.free.take (c + 1)).map (cutR g.most) ++ g.free.drop (c + 1) := by
          subst hR
          rw [List.set_append_right _ _ (by simp; omega), List.take_succ_eq_append_getElem hc', List.map_append]
          have e : c - ((g.free.take c).map (cutR g.most)).length = 0 := by simp; omega
          rw [e, List.drop_eq_getElem_cons hc', List.set_cons_zero]
          simp
        have n0 := row_nth0 R hRc
        have n1 := row_nth1 R hRc
        have wr := row_set R hRc (cutR g.most g.free[c])
        rw [hRs] at wr
        rw [← hR] at hb
        rw [hRx] at n0 n1
        clear hR hRx
        generalize g.free[c] = x at *
        unfold rgB at hb
        have k1 : ∀ X, hget (([m' + 3], X) :: H') [1] = hget H' [1] := fun X => hc11 (by omega)
        have k2 : ∀ X, hget (([m' + 3], X) :: H') [0] = hget H' [0] := fun X => hc11 (by omega)
        simp -implicitDefEqProofs only [go_sem, a22, a24, hT, hcl, hinr, hb, n0, n1]
        have hkk : g.free.length - (c + 1) < g.free.length - c := by omega
        have k3 : ∀ X, hget (([m' + 3], X) :: H') [m' + 3] = some X := fun X => hget_cons_same ..
        have hw1 : wrapF .i64 ((c : Int) + 1) = ((c + 1 : Nat) : Int) := wrap_i64 (by omega) (by omega)
        simp only [cutR] at wr
        try simp only [does_bind]
        refine draw_machX [[], [], [], [2], [], [4], [5, 4], [6, 5, 4], [7, 6, 5, 4], [3, 2, 8, 7, 6, 5, 4], [], [10], [], [12], [13, 12], [14, 13, 12], [15, 14, 13, 12], [11, 10, 16, 15, 14, 13, 12], [9, 3, 2, 8, 7, 6, 5, 4, 17, 11, 10, 16, 15, 14, 13, 12], [0, 1, 18, 9, 3, 2, 8, 7, 6, 5, 4, 17, 11, 10, 16, 15, 14, 13, 12], [19, 0, 1, 18, 9, 3, 2, 8, 7, 6, 5, 4, 17, 11, 10, 16, 15, 14, 13, 12]] [[], [], [], [], [], [], [], [], [], [], [], [], [], [], [], [], [], [], [], [], [[1]]] (by kernel_rfl) rfl rfl ?_
        simp -implicitDefEqProofs only [go_sem, Option.getD_some, a0, a18, a19, a5, a22, a23, a24, hT, hinr, hb, g0, k1, k2, k3, mm_min, row_off, n0, n1, wr, hw1, sameW_self]
        refine ⟨g.free.length - (c + 1), hkk, trivial, trivial, trivial, trivial, trivial, trivial, trivial, c + 1, m' + 2, _, rfl, hc', rfl, rfl, by omega, ?_, fun k hk hne => ?_⟩
        all_goals clear hw1
        · simp (disch := omega) only [hc11, hget_redoH, lk_same, Option.getD_some]; rfl
        · simp (disch := omega) only [hc11, hget_redoH, lkn, lk11, Option.getD_none]; exact hfr k hk hne
      · have hce : c = g.free.length := by omega
        subst hce
        rw [List.take_length, List.drop_length, List.append_nil] at hb
        simp -implicitDefEqProofs only [go_sem, hcl]
        exact ⟨_, m', H', rfl, hmm, by simp -implicitDefEqProofs only [go_sem, hT], by simp -implicitDefEqProofs only [go_sem, a0], by simp -implicitDefEqProofs only [go_sem, a18], by simp -implicitDefEqProofs only [go_sem, a19], hb, hfr⟩
    clear a0 a18 b19 hT T
    rintro _ ⟨T, m', H', rfl, hmm, hT, a0, a18, a19, hb, hfr⟩
    simp -implicitDefEqProofs only [go_sem, a0, a18, a19, hT]
    refine ⟨2 - (0 + 1), by omega, trivial, trivial, trivial, 0 + 1, m', H', g.free.map (cutR g.most), g.bound, rfl, by omega, rfl, rfl, fun e => Nat.le_trans (hm e) hmm, ⟨?_, ?_, ?_, fun e => ?_⟩, rfl, rfl⟩
    · exact (hfr 0 (by omega) (by decide)).trans (hs.x.trans (congrArg some (sysB_cg (List.length_map ..).symm rfl rfl rfl rfl)))
    · exact hb
    · exact (hfr 2 (by omega) (by decide)).trans hs.b
    · have := hm e
      exact (hfr 3 (by omega) (by decide)).trans (hs.r e)
  · have hs : SysAt H0 [0] [1] [2] [3] v ⟨g.free.map (cutR g.most), g.bound, g.room, g.most, g.flashed⟩ := hs
    have b19 : nth T 19 = some (.int .i64 1) := a19
    clear a19 hi
    have hin : inR 1 2 = some 1 := rfl
    simp -implicitDefEqProofs only [go_sem, a18, b19, hT, hin]
    simp only [does_bind]
    refine Tr.Does.mono (Q := fun x => ∃ (T' : List AV) (m' : Nat) (H' : Heap), x = ((AExit.exit 2, T'), (⟨H', m' + 3, [], false, []⟩ : St)) ∧ m ≤ m' ∧ T'.length = 51 ∧ nth T' 0 = some (.ptr [0] 0) ∧ nth T' 18 = some (.agg [.slice [1] 0 g.free.length g.free.length false, .slice [2] 0 g.bound.length g.bound.length false]) ∧ nth T' 19 = some (.int .i64 1) ∧ hget H' [2] = some (rgB (g.bound.map (cutR g.most))) ∧ ∀ k, k < m + 3 → k ≠ 2 → hget H' [k] = hget H0 [k]) ?_ ?_
    · refine xl_does (fun k T s' => T.length = 51 ∧ nth T 0 = some (.ptr [0] 0) ∧ nth T 18 = some (.agg [.slice [1] 0 g.free.length g.free.length false, .slice [2] 0 g.bound.length g.bound.length false]) ∧ nth T 19 = some (.int .i64 1) ∧ nth T 5 = some (.slice [2] 0 g.bound.length g.bound.length false) ∧ nth T 22 = some (.slice [2] 0 g.bound.length g.bound.length false) ∧ nth T 23 = some (.int .i64 g.bound.length) ∧ ∃ (c m' : Nat) (H' : Heap), nth T 24 = some (.int .i64 c) ∧ c ≤ g.bound.length ∧ k = g.bound.length - c ∧ s' = ⟨H', m' + 3, [], false, []⟩ ∧ m ≤ m' ∧ hget H' [2] = some (rgB ((g.bound.take c).map (cutR g.most) ++ g.bound.drop c)) ∧ ∀ k, k < m + 3 → k ≠ 2 → hget H' [k] = hget H0 [k]) (k := g.bound.length) (by omega) ?_ ?_
      · exact ⟨by simp -implicitDefEqProofs only [go_sem, hT], by simp -implicitDefEqProofs only [go_sem, a0], by simp -implicitDefEqProofs only [go_sem, a18], by simp -implicitDefEqProofs only [go_sem, b19], by simp -implicitDefEqProofs only [go_sem, hT], by simp -implicitDefEqProofs only [go_sem, hT], by simp -implicitDefEqProofs only [go_sem, hT], 0, m, H0, by simp -implicitDefEqProofs only [go_sem, hT] <;> rfl, by omega, rfl, rfl, Nat.le_refl _, hs.b, fun _ _ _ => rfl⟩
      clear a0 a18 b19 hT T
      rintro k T s' ⟨hT, a0, a18, a19, a5, a22, a23, c, m', H', a24, hc, rfl, rfl, hmm, hb, hfr⟩
      have g0 := (hfr 0 (by omega) (by decide)).trans hs.x
      unfold sysB at g0
      simp only at g0
      simp -implicitDefEqProofs only [go_sem, a23, a24, hT]
      by_cases hcl : (c : Int) < (g.bound.length : Int)
      · have hc' : c < g.bound.length := by omega
        have hinr : inR (c : Int) g.bound.length = some c := inR_of hc'
        obtain ⟨R, hR⟩ : ∃ R, R = (g.bound.take c).map (cutR g.most) ++ g.bound.drop c := ⟨_, rfl⟩
        have hRl : R.length = g.bound.length := by rw [hR, List.length_append, List.length_map, List.length_take, List.length_drop]; omega
        have hRc : c < R.length := by omega
        have hRx : R[c] = g.bound[c] := by subst hR; rw [List.getElem_append_right (by simp; omega)]; simp; congr 1; omega
        have hRs : R.set c (cutR g.most g.bound[c]) = (g.bound.take (c + 1)).map (cutR g.most) ++ g.bound.drop (c + 1) := by
          subst hR
          rw [List.set_append_right _ _ (by simp; omega), List.take_succ_eq_append_getElem hc', List.map_append]
          have e : c - ((g.bound.take c).map (cutR g.most)).length = 0 := by simp; omega
          rw [e, List.drop_eq_getElem_cons hc', List.set_cons_zero]
          simp
        have n0 := row_nth0 R hRc
        have n1 := row_nth1 R hRc
        have wr := row_set R hRc (cutR g.most g.bound[c])
        rw [hRs] at wr
        rw [← hR] at hb
        rw [hRx] at n0 n1
        clear hR hRx
        generalize g.bound[c] = x at *
        unfold rgB at hb
        have k1 : ∀ X, hget (([m' + 3], X) :: H') [2] = hget H' [2] := fun X => hc11 (by omega)
        have k2 : ∀ X, hget (([m' + 3], X) :: H') [0] = hget H' [0] := fun X => hc11 (by omega)
        simp -implicitDefEqProofs only [go_sem, a22, a24, hT, hcl, hinr, hb, n0, n1]
        have hkk : g.bound.length - (c + 1) < g.bound.length - c := by omega
        have k3 : ∀ X, hget (([m' + 3], X) :: H') [m' + 3] = some X := fun X => hget_cons_same ..
        have hw1 : wrapF .i64 ((c : Int) + 1) = ((c + 1 : Nat) : Int) := wrap_i64 (by omega) (by omega)
        simp only [cutR] at wr
        try simp only [does_bind]
        refine draw_machX [[], [], [], [2], [], [4], [5, 4], [6, 5, 4], [7, 6, 5, 4], [3, 2, 8, 7, 6, 5, 4], [], [10], [], [12], [13, 12], [14, 13, 12], [15, 14, 13, 12], [11, 10, 16, 15, 14, 13, 12], [9, 3, 2, 8, 7, 6, 5, 4, 17, 11, 10, 16, 15, 14, 13, 12], [0, 1, 18, 9, 3, 2, 8, 7, 6, 5, 4, 17, 11, 10, 16, 15, 14, 13, 12], [19, 0, 1, 18, 9, 3, 2, 8, 7, 6, 5, 4, 17, 11, 10, 16, 15, 14, 13, 12]] [[], [], [], [], [], [], [], [], [], [], [], [], [], [], [], [], [], [], [], [], [[2]]] (by kernel_rfl) rfl rfl ?_
        simp -implicitDefEqProofs only [go_sem, Option.getD_some, a0, a18, a19, a5, a22, a23, a24, hT, hinr, hb, g0, k1, k2, k3, mm_min, row_off, n0, n1, wr, hw1, sameW_self]
        refine ⟨g.bound.length - (c + 1), hkk, trivial, trivial, trivial, trivial, trivial, trivial, trivial, c + 1, m' + 2, _, rfl, hc', rfl, rfl, by omega, ?_, fun k hk hne => ?_⟩
        all_goals clear hw1
        · simp (disch := omega) only [hc11, hget_redoH, lk_same, Option.getD_some]; rfl
        · simp (disch := omega) only [hc11, hget_redoH, lkn, lk11, Option.getD_none]; exact hfr k hk hne
      · have hce : c = g.bound.length := by omega
        subst hce
        rw [List.take_length, List.drop_length, List.append_nil] at hb
        simp -implicitDefEqProofs only [go_sem, hcl]
        exact ⟨_, m', H', rfl, hmm, by simp -implicitDefEqProofs only [go_sem, hT], by simp -implicitDefEqProofs only [go_sem, a0], by simp -implicitDefEqProofs only [go_sem, a18], by simp -implicitDefEqProofs only [go_sem, a19], hb, hfr⟩
    clear a0 a18 b19 hT T
    rintro _ ⟨T, m', H', rfl, hmm, hT, a0, a18, a19, hb, hfr⟩
    simp -implicitDefEqProofs only [go_sem, a0, a18, a19, hT]
    refine ⟨2 - (1 + 1), by omega, trivial, trivial, trivial, 1 + 1, m', H', g.free.map (cutR g.most), g.bound.map (cutR g.most), rfl, by omega, rfl, rfl, fun e => Nat.le_trans (hm e) hmm, ⟨?_, ?_, ?_, fun e => ?_⟩, rfl, rfl⟩
    · exact (hfr 0 (by omega) (by decide)).trans (hs.x.trans (congrArg some (sysB_cg rfl (List.length_map ..).symm rfl rfl rfl)))
    · exact (hfr 1 (by omega) (by decide)).trans hs.f
    · exact hb
    · have := hm e
      exact (hfr 3 (by omega) (by decide)).trans (hs.r e)
  · have hs : SysAt H0 [0] [1] [2] [3] v ⟨g.free.map (cutR g.most), g.bound.map (cutR g.most), g.room, g.most, g.flashed⟩ := hs
    have b19 : nth T 19 = some (.int .i64 2) := a19
    simp -implicitDefEqProofs only [go_sem, b19, hT, Try.results151]
    exact ⟨trivial, hs⟩
end Go.Proofs.Ytgnpnfkncbnjnaa
namespace Go.Proofs.Ytgnpnfkncbnjnaa
open Go Go.Am
attribute [local congr] tr_congr does_congr all_congr
attribute [local go_sem] Go.Am.frozen Go.Am.freezeG Go.Am.freezeGs
theorem mix_len {α : Type} {G F : List α} (h : G.length = F.length) (i : Nat) : (G.take i ++ F.drop i).length = F.length := by
  rw [List.length_append, List.length_take, List.length_drop]; omega
theorem mix_get {α : Type} {G F : List α} (h : G.length = F.length) {i : Nat} (hi : i < F.length) (hi2 : i < (G.take i ++ F.drop i).length) : (G.take i ++ F.drop i)[i] = F[i] := by
  rw [List.getElem_append_right (by rw [List.length_take]; omega), List.getElem_drop]
  congr 1
  rw [List.length_take]; omega
theorem mix_set {α : Type} {G F : List α} (h : G.length = F.length) {i : Nat} (hi : i < F.length) (hg : i < G.length) : (G.take i ++ F.drop i).set i G[i] = G.take (i + 1) ++ F.drop (i + 1) := by
  rw [List.set_append_right _ _ (by rw [List.length_take]; omega), List.take_succ_eq_append_getElem hg]
  have e : i - (G.take i).length = 0 := by rw [List.length_take]; omega
  rw [e, List.drop_eq_getElem_cons hi, List.set_cons_zero, List.append_assoc]
  rfl
theorem mix_row {G F : List Rg} (h : G.length = F.length) {i : Nat} (hi : i < F.length) (y : Rg) (hy : ∀ h2 : i < G.length, G[i] = y) : ∃ R, R = G.take i ++ F.drop i ∧ R.length = F.length ∧ nth (R.flatMap rgC) (i * 2) = some (.int .i64 F[i].lo) ∧ nth (R.flatMap rgC) (i * 2 + 1) = some (.int .i64 F[i].hi) ∧ setNth (setNth (R.flatMap rgC) (i * 2) (.int .i64 y.lo)) (i * 2 + 1) (.int .i64 y.hi) = (G.take (i + 1) ++ F.drop (i + 1)).flatMap rgC := by
  have hg : i < G.length := by omega
  have hl := mix_len h i
  have hi2 : i < (G.take i ++ F.drop i).length := by omega
  refine ⟨_, rfl, hl, ?_, ?_, ?_⟩
  · rw [row_nth0 _ hi2, mix_get h hi hi2]
  · rw [row_nth1 _ hi2, mix_get h hi hi2]
  · rw [row_set _ hi2, ← hy hg, mix_set h hi hg]
def rateP (h : Int) : Rg → List Rel → Rg
  | q, [] => q
  | q, b :: r => if h < b.frm then q else rateP h b.rate r
def relFr (h : Int) (x : Ves) (f b : Rg) : Rg := plusR f ⟨downN b.lo (rateP h ⟨0, 0⟩ x.bands).lo, upN b.hi (rateP h ⟨0, 0⟩ x.bands).hi⟩
def relBo (h : Int) (x : Ves) (b : Rg) : Rg := ⟨downN b.lo (wrapF .i64 (1000000 - (rateP h ⟨0, 0⟩ x.bands).hi)), upN b.hi (wrapF .i64 (1000000 - (rateP h ⟨0, 0⟩ x.bands).lo))⟩
def relF (h : Int) (vs : List Ves) (F B : List Rg) : List Rg := (vs.zip (F.zip B)).map fun t => relFr h t.1 t.2.1 t.2.2
def relB (h : Int) (vs : List Ves) (B : List Rg) : List Rg := (vs.zip B).map fun t => relBo h t.1 t.2
def relT (v : Vac) (g : Gs) (s : Bk) : Gs := ⟨relF s.heat v.vessels g.free g.bound, relB s.heat v.vessels g.bound, g.room, g.most, g.flashed⟩
theorem relF_len {h : Int} {vs : List Ves} {F B : List Rg} (h1 : F.length = vs.length) (h2 : B.length = vs.length) : (relF h vs F B).length = vs.length := by
  simp [relF, h1, h2]
theorem relB_len {h : Int} {vs : List Ves} {B : List Rg} (h2 : B.length = vs.length) : (relB h vs B).length = vs.length := by
  simp [relB, h2]
theorem relF_get {h : Int} {vs : List Ves} {F B : List Rg} {i : Nat} (h0 : i < (relF h vs F B).length) (h1 : i < vs.length) (h2 : i < F.length) (h3 : i < B.length) : (relF h vs F B)[i] = relFr h vs[i] F[i] B[i] := by
  simp [relF]
theorem relB_get {h : Int} {vs : List Ves} {B : List Rg} {i : Nat} (h0 : i < (relB h vs B).length) (h1 : i < vs.length) (h3 : i < B.length) : (relB h vs B)[i] = relBo h vs[i] B[i] := by
  simp [relB]
theorem release_call {K : Nat} {X f b r : Nm} {v : Vac} {g : Gs} {s : Bk} {H : Heap} {n : Nat} {p : Nm} {j : Delta} (h : SysAt H X f b r v g) (ha : Apart X f b r) (h1 : g.free ≠ []) (hl1 : g.free.length = v.vessels.length) (hl2 : g.bound.length = v.vessels.length) (hK : v.vessels.length + 20 < K) (hl : v.vessels.length ≤ 1000000) (hbd : ∀ x ∈ v.vessels, x.bands.length ≤ 8) :
    acall cfg (K + 2) 148 [.ptr X 0, bkV s] ⟨H, n, p, false, j⟩ = .ret (.tuple [], ⟨sysPut X f b r v (relT v g s) H, n, p, false, j⟩) := by
  have hGF := relF_len (h := s.heat) hl1 hl2
  have hGB := relB_len (h := s.heat) hl2
  have h2 : g.bound ≠ [] := fun e => h1 (List.length_eq_zero_iff.1 (by rw [hl1, ← hl2, e]; rfl))
  refine sys_call mget148 fget148 h ha h1 h2 (by show (relF _ _ _ _).length = _; omega) (by show (relB _ _ _).length = _; omega) rfl fun H0 m hs hm => ?_
  refine body_does rfl fun T hT' hA => ?_
  have a0 := hA 0 _ rfl
  have a1 := hA 1 _ rfl
  have hT : T.length = 92 := hT'
  clear hA hT'
  have g0 := hs.x
  unfold sysB at g0
  have k0 : ∀ X, hget (([m + 3], X) :: H0) [0] = hget H0 [0] := fun X => hc11 (by omega)
  simp -implicitDefEqProofs only [go_sem, a0, a1, hT, g0, k0]
  simp only [does_bind]
  unfold relT
  refine xl_does (fun k T s' => T.length = 92 ∧ nth T 0 = some (.ptr [0] 0) ∧ nth T 3 = some (.ptr [m + 3] 0) ∧ nth T 14 = some (.lst (v.vessels.map vesV)) ∧ nth T 15 = some (.int .i64 v.vessels.length) ∧ ∃ (i m' : Nat) (H' : Heap), nth T 16 = some (.int .i64 i) ∧ i ≤ v.vessels.length ∧ k = v.vessels.length - i ∧ s' = ⟨H', m' + 3, [], false, []⟩ ∧ m < m' ∧ hget H' [m + 3] = some (.cells [.int .i64 s.ticks, .int .i64 s.heat, .lst (s.shut.map iV), .bool s.flash] true 0) ∧ SysAt H' [0] [1] [2] [3] v ⟨(relF s.heat v.vessels g.free g.bound).take i ++ g.free.drop i, (relB s.heat v.vessels g.bound).take i ++ g.bound.drop i, g.room, g.most, g.flashed⟩) (k := v.vessels.length) (by omega) ?_ ?_
  · exact ⟨by simp -implicitDefEqProofs only [go_sem, hT], by simp -implicitDefEqProofs only [go_sem, a0], by simp -implicitDefEqProofs only [go_sem, hT], by simp -implicitDefEqProofs only [go_sem, hT], by simp -implicitDefEqProofs only [go_sem, hT], 0, m + 1, _, by simp -implicitDefEqProofs only [go_sem, hT] <;> rfl, by omega, rfl, rfl, by omega, hget_cons_same .., ⟨(k0 _).trans hs.x, (hc11 (by omega)).trans hs.f, (hc11 (by omega)).trans hs.b, fun e => (hc11 (by have := hm e; omega)).trans (hs.r e)⟩⟩
  clear a0 a1 hT T g0 k0 hs H0
  rintro k T s' ⟨hT, a0, a3, a14, a15, i, m', H0, a16, hi, rfl, rfl, hmm, hbk, hs⟩
  simp -implicitDefEqProofs only [go_sem, a15, a16, hT]
  by_cases hil : (i : Int) < (v.vessels.length : Int)
  · have hi' : i < v.vessels.length := by omega
    have e1 := elemAt_map (f := vesV) (l := v.vessels) (i := i) (z := 6) hi' rfl
    have hkk : v.vessels.length - (i + 1) < v.vessels.length - i := by omega
    have hbx := hbd _ (List.getElem_mem hi')
    obtain ⟨F, hF, lF, f0, f1, fw⟩ := mix_row (G := relF s.heat v.vessels g.free g.bound) (F := g.free) (by omega) (show i < g.free.length by omega) _ (fun h0 => relF_get h0 hi' (by omega) (by omega))
    obtain ⟨B, hB, lB, b0, b1, bw⟩ := mix_row (G := relB s.heat v.vessels g.bound) (F := g.bound) (by omega) (show i < g.bound.length by omega) _ (fun h0 => relB_get h0 hi' (by omega))
    rw [← hF, ← hB] at hs
    clear hF hB
    generalize hF' : (relF s.heat v.vessels g.free g.bound).take (i + 1) ++ g.free.drop (i + 1) = F' at fw
    generalize hB' : (relB s.heat v.vessels g.bound).take (i + 1) ++ g.bound.drop (i + 1) = B' at bw
    generalize v.vessels[i] = x at *
    generalize g.free[i] = fi at *
    generalize g.bound[i] = bi at *
    simp only [vesV] at e1
    have k1 : ∀ X Y, hget (([m' + 4], X) :: ([m' + 3], Y) :: H0) [m' + 3] = some Y := fun X Y => (hc11 (by omega)).trans (hget_cons_same ..)
    simp -implicitDefEqProofs only [go_sem, a14, a16, hT, hil, e1, k1]
    simp only [does_bind]
    refine Tr.Does.mono (Q := fun x' => ∃ (T' : List AV) (m2 : Nat) (H2 : Heap), x' = ((AExit.exit 2, T'), (⟨H2, m2 + 5, [], false, []⟩ : St)) ∧ m' ≤ m2 ∧ T'.length = 92 ∧ nth T' 0 = some (.ptr [0] 0) ∧ nth T' 3 = some (.ptr [m + 3] 0) ∧ nth T' 4 = some (.int .i64 i) ∧ nth T' 6 = some (.ptr [m' + 4] 0) ∧ nth T' 14 = some (.lst (v.vessels.map vesV)) ∧ nth T' 15 = some (.int .i64 v.vessels.length) ∧ nth T' 16 = some (.int .i64 i) ∧ hget H2 [m' + 4] = some (.cells [.int .i64 (rateP s.heat ⟨0, 0⟩ x.bands).lo, .int .i64 (rateP s.heat ⟨0, 0⟩ x.bands).hi] true 0) ∧ ∀ k, k < m' + 3 → hget H2 [k] = hget H0 [k]) ?_ ?_
    · refine xl_does (fun k T s' => T.length = 92 ∧ nth T 0 = some (.ptr [0] 0) ∧ nth T 3 = some (.ptr [m + 3] 0) ∧ nth T 4 = some (.int .i64 i) ∧ nth T 6 = some (.ptr [m' + 4] 0) ∧ nth T 14 = some (.lst (v.vessels.map vesV)) ∧ nth T 15 = some (.int .i64 v.vessels.length) ∧ nth T 16 = some (.int .i64 i) ∧ nth T 22 = some (.lst (x.bands.map relV)) ∧ nth T 23 = some (.int .i64 x.bands.length) ∧ ∃ (c m2 : Nat) (H2 : Heap) (q : Rg), nth T 24 = some (.int .i64 c) ∧ c ≤ x.bands.length ∧ k = x.bands.length - c ∧ s' = ⟨H2, m2 + 5, [], false, []⟩ ∧ m' ≤ m2 ∧ hget H2 [m' + 4] = some (.cells [.int .i64 q.lo, .int .i64 q.hi] true 0) ∧ (∀ k, k < m' + 3 → hget H2 [k] = hget H0 [k]) ∧ rateP s.heat ⟨0, 0⟩ x.bands = rateP s.heat q (x.bands.drop c)) (k := x.bands.length) (by omega) ?_ ?_
      · exact ⟨by simp -implicitDefEqProofs only [go_sem, hT], by simp -implicitDefEqProofs only [go_sem, a0], by simp -implicitDefEqProofs only [go_sem, a3], by simp -implicitDefEqProofs only [go_sem, hT], by simp -implicitDefEqProofs only [go_sem, hT], by simp -implicitDefEqProofs only [go_sem, a14], by simp -implicitDefEqProofs only [go_sem, a15], by simp -implicitDefEqProofs only [go_sem, a16], by simp -implicitDefEqProofs only [go_sem, hT], by simp -implicitDefEqProofs only [go_sem, hT], 0, m', _, ⟨0, 0⟩, by simp -implicitDefEqProofs only [go_sem, hT] <;> rfl, by omega, rfl, rfl, Nat.le_refl _, hget_cons_same .., fun k hk => (hc11 (by omega)).trans (hc11 (by omega)), rfl⟩
      clear a0 a3 a14 a15 a16 hT T k1
      rintro k T s' ⟨hT, a0, a3, a4, a6, a14, a15, a16, a22, a23, c, m2, H2, q, a24, hc, rfl, rfl, hm2, hq, hfr, hra⟩
      simp -implicitDefEqProofs only [go_sem, a23, a24, hT]
      by_cases hcl : (c : Int) < (x.bands.length : Int)
      · have hc' : c < x.bands.length := by omega
        have e2 := elemAt_map (f := relV) (l := x.bands) (i := c) (z := 3) hc' rfl
        have hk2 : x.bands.length - (c + 1) < x.bands.length - c := by omega
        rw [List.drop_eq_getElem_cons hc'] at hra
        generalize x.bands[c] = y at *
        simp only [rateP] at hra
        simp only [relV] at e2
        have k5 : ∀ X, hget (([m2 + 5], X) :: H2) [m2 + 5] = some X := fun X => hget_cons_same ..
        have k3 : ∀ X, hget (([m2 + 5], X) :: H2) [m + 3] = _ := fun X => (hc11 (by omega)).trans ((hfr _ (by omega)).trans hbk)
        have k4 : ∀ X, hget (([m2 + 5], X) :: H2) [m' + 4] = _ := fun X => (hc11 (by omega)).trans hq
        by_cases cq : s.heat < y.frm
        · rw [if_pos cq] at hra
          simp -implicitDefEqProofs only [go_sem, a3, a22, a24, hT, hcl, e2, k5, k3, cq]
          exact ⟨_, m2 + 1, _, rfl, by omega, by simp -implicitDefEqProofs only [go_sem, hT], by simp -implicitDefEqProofs only [go_sem, a0], by simp -implicitDefEqProofs only [go_sem, a3], by simp -implicitDefEqProofs only [go_sem, a4], by simp -implicitDefEqProofs only [go_sem, a6], by simp -implicitDefEqProofs only [go_sem, a14], by simp -implicitDefEqProofs only [go_sem, a15], by simp -implicitDefEqProofs only [go_sem, a16], by rw [k4, hra], fun k hk => (hc11 (by omega)).trans (hfr k hk)⟩
        · rw [if_neg cq] at hra
          have hw1 : wrapF .i64 ((c : Int) + 1) = ((c + 1 : Nat) : Int) := wrap_i64 (by omega) (by omega)
          have nm4 : (m2 + 5 = m' + 4) = False := eq_false (by omega)
          simp -implicitDefEqProofs only [go_sem, a0, a3, a4, a6, a14, a15, a16, a22, a23, a24, hT, hcl, e2, k5, k3, k4, cq, hw1, nm4]
          exact ⟨x.bands.length - (c + 1), hk2, trivial, trivial, trivial, trivial, trivial, trivial, trivial, trivial, trivial, trivial, c + 1, m2 + 1, _, y.rate, rfl, hc', rfl, rfl, by omega, (hc11 (by omega)).trans (hss hq), fun k hk => (hc11 (by omega)).trans ((hs11 (by omega)).trans (hfr k hk)), hra⟩
      · have hce : c = x.bands.length := by omega
        subst hce
        rw [List.drop_length] at hra
        simp only [rateP] at hra
        simp -implicitDefEqProofs only [go_sem, hcl]
        exact ⟨_, m2, H2, rfl, hm2, by simp -implicitDefEqProofs only [go_sem, hT], by simp -implicitDefEqProofs only [go_sem, a0], by simp -implicitDefEqProofs only [go_sem, a3], by simp -implicitDefEqProofs only [go_sem, a4], by simp -implicitDefEqProofs only [go_sem, a6], by simp -implicitDefEqProofs only [go_sem, a14], by simp -implicitDefEqProofs only [go_sem, a15], by simp -implicitDefEqProofs only [go_sem, a16], by rw [hra]; exact hq, hfr⟩
    clear a0 a3 a14 a15 a16 hT T k1
    rintro _ ⟨T, m2, H2, rfl, hm2, hT, a0, a3, a4, a6, a14, a15, a16, hq, hfr⟩
    simp only [relFr, relBo] at fw bw
    generalize rateP s.heat ⟨0, 0⟩ x.bands = q at *
    have hinF : inR (i : Int) F.length = some i := inR_of (by omega)
    have hinB : inR (i : Int) B.length = some i := inR_of (by omega)
    have x0 := (hfr 0 (by omega)).trans hs.x
    have x1 := (hfr 1 (by omega)).trans hs.f
    have x2 := (hfr 2 (by omega)).trans hs.b
    have x3 := fun e => (hfr 3 (by have := hm e; omega)).trans (hs.r e)
    have xk := (hfr (m + 3) (by omega)).trans hbk
    have lF' : F'.length = F.length := by rw [← hF', mix_len (by omega)]; omega
    have lB' : B'.length = B.length := by rw [← hB', mix_len (by omega)]; omega
    have y0 : hget H2 [0] = some (sysB v [1] [2] [3] ⟨F', B', g.room, g.most, g.flashed⟩) := x0.trans (congrArg some (sysB_cg lF'.symm lB'.symm rfl rfl rfl))
    clear hs hbk hfr
    unfold sysB at x0
    unfold rgB at x1 x2
    simp only at x0 x1 x2
    have k0 : ∀ X, hget (([m2 + 5], X) :: H2) [0] = hget H2 [0] := fun X => hc11 (by omega)
    have k1 : ∀ X, hget (([m2 + 5], X) :: H2) [1] = hget H2 [1] := fun X => hc11 (by omega)
    have k2 : ∀ X, hget (([m2 + 5], X) :: H2) [2] = hget H2 [2] := fun X => hc11 (by omega)
    have k4 : ∀ X, hget (([m2 + 5], X) :: H2) [m' + 4] = hget H2 [m' + 4] := fun X => hc11 (by omega)
    have k5 : ∀ X, hget (([m2 + 5], X) :: H2) [m2 + 5] = some X := fun X => hget_cons_same ..
    have c1 := fun a b s => down_call a b K s
    have c2 := fun a b s => up_call a b K s
    have c3 := fun a b s => plus_call ⟨fi.lo, fi.hi⟩ ⟨a, b⟩ K s
    simp only [rgV] at c3
    have hw1 : wrapF .i64 ((i : Int) + 1) = ((i + 1 : Nat) : Int) := wrap_i64 (by omega) (by omega)
    have nm4 : ∀ x r, lkD (([1], x) :: r) [m' + 4] = lkD r [m' + 4] := fun x r => lk11 (by omega)
    have nm5 : ∀ x r, lkD (([1], x) :: r) [m2 + 5] = lkD r [m2 + 5] := fun x r => lk11 (by omega)
    simp -implicitDefEqProofs only [go_sem, a0, a4, hT, x0, x2, hinB, b0, b1]
    try simp only [does_bind]
    refine draw_machX [[], [0], [1, 0], [2, 1, 0], [3, 2, 1, 0], [], [], [6], [7, 6], [8, 7, 6], [9, 8, 7, 6], [], [10, 9, 8, 7, 6, 11], [12, 10, 9, 8, 7, 6, 11], [], [14], [], [16], [15, 14, 17, 16], [], [19], [], [21], [20, 19, 22, 21, 18, 15, 14, 17, 16], [23, 20, 19, 22, 21, 18, 15, 14, 17, 16], [13, 12, 10, 9, 8, 7, 6, 11, 24, 23, 20, 19, 22, 21, 18, 15, 14, 17, 16], [4, 3, 2, 1, 0, 5, 25, 13, 12, 10, 9, 8, 7, 6, 11, 24, 23, 20, 19, 22, 21, 18, 15, 14, 17, 16], [26, 4, 3, 2, 1, 0, 5, 25, 13, 12, 10, 9, 8, 7, 6, 11, 24, 23, 20, 19, 22, 21, 18, 15, 14, 17, 16]] [[], [], [], [], [], [], [], [], [], [], [], [], [], [], [], [], [], [], [], [], [], [], [], [], [], [], [], [[1]]] (by kernel_rfl) rfl rfl ?_
    simp -implicitDefEqProofs only [go_sem, Option.getD_some, a0, a4, a6, hT, x0, x1, hq, k0, k1, k4, k5, hinF, f0, f1, c1, c2, c3, row_off, fw, sameW_self]
    try simp only [does_bind]
    refine draw_machX [[], [0], [1, 0], [2, 1, 0], [3, 2, 1, 0], [], [], [6], [], [8], [9, 8], [7, 6, 10, 9, 8], [], [12], [], [14], [15, 14], [13, 12, 16, 15, 14, 11, 7, 6, 10, 9, 8], [17, 13, 12, 16, 15, 14, 11, 7, 6, 10, 9, 8], [4, 3, 2, 1, 0, 5, 18, 17, 13, 12, 16, 15, 14, 11, 7, 6, 10, 9, 8], [19, 4, 3, 2, 1, 0, 5, 18, 17, 13, 12, 16, 15, 14, 11, 7, 6, 10, 9, 8]] [[], [], [], [], [], [], [], [], [], [], [], [], [], [], [], [], [], [], [], [], [[2]]] (by kernel_rfl) rfl rfl ?_
    simp -implicitDefEqProofs only [go_sem, hget_redoH, lkn, lk11, Option.getD_some, Option.getD_none, a0, a3, a4, a6, a14, a15, a16, hT, x0, x2, hq, k0, k2, k4, k5, nm4, nm5, hinB, b0, b1, c1, c2, row_off, bw, hw1, sameW_self]
    refine ⟨v.vessels.length - (i + 1), hkk, trivial, trivial, trivial, trivial, trivial, i + 1, m2 + 5, _, rfl, hi', rfl, rfl, by omega, ?_, ?_⟩
    all_goals clear hw1
    · simp (disch := omega) only [hc11, hget_redoH, lkn, lk11, Option.getD_none]; exact xk
    · rw [hF', hB']
      refine ⟨?_, ?_, ?_, fun e => ?_⟩
      · simp (disch := omega) only [hc11, hget_redoH, lkn, lk11, Option.getD_none]; exact y0
      · simp (disch := omega) only [hc11, hget_redoH, lkn, lk_same, lk11, Option.getD_some, Option.getD_none]; rfl
      · simp (disch := omega) only [hc11, hget_redoH, lkn, lk_same, lk11, Option.getD_some, Option.getD_none]; rfl
      · have := hm e
        simp (disch := omega) only [hc11, hget_redoH, lkn, lk11, Option.getD_none]; exact x3 e
  · have hie : i = v.vessels.length := by omega
    subst hie
    simp -implicitDefEqProofs only [go_sem, hil, Try.results148]
    have e1 : (relF s.heat v.vessels g.free g.bound).take v.vessels.length ++ g.free.drop v.vessels.length = relF s.heat v.vessels g.free g.bound := by
      rw [List.drop_of_length_le (by omega), List.append_nil, List.take_of_length_le (by omega)]
    have e2 : (relB s.heat v.vessels g.bound).take v.vessels.length ++ g.bound.drop v.vessels.length = relB s.heat v.vessels g.bound := by
      rw [List.drop_of_length_le (by omega), List.append_nil, List.take_of_length_le (by omega)]
    rw [e1, e2] at hs
    exact ⟨trivial, hs⟩
end Go.Proofs.Ytgnpnfkncbnjnaa
namespace Go.Proofs.Ytgnpnfkncbnjnaa
open Go Go.Am
attribute [local congr] tr_congr does_congr all_congr
attribute [local go_sem] Go.Am.frozen Go.Am.freezeG Go.Am.freezeGs
def getFr (t : Gtr) (f r : Rg) : Rg := ⟨wrapF .i64 (f.lo - min2 (upN f.lo t.part.hi) r.hi), wrapF .i64 (f.hi - min2 (downN f.hi t.part.lo) r.lo)⟩
def getRo (t : Gtr) (f r : Rg) : Rg := ⟨max2 0 (wrapF .i64 (r.lo - upN f.hi t.part.hi)), max2 0 (wrapF .i64 (r.hi - downN f.lo t.part.lo))⟩
def getF : List Gtr → Nat → List Rg → List Rg → List Rg × List Rg
  | [], _, F, R => (F, R)
  | t :: ts, i, F, R => getF ts (i + 1) (F.set t.at'.toNat (getFr t (F[t.at'.toNat]?.getD ⟨0, 0⟩) (R[i]?.getD ⟨0, 0⟩))) (R.set i (getRo t (F[t.at'.toNat]?.getD ⟨0, 0⟩) (R[i]?.getD ⟨0, 0⟩)))
theorem getF_len : ∀ (l : List Gtr) (i : Nat) (F R : List Rg), (getF l i F R).1.length = F.length ∧ (getF l i F R).2.length = R.length
  | [], _, _, _ => ⟨rfl, rfl⟩
  | t :: ts, i, F, R => by
    unfold getF
    have := getF_len ts (i + 1) (F.set t.at'.toNat (getFr t (F[t.at'.toNat]?.getD ⟨0, 0⟩) (R[i]?.getD ⟨0, 0⟩))) (R.set i (getRo t (F[t.at'.toNat]?.getD ⟨0, 0⟩) (R[i]?.getD ⟨0, 0⟩)))
    simpa using this
def getT (v : Vac) (g : Gs) (s : Bk) : Gs := if g.flashed = true then ⟨(getF v.getters 0 g.free g.room).1, g.bound, (getF v.getters 0 g.free g.room).2, g.most, g.flashed⟩ else g
theorem rowX_pos {b : Nm} {n : Nat} (h : 0 < n) : rowX b n = .slice b 0 n n false := by cases n with | zero => omega | succ n => rfl
theorem get_call {K : Nat} {X f b r : Nm} {v : Vac} {g : Gs} {s : Bk} {H : Heap} {n : Nat} {p : Nm} {j : Delta} (h : SysAt H X f b r v g) (ha : Apart X f b r) (h1 : g.free ≠ []) (h2 : g.bound ≠ []) (hl1 : g.free.length = v.vessels.length) (hl3 : g.room.length = v.getters.length) (hK : v.getters.length + 20 < K) (hl : v.getters.length ≤ 1000000) (hat : ∀ t ∈ v.getters, 0 ≤ t.at' ∧ t.at' < v.vessels.length) :
    acall cfg (K + 2) 150 [.ptr X 0, bkV s] ⟨H, n, p, false, j⟩ = .ret (.tuple [], ⟨sysPut X f b r v (getT v g s) H, n, p, false, j⟩) := by
  have hgl := getF_len v.getters 0 g.free g.room
  refine sys_call mget150 fget150 h ha h1 h2 (by unfold getT; split <;> simp [hgl]) (by unfold getT; split <;> rfl) (by unfold getT; split <;> simp [hgl]) fun H0 m hs hm => ?_
  refine body_does rfl fun T hT' hA => ?_
  have a0 := hA 0 _ rfl
  have a1 := hA 1 _ rfl
  have hT : T.length = 104 := hT'
  clear hA hT'
  have g0 := hs.x
  unfold sysB at g0
  have k0 : ∀ X, hget (([m + 3], X) :: H0) [0] = hget H0 [0] := fun X => hc11 (by omega)
  have hs' : ∀ X, SysAt (([m + 3], X) :: H0) [0] [1] [2] [3] v g := fun X => ⟨(k0 _).trans hs.x, (hc11 (by omega)).trans hs.f, (hc11 (by omega)).trans hs.b, fun e => (hc11 (by have := hm e; omega)).trans (hs.r e)⟩
  unfold getT
  cases hfl : g.flashed with
  | false =>
    simp -implicitDefEqProofs only [go_sem, a0, a1, hT, g0, k0, hfl, Try.results150]
    exact ⟨trivial, hs' _⟩
  | true =>
    rw [if_pos rfl]
    simp -implicitDefEqProofs only [go_sem, a0, a1, hT, g0, k0, hfl]
    simp only [does_bind]
    refine xl_does (fun k T s' => T.length = 104 ∧ nth T 0 = some (.ptr [0] 0) ∧ nth T 18 = some (.lst (v.getters.map gtrV)) ∧ nth T 19 = some (.int .i64 v.getters.length) ∧ ∃ (i m' : Nat) (H' : Heap) (F R : List Rg), nth T 20 = some (.int .i64 i) ∧ i ≤ v.getters.length ∧ k = v.getters.length - i ∧ s' = ⟨H', m' + 3, [], false, []⟩ ∧ 1 ≤ m' ∧ SysAt H' [0] [1] [2] [3] v ⟨F, g.bound, R, g.most, true⟩ ∧ F.length = g.free.length ∧ R.length = g.room.length ∧ getF v.getters 0 g.free g.room = getF (v.getters.drop i) i F R) (k := v.getters.length) (by omega) ?_ ?_
    · exact ⟨by simp -implicitDefEqProofs only [go_sem, hT], by simp -implicitDefEqProofs only [go_sem, a0], by simp -implicitDefEqProofs only [go_sem, hT], by simp -implicitDefEqProofs only [go_sem, hT], 0, m + 1, _, g.free, g.room, by simp -implicitDefEqProofs only [go_sem, hT] <;> rfl, by omega, rfl, rfl, by omega, by have e := hs' (.cells [.int .i64 s.ticks, .int .i64 s.heat, .lst (s.shut.map iV), .bool s.flash] true 0); rw [show g = ⟨g.free, g.bound, g.room, g.most, true⟩ from by rw [← hfl]] at e; exact e, rfl, rfl, rfl⟩
    clear a0 a1 hT T g0 k0 hs hs' H0
    rintro k T s' ⟨hT, a0, a18, a19, i, m', H0, F, R, a20, hi, rfl, rfl, hmm, hs, lF, lR, he⟩
    simp -implicitDefEqProofs only [go_sem, a19, a20, hT]
    by_cases hil : (i : Int) < (v.getters.length : Int)
    · have hi' : i < v.getters.length := by omega
      have e1 := elemAt_map (f := gtrV) (l := v.getters) (i := i) (z := 5) hi' rfl
      have hkk : v.getters.length - (i + 1) < v.getters.length - i := by omega
      have hax := hat _ (List.getElem_mem hi')
      rw [List.drop_eq_getElem_cons hi'] at he
      generalize v.getters[i] = x at *
      obtain ⟨a, hxa⟩ : ∃ a : Nat, x.at' = a := ⟨x.at'.toNat, by omega⟩
      have haF : a < F.length := by omega
      have hiR : i < R.length := by omega
      simp only [getF] at he
      rw [hxa, Int.toNat_natCast, List.getElem?_eq_getElem haF, List.getElem?_eq_getElem hiR, Option.getD_some, Option.getD_some] at he
      have f0 := row_nth0 F haF
      have f1 := row_nth1 F haF
      have fw := row_set F haF (getFr x F[a] R[i])
      have r0 := row_nth0 R hiR
      have r1 := row_nth1 R hiR
      have rw' := row_set R hiR (getRo x F[a] R[i])
      generalize F[a] = fi at *
      generalize R[i] = ri at *
      generalize hF' : F.set a (getFr x fi ri) = F' at *
      generalize hR' : R.set i (getRo x fi ri) = R' at *
      have lF' : F'.length = F.length := by rw [← hF']; simp
      have lR' : R'.length = R.length := by rw [← hR']; simp
      simp only [getFr, getRo] at fw rw'
      have hinF : inR (a : Int) F.length = some a := inR_of haF
      have hinR : inR (i : Int) R.length = some i := inR_of hiR
      have hrow : rowX [3] R.length = .slice [3] 0 R.length R.length false := rowX_pos (by omega)
      have hrne : R ≠ [] := fun e => by rw [e] at hiR; simp at hiR
      have x0 := hs.x
      have x1 := hs.f
      have x2 := hs.b
      have x3 := hs.r hrne
      have y0 : hget H0 [0] = some (sysB v [1] [2] [3] ⟨F', g.bound, R', g.most, true⟩) := x0.trans (congrArg some (sysB_cg lF'.symm rfl lR'.symm rfl rfl))
      unfold sysB at x0
      unfold rgB at x1 x3
      simp only at x0 x1 x2 x3
      rw [hrow] at x0
      simp only [gtrV] at e1
      rw [hxa] at e1
      have c1 := fun a b s => down_call a b K s
      have c2 := fun a b s => up_call a b K s
      have k0 : ∀ X, hget (([m' + 3], X) :: H0) [0] = hget H0 [0] := fun X => hc11 (by omega)
      have k1 : ∀ X, hget (([m' + 3], X) :: H0) [1] = hget H0 [1] := fun X => hc11 (by omega)
      have k3 : ∀ X, hget (([m' + 3], X) :: H0) [3] = hget H0 [3] := fun X => hc11 (by omega)
      have k5 : ∀ X, hget (([m' + 3], X) :: H0) [m' + 3] = some X := fun X => hget_cons_same ..
      have hw1 : wrapF .i64 ((i : Int) + 1) = ((i + 1 : Nat) : Int) := wrap_i64 (by omega) (by omega)
      have hm0 : (m' = 0) = False := eq_false (by omega)
      have nm1 : ∀ x r, lkD (([1], x) :: r) [m' + 3] = lkD r [m' + 3] := fun x r => lk11 (by omega)
      simp -implicitDefEqProofs only [go_sem, a18, a20, hT, hil, e1]
      try simp only [does_bind]
      refine draw_machX [[], [0], [1, 0], [2, 1, 0], [3, 2, 1, 0], [], [5], [4, 3, 2, 1, 0, 6, 5], [7, 4, 3, 2, 1, 0, 6, 5], [], [9], [10, 9], [11, 10, 9], [12, 11, 10, 9], [], [13, 12, 11, 10, 9, 14], [15, 13, 12, 11, 10, 9, 14], [], [], [8, 7, 4, 3, 2, 1, 0, 6, 5, 17, 18], [16, 15, 13, 12, 11, 10, 9, 14, 19, 8, 7, 4, 3, 2, 1, 0, 6, 5, 17, 18]] [[], [], [], [], [], [], [], [], [], [], [], [], [], [], [], [], [], [], [], [[m' + 4, 17, 0]], [[m' + 4, 18, 0]]] (by kernel_rfl) rfl rfl ?_
      simp -implicitDefEqProofs only [go_sem, hget_redoH, lkn, lk_same, lk33k, Option.getD_some, Option.getD_none, a0, hT, x0, x1, x3, k0, k1, k3, k5, hinF, hinR, f0, f1, r0, r1, hd31, hm0, sameW_self]
      try simp only [does_bind]
      refine draw_machX [[], [0], [1, 0], [2, 1, 0], [3, 2, 1, 0], [], [5], [], [7], [], [9], [], [11], [12, 11], [10, 9, 13, 12, 11], [], [15], [14, 10, 9, 13, 12, 11, 16, 15], [8, 7, 17, 14, 10, 9, 13, 12, 11, 16, 15], [], [19], [], [21], [], [23], [24, 23], [22, 21, 25, 24, 23, 14, 10, 9, 13, 12, 11], [], [27], [26, 22, 21, 25, 24, 23, 14, 10, 9, 13, 12, 11, 28, 27], [20, 19, 29, 26, 22, 21, 25, 24, 23, 14, 10, 9, 13, 12, 11, 28, 27], [18, 8, 7, 17, 16, 15, 30, 20, 19, 29, 26, 22, 21, 25, 24, 23, 14, 10, 9, 13, 12, 11, 28, 27], [4, 3, 2, 1, 0, 6, 5, 31, 18, 8, 7, 17, 16, 15, 30, 20, 19, 29, 26, 22, 21, 25, 24, 23, 14, 10, 9, 13, 12, 11, 28, 27], [32, 4, 3, 2, 1, 0, 6, 5, 31, 18, 8, 7, 17, 16, 15, 30, 20, 19, 29, 26, 22, 21, 25, 24, 23, 14, 10, 9, 13, 12, 11, 28, 27]] [[], [], [], [], [], [], [], [], [], [], [], [], [], [], [], [], [], [], [], [], [], [], [], [], [], [], [], [], [], [], [], [], [], [[1]]] (by kernel_rfl) rfl rfl ?_
      simp -implicitDefEqProofs only [go_sem, hget_redoH, lkn, lk_same, lk31, lk33k, Option.getD_some, Option.getD_none, a0, hT, x0, x1, k0, k1, k5, hinF, f0, f1, c1, c2, mm_min, row_off, fw, sameW_self]
      try simp only [does_bind]
      refine draw_machX [[], [0], [1, 0], [2, 1, 0], [3, 2, 1, 0], [], [], [6], [], [8], [], [10], [11, 10], [9, 8, 12, 11, 10], [7, 6, 13, 9, 8, 12, 11, 10], [14, 7, 6, 13, 9, 8, 12, 11, 10], [], [16], [], [18], [], [20], [21, 20], [19, 18, 22, 21, 20, 13, 9, 8, 12, 11, 10], [17, 16, 23, 19, 18, 22, 21, 20, 13, 9, 8, 12, 11, 10], [24, 17, 16, 23, 19, 18, 22, 21, 20, 13, 9, 8, 12, 11, 10], [15, 14, 7, 6, 25, 24, 17, 16, 23, 19, 18, 22, 21, 20, 13, 9, 8, 12, 11, 10], [4, 3, 2, 1, 0, 5, 26, 15, 14, 7, 6, 25, 24, 17, 16, 23, 19, 18, 22, 21, 20, 13, 9, 8, 12, 11, 10], [27, 4, 3, 2, 1, 0, 5, 26, 15, 14, 7, 6, 25, 24, 17, 16, 23, 19, 18, 22, 21, 20, 13, 9, 8, 12, 11, 10]] [[], [], [], [], [], [], [], [], [], [], [], [], [], [], [], [], [], [], [], [], [], [], [], [], [], [], [], [], [[3]]] (by kernel_rfl) rfl rfl ?_
      simp -implicitDefEqProofs only [go_sem, hget_redoH, lkn, lk_same, lk11, lk13, lk31, lk33k, Option.getD_some, Option.getD_none, a0, a18, a19, a20, hT, x0, x3, k0, k3, k5, nm1, hinR, r0, r1, c1, c2, mm_max, row_off, rw', hw1, sameW_self]
      refine ⟨v.getters.length - (i + 1), hkk, trivial, trivial, trivial, trivial, i + 1, m' + 4, _, F', R', rfl, hi', rfl, rfl, by omega, ?_, by rw [lF']; exact lF, by rw [lR']; exact lR, he⟩
      all_goals clear hw1
      refine ⟨?_, ?_, ?_, fun e => ?_⟩
      · simp (disch := omega) only [hc11, hget_redoH, lkn, lk11, lk31, Option.getD_none]; exact y0
      · simp (disch := omega) only [hc11, hget_redoH, lkn, lk_same, lk11, lk31, Option.getD_some, Option.getD_none]; rfl
      · simp (disch := omega) only [hc11, hget_redoH, lkn, lk11, lk31, Option.getD_none]; exact x2
      · simp (disch := omega) only [hc11, hget_redoH, lkn, lk_same, lk11, lk31, Option.getD_some, Option.getD_none]; rfl
    · have hie : i = v.getters.length := by omega
      subst hie
      rw [List.drop_length] at he
      simp only [getF] at he
      rw [he]
      simp -implicitDefEqProofs only [go_sem, hil, Try.results150]
      exact ⟨trivial, hs⟩
end Go.Proofs.Ytgnpnfkncbnjnaa
namespace Go.Proofs.Ytgnpnfkncbnjnaa
open Go Go.Am
attribute [local congr] tr_congr does_congr all_congr
attribute [local go_sem] Go.Am.frozen Go.Am.freezeG Go.Am.freezeGs
def mulR (f r : Rg) : Rg := ⟨wrapF .i64 (f.lo * r.lo), wrapF .i64 (f.hi * r.hi)⟩
theorem come_call (x y : Int) (a : Nat) (r : Rg) (c2 c5 M : Nat) (es : List (Int × Rg)) (cs : List AV) (F : List Rg) (K : Nat) (H : Heap) (n : Nat) (hy : y = a) (ha : a < F.length) (h2 : hget H [c2] = some (.cells [.ptr [0] 0] true 0)) (h5 : hget H [c5] = some (.cells [.map [M]] true 0)) (hM : hget H [M] = some (.map (encE es) false)) (h0 : hget H [0] = some (.cells cs true 0)) (hcs : nth cs 5 = some (.slice [1] 0 F.length F.length false)) (h1 : hget H [1] = some (rgB F)) (l2 : c2 < n) (l5 : c5 < n) (lM : M < n) (l1 : 1 < n) (nM0 : M ≠ 0) (nM1 : M ≠ 1) (nM2 : M ≠ c2) (nM5 : M ≠ c5) :
    ∃ H' n', acall cfg (K + 2) 180 [.int .i64 x, .int .i64 y, rgV r, .ptr [c2] 0, .ptr [c5] 0] ⟨H, n, [], false, []⟩ = .ret (.tuple [], ⟨H', n', [], false, []⟩) ∧ n ≤ n' ∧ hget H' [M] = some (.map (encE (setS es x (plusR (getS es x) (mulR F[a] r)))) false) ∧ (∀ k, k < n → k ≠ M → hget H' [k] = hget H [k]) ∧ ∀ k a b, hget H' [k, a, b] = hget H [k, a, b] := by
  suffices h : (acall cfg (K + 2) 180 [.int .i64 x, .int .i64 y, rgV r, .ptr [c2] 0, .ptr [c5] 0] ⟨H, n, [], false, []⟩).Does fun q => ∃ H' n', q = (.tuple [], ⟨H', n', [], false, []⟩) ∧ n ≤ n' ∧ hget H' [M] = some (.map (encE (setS es x (plusR (getS es x) (mulR F[a] r)))) false) ∧ (∀ k, k < n → k ≠ M → hget H' [k] = hget H [k]) ∧ ∀ k a b, hget H' [k, a, b] = hget H [k, a, b] by
    obtain ⟨q, e, H', n', rfl, h⟩ := h
    exact ⟨H', n', e, h⟩
  subst hy
  rw [call0 mget180 fget180]
  refine body_does rfl fun T hT' hA => ?_
  have a0 := hA 0 _ rfl
  have a1 := hA 1 _ rfl
  have a2 := hA 2 _ rfl
  have a3 := hA 3 _ rfl
  have a4 := hA 4 _ rfl
  have hT : T.length = 34 := hT'
  clear hA hT'
  have f0 := row_nth0 F ha
  have f1 := row_nth1 F ha
  have hin : inR (a : Int) F.length = some a := inR_of ha
  generalize F[a] = f at *
  unfold rgB at h1
  have k2 : ∀ X, hget (([n], X) :: H) [c2] = hget H [c2] := fun X => hc11 (by omega)
  have k0 : ∀ X, hget (([n], X) :: H) [0] = hget H [0] := fun X => hc11 (by omega)
  have k1 : ∀ X, hget (([n], X) :: H) [1] = hget H [1] := fun X => hc11 (by omega)
  have e2 : ∀ X Y, hget (([n + 1], Y) :: ([n], X) :: H) [c5] = hget H [c5] := fun X Y => (hc11 (by omega)).trans (hc11 (by omega))
  have e3 : ∀ X Y, hget (([n + 1], Y) :: ([n], X) :: H) [M] = hget H [M] := fun X Y => (hc11 (by omega)).trans (hc11 (by omega))
  have e4 : ∀ X Y, hget (([n + 1], Y) :: ([n], X) :: H) [n] = some X := fun X Y => (hc11 (by omega)).trans (hget_cons_same ..)
  have e5 : ∀ X Y, hget (([n + 1], Y) :: ([n], X) :: H) [n + 1] = some Y := fun X Y => hget_cons_same ..
  have hlk := fun (s : St) (hg : hget s.H [M] = some (.map (encE es) false)) => look_s (C := cfg.at 180) rfl (k := x) hg
  have hup := fun (s : St) (hg : hget s.H [M] = some (.map (encE es) false)) => upd_s (C := cfg.at 180) rfl (k := x) (x := plusR (getS es x) (mulR f r)) hg
  have hpl := fun s => plus_call (getS es x) (mulR f r) K s
  generalize hE : setS es x (plusR (getS es x) (mulR f r)) = es2 at *
  generalize plusR (getS es x) (mulR f r) = pp at *
  simp only [rgV, mulR] at hlk hup hpl
  simp -implicitDefEqProofs only [go_sem, a1, a2, a3, hT, k2, h2, k0, h0, hcs, hin, k1, h1, f0, f1]
  have ip : isPre [n + 1 + 1, 17] [M] = false := Go.Am.isPre_ne _ _ (by omega)
  try simp only [does_bind]
  refine draw_machX [[], [], [], [], [2, 3], [], [5], [], [7], [6, 5, 8, 7], [], [10], [], [12], [11, 10, 13, 12], [9, 6, 5, 8, 7, 14, 11, 10, 13, 12], [4, 2, 3, 15, 9, 6, 5, 8, 7, 14, 11, 10, 13, 12], [0, 1, 16, 4, 2, 3, 15, 9, 6, 5, 8, 7, 14, 11, 10, 13, 12]] [[], [], [], [], [], [], [], [], [], [], [], [], [], [], [], [], [], [[M]]] (by kernel_rfl) rfl rfl ?_
  simp -implicitDefEqProofs only [go_sem, Option.getD_some, a0, a4, hT, e2, e3, e4, e5, h5, hM, hlk, hup, hpl, ip, sameW_self, Try.results180]
  refine ⟨_, _, rfl, by omega, ?_, fun k hk hne => ?_, fun k a b => ?_⟩
  · simp (disch := omega) only [hc11, hget_redoH, lk_same, Option.getD_some]
  · simp (disch := omega) only [hc11, hget_redoH, lkn, lk11, Option.getD_none]
  · simp (disch := omega) only [hc13, hget_redoH, lkn, lk13, Option.getD_none]
end Go.Proofs.Ytgnpnfkncbnjnaa
namespace Go.Proofs.Ytgnpnfkncbnjnaa
open Go Go.Am
attribute [local congr] tr_congr does_congr all_congr
attribute [local go_sem] Go.Am.frozen Go.Am.freezeG Go.Am.freezeGs
def atR (F : List Rg) (a : Int) : Rg := F[a.toNat]?.getD ⟨0, 0⟩
theorem atR_nat (F : List Rg) {a : Nat} (h : a < F.length) : atR F a = F[a] := by
  unfold atR; rw [Int.toNat_natCast, List.getElem?_eq_getElem h]; rfl
def begR (v : Vac) (shut : List Int) (F : List Rg) (i : Int) : Rg := mulR (atR F i) ⟨wrapF .i64 (1000000 - (outR v i shut).hi), wrapF .i64 (1000000 - (outR v i shut).lo)⟩
def flowS (F : List Rg) (shut : List Int) (x : Int) : Nat → Rg → List Pip → Rg
  | _, acc, [] => acc
  | k, acc, p :: r => if (k : Int) ∈ shut then flowS F shut x (k + 1) acc r else
    flowS F shut x (k + 1) (if x = p.a then plusR (if x = p.b then plusR acc (mulR (atR F p.a) p.out) else acc) (mulR (atR F p.b) p.back) else (if x = p.b then plusR acc (mulR (atR F p.a) p.out) else acc)) r
def quoR (r : Rg) : Rg := ⟨wrapF .i64 (r.lo.tdiv 1000000), wrapF .i64 ((wrapF .i64 (wrapF .i64 (r.hi + 1000000) - 1)).tdiv 1000000)⟩
def flowG (v : Vac) (shut : List Int) (F : List Rg) : List Rg := (List.range F.length).map fun (i : Nat) => quoR (flowS F shut i 0 (begR v shut F i) v.pipes)
def leakR : List Rg → List Inl → List Rg
  | R, [] => R
  | R, l :: r => leakR (R.set l.at'.toNat (plusR (atR R l.at') l.gas)) r
theorem leakR_len : ∀ (l : List Inl) (R : List Rg), (leakR R l).length = R.length
  | [], _ => rfl
  | x :: l, R => by unfold leakR; rw [leakR_len l]; simp
theorem flowG_len (v : Vac) (shut : List Int) (F : List Rg) : (flowG v shut F).length = F.length := by simp [flowG]
def flowT (v : Vac) (g : Gs) (s : Bk) : Gs := ⟨leakR (flowG v s.shut g.free) v.leaks, g.bound, g.room, g.most, g.flashed⟩
structure Fl (m : Nat) (v : Vac) (g : Gs) (s : Bk) (H : Heap) : Prop where
  p : hget H [m + 3] = some (.cells [.ptr [0] 0] true 0)
  k : hget H [m + 4] = some (.cells [.int .i64 s.ticks, .int .i64 s.heat, .lst (s.shut.map iV), .bool s.flash] true 0)
  c : hget H [m + 7] = some (.cells [.map [m + 6]] true 0)
  l : hget H [m + 5, 6, 0] = some (.map (encE (leaveL v s.shut)) false)
  s : SysAt H [0] [1] [2] [3] v g
theorem Fl.of {m : Nat} {v : Vac} {g : Gs} {s : Bk} {H H' : Heap} (h : Fl m v g s H) (e : ∀ k, k < m + 8 → k ≠ m + 6 → hget H' [k] = hget H [k]) (e2 : hget H' [m + 5, 6, 0] = hget H [m + 5, 6, 0]) (hm : g.room ≠ [] → 1 ≤ m) (h3 : 3 ≤ m + 3) : Fl m v g s H' :=
  ⟨(e _ (by omega) (by omega)).trans h.p, (e _ (by omega) (by omega)).trans h.k, (e _ (by omega) (by omega)).trans h.c, e2.trans h.l,
    ⟨(e 0 (by omega) (by omega)).trans h.s.x, (e 1 (by omega) (by omega)).trans h.s.f, (e 2 (by omega) (by omega)).trans h.s.b, fun q => (e 3 (by omega) (by omega)).trans (h.s.r q)⟩⟩
theorem flow_call {K : Nat} {X f b r : Nm} {v : Vac} {g : Gs} {s : Bk} {H : Heap} {n : Nat} {p : Nm} {j : Delta} (h : SysAt H X f b r v g) (ha : Apart X f b r) (h1 : g.free ≠ []) (h2 : g.bound ≠ []) (hl1 : g.free.length = v.vessels.length) (hK : v.vessels.length + 100 < K) (hl : v.vessels.length ≤ 1000000) (hv : v.Lens K) (hsh : s.shut.length < K) (hsh2 : s.shut.length ≤ 9223372036854775807)
    (hpp : ∀ q ∈ v.pipes, (0 ≤ q.a ∧ q.a < v.vessels.length) ∧ 0 ≤ q.b ∧ q.b < v.vessels.length) (hll : ∀ q ∈ v.leaks, 0 ≤ q.at' ∧ q.at' < v.vessels.length) :
    acall cfg (K + 4) 149 [.ptr X 0, bkV s] ⟨H, n, p, false, j⟩ = .ret (.tuple [], ⟨sysPut X f b r v (flowT v g s) H, n, p, false, j⟩) := by
  refine sys_call mget149 fget149 h ha h1 h2 (by show (leakR _ _).length = _; rw [leakR_len, flowG_len]) rfl rfl fun H0 m hs hm => ?_
  refine body_does rfl fun T hT' hA => ?_
  have a0 := hA 0 _ rfl
  have a1 := hA 1 _ rfl
  have hT : T.length = 148 := hT'
  clear hA hT'
  have g0 := hs.x
  unfold sysB at g0
  have q0 : ∀ X Y, hget (([m + 4], X) :: ([m + 3], Y) :: H0) [0] = hget H0 [0] := fun X Y => (hc11 (by omega)).trans (hc11 (by omega))
  have q3 : ∀ X Y, hget (([m + 4], X) :: ([m + 3], Y) :: H0) [m + 3] = some Y := fun X Y => (hc11 (by omega)).trans (hget_cons_same ..)
  have q4 : ∀ X Y, hget (([m + 4], X) :: ([m + 3], Y) :: H0) [m + 4] = some X := fun X Y => hget_cons_same ..
  have u1 : (m + 4 = m) = False := eq_false (by omega)
  have u2 : (m + 3 = m) = False := eq_false (by omega)
  have hlv := fun s' => leaving_call v s.shut K s' hv hsh hsh2
  simp only [vacV] at hlv
  simp -implicitDefEqProofs only [go_sem, a0, a1]
  try simp only [does_bind]
  refine draw_machX [[], [0], [1, 0], [2, 1, 0], [], [4], [3, 2, 1, 0, 5, 4], [6, 3, 2, 1, 0, 5, 4]] [[], [], [], [], [], [], [], []] (by kernel_rfl) rfl rfl ?_
  simp -implicitDefEqProofs only [go_sem, hget_redoH, lkn, lk31, Option.getD_some, Option.getD_none, hT, g0, q0, q3, q4, hlv, u1, u2, sameW_self]
  have hF1 : ∀ B1 : Blk, Fl m v g s (([m + 7], .cells [.map [m + 6]] true 0) :: ([m + 6], B1) :: redoH (([m + 4], .cells [.int .i64 s.ticks, .int .i64 s.heat, .lst (s.shut.map iV), .bool s.flash] true 0) :: ([m + 3], .cells [.ptr [0] 0] true 0) :: H0) [([m + 5, 6, 0], some (.map (encE (leaveL v s.shut)) false))]) := fun B1 =>
    ⟨by simp (disch := omega) only [hget_cons_same, hc11, hget_redoH, lkn, lk31, Option.getD_none], by simp (disch := omega) only [hget_cons_same, hc11, hget_redoH, lkn, lk31, Option.getD_none], hget_cons_same .., by simp (disch := omega) only [hc13, hget_redoH, lk_same, Option.getD_some], ⟨by simp (disch := omega) only [hc11, hget_redoH, lkn, lk31, Option.getD_none]; exact hs.x, by simp (disch := omega) only [hc11, hget_redoH, lkn, lk31, Option.getD_none]; exact hs.f, by simp (disch := omega) only [hc11, hget_redoH, lkn, lk31, Option.getD_none]; exact hs.b, fun e => by have := hm e; simp (disch := omega) only [hc11, hget_redoH, lkn, lk31, Option.getD_none]; exact hs.r e⟩⟩
  simp only [does_bind]
  refine Tr.Does.mono (Q := fun x => ∃ (T' : List AV) (m' : Nat) (H' : Heap) (es : List (Int × Rg)), x = ((AExit.exit 0, T'), (⟨H', m' + 8, [], false, []⟩ : St)) ∧ m ≤ m' ∧ T'.length = 148 ∧ nth T' 2 = some (.ptr [m + 3] 0) ∧ nth T' 3 = some (.ptr [m + 4] 0) ∧ nth T' 5 = some (.ptr [m + 7] 0) ∧ Fl m v g s H' ∧ hget H' [m + 6] = some (.map (encE es) false) ∧ ∀ q : Nat, q < g.free.length → getS es q = begR v s.shut g.free q) ?_ ?_
  · refine xl_does (fun k T s' => T.length = 148 ∧ nth T 2 = some (.ptr [m + 3] 0) ∧ nth T 3 = some (.ptr [m + 4] 0) ∧ nth T 4 = some (.map [m + 5, 6, 0]) ∧ nth T 5 = some (.ptr [m + 7] 0) ∧ nth T 26 = some (.slice [1] 0 g.free.length g.free.length false) ∧ nth T 27 = some (.int .i64 g.free.length) ∧ ∃ (i m' : Nat) (H' : Heap) (es : List (Int × Rg)), nth T 28 = some (.int .i64 i) ∧ i ≤ g.free.length ∧ k = g.free.length - i ∧ s' = ⟨H', m' + 8, [], false, []⟩ ∧ m ≤ m' ∧ Fl m v g s H' ∧ hget H' [m + 6] = some (.map (encE es) false) ∧ ∀ q : Nat, q < i → getS es q = begR v s.shut g.free q) (k := g.free.length) (by omega) ?_ ?_
    · exact ⟨by simp -implicitDefEqProofs only [go_sem, hT], by simp -implicitDefEqProofs only [go_sem, hT], by simp -implicitDefEqProofs only [go_sem, hT], by simp -implicitDefEqProofs only [go_sem, hT], by simp -implicitDefEqProofs only [go_sem, hT], by simp -implicitDefEqProofs only [go_sem, hT], by simp -implicitDefEqProofs only [go_sem, hT], 0, m, _, [], by simp -implicitDefEqProofs only [go_sem, hT] <;> rfl, by omega, rfl, rfl, Nat.le_refl _, hF1 _, by simp (disch := omega) only [hget_cons_same, hc11]; rfl, fun q hq => absurd hq (by omega)⟩
    clear a0 a1 hT T g0 q0 q3 q4 hs H0 hF1
    rintro k T s' ⟨hT, a2, a3, a4, a5, a26, a27, i, m', H0, es, a28, hi, rfl, rfl, hmm, hF, hM, hq⟩
    simp -implicitDefEqProofs only [go_sem, a27, a28, hT]
    by_cases hil : (i : Int) < (g.free.length : Int)
    · have hi' : i < g.free.length := by omega
      have hkk : g.free.length - (i + 1) < g.free.length - i := by omega
      have f0 := row_nth0 g.free hi'
      have f1 := row_nth1 g.free hi'
      have hin : inR (i : Int) g.free.length = some i := inR_of hi'
      have hbg : begR v s.shut g.free i = mulR g.free[i] ⟨wrapF .i64 (1000000 - (outR v i s.shut).hi), wrapF .i64 (1000000 - (outR v i s.shut).lo)⟩ := by unfold begR; rw [atR_nat _ hi']
      generalize g.free[i] = fi at *
      have x1 := hF.s.f
      unfold rgB at x1
      have hc := hF.c
      have hlL := hF.l
      have z1 : (m' + 1 = m) = False := eq_false (by omega)
      have z2 : (m' + 2 = m) = False := eq_false (by omega)
      have z4 : (m' + 4 = m) = False := eq_false (by omega)
      have z5 : (m' + 5 = m) = False := eq_false (by omega)
      have hlk := fun (st : St) (hg : hget st.H [m + 5, 6, 0] = some (.map (encE (leaveL v s.shut)) false)) => look_s (C := cfg.at 149) rfl (k := (i : Int)) hg
      rw [leave_get] at hlk
      have hup := fun (st : St) (hg : hget st.H [m + 6] = some (.map (encE es) false)) => upd_s (C := cfg.at 149) rfl (k := (i : Int)) (x := begR v s.shut g.free i) hg
      have hes : ∀ q : Nat, q < i + 1 → getS (setS es i (begR v s.shut g.free i)) q = begR v s.shut g.free q := fun q hq2 => by
        rw [get_set]
        by_cases e : (q : Int) = i
        · rw [if_pos e, e]
        · rw [if_neg e]; exact hq q (by omega)
      rw [hbg] at hup
      have hw1 : wrapF .i64 ((i : Int) + 1) = ((i + 1 : Nat) : Int) := wrap_i64 (by omega) (by omega)
      simp only [rgV, mulR] at hlk hup
      simp -implicitDefEqProofs only [go_sem, a2, a3, a4, a5, a26, a27, a28, hT, hil, hin, x1, f0, f1, hc, hM, hlL, z1, z2, hlk, hup, hw1]
      exact ⟨g.free.length - (i + 1), hkk, trivial, trivial, trivial, trivial, trivial, trivial, trivial, i + 1, m' + 1, _, setS es i (begR v s.shut g.free i), rfl, hi', rfl, rfl, by omega, hF.of (fun k hk hne => (hc11 (by omega)).trans (hs11 (by omega))) (hc13.trans hs13) hm (by omega), (hc11 (by omega)).trans (by rw [hbg]; exact hss hM), hes⟩
    · have hie : i = g.free.length := by omega
      subst hie
      simp -implicitDefEqProofs only [go_sem, hil]
      exact ⟨_, m', H0, es, rfl, hmm, by simp -implicitDefEqProofs only [go_sem, hT], by simp -implicitDefEqProofs only [go_sem, a2], by simp -implicitDefEqProofs only [go_sem, a3], by simp -implicitDefEqProofs only [go_sem, a5], hF, hM, hq⟩
  clear a0 a1 hT T g0 q0 q3 q4 hs H0 hF1
  rintro _ ⟨T, m', H0, es, rfl, hmm, hT, a2, a3, a5, hF, hM, hq⟩
  have x0 := hF.s.x
  have hp := hF.p
  have hpc := hF.c
  unfold sysB at x0
  simp -implicitDefEqProofs only [go_sem, a2, a5, hT, hp, x0]
  simp only [does_bind]
  refine Tr.Does.mono (Q := fun x => ∃ (T' : List AV) (m' : Nat) (H' : Heap) (es : List (Int × Rg)), x = ((AExit.exit 2, T'), (⟨H', m' + 8, [], false, []⟩ : St)) ∧ m ≤ m' ∧ T'.length = 148 ∧ nth T' 2 = some (.ptr [m + 3] 0) ∧ nth T' 5 = some (.ptr [m + 7] 0) ∧ Fl m v g s H' ∧ hget H' [m + 6] = some (.map (encE es) false) ∧ ∀ q : Nat, q < g.free.length → getS es q = flowS g.free s.shut q 0 (begR v s.shut g.free q) v.pipes) ?_ ?_
  · refine xl_does (fun k T s' => T.length = 148 ∧ nth T 2 = some (.ptr [m + 3] 0) ∧ nth T 3 = some (.ptr [m + 4] 0) ∧ nth T 5 = some (.ptr [m + 7] 0) ∧ nth T 8 = some (.func 180 [.ptr [m + 3] 0, .ptr [m + 7] 0]) ∧ nth T 58 = some (.lst (v.pipes.map pipV)) ∧ nth T 59 = some (.int .i64 v.pipes.length) ∧ ∃ (i m' : Nat) (H' : Heap) (es : List (Int × Rg)), nth T 60 = some (.int .i64 i) ∧ i ≤ v.pipes.length ∧ k = v.pipes.length - i ∧ s' = ⟨H', m' + 8, [], false, []⟩ ∧ m ≤ m' ∧ Fl m v g s H' ∧ hget H' [m + 6] = some (.map (encE es) false) ∧ ∀ q : Nat, q < g.free.length → flowS g.free s.shut q 0 (begR v s.shut g.free q) v.pipes = flowS g.free s.shut q i (getS es q) (v.pipes.drop i)) (k := v.pipes.length) (by have := hv.pip.1; omega) ?_ ?_
    · exact ⟨by simp -implicitDefEqProofs only [go_sem, hT], by simp -implicitDefEqProofs only [go_sem, a2], by simp -implicitDefEqProofs only [go_sem, a3], by simp -implicitDefEqProofs only [go_sem, a5], by simp -implicitDefEqProofs only [go_sem, hT], by simp -implicitDefEqProofs only [go_sem, hT], by simp -implicitDefEqProofs only [go_sem, hT], 0, m', _, es, by simp -implicitDefEqProofs only [go_sem, hT] <;> rfl, by omega, rfl, rfl, hmm, hF, hM, fun q hq2 => by rw [hq q hq2]; rfl⟩
    clear a2 a3 a5 hT T x0 hp hpc hF hM hq H0 hmm
    rintro k T s' ⟨hT, a2, a3, a5, a8, a58, a59, i, m', H0, es, a60, hi, rfl, rfl, hmm, hF, hM, hq⟩
    simp -implicitDefEqProofs only [go_sem, a59, a60, hT]
    by_cases hil : (i : Int) < (v.pipes.length : Int)
    · have hi' : i < v.pipes.length := by omega
      have e1 := elemAt_map (f := pipV) (l := v.pipes) (i := i) (z := 6) hi' rfl
      have hkk : v.pipes.length - (i + 1) < v.pipes.length - i := by omega
      have hpx := hpp _ (List.getElem_mem hi')
      rw [List.drop_eq_getElem_cons hi'] at hq
      generalize v.pipes[i] = x at *
      simp only [flowS] at hq
      have hkc := hF.k
      have z4 : (m' + 4 = m) = False := eq_false (by omega)
      have z1 : (m' + 1 = m) = False := eq_false (by omega)
      have hco := fun st => contains_call s.shut i (K + 1) st (by omega) hsh2
      simp only [pipV] at e1
      have hw1 : wrapF .i64 ((i : Int) + 1) = ((i + 1 : Nat) : Int) := wrap_i64 (by have := hv.pip.2; omega) (by have := hv.pip.2; omega)
      simp -implicitDefEqProofs only [go_sem, a3, a58, a60, hT, hil, e1, hkc, z4, hco]
      by_cases hin : (i : Int) ∈ s.shut
      · simp only [if_pos hin] at hq
        simp -implicitDefEqProofs only [go_sem, a2, a3, a5, a8, a58, a59, a60, hT, hin, hw1]
        exact ⟨v.pipes.length - (i + 1), hkk, trivial, trivial, trivial, trivial, trivial, trivial, trivial, i + 1, m' + 1, _, es, rfl, hi', rfl, rfl, by omega, hF.of (fun k hk hne => hc11 (by omega)) hc13 hm (by omega), (hc11 (by omega)).trans hM, hq⟩
      · simp only [if_neg hin] at hq
        obtain ⟨pa, hpa⟩ : ∃ q : Nat, x.a = q := ⟨x.a.toNat, by omega⟩
        obtain ⟨pb, hpb⟩ : ∃ q : Nat, x.b = q := ⟨x.b.toNat, by omega⟩
        have ha' : pa < g.free.length := by omega
        have hb' : pb < g.free.length := by omega
        have hF1 := hF.of (H' := ([m' + 8], .cells [.int .i64 x.a, .int .i64 x.b, .int .i64 x.out.lo, .int .i64 x.out.hi, .int .i64 x.back.lo, .int .i64 x.back.hi] true 0) :: H0) (fun k hk hne => hc11 (by omega)) hc13 hm (by omega)
        have hM1 : hget (([m' + 8], .cells [.int .i64 x.a, .int .i64 x.b, .int .i64 x.out.lo, .int .i64 x.out.hi, .int .i64 x.back.lo, .int .i64 x.back.hi] true 0) :: H0) [m + 6] = some (.map (encE es) false) := (hc11 (by omega)).trans hM
        have hx1 := hF1.s.x
        unfold sysB at hx1
        obtain ⟨H2, n2, hca, hn2, hM2, hfr, hfr3⟩ := come_call x.b x.a pa x.out (m + 3) (m + 7) (m + 6) es _ g.free (K + 1) _ (m' + 9) hpa ha' hF1.p hF1.c hM1 hx1 rfl hF1.s.f (by omega) (by omega) (by omega) (by omega) (by omega) (by omega) (by omega) (by omega)
        have hF2 := hF1.of (H' := H2) (fun k hk hne => hfr k (by omega) hne) (hfr3 _ _ _) hm (by omega)
        have hP2 : hget H2 [m' + 8] = some (.cells [.int .i64 x.a, .int .i64 x.b, .int .i64 x.out.lo, .int .i64 x.out.hi, .int .i64 x.back.lo, .int .i64 x.back.hi] true 0) := (hfr _ (by omega) (by omega)).trans (hget_cons_same ..)
        have hx2 := hF2.s.x
        unfold sysB at hx2
        obtain ⟨H3, n3, hcb, hn3, hM3, hfr', hfr3'⟩ := come_call x.a x.b pb x.back (m + 3) (m + 7) (m + 6) _ _ g.free (K + 1) H2 n2 hpb hb' hF2.p hF2.c hM2 hx2 rfl hF2.s.f (by omega) (by omega) (by omega) (by omega) (by omega) (by omega) (by omega) (by omega)
        have hF3 := hF2.of (H' := H3) (fun k hk hne => hfr' k (by omega) hne) (hfr3' _ _ _) hm (by omega)
        obtain ⟨m3, rfl⟩ : ∃ q, n3 = q + 8 := ⟨n3 - 8, by omega⟩
        have hq2 : ∀ q : Nat, q < g.free.length → flowS g.free s.shut q 0 (begR v s.shut g.free q) v.pipes = flowS g.free s.shut q (i + 1) (getS (setS (setS es x.b (plusR (getS es x.b) (mulR g.free[pa] x.out))) x.a (plusR (getS (setS es x.b (plusR (getS es x.b) (mulR g.free[pa] x.out))) x.a) (mulR g.free[pb] x.back))) q) (v.pipes.drop (i + 1)) := fun q hq2 => by
          rw [hq q hq2, get_set, hpa, hpb, atR_nat _ ha', atR_nat _ hb']
          by_cases e1 : (q : Int) = (pa : Int)
          · rw [if_pos e1, if_pos e1, get_set, e1]
            by_cases e2 : (pa : Int) = (pb : Int)
            · rw [if_pos e2, if_pos e2, e2]
            · rw [if_neg e2, if_neg e2]
          · rw [if_neg e1, if_neg e1, get_set]
            by_cases e2 : (q : Int) = (pb : Int)
            · rw [if_pos e2, if_pos e2, e2]
            · rw [if_neg e2, if_neg e2]
        simp only [rgV] at hca hcb
        clear hfr hfr' hfr3 hfr3' hx1 hx2 hF1 hF2 hM1 hM2 hq
        simp -implicitDefEqProofs only [go_sem, a2, a3, a5, a8, a58, a59, a60, hT, hin, hca, hP2, hcb, hw1]
        exact ⟨v.pipes.length - (i + 1), hkk, trivial, trivial, trivial, trivial, trivial, trivial, trivial, i + 1, m3, H3, _, rfl, hi', rfl, rfl, by omega, hF3, hM3, hq2⟩
    · have hie : i = v.pipes.length := by omega
      subst hie
      rw [List.drop_length] at hq
      simp -implicitDefEqProofs only [go_sem, hil]
      exact ⟨_, m', H0, es, rfl, hmm, by simp -implicitDefEqProofs only [go_sem, hT], by simp -implicitDefEqProofs only [go_sem, a2], by simp -implicitDefEqProofs only [go_sem, a5], hF, hM, fun q hq2 => by rw [hq q hq2]; rfl⟩
  rintro _ ⟨T, m', H0, es, rfl, hmm, hT, a2, a5, hF, hM, hq⟩
  have x0 := hF.s.x
  have hp := hF.p
  unfold sysB at x0
  simp -implicitDefEqProofs only [go_sem, a2, hT, hp, x0]
  simp only [does_bind]
  refine Tr.Does.mono (Q := fun x => ∃ (T' : List AV) (m' : Nat) (H' : Heap), x = ((AExit.exit 4, T'), (⟨H', m' + 8, [], false, []⟩ : St)) ∧ m ≤ m' ∧ T'.length = 148 ∧ nth T' 2 = some (.ptr [m + 3] 0) ∧ hget H' [m + 3] = some (.cells [.ptr [0] 0] true 0) ∧ SysAt H' [0] [1] [2] [3] v ⟨flowG v s.shut g.free, g.bound, g.room, g.most, g.flashed⟩) ?_ ?_
  · have hGl := flowG_len v s.shut g.free
    refine xl_does (fun k T s' => T.length = 148 ∧ nth T 2 = some (.ptr [m + 3] 0) ∧ nth T 5 = some (.ptr [m + 7] 0) ∧ nth T 91 = some (.slice [1] 0 g.free.length g.free.length false) ∧ nth T 92 = some (.int .i64 g.free.length) ∧ ∃ (i m' : Nat) (H' : Heap), nth T 93 = some (.int .i64 i) ∧ i ≤ g.free.length ∧ k = g.free.length - i ∧ s' = ⟨H', m' + 8, [], false, []⟩ ∧ m ≤ m' ∧ hget H' [m + 3] = some (.cells [.ptr [0] 0] true 0) ∧ hget H' [m + 7] = some (.cells [.map [m + 6]] true 0) ∧ hget H' [m + 6] = some (.map (encE es) false) ∧ SysAt H' [0] [1] [2] [3] v ⟨(flowG v s.shut g.free).take i ++ g.free.drop i, g.bound, g.room, g.most, g.flashed⟩) (k := g.free.length) (by omega) ?_ ?_
    · exact ⟨by simp -implicitDefEqProofs only [go_sem, hT], by simp -implicitDefEqProofs only [go_sem, a2], by simp -implicitDefEqProofs only [go_sem, a5], by simp -implicitDefEqProofs only [go_sem, hT], by simp -implicitDefEqProofs only [go_sem, hT], 0, m', _, by simp -implicitDefEqProofs only [go_sem, hT] <;> rfl, by omega, rfl, rfl, hmm, hF.p, hF.c, hM, hF.s⟩
    clear a2 a5 hT T x0 hp hF hM hmm H0
    rintro k T s' ⟨hT, a2, a5, a91, a92, i, m', H0, a93, hi, rfl, rfl, hmm, hp, hc, hM, hs⟩
    simp -implicitDefEqProofs only [go_sem, a92, a93, hT]
    by_cases hil : (i : Int) < (g.free.length : Int)
    · have hi' : i < g.free.length := by omega
      have hkk : g.free.length - (i + 1) < g.free.length - i := by omega
      obtain ⟨F, hF, lF, f0, f1, fw⟩ := mix_row (G := flowG v s.shut g.free) (F := g.free) hGl hi' (quoR (getS es i)) (fun h0 => by rw [hq i hi']; simp [flowG])
      rw [← hF] at hs
      clear hF
      generalize hF' : (flowG v s.shut g.free).take (i + 1) ++ g.free.drop (i + 1) = F' at fw
      have lF' : F'.length = F.length := by rw [← hF', mix_len hGl, lF]
      have x0 := hs.x
      have x1 := hs.f
      have x2 := hs.b
      have x3 := hs.r
      have y0 : hget H0 [0] = some (sysB v [1] [2] [3] ⟨F', g.bound, g.room, g.most, g.flashed⟩) := x0.trans (congrArg some (sysB_cg lF'.symm rfl rfl rfl rfl))
      unfold sysB at x0
      unfold rgB at x1
      simp only at x0 x1 x2 x3
      have hin : inR (i : Int) F.length = some i := inR_of (by omega)
      have hlk := fun (st : St) (hg : hget st.H [m + 6] = some (.map (encE es) false)) => look_s (C := cfg.at 149) rfl (k := (i : Int)) hg
      have hw1 : wrapF .i64 ((i : Int) + 1) = ((i + 1 : Nat) : Int) := wrap_i64 (by omega) (by omega)
      generalize getS es i = q at *
      simp only [rgV] at hlk
      simp only [quoR] at fw
      simp -implicitDefEqProofs only [go_sem, a93, hT, hil]
      try simp only [does_bind]
      refine draw_machX [[], [0], [1, 0], [2, 1, 0], [3, 2, 1, 0], [], [], [], [6, 7], [8, 6, 7], [9, 8, 6, 7], [], [], [11, 12], [13, 11, 12], [14, 13, 11, 12], [15, 14, 13, 11, 12], [16, 15, 14, 13, 11, 12], [10, 9, 8, 6, 7, 17, 16, 15, 14, 13, 11, 12], [4, 3, 2, 1, 0, 5, 18, 10, 9, 8, 6, 7, 17, 16, 15, 14, 13, 11, 12], [19, 4, 3, 2, 1, 0, 5, 18, 10, 9, 8, 6, 7, 17, 16, 15, 14, 13, 11, 12]] [[], [], [], [], [], [], [], [], [], [], [], [], [], [], [], [], [], [], [], [], [[1]]] (by kernel_rfl) rfl rfl ?_
      simp -implicitDefEqProofs only [go_sem, Option.getD_some, a2, a5, a91, a92, a93, hT, hp, hc, hM, x0, x1, hin, f0, f1, hlk, row_off, fw, hw1, sameW_self]
      refine ⟨g.free.length - (i + 1), hkk, trivial, trivial, trivial, trivial, trivial, i + 1, m' + 1, _, rfl, hi', rfl, rfl, by omega, ?_, ?_, ?_, ?_⟩
      all_goals clear hw1
      · simp (disch := omega) only [hget_redoH, lkn, lk11, Option.getD_none, hp]
      · simp (disch := omega) only [hget_redoH, lkn, lk11, Option.getD_none, hc]
      · simp (disch := omega) only [hget_redoH, lkn, lk11, Option.getD_none, hM]
      · rw [hF']
        refine ⟨?_, ?_, ?_, fun e => ?_⟩
        · simp (disch := omega) only [hget_redoH, lkn, lk11, Option.getD_none]; exact y0
        · simp (disch := omega) only [hget_redoH, lk_same, Option.getD_some]; rfl
        · simp (disch := omega) only [hget_redoH, lkn, lk11, Option.getD_none]; exact x2
        · have := hm e
          simp (disch := omega) only [hget_redoH, lkn, lk11, Option.getD_none]; exact x3 e
    · have hie : i = g.free.length := by omega
      subst hie
      have e1 : (flowG v s.shut g.free).take g.free.length ++ g.free.drop g.free.length = flowG v s.shut g.free := by
        rw [List.drop_of_length_le (Nat.le_refl _), List.append_nil, List.take_of_length_le (by omega)]
      rw [e1] at hs
      simp -implicitDefEqProofs only [go_sem, hil]
      exact ⟨_, m', H0, rfl, hmm, by simp -implicitDefEqProofs only [go_sem, hT], by simp -implicitDefEqProofs only [go_sem, a2], hp, hs⟩
  clear a2 a5 hT T x0 hp hF hM hmm H0 hq es m'
  rintro _ ⟨T, m', H0, rfl, hmm, hT, a2, hp, hs⟩
  have x0 := hs.x
  unfold sysB at x0
  have hGl := flowG_len v s.shut g.free
  unfold flowT
  generalize flowG v s.shut g.free = G at *
  simp -implicitDefEqProofs only [go_sem, a2, hT, hp, x0]
  simp only [does_bind]
  refine xl_does (fun k T s' => T.length = 148 ∧ nth T 2 = some (.ptr [m + 3] 0) ∧ nth T 121 = some (.lst (v.leaks.map inlV)) ∧ nth T 122 = some (.int .i64 v.leaks.length) ∧ ∃ (i m' : Nat) (H' : Heap) (F : List Rg), nth T 123 = some (.int .i64 i) ∧ i ≤ v.leaks.length ∧ k = v.leaks.length - i ∧ s' = ⟨H', m' + 8, [], false, []⟩ ∧ m ≤ m' ∧ hget H' [m + 3] = some (.cells [.ptr [0] 0] true 0) ∧ SysAt H' [0] [1] [2] [3] v ⟨F, g.bound, g.room, g.most, g.flashed⟩ ∧ F.length = G.length ∧ leakR G v.leaks = leakR F (v.leaks.drop i)) (k := v.leaks.length) (by have := hv.inl.1; omega) ?_ ?_
  · exact ⟨by simp -implicitDefEqProofs only [go_sem, hT], by simp -implicitDefEqProofs only [go_sem, a2], by simp -implicitDefEqProofs only [go_sem, hT], by simp -implicitDefEqProofs only [go_sem, hT], 0, m', H0, G, by simp -implicitDefEqProofs only [go_sem, hT] <;> rfl, by omega, rfl, rfl, hmm, hp, hs, rfl, rfl⟩
  clear a2 hT T x0 hp hs hmm H0
  rintro k T s' ⟨hT, a2, a121, a122, i, m', H0, F, a123, hi, rfl, rfl, hmm, hp, hs, lF, he⟩
  simp -implicitDefEqProofs only [go_sem, a122, a123, hT]
  by_cases hil : (i : Int) < (v.leaks.length : Int)
  · have hi' : i < v.leaks.length := by omega
    have e1 := elemAt_map (f := inlV) (l := v.leaks) (i := i) (z := 3) hi' rfl
    have hkk : v.leaks.length - (i + 1) < v.leaks.length - i := by omega
    have hlx := hll _ (List.getElem_mem hi')
    rw [List.drop_eq_getElem_cons hi'] at he
    generalize v.leaks[i] = x at *
    obtain ⟨a, hxa⟩ : ∃ q : Nat, x.at' = q := ⟨x.at'.toNat, by omega⟩
    have haF : a < F.length := by omega
    simp only [leakR] at he
    rw [hxa, Int.toNat_natCast, atR_nat _ haF] at he
    have f0 := row_nth0 F haF
    have f1 := row_nth1 F haF
    have fw := row_set F haF (plusR F[a] x.gas)
    have hin : inR (a : Int) F.length = some a := inR_of haF
    have hpl := fun st => plus_call F[a] x.gas (K + 2) st
    generalize F[a] = fi at *
    generalize hF' : F.set a (plusR fi x.gas) = F' at *
    have lF' : F'.length = F.length := by rw [← hF']; simp
    generalize plusR fi x.gas = pp at *
    have x0 := hs.x
    have x1 := hs.f
    have x2 := hs.b
    have x3 := hs.r
    have y0 : hget H0 [0] = some (sysB v [1] [2] [3] ⟨F', g.bound, g.room, g.most, g.flashed⟩) := x0.trans (congrArg some (sysB_cg lF'.symm rfl rfl rfl rfl))
    unfold sysB at x0
    unfold rgB at x1
    simp only at x0 x1 x2 x3
    simp only [inlV] at e1
    rw [hxa] at e1
    simp only [rgV] at hpl
    have hw1 : wrapF .i64 ((i : Int) + 1) = ((i + 1 : Nat) : Int) := wrap_i64 (by have := hv.inl.2; omega) (by have := hv.inl.2; omega)
    have k3 : ∀ X, hget (([m' + 8], X) :: H0) [m + 3] = hget H0 [m + 3] := fun X => hc11 (by omega)
    have z5 : (m' + 5 = m) = False := eq_false (by omega)
    simp -implicitDefEqProofs only [go_sem, a121, a123, hT, hil, e1]
    try simp only [does_bind]
    refine draw_machX [[], [0], [1, 0], [2, 1, 0], [3, 2, 1, 0], [], [5], [], [7], [8, 7], [9, 8, 7], [10, 9, 8, 7], [], [12], [11, 10, 9, 8, 7, 13, 12], [14, 11, 10, 9, 8, 7, 13, 12], [], [16], [15, 14, 11, 10, 9, 8, 7, 13, 12, 17, 16], [4, 3, 2, 1, 0, 6, 5, 18, 15, 14, 11, 10, 9, 8, 7, 13, 12, 17, 16], [19, 4, 3, 2, 1, 0, 6, 5, 18, 15, 14, 11, 10, 9, 8, 7, 13, 12, 17, 16]] [[], [], [], [], [], [], [], [], [], [], [], [], [], [], [], [], [], [], [], [], [[1]]] (by kernel_rfl) rfl rfl ?_
    simp -implicitDefEqProofs only [go_sem, Option.getD_some, a2, a121, a122, a123, hT, hp, k3, x0, x1, hin, f0, f1, hpl, row_off, fw, hw1, sameW_self]
    refine ⟨v.leaks.length - (i + 1), hkk, trivial, trivial, trivial, trivial, i + 1, m' + 2, _, F', rfl, hi', rfl, rfl, by omega, ?_, ?_, by omega, he⟩
    all_goals clear hw1
    · simp (disch := omega) only [hc11, hget_redoH, lkn, lk11, Option.getD_none, hp]
    · refine ⟨?_, ?_, ?_, fun e => ?_⟩
      · simp (disch := omega) only [hc11, hget_redoH, lkn, lk11, Option.getD_none]; exact y0
      · simp (disch := omega) only [hc11, hget_redoH, lk_same, Option.getD_some]; rfl
      · simp (disch := omega) only [hc11, hget_redoH, lkn, lk11, Option.getD_none]; exact x2
      · have := hm e
        simp (disch := omega) only [hc11, hget_redoH, lkn, lk11, Option.getD_none]; exact x3 e
  · have hie : i = v.leaks.length := by omega
    subst hie
    rw [List.drop_length] at he
    simp only [leakR] at he
    rw [he]
    simp -implicitDefEqProofs only [go_sem, hil, Try.results149]
    exact ⟨trivial, hs⟩
end Go.Proofs.Ytgnpnfkncbnjnaa
namespace Go.Proofs.Ytgnpnfkncbnjnaa
open Go Go.Am
attribute [local congr] tr_congr does_congr all_congr
attribute [local go_sem] Go.Am.frozen Go.Am.freezeG Go.Am.freezeGs
theorem sysPut_ne {H : Heap} {X f b r q : Nm} {v : Vac} {g : Gs} (h1 : X ≠ q) (h2 : f ≠ q) (h3 : b ≠ q) (h4 : g.room ≠ [] → r ≠ q) : hget (sysPut X f b r v g H) q = hget H q := by
  unfold sysPut
  cases hg : g.room with
  | nil =>
    show hget (hset (hset (hset H X _) f _) b _) q = _
    rw [hget_hset_ne _ _ h3, hget_hset_ne _ _ h2, hget_hset_ne _ _ h1]
  | cons a l =>
    show hget (hset (hset (hset (hset H X _) f _) b _) r _) q = _
    rw [hget_hset_ne _ _ (h4 (by rw [hg]; simp)), hget_hset_ne _ _ h3, hget_hset_ne _ _ h2, hget_hset_ne _ _ h1]
theorem parts_of {v : Vac} (h : checkE v = 0) : firstE vesE v.vessels = 0 ∧ partsE v = 0 := by
  unfold checkE at h
  split at h
  · exact absurd h (by decide)
  · split at h
    · exact absurd h (by decide)
    · split at h
      · rename_i h2
        split at h
        · rename_i h3; exact ⟨h2, h3⟩
        · rename_i h3; exact absurd h h3
      · rename_i h2; exact absurd h h2
structure Valid (v : Vac) : Prop where
  n1 : 1 ≤ v.vessels.length
  n8 : v.vessels.length ≤ 8
  p16 : v.pipes.length ≤ 16
  m8 : v.pumps.length ≤ 8
  l8 : v.leaks.length ≤ 8
  g8 : v.getters.length ≤ 8
  bd : ∀ x ∈ v.vessels, x.bands.length ≤ 8
  pip : ∀ q ∈ v.pipes, (0 ≤ q.a ∧ q.a < v.vessels.length) ∧ 0 ≤ q.b ∧ q.b < v.vessels.length
  inl : ∀ q ∈ v.leaks, 0 ≤ q.at' ∧ q.at' < v.vessels.length
  gtr : ∀ q ∈ v.getters, 0 ≤ q.at' ∧ q.at' < v.vessels.length
theorem valid_of {v : Vac} (h : checkE v = 0) : Valid v := by
  obtain ⟨n1, n2, n3, n4, n5, n6⟩ := check_le h
  obtain ⟨h1, h2⟩ := parts_of h
  have hb : ∀ x ∈ v.vessels, x.bands.length ≤ 8 := fun x hx => by
    have h3 := first_zero h1 x hx
    unfold vesE at h3
    split at h3
    · split at h3
      · split at h3
        · split at h3
          · exact absurd h3 (by decide)
          · omega
        · rename_i h4; exact absurd h3 h4
      · rename_i h4; exact absurd h3 h4
    · exact absurd h3 (by decide)
  unfold partsE at h2
  split at h2
  · rename_i p1
    split at h2
    · rename_i p2
      split at h2
      · rename_i p3
        refine ⟨n1, n2, n3, n4, n5, n6, hb, fun q hq => ?_, fun q hq => ?_, fun q hq => ?_⟩
        · have := pip_zero (first_zero p1 q hq); exact ⟨this.1, this.2.1⟩
        · exact at_zero (first_zero p3 q hq)
        · have h4 := first_zero h2 q hq
          unfold getE at h4
          split at h4
          · rename_i h5; exact at_zero h5
          · rename_i h5; exact absurd h4 h5
      · rename_i p3; exact absurd h2 p3
    · rename_i p2; exact absurd h2 p2
  · rename_i p1; exact absurd h2 p1
theorem Valid.lens {v : Vac} (h : Valid v) (K : Nat) (hK : 20 < K) : v.Lens K :=
  ⟨⟨by have := h.n8; omega, by have := h.n8; omega⟩, ⟨by have := h.p16; omega, by have := h.p16; omega⟩, ⟨by have := h.m8; omega, by have := h.m8; omega⟩, ⟨by have := h.l8; omega, by have := h.l8; omega⟩, ⟨by have := h.g8; omega, by have := h.g8; omega⟩, fun x hx => by have := h.bd x hx; omega⟩
structure Fits (v : Vac) (g : Gs) : Prop where
  f : g.free.length = v.vessels.length
  b : g.bound.length = v.vessels.length
  r : g.room.length = v.getters.length
theorem fits_begin {v : Vac} {g : Gs} (h : Fits v g) (s : Bk) : Fits v (beginT v g s) := ⟨h.f, h.b, h.r⟩
theorem fits_rel {v : Vac} {g : Gs} (h : Fits v g) (s : Bk) : Fits v (relT v g s) := ⟨relF_len h.f h.b, relB_len h.b, h.r⟩
theorem fits_flow {v : Vac} {g : Gs} (h : Fits v g) (s : Bk) : Fits v (flowT v g s) := ⟨by show (leakR _ _).length = _; rw [leakR_len, flowG_len]; exact h.f, h.b, h.r⟩
theorem fits_get {v : Vac} {g : Gs} (h : Fits v g) (s : Bk) : Fits v (getT v g s) := by
  have e := getF_len v.getters 0 g.free g.room
  unfold getT
  split
  · exact ⟨e.1.trans h.f, h.b, e.2.trans h.r⟩
  · exact h
theorem fits_cut {v : Vac} {g : Gs} (h : Fits v g) (s : Bk) : Fits v (cutT v g s) := ⟨by show (List.map _ _).length = _; rw [List.length_map]; exact h.f, by show (List.map _ _).length = _; rw [List.length_map]; exact h.b, h.r⟩
def tickT (v : Vac) (g : Gs) (s : Bk) : Gs := cutT v (getT v (flowT v (relT v (beginT v g s) s) s) s) s
theorem fits_tick {v : Vac} {g : Gs} (h : Fits v g) (s : Bk) : Fits v (tickT v g s) := fits_cut (fits_get (fits_flow (fits_rel (fits_begin h s) s) s) s) s
theorem Fits.ne {v : Vac} {g : Gs} (h : Fits v g) (hv : Valid v) : g.free ≠ [] ∧ g.bound ≠ [] :=
  ⟨fun e => by have := h.f; rw [e] at this; have := hv.n1; simp at *; omega, fun e => by have := h.b; rw [e] at this; have := hv.n1; simp at *; omega⟩
def stepT (v : Vac) (g : Gs) (s : Bk) : Nat → Gs
  | 0 => g
  | 1 => beginT v g s
  | 2 => relT v (beginT v g s) s
  | 3 => flowT v (relT v (beginT v g s) s) s
  | 4 => getT v (flowT v (relT v (beginT v g s) s) s) s
  | _ => tickT v g s
theorem apart0 : Apart [0] [1] [2] [3] := ⟨by decide, by decide, by decide, by decide, by decide, by decide⟩
theorem tick_call {K : Nat} {X f b r : Nm} {v : Vac} {g : Gs} {s : Bk} {H : Heap} {n : Nat} {p : Nm} {j : Delta} (h : SysAt H X f b r v g) (ha : Apart X f b r) (hv : Valid v) (hf : Fits v g) (hK : 200 < K) (hsh : s.shut.length < K) (hsh2 : s.shut.length ≤ 9223372036854775807) :
    acall cfg (K + 6) 97 [.ptr X 0, bkV s] ⟨H, n, p, false, j⟩ = .ret (.tuple [], ⟨sysPut X f b r v (tickT v g s) H, n, p, false, j⟩) := by
  have hft := fits_tick hf s
  obtain ⟨hn1, hn2⟩ := hf.ne hv
  refine sys_call mget97 fget97 h ha hn1 hn2 (by rw [hft.f, hf.f]) (by rw [hft.b, hf.b]) (by rw [hft.r, hf.r]) fun H0 m hs hm => ?_
  refine body_does rfl fun T hT' hA => ?_
  have a0 := hA 0 _ rfl
  have a1 := hA 1 _ rfl
  have hT : T.length = 15 := hT'
  clear hA hT'
  simp -implicitDefEqProofs only [go_sem, a1]
  simp only [does_bind]
  refine xl_does (fun k T s' => T.length = 15 ∧ nth T 0 = some (.ptr [0] 0) ∧ nth T 3 = some (.ptr [m + 3] 0) ∧ nth T 6 = some (.agg [.func 147 [], .func 148 [], .func 149 [], .func 150 [], .func 151 []]) ∧ ∃ (i : Nat) (H' : Heap), nth T 7 = some (.int .i64 i) ∧ i ≤ 5 ∧ k = 5 - i ∧ s' = ⟨H', m + 4, [], false, []⟩ ∧ hget H' [m + 3] = some (.cells [.int .i64 s.ticks, .int .i64 s.heat, .lst (s.shut.map iV), .bool s.flash] true 0) ∧ Fits v (stepT v g s i) ∧ SysAt H' [0] [1] [2] [3] v (stepT v g s i)) (k := 5) (by omega) ?_ ?_
  · exact ⟨by simp -implicitDefEqProofs only [go_sem, hT], by simp -implicitDefEqProofs only [go_sem, a0], by simp -implicitDefEqProofs only [go_sem, hT], by simp -implicitDefEqProofs only [go_sem, hT], 0, _, by simp -implicitDefEqProofs only [go_sem, hT] <;> rfl, by omega, rfl, rfl, hget_cons_same .., hf, ⟨(hc11 (by omega)).trans hs.x, (hc11 (by omega)).trans hs.f, (hc11 (by omega)).trans hs.b, fun e => (hc11 (by have := hm e; omega)).trans (hs.r e)⟩⟩
  have hroom : ∀ i, (stepT v g s i).room.length = v.getters.length → ((stepT v g s i).room ≠ [] → 1 ≤ m) := fun i e hne => hm fun e2 => hne (List.length_eq_zero_iff.1 (by rw [e, ← hf.r, e2]; rfl))
  clear a0 a1 hT T hs H0 hn1 hn2 hft
  rintro k T s' ⟨hT, a0, a3, a6, i, H0, a7, hi, rfl, rfl, hbk, hf', hs⟩
  obtain ⟨hn1, hn2⟩ := hf'.ne hv
  have hrm := hroom i hf'.r
  rcases (show i = 0 ∨ i = 1 ∨ i = 2 ∨ i = 3 ∨ i = 4 ∨ i = 5 by omega) with rfl | rfl | rfl | rfl | rfl | rfl
  · have b7 : nth T 7 = some (.int .i64 0) := a7
    have hin : inR 0 5 = some 0 := rfl
    have hw1 : wrapF .i64 (0 + 1) = 1 := rfl
    have hfn : Fits v (stepT v g s (0 + 1)) := fits_begin hf' s
    have hsn : SysAt (sysPut [0] [1] [2] [3] v (stepT v g s (0 + 1)) H0) [0] [1] [2] [3] v (stepT v g s (0 + 1)) := sysPut_at hs apart0 (by rw [hfn.r, hf'.r])
    have hbn : hget (sysPut [0] [1] [2] [3] v (stepT v g s (0 + 1)) H0) [m + 3] = hget H0 [m + 3] := sysPut_ne (n11 (by omega)) (n11 (by omega)) (n11 (by omega)) (fun e => n11 (by have := hroom (0 + 1) hfn.r e; omega))
    rw [hbk] at hbn
    have hc' : ∀ n p j, acall cfg (K + 5) 147 [.ptr [0] 0, bkV s] ⟨H0, n, p, false, j⟩ = .ret (.tuple [], ⟨sysPut [0] [1] [2] [3] v (stepT v g s (0 + 1)) H0, n, p, false, j⟩) := fun n p j => (tbegin_call hs apart0 hn1 hn2 (K := K + 4) (by have := hv.l8; omega) (by have := hv.l8; omega))
    generalize sysPut [0] [1] [2] [3] v (stepT v g s (0 + 1)) H0 = H1 at *
    simp only [bkV] at hc'
    simp -implicitDefEqProofs only [go_sem, a0, a3, b7, a6, hT, hin, hbk, hc', hw1]
    exact ⟨5 - (0 + 1), by omega, trivial, trivial, trivial, trivial, 0 + 1, H1, rfl, by omega, rfl, rfl, hbn, hfn, hsn⟩
  · have b7 : nth T 7 = some (.int .i64 1) := a7
    have hin : inR 1 5 = some 1 := rfl
    have hw1 : wrapF .i64 (1 + 1) = 2 := rfl
    have hfn : Fits v (stepT v g s (1 + 1)) := fits_rel hf' s
    have hsn : SysAt (sysPut [0] [1] [2] [3] v (stepT v g s (1 + 1)) H0) [0] [1] [2] [3] v (stepT v g s (1 + 1)) := sysPut_at hs apart0 (by rw [hfn.r, hf'.r])
    have hbn : hget (sysPut [0] [1] [2] [3] v (stepT v g s (1 + 1)) H0) [m + 3] = hget H0 [m + 3] := sysPut_ne (n11 (by omega)) (n11 (by omega)) (n11 (by omega)) (fun e => n11 (by have := hroom (1 + 1) hfn.r e; omega))
    rw [hbk] at hbn
    have hc' : ∀ n p j, acall cfg (K + 5) 148 [.ptr [0] 0, bkV s] ⟨H0, n, p, false, j⟩ = .ret (.tuple [], ⟨sysPut [0] [1] [2] [3] v (stepT v g s (1 + 1)) H0, n, p, false, j⟩) := fun n p j => (release_call hs apart0 hn1 hf'.f hf'.b (K := K + 3) (by have := hv.n8; omega) (by have := hv.n8; omega) hv.bd)
    generalize sysPut [0] [1] [2] [3] v (stepT v g s (1 + 1)) H0 = H1 at *
    simp only [bkV] at hc'
    simp -implicitDefEqProofs only [go_sem, a0, a3, b7, a6, hT, hin, hbk, hc', hw1]
    exact ⟨5 - (1 + 1), by omega, trivial, trivial, trivial, trivial, 1 + 1, H1, rfl, by omega, rfl, rfl, hbn, hfn, hsn⟩
  · have b7 : nth T 7 = some (.int .i64 2) := a7
    have hin : inR 2 5 = some 2 := rfl
    have hw1 : wrapF .i64 (2 + 1) = 3 := rfl
    have hfn : Fits v (stepT v g s (2 + 1)) := fits_flow hf' s
    have hsn : SysAt (sysPut [0] [1] [2] [3] v (stepT v g s (2 + 1)) H0) [0] [1] [2] [3] v (stepT v g s (2 + 1)) := sysPut_at hs apart0 (by rw [hfn.r, hf'.r])
    have hbn : hget (sysPut [0] [1] [2] [3] v (stepT v g s (2 + 1)) H0) [m + 3] = hget H0 [m + 3] := sysPut_ne (n11 (by omega)) (n11 (by omega)) (n11 (by omega)) (fun e => n11 (by have := hroom (2 + 1) hfn.r e; omega))
    rw [hbk] at hbn
    have hc' : ∀ n p j, acall cfg (K + 5) 149 [.ptr [0] 0, bkV s] ⟨H0, n, p, false, j⟩ = .ret (.tuple [], ⟨sysPut [0] [1] [2] [3] v (stepT v g s (2 + 1)) H0, n, p, false, j⟩) := fun n p j => (flow_call hs apart0 hn1 hn2 hf'.f (K := K + 1) (by have := hv.n8; omega) (by have := hv.n8; omega) (hv.lens _ (by omega)) (by omega) hsh2 hv.pip hv.inl)
    generalize sysPut [0] [1] [2] [3] v (stepT v g s (2 + 1)) H0 = H1 at *
    simp only [bkV] at hc'
    simp -implicitDefEqProofs only [go_sem, a0, a3, b7, a6, hT, hin, hbk, hc', hw1]
    exact ⟨5 - (2 + 1), by omega, trivial, trivial, trivial, trivial, 2 + 1, H1, rfl, by omega, rfl, rfl, hbn, hfn, hsn⟩
  · have b7 : nth T 7 = some (.int .i64 3) := a7
    have hin : inR 3 5 = some 3 := rfl
    have hw1 : wrapF .i64 (3 + 1) = 4 := rfl
    have hfn : Fits v (stepT v g s (3 + 1)) := fits_get hf' s
    have hsn : SysAt (sysPut [0] [1] [2] [3] v (stepT v g s (3 + 1)) H0) [0] [1] [2] [3] v (stepT v g s (3 + 1)) := sysPut_at hs apart0 (by rw [hfn.r, hf'.r])
    have hbn : hget (sysPut [0] [1] [2] [3] v (stepT v g s (3 + 1)) H0) [m + 3] = hget H0 [m + 3] := sysPut_ne (n11 (by omega)) (n11 (by omega)) (n11 (by omega)) (fun e => n11 (by have := hroom (3 + 1) hfn.r e; omega))
    rw [hbk] at hbn
    have hc' : ∀ n p j, acall cfg (K + 5) 150 [.ptr [0] 0, bkV s] ⟨H0, n, p, false, j⟩ = .ret (.tuple [], ⟨sysPut [0] [1] [2] [3] v (stepT v g s (3 + 1)) H0, n, p, false, j⟩) := fun n p j => (get_call hs apart0 hn1 hn2 hf'.f hf'.r (K := K + 3) (by have := hv.g8; omega) (by have := hv.g8; omega) hv.gtr)
    generalize sysPut [0] [1] [2] [3] v (stepT v g s (3 + 1)) H0 = H1 at *
    simp only [bkV] at hc'
    simp -implicitDefEqProofs only [go_sem, a0, a3, b7, a6, hT, hin, hbk, hc', hw1]
    exact ⟨5 - (3 + 1), by omega, trivial, trivial, trivial, trivial, 3 + 1, H1, rfl, by omega, rfl, rfl, hbn, hfn, hsn⟩
  · have b7 : nth T 7 = some (.int .i64 4) := a7
    have hin : inR 4 5 = some 4 := rfl
    have hw1 : wrapF .i64 (4 + 1) = 5 := rfl
    have hfn : Fits v (stepT v g s (4 + 1)) := fits_cut hf' s
    have hsn : SysAt (sysPut [0] [1] [2] [3] v (stepT v g s (4 + 1)) H0) [0] [1] [2] [3] v (stepT v g s (4 + 1)) := sysPut_at hs apart0 (by rw [hfn.r, hf'.r])
    have hbn : hget (sysPut [0] [1] [2] [3] v (stepT v g s (4 + 1)) H0) [m + 3] = hget H0 [m + 3] := sysPut_ne (n11 (by omega)) (n11 (by omega)) (n11 (by omega)) (fun e => n11 (by have := hroom (4 + 1) hfn.r e; omega))
    rw [hbk] at hbn
    have hc' : ∀ n p j, acall cfg (K + 5) 151 [.ptr [0] 0, bkV s] ⟨H0, n, p, false, j⟩ = .ret (.tuple [], ⟨sysPut [0] [1] [2] [3] v (stepT v g s (4 + 1)) H0, n, p, false, j⟩) := fun n p j => (cut_call (g := stepT v g s 4) hs apart0 hn1 hn2 (K := K + 4) (by have := hf'.f; have := hf'.b; have := hv.n8; omega) (by have := hf'.f; have := hf'.b; have := hv.n8; omega))
    generalize sysPut [0] [1] [2] [3] v (stepT v g s (4 + 1)) H0 = H1 at *
    simp only [bkV] at hc'
    simp -implicitDefEqProofs only [go_sem, a0, a3, b7, a6, hT, hin, hbk, hc', hw1]
    exact ⟨5 - (4 + 1), by omega, trivial, trivial, trivial, trivial, 4 + 1, H1, rfl, by omega, rfl, rfl, hbn, hfn, hsn⟩
  · have b7 : nth T 7 = some (.int .i64 5) := a7
    simp -implicitDefEqProofs only [go_sem, b7, hT, Try.results97]
    exact ⟨trivial, hs⟩
end Go.Proofs.Ytgnpnfkncbnjnaa
