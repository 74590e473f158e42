/- A tick of the program and of the reference; stages made of numbers. -/
import Derived.Test.YtgnpnfkncbnjnaaVaG
set_option linter.unusedSimpArgs false
set_option linter.unusedVariables false
set_option maxRecDepth 100000
attribute [local go_sem_proc] Int.reduceEq Int.reduceNeg Nat.reduceEqDiff Nat.reduceLT Nat.reduceAdd Nat.reduceSub Nat.reduceMul Int.reduceLE Int.reduceLT Int.reduceToNat Nat.reduceLeDiff
attribute [local go_sem] Int.toNat_natCast Bool.not_true Bool.not_false
namespace Go.Proofs.Ytgnpnfkncbnjnaa
open Go Go.Am
attribute [local congr] tr_congr does_congr all_congr
theorem clone_nil (K : Nat) (s : St) : acall cfg (K + 5) 146 [.lst []] s = .ret (.lst [], s) := by
  obtain ⟨H, n, p, jr, j⟩ := s
  kernel_rfl
theorem roomy_rg (L : List Rg) (h : L.length ≤ 1000000) : roomy 0 L.length ty26.bytes = true := by
  unfold roomy
  have h16 : ty26.bytes = 16 := rfl
  rw [h16, Nat.ble_eq_true_of_le (show (0 + L.length) * 16 ≤ 140737488355328 by omega)]
theorem ap_empty_mut (L : List Rg) (hne : L ≠ []) (h : L.length ≤ 1000000) (C : Cfg) (hC : C.ty = cfg.ty) (v : AV) (hv : v = .empty ∨ v = .nils) (s : St) : appendA C false 50 50 v (.lst (L.map rgV)) s = .ret (.slice s.name 0 L.length L.length false, s.new (rgB L)) := by
  have hd : C.desc 50 = some (.slice 26) := by unfold Cfg.desc; rw [hC]; exact desc50
  have hi : C.ty.get 26 = some ty26 := by rw [hC]; exact tget26
  unfold appendA
  rw [hd]; simp only
  rw [hi]; simp only
  have hz : ty26.zero = some (.agg [.int .i64 0, .int .i64 0]) := rfl
  rw [hz]; simp only
  have hb : Nat.beq (AV.agg [.int .i64 0, .int .i64 0]).cells.length ty26.size = true := rfl
  rw [hb]; simp only
  have hs : srcA ty26 (.agg [.int .i64 0, .int .i64 0]) (.slice 26) (.lst (L.map rgV)) = M.ret (L.length, L.flatMap rgC) := by
    show (match okZ 2 (L.map rgV) with | true => M.ret ((L.map rgV).length, flatA (L.map rgV)) | false => M.fail) = _
    rw [z_rg, flatA_rg, List.length_map]
  rw [hs, bind_app, ret_app, Tr.bind_ret]
  have hr := roomy_rg L h
  cases L with
  | nil => exact absurd rfl hne
  | cons a l =>
    have hm : (a :: l).length = l.length + 1 := rfl
    rw [hm] at hr ⊢
    rcases hv with rfl | rfl
    · unfold appendTo
      simp only [hr]
      unfold grow
      rw [bind_app, newM_app, Tr.bind_ret]
      rfl
    · unfold appendTo
      simp only [hr]
      unfold grow
      rw [bind_app, newM_app, Tr.bind_ret]
      rfl
theorem clone_call (L : List Rg) (hne : L ≠ []) (h : L.length ≤ 1000000) (K : Nat) (H : Heap) (n : Nat) (p : Nm) (jr : Bool) (j : Delta) : acall cfg (K + 1) 146 [.lst (L.map rgV)] ⟨H, n, p, jr, j⟩ = .ret (.slice (p ++ [n]) 0 L.length L.length false, St.new ⟨H, n, p, jr, j⟩ (rgB L)) := by
  refine call3_gen (bs := []) (args' := [.lst (L.map rgV)]) (xs := []) (xs0 := []) (ys' := []) (zs' := [rgB L]) mget146 fget146 rfl rfl rfl (by show renVs [] _ = _; simp only [renVs, renV, fl_rg]) rfl ?_ rfl rfl
  refine Tr.Does.mono (Q := fun x => ∃ b, x.1 = .slice b 0 L.length L.length false ∧ hget x.2.H b = some (rgB L)) ?_ ?_
  · refine body_does rfl fun T hT' hA => ?_
    have a0 := hA 0 _ rfl
    have hT : T.length = 8 := hT'
    clear hA hT'
    have hbs : ∀ s, buildSliceA (cfg.at 146) true 50 0 [] s = .ret (.empty, s) := fun s => by simp -implicitDefEqProofs only [go_sem, Go.Am.buildSliceA]
    have hap := fun s => ap_empty_mut L hne h (cfg.at 146) rfl .empty (.inl rfl) s
    obtain ⟨a, l, rfl⟩ : ∃ a l, L = a :: l := by cases L with | nil => exact absurd rfl hne | cons a l => exact ⟨a, l, rfl⟩
    have hn : ∀ (x : AV) (l : List AV) s, nilOp .eql (.lst (x :: l)) s = .ret (.bool false, s) := fun _ _ _ => rfl
    simp only [List.map_cons, rgV] at a0 hap
    simp -implicitDefEqProofs only [go_sem, a0, hT, hbs, hn, hap, Try.results146]
    exact ⟨_, rfl, rfl⟩
  · rintro ⟨v1, s1⟩ ⟨b, rfl, hb⟩
    refine ⟨[], [b], [rgB L], rfl, ?_, rfl, ?_, rfl, by simp only [renBs, ren_rg]⟩
    · show reachL s1.H (199 + 1) [b] [] [] = _
      rw [rgB] at hb
      rw [reach_new rfl hb (rows_bare L)]
      rfl
    · show renV [(b, p ++ [n])] _ = _
      simp only [renV, lookN, eqb_self]
noncomputable def copyS (s : St) (g : Gs) : St := match g.room with
  | [] => (s.new (rgB g.free)).new (rgB g.bound)
  | _ :: _ => ((s.new (rgB g.free)).new (rgB g.bound)).new (rgB g.room)
theorem copied_call (g : Gs) (h1 : g.free ≠ []) (h2 : g.bound ≠ []) (l1 : g.free.length ≤ 1000000) (l2 : g.bound.length ≤ 1000000) (l3 : g.room.length ≤ 1000000) (K : Nat) (H : Heap) (n : Nat) (p : Nm) (jr : Bool) (j : Delta) :
    acall cfg (K + 6) 96 [gsV g] ⟨H, n, p, jr, j⟩ = .ret (.agg [.slice (p ++ [n]) 0 g.free.length g.free.length false, .slice (p ++ [n + 1]) 0 g.bound.length g.bound.length false, rowX (p ++ [n + 2]) g.room.length, .int .i64 g.most, .bool g.flashed], copyS ⟨H, n, p, jr, j⟩ g) := by
  have c1 := fun H n p jr j => clone_call g.free h1 l1 (K + 4) H n p jr j
  have c2 := fun H n p jr j => clone_call g.bound h2 l2 (K + 4) H n p jr j
  unfold copyS
  cases hr : g.room with
  | nil =>
    have c3 := fun s => clone_nil K s
    refine call3_rows2 (tl := [.lst [], .int .i64 g.most, .bool g.flashed]) mget96 fget96 rfl (by simp only [renVs, renV, gsV, fl_rg]) (rows_bare _) (rows_bare _) ⟨fun _ _ => rfl, fun _ => rfl⟩ ?_
    refine body_does rfl fun T hT' hA => ?_
    have a0 := hA 0 _ rfl
    have hT : T.length = 16 := hT'
    clear hA hT'
    simp only [rgB] at c1 c2
    simp -implicitDefEqProofs only [go_sem, a0, hr, List.map_nil]
    try simp only [does_bind]
    refine draw_machX [[], [0], [1, 0], [], [3], [4, 3, 2, 1, 0], [], [6], [7, 6, 5, 4, 3, 2, 1, 0], [2, 1, 0, 4, 3, 7, 6], [9, 8, 5, 2, 1, 0, 4, 3, 7, 6], [10, 9, 8, 5, 2, 1, 0, 4, 3, 7, 6], [11, 10, 9, 8, 5, 2, 1, 0, 4, 3, 7, 6], [12, 11, 10, 9, 8, 5, 2, 1, 0, 4, 3, 7, 6], [13, 12, 11, 10, 9, 8, 5, 2, 1, 0, 4, 3, 7, 6]] [[], [], [], [], [], [], [], [], [], [], [[0]], [], [[0]], [], [[0]]] (by kernel_rfl) rfl rfl ?_
    simp -implicitDefEqProofs only [go_sem, hget_redoH, lkn, lk_same, lk11, lk31, Option.getD_some, Option.getD_none, hT, c1, c2, c3, sameW_self]
    simp -implicitDefEqProofs only [redoH, redo1, go_sem, hT, Try.results96]
    exact ⟨[2, 2, 0], [2, 5, 0], rfl, rfl, rfl, rfl, rfl⟩
  | cons a l =>
    have hrn : g.room ≠ [] := by rw [hr]; simp
    have c3 := fun H n p jr j => clone_call g.room hrn l3 (K + 4) H n p jr j
    show _ = Tr.ret (_, (((St.new ⟨H, n, p, jr, j⟩ (rgB g.free)).new (rgB g.bound)).new (rgB (a :: l))))
    rw [← hr]
    have hx : rowX (p ++ [n + 2]) g.room.length = .slice (p ++ [n + 2]) 0 g.room.length g.room.length false := rowX_pos (by rw [hr]; simp)
    rw [hx]
    refine call3_rows3 (tl := [.int .i64 g.most, .bool g.flashed]) mget96 fget96 rfl (by simp only [renVs, renV, gsV, fl_rg]) (rows_bare _) (rows_bare _) (rows_bare _) ⟨fun _ _ => rfl, fun _ => rfl⟩ ?_
    refine body_does rfl fun T hT' hA => ?_
    have a0 := hA 0 _ rfl
    have hT : T.length = 16 := hT'
    clear hA hT' hx
    simp only [rgB] at c1 c2 c3
    simp -implicitDefEqProofs only [go_sem, a0]
    try simp only [does_bind]
    refine draw_machX [[], [0], [1, 0], [], [3], [4, 3, 2, 1, 0], [], [6], [7, 6, 5, 4, 3, 2, 1, 0], [2, 1, 0, 4, 3, 7, 6], [9, 8, 5, 2, 1, 0, 4, 3, 7, 6], [10, 9, 8, 5, 2, 1, 0, 4, 3, 7, 6], [11, 10, 9, 8, 5, 2, 1, 0, 4, 3, 7, 6], [12, 11, 10, 9, 8, 5, 2, 1, 0, 4, 3, 7, 6], [13, 12, 11, 10, 9, 8, 5, 2, 1, 0, 4, 3, 7, 6]] [[], [], [], [], [], [], [], [], [], [], [[0]], [], [[0]], [], [[0]]] (by kernel_rfl) rfl rfl ?_
    simp -implicitDefEqProofs only [go_sem, hget_redoH, lkn, lk_same, lk11, lk31, Option.getD_some, Option.getD_none, hT, c1, c2, c3, sameW_self]
    simp -implicitDefEqProofs only [redoH, redo1, go_sem, hT, Try.results96]
    exact ⟨[2, 2, 0], [2, 5, 0], [2, 8, 0], rfl, rfl, rfl, rfl, rfl, rfl, rfl, rfl, rfl, rfl⟩
end Go.Proofs.Ytgnpnfkncbnjnaa
namespace Go.Proofs.Ytgnpnfkncbnjnaa
open Go Go.Am
attribute [local congr] tr_congr does_congr all_congr
theorem fz_rowX {H : Heap} {d : Nat} {b : Nm} (l : List Rg) (hb : l ≠ [] → hget H b = some (rgB l)) : freezeG (freezeD H (d + 1)) H (rowX b l.length) = some (.lst (l.map rgV)) := by
  cases l with
  | nil => rfl
  | cons a r => exact freeze_row (g := rgC) (z := 2) rgC_len (by decide) (f := rgV) (fun _ => rfl) (row := freezeD H (d + 1)) (H := H) (a :: r) (fz_row _) (hb (by simp)) (a :: r).length false
theorem fz_slice {H : Heap} {d : Nat} {b : Nm} (l : List Rg) (hb : hget H b = some (rgB l)) : freezeG (freezeD H (d + 1)) H (.slice b 0 l.length l.length false) = some (.lst (l.map rgV)) := by
  cases l with
  | nil => rfl
  | cons a r => exact freeze_row (g := rgC) (z := 2) rgC_len (by decide) (f := rgV) (fun _ => rfl) (row := freezeD H (d + 1)) (H := H) (a :: r) (fz_row _) hb (a :: r).length false
theorem frozen_sys {H : Heap} {f b r : Nm} {g : Gs} {e : Int} (h1 : hget H f = some (rgB g.free)) (h2 : hget H b = some (rgB g.bound)) (h3 : g.room ≠ [] → hget H r = some (rgB g.room)) : Go.Am.frozen H (.tuple [.agg [.slice f 0 g.free.length g.free.length false, .slice b 0 g.bound.length g.bound.length false, rowX r g.room.length, .int .i64 g.most, .bool g.flashed], .int .i64 e]) = some (.tuple [gsV g, .int .i64 e]) := by
  have h4 : freezeG (freezeD H 6) H (.tuple [.agg [.slice f 0 g.free.length g.free.length false, .slice b 0 g.bound.length g.bound.length false, rowX r g.room.length, .int .i64 g.most, .bool g.flashed], .int .i64 e]) = some (.tuple [gsV g, .int .i64 e]) := by
    show (match freezeGs (freezeD H 6) H [.agg [.slice f 0 g.free.length g.free.length false, .slice b 0 g.bound.length g.bound.length false, rowX r g.room.length, .int .i64 g.most, .bool g.flashed], .int .i64 e] with | some l => some (AV.tuple l) | none => none) = _
    have h5 : freezeG (freezeD H 6) H (.agg [.slice f 0 g.free.length g.free.length false, .slice b 0 g.bound.length g.bound.length false, rowX r g.room.length, .int .i64 g.most, .bool g.flashed]) = some (gsV g) := by
      show (match freezeGs (freezeD H 6) H [.slice f 0 g.free.length g.free.length false, .slice b 0 g.bound.length g.bound.length false, rowX r g.room.length, .int .i64 g.most, .bool g.flashed] with | some l => some (AV.agg l) | none => none) = _
      simp only [freezeGs, fz_slice g.free h1, fz_slice g.bound h2, fz_rowX g.room h3]
      rfl
    simp only [freezeGs, h5]
    rfl
  unfold Go.Am.frozen
  rw [h4]
  have h5 : (AV.tuple [gsV g, .int .i64 e]).flat = true := by simp only [gsV, AV.flat, flats, fl_rg]
  simp only [h5]
def tickE (v : Vac) (g : Gs) (s : Bk) : Gs × Int := if belongsE v g = 0 then if stageE v s = 0 then (tickT v g s, 0) else (zeroG, stageE v s) else (zeroG, belongsE v g)
def gasP (p : Gs × Int) : AV := .tuple [gsV p.1, .int .i64 p.2]
@[go_sem] theorem flat_gasP (p : Gs × Int) : (gasP p).flat = true := by
  unfold gasP; simp only [gsV, AV.flat, flats, fl_rg]
theorem frozen_zero (H : Heap) (e : Int) : Go.Am.frozen H (.tuple [.agg [.nils, .nils, .nils, .int .i64 0, .bool false], .int .i64 e]) = some (gasP (zeroG, e)) := rfl
theorem belongs_fits {v : Vac} {g : Gs} (h : belongsE v g = 0) : Fits v g := by
  obtain ⟨_, h1, h2, h3, _⟩ := belongs_zero h
  exact ⟨h1, h2, h3⟩
theorem Tick_call (v : Vac) (g : Gs) (b : Bk) (K : Nat) (s : St) (hK : 300 < K) (hv : v.Lens K) (hg : g.Lens) (hsh : b.shut.length < K) (hsh2 : b.shut.length ≤ 9223372036854775807) : acall cfg (K + 12) 31 [vacV v, gsV g, bkV b] s = .ret (gasP (tickE v g b), s) := by
  refine call1 mget31 fget31 (by first | rfl | simp -implicitDefEqProofs only [redoH, redo1, go_sem]) (by first | rfl | simp -implicitDefEqProofs only [go_sem]) (by first | rfl | simp -implicitDefEqProofs only [go_sem]) ?_
  refine body_does rfl fun T hT' hA => ?_
  have a0 := hA 0 _ rfl
  have a1 := hA 1 _ rfl
  have a2 := hA 2 _ rfl
  have hT : T.length = 37 := hT'
  clear hA hT'
  have hb := fun s => belongs_call v g K s (by omega) hv hg
  have hst := fun s => stage_call v b (K + 9) s (by omega) hsh2 hv.pip.2
  simp only [vacV, gsV, bkV] at hb hst
  unfold tickE
  by_cases c0 : belongsE v g = 0
  · have hf := belongs_fits c0
    have hva := valid_of (belongs_zero c0).1
    obtain ⟨hn1, hn2⟩ := hf.ne hva
    rw [if_pos c0]
    by_cases c1 : stageE v b = 0
    · rw [if_pos c1]
      have hco := fun H n p jr j => copied_call g hn1 hn2 (by have := hf.f; have := hva.n8; omega) (by have := hf.b; have := hva.n8; omega) (by have := hf.r; have := hva.g8; omega) (K + 5) H n p jr j
      simp only [gsV] at hco
      have hft := fits_tick hf b
      have key : ∀ H, SysAt H [4, 4, 0] [4, 2, 0] [4, 2, 1] [4, 2, 2] v g → hget H [3] = some (.cells [.nils, .nils, .nils, .int .i64 0, .bool false] true 0) → hget H [2] = some (.cells [.int .i64 b.ticks, .int .i64 b.heat, .lst (b.shut.map iV), .bool b.flash] true 0) → ∃ H2, (∀ n, acall cfg (K + 11) 97 [.ptr [4, 4, 0] 0, bkV b] ⟨H, n, [], false, []⟩ = .ret (.tuple [], ⟨H2, n, [], false, []⟩)) ∧ SysAt H2 [4, 4, 0] [4, 2, 0] [4, 2, 1] [4, 2, 2] v (tickT v g b) ∧ hget H2 [3] = some (.cells [.nils, .nils, .nils, .int .i64 0, .bool false] true 0) := fun H h h3 _ =>
        ⟨_, fun n => tick_call (K := K + 5) h ⟨by decide, by decide, by decide, by decide, by decide, by decide⟩ hva hf (by omega) (by omega) hsh2, sysPut_at h ⟨by decide, by decide, by decide, by decide, by decide, by decide⟩ (by rw [hft.r, hf.r]), (sysPut_ne (by decide) (by decide) (by decide) (fun _ => by decide)).trans h3⟩
      simp -implicitDefEqProofs only [go_sem, a0, a1, a2, hT, hb, c0, hst, c1]
      rcases (show g.room = [] ∨ ∃ a l, g.room = a :: l from by cases g.room with | nil => exact .inl rfl | cons a l => exact .inr ⟨a, l, rfl⟩) with hr | ⟨a, l, hr⟩
      · have hcp : ∀ s, copyS s g = (s.new (rgB g.free)).new (rgB g.bound) := fun s => by unfold copyS; rw [hr]
        simp only [hcp] at hco
        clear hcp
        try simp only [does_bind]
        refine draw_machX [[], [], [1], [0, 2, 1], [3, 0, 2, 1], [4, 3, 0, 2, 1]] [[], [], [], [], [], []] (by kernel_rfl) rfl rfl ?_
        simp -implicitDefEqProofs only [go_sem, hget_redoH, lkn, lk31, Option.getD_some, Option.getD_none, hT, hco, sameW_self]
        obtain ⟨H2, hc, hs2, h32⟩ := key (redoH [([3], .cells [.nils, .nils, .nils, .int .i64 0, .bool false] true 0), ([2], .cells [.int .i64 b.ticks, .int .i64 b.heat, .lst (b.shut.map iV), .bool b.flash] true 0), ([1], .cells [.lst (g.free.map rgV), .lst (g.bound.map rgV), .lst (g.room.map rgV), .int .i64 g.most, .bool g.flashed] true 0), ([0], .cells [.lst (v.vessels.map vesV), .lst (v.pipes.map pipV), .lst (v.pumps.map pmpV), .lst (v.leaks.map inlV), .lst (v.getters.map gtrV)] true 0)] [([4, 4, 0], some (sysB v [4, 2, 0] [4, 2, 1] [4, 2, 2] g)), ([4, 2, 1], some (rgB g.bound)), ([4, 2, 0], some (rgB g.free))]) ⟨rfl, rfl, rfl, fun e => absurd hr e⟩ rfl rfl
        unfold sysB at hc
        simp only [bkV] at hc
        have g4 := hs2.x
        unfold sysB at g4
        have e3 : ∀ Z, hget (hset H2 [3] Z) [3] = some Z := fun Z => hss h32
        simp -implicitDefEqProofs only [go_sem, hT, hc, g4, h32, e3, Try.results31]
        exact frozen_sys (hs13.trans hs2.f) (hs13.trans hs2.b) (fun e => hs13.trans (hs2.r e))
      · have hcp : ∀ s, copyS s g = ((s.new (rgB g.free)).new (rgB g.bound)).new (rgB g.room) := fun s => by unfold copyS; rw [hr]
        simp only [hcp] at hco
        clear hcp
        try simp only [does_bind]
        refine draw_machX [[], [], [1], [0, 2, 1], [3, 0, 2, 1], [4, 3, 0, 2, 1]] [[], [], [], [], [], []] (by kernel_rfl) rfl rfl ?_
        simp -implicitDefEqProofs only [go_sem, hget_redoH, lkn, lk31, Option.getD_some, Option.getD_none, hT, hco, sameW_self]
        obtain ⟨H2, hc, hs2, h32⟩ := key (redoH [([3], .cells [.nils, .nils, .nils, .int .i64 0, .bool false] true 0), ([2], .cells [.int .i64 b.ticks, .int .i64 b.heat, .lst (b.shut.map iV), .bool b.flash] true 0), ([1], .cells [.lst (g.free.map rgV), .lst (g.bound.map rgV), .lst (g.room.map rgV), .int .i64 g.most, .bool g.flashed] true 0), ([0], .cells [.lst (v.vessels.map vesV), .lst (v.pipes.map pipV), .lst (v.pumps.map pmpV), .lst (v.leaks.map inlV), .lst (v.getters.map gtrV)] true 0)] [([4, 4, 0], some (sysB v [4, 2, 0] [4, 2, 1] [4, 2, 2] g)), ([4, 2, 2], some (rgB g.room)), ([4, 2, 1], some (rgB g.bound)), ([4, 2, 0], some (rgB g.free))]) ⟨rfl, rfl, rfl, fun _ => rfl⟩ rfl rfl
        unfold sysB at hc
        simp only [bkV] at hc
        have g4 := hs2.x
        unfold sysB at g4
        have e3 : ∀ Z, hget (hset H2 [3] Z) [3] = some Z := fun Z => hss h32
        simp -implicitDefEqProofs only [go_sem, hT, hc, g4, h32, e3, Try.results31]
        exact frozen_sys (hs13.trans hs2.f) (hs13.trans hs2.b) (fun e => hs13.trans (hs2.r e))
    · rw [if_neg c1]
      simp -implicitDefEqProofs only [go_sem, a0, a1, a2, hT, hb, c0, hst, c1, Try.results31]
      exact frozen_zero _ _
  · rw [if_neg c0]
    simp -implicitDefEqProofs only [go_sem, a0, a1, a2, hT, hb, c0, Try.results31]
    exact frozen_zero _ _
end Go.Proofs.Ytgnpnfkncbnjnaa
namespace Go.Proofs.Ytgnpnfkncbnjnaa
open Go Go.Am
attribute [local congr] tr_congr does_congr all_congr
theorem own_nil (K : Nat) (s : St) : acall cfg (K + 5) 166 [.lst []] s = .ret (.nils, s) := by
  obtain ⟨H, n, p, jr, j⟩ := s
  kernel_rfl
theorem own_call (L : List Rg) (hne : L ≠ []) (h : L.length ≤ 1000000) (K : Nat) (H : Heap) (n : Nat) (p : Nm) (jr : Bool) (j : Delta) : acall cfg (K + 1) 166 [.lst (L.map rgV)] ⟨H, n, p, jr, j⟩ = .ret (.slice (p ++ [n]) 0 L.length L.length false, St.new ⟨H, n, p, jr, j⟩ (rgB L)) := by
  refine call3_gen (bs := []) (args' := [.lst (L.map rgV)]) (xs := []) (xs0 := []) (ys' := []) (zs' := [rgB L]) mget166 fget166 rfl rfl rfl (by show renVs [] _ = _; simp only [renVs, renV, fl_rg]) rfl ?_ rfl rfl
  refine Tr.Does.mono (Q := fun x => ∃ b, x.1 = .slice b 0 L.length L.length false ∧ hget x.2.H b = some (rgB L)) ?_ ?_
  · refine body_does rfl fun T hT' hA => ?_
    have a0 := hA 0 _ rfl
    have hT : T.length = 5 := hT'
    clear hA hT'
    have hap := fun s => ap_empty_mut L hne h (cfg.at 166) rfl .nils (.inr rfl) s
    simp -implicitDefEqProofs only [go_sem, a0, hT, hap, Try.results166]
    exact ⟨_, rfl, rfl⟩
  · rintro ⟨v1, s1⟩ ⟨b, rfl, hb⟩
    refine ⟨[], [b], [rgB L], rfl, ?_, rfl, ?_, rfl, by simp only [renBs, ren_rg]⟩
    · show reachL s1.H (199 + 1) [b] [] [] = _
      rw [rgB] at hb
      rw [reach_new rfl hb (rows_bare L)]
      rfl
    · show renV [(b, p ++ [n])] _ = _
      simp only [renV, lookN, eqb_self]
def rateR (h : Int) : Rg → List Rel → Rg
  | q, [] => q
  | q, b :: r => rateR h (if b.frm ≤ h then b.rate else q) r
theorem rateR_high (h : Int) (q : Rg) : ∀ l : List Rel, (∀ b ∈ l, h < b.frm) → rateR h q l = q
  | [], _ => rfl
  | b :: l, hl => by
    unfold rateR
    rw [if_neg (by have := hl b List.mem_cons_self; omega)]
    exact rateR_high h q l fun c hc => hl c (List.mem_cons_of_mem _ hc)
theorem bands_up : ∀ (l : List Rel) (i : Nat) (last : Int), bandsE i last l = 0 → 0 < i → ∀ b ∈ l, last < b.frm
  | [], _, _, _, _, _, hb => by cases hb
  | a :: l, i, last, h, hi, b, hb => by
    unfold bandsE at h
    split at h
    · split at h
      · exact absurd h (by decide)
      · rename_i h2
        split at h
        · have ha : last < a.frm := by
            have : ¬ a.frm ≤ last := fun e => h2 ⟨hi, e⟩
            omega
          rcases List.mem_cons.1 hb with rfl | hb
          · exact ha
          · have := bands_up l (i + 1) a.frm h (by omega) b hb; omega
        · rename_i h3; exact absurd h h3
    · exact absurd h (by decide)
theorem rate_eq : ∀ (l : List Rel) (i : Nat) (last : Int) (h : Int) (q : Rg), bandsE i last l = 0 → rateR h q l = rateP h q l
  | [], _, _, _, _, _ => rfl
  | a :: l, i, last, h, q, hb => by
    have hb' : bandsE (i + 1) a.frm l = 0 := by
      unfold bandsE at hb
      split at hb
      · split at hb
        · exact absurd hb (by decide)
        · split at hb
          · exact hb
          · rename_i h3; exact absurd hb h3
      · exact absurd hb (by decide)
    unfold rateR rateP
    by_cases c : h < a.frm
    · rw [if_pos c, if_neg (by omega)]
      exact rateR_high h q l fun b hm => by have := bands_up l (i + 1) a.frm hb' (by omega) b hm; omega
    · rw [if_neg c, if_pos (by omega)]
      exact rate_eq l (i + 1) a.frm h a.rate hb'
theorem rate_call (x : Ves) (h : Int) (K : Nat) (s : St) (hK : x.bands.length < K) (hl : x.bands.length ≤ 1000000) : acall cfg (K + 1) 182 [vesV x, .int .i64 h] s = .ret (rgV (rateR h ⟨0, 0⟩ x.bands), s) := by
  refine call1 mget182 fget182 (by first | rfl | simp -implicitDefEqProofs only [redoH, redo1, go_sem]) (by first | rfl | simp -implicitDefEqProofs only [go_sem]) (by first | rfl | simp -implicitDefEqProofs only [redoH, redo1, go_sem]) ?_
  refine body_does rfl fun T hT' hA => ?_
  have a0 := hA 0 _ rfl
  have a1 := hA 1 _ rfl
  have hT : T.length = 29 := hT'
  clear hA hT'
  simp -implicitDefEqProofs only [go_sem, a0]
  simp only [does_bind]
  refine xl_does (fun k T s' => T.length = 29 ∧ nth T 1 = some (.int .i64 h) ∧ nth T 2 = some (.ptr [0] 0) ∧ nth T 4 = some (.ptr [1] 0) ∧ nth T 5 = some (.ptr [2] 0) ∧ ∃ (i : Nat) (H : Heap) (q : Rg), nth T 6 = some (.int .i64 i) ∧ i ≤ x.bands.length ∧ k = x.bands.length - i ∧ s' = ⟨H, 3, [], false, []⟩ ∧ hget H [0] = some (.cells [.int .i64 x.vol, .int .i64 x.free.lo, .int .i64 x.free.hi, .int .i64 x.bound.lo, .int .i64 x.bound.hi, .lst (x.bands.map relV)] true 0) ∧ hget H [1] = some (.cells [.int .i64 0, .int .i64 0] true 0) ∧ hget H [2] = some (.cells [.int .i64 q.lo, .int .i64 q.hi] true 0) ∧ rateR h ⟨0, 0⟩ x.bands = rateR h q (x.bands.drop i)) (k := x.bands.length) (by omega) ?_ ?_
  · exact ⟨by simp -implicitDefEqProofs only [go_sem, hT], by simp -implicitDefEqProofs only [go_sem, a1], by simp -implicitDefEqProofs only [go_sem, hT], by simp -implicitDefEqProofs only [go_sem, hT], by simp -implicitDefEqProofs only [go_sem, hT], 0, _, ⟨0, 0⟩, by simp -implicitDefEqProofs only [go_sem, hT] <;> rfl, by omega, rfl, rfl, rfl, rfl, rfl, rfl⟩
  clear a0 a1 hT T
  rintro k T s' ⟨hT, a1, a2, a4, a5, i, H, q, a6, hi, rfl, rfl, g0, g1, g2, he⟩
  simp -implicitDefEqProofs only [go_sem, a2, a6, hT, g0]
  by_cases hil : (i : Int) < (x.bands.length : Int)
  · have hi' : i < x.bands.length := by omega
    have e1 := elemAt_map (f := relV) (l := x.bands) (i := i) (z := 3) hi' rfl
    have hkk : x.bands.length - (i + 1) < x.bands.length - i := by omega
    rw [List.drop_eq_getElem_cons hi'] at he
    generalize x.bands[i] = y at *
    simp only [rateR] at he
    simp only [relV] at e1
    have hw1 : wrapF .i64 ((i : Int) + 1) = ((i + 1 : Nat) : Int) := wrap_i64 (by omega) (by omega)
    by_cases c : y.frm ≤ h
    · rw [if_pos c] at he
      simp -implicitDefEqProofs only [go_sem, a1, a2, a4, a5, a6, hT, g0, hil, e1, c, g2, hw1]
      exact ⟨x.bands.length - (i + 1), hkk, trivial, trivial, trivial, trivial, trivial, i + 1, _, y.rate, rfl, hi', rfl, rfl, (hs11 (by decide)).trans g0, (hs11 (by decide)).trans g1, hss g2, he⟩
    · rw [if_neg c] at he
      simp -implicitDefEqProofs only [go_sem, a1, a2, a4, a5, a6, hT, g0, hil, e1, c, hw1]
      exact ⟨x.bands.length - (i + 1), hkk, trivial, trivial, trivial, trivial, trivial, i + 1, H, q, rfl, hi', rfl, rfl, g0, g1, g2, he⟩
  · have hie : i = x.bands.length := by omega
    subst hie
    rw [List.drop_length] at he
    simp only [rateR] at he
    have e1 : ∀ Z, hget (hset H [1] Z) [1] = some Z := fun Z => hss g1
    simp -implicitDefEqProofs only [go_sem, a4, a5, hT, hil, g2, g1, e1, Try.results182]
    rw [he]
    rfl
end Go.Proofs.Ytgnpnfkncbnjnaa
namespace Go.Proofs.Ytgnpnfkncbnjnaa
open Go Go.Am
attribute [local congr] tr_congr does_congr all_congr
noncomputable def gasPut (f b r : Nm) (g : Gs) (H : Heap) : Heap := match g.room with
  | [] => putsH [f, b] [rgB g.free, rgB g.bound] H
  | _ :: _ => putsH [f, b, r] [rgB g.free, rgB g.bound, rgB g.room] H
structure Apart3 (f b r : Nm) : Prop where
  fb : f ≠ b
  fr : f ≠ r
  br : b ≠ r
theorem gasPut_at {H : Heap} {f b r : Nm} {g g' : Gs} (h : GasAt H f b r g) (ha : Apart3 f b r) (h1 : g.free ≠ []) (h2 : g.bound ≠ []) (hr : g'.room.length = g.room.length) : GasAt (gasPut f b r g' H) f b r g' := by
  have hf := h.f h1
  have hb := h.b h2
  unfold gasPut
  cases hg : g'.room with
  | nil =>
    show GasAt (hset (hset H f _) b _) f b r g'
    exact ⟨fun _ => by rw [hget_hset_ne _ _ (Ne.symm ha.fb)]; exact hss hf, fun _ => hss ((hget_hset_ne _ _ ha.fb).trans hb), fun e => absurd hg e⟩
  | cons a l =>
    have hr2 := h.r (fun e => by rw [hg, e] at hr; simp at hr)
    show GasAt (hset (hset (hset H f _) b _) r _) f b r g'
    exact ⟨fun _ => by rw [hget_hset_ne _ _ (Ne.symm ha.fr), hget_hset_ne _ _ (Ne.symm ha.fb)]; exact hss hf, fun _ => by rw [hget_hset_ne _ _ (Ne.symm ha.br)]; exact hss ((hget_hset_ne _ _ ha.fb).trans hb),
      fun _ => by rw [hg]; exact hss ((hget_hset_ne _ _ ha.br).trans ((hget_hset_ne _ _ ha.fr).trans hr2))⟩
theorem gasPut_ne {H : Heap} {f b r q : Nm} {g : Gs} (h2 : f ≠ q) (h3 : b ≠ q) (h4 : g.room ≠ [] → r ≠ q) : hget (gasPut f b r g H) q = hget H q := by
  unfold gasPut
  cases hg : g.room with
  | nil =>
    show hget (hset (hset H f _) b _) q = _
    rw [hget_hset_ne _ _ h3, hget_hset_ne _ _ h2]
  | cons a l =>
    show hget (hset (hset (hset H f _) b _) r _) q = _
    rw [hget_hset_ne _ _ (h4 (by rw [hg]; simp)), hget_hset_ne _ _ h3, hget_hset_ne _ _ h2]
def gasX (b1 b2 b3 : Nm) (g : Gs) : AV := .agg [rowX b1 g.free.length, rowX b2 g.bound.length, rowX b3 g.room.length, .int .i64 g.most, .bool g.flashed]
theorem mutV_pos {b : Nm} {n : Nat} (h : 0 < n) : mutV b n = .slice b 0 n n false := by cases n with | zero => omega | succ n => rfl
theorem gas_call {F : FuncId} {fn : Func} {K : Nat} {f b r : Nm} {v : Vac} {g g' : Gs} {rest : List AV} {H : Heap} {n : Nat} {p : Nm} {j : Delta} (hm : cfg.mode.get F = some 3) (hf : cfg.fn.get F = some fn)
    (h : GasAt H f b r g) (ha : Apart3 f b r) (h1 : g.free ≠ []) (h2 : g.bound ≠ []) (hl3 : g'.room.length = g.room.length) (h1' : g'.free ≠ []) (h2' : g'.bound ≠ []) (hrest : namesVs false rest [] = []) (hrest2 : ∀ mp, renVs mp rest = some rest)
    (hd : ∀ H0 m, GasAt H0 [0] [1] [2] g → (g.room ≠ [] → 1 ≤ m) → (bodyA (cfg.at F) (acall cfg K) (around cfg K) (K + 1) fn (vacV v :: gasX [0] [1] [2] g :: rest) ⟨H0, m + 2, [], false, []⟩).Does fun x => x.1 = .tuple [] ∧ GasAt x.2.H [0] [1] [2] g') :
    acall cfg (K + 1) F (vacV v :: gasX f b r g :: rest) ⟨H, n, p, false, j⟩ = .ret (.tuple [], ⟨gasPut f b r g' H, n, p, false, j⟩) := by
  have efb := eqb_ne ha.fb
  have efr := eqb_ne ha.fr
  have ebr := eqb_ne ha.br
  have ebf := eqb_ne (Ne.symm ha.fb)
  have erf := eqb_ne (Ne.symm ha.fr)
  have erb := eqb_ne (Ne.symm ha.br)
  have nb : ∀ op L r, namesB op (rgB L) r = r := fun op L r => (rows_bare L).nm op r
  have hf0 := h.f h1
  have hb0 := h.b h2
  have p1 : 0 < g.free.length := List.length_pos_iff.2 h1
  have p2 : 0 < g.bound.length := List.length_pos_iff.2 h2
  have hG : ∀ f b r, gasX f b r g = .agg [.slice f 0 g.free.length g.free.length false, .slice b 0 g.bound.length g.bound.length false, rowX r g.room.length, .int .i64 g.most, .bool g.flashed] := fun f b r => by
    unfold gasX; rw [rowX_pos p1, rowX_pos p2]
  have hrv : ∀ mp, renV mp (vacV v) = some (vacV v) := fun mp => by simp only [vacV, renV, renVs, fl_ves, fl_pip, fl_pmp, fl_inl, fl_gtr]
  unfold gasPut
  cases hg : g.room with
  | nil =>
    have hg' : g'.room = [] := List.length_eq_zero_iff.1 (by rw [hl3, hg]; rfl)
    rw [hg']
    simp only
    have hn0 : namesVs false (vacV v :: gasX f b r g :: rest) [] = [f, b] := by
      rw [hG]
      show namesV false (vacV v) (namesV false (.agg [.slice f 0 g.free.length g.free.length false, .slice b 0 g.bound.length g.bound.length false, rowX r g.room.length, .int .i64 g.most, .bool g.flashed]) (namesVs false rest [])) = _
      rw [hrest, hg]; rfl
    have hra : renVs [(f, [0]), (b, [1])] (vacV v :: gasX f b r g :: rest) = some (vacV v :: gasX [0] [1] [2] g :: rest) := by
      rw [hG, hG]
      have hq : ∀ q, rowX q g.room.length = .lst [] := fun q => by rw [hg]; rfl
      rw [hq, hq]
      simp only [renVs, hrv, renV, lookN, eqb_self, ebf, hrest2, flats]
    refine call3_keep (bs := [f, b]) (xs := [rgB g.free, rgB g.bound]) (args' := vacV v :: gasX [0] [1] [2] g :: rest) (xs0 := [rgB g.free, rgB g.bound]) (ys := [rgB g'.free, rgB g'.bound]) hm hf ?_ ?_ rfl hra ?_ rfl (fun _ => rfl) ?_ ?_ rfl ?_ rfl ?_ ?_
    · rw [hn0]
      show lendM (199 + 1) [f, b] [] [] _ = _
      rw [lend1 199 rfl hf0]
      show lendM (198 + 1) (namesB false (rgB g.free) [b]) [f] [_] _ = _
      rw [nb, lend1 198 (by simp only [memNm, ebf]) hb0]
      show lendM (197 + 1) (namesB false (rgB g.bound) []) _ _ _ = _
      rw [nb]
      exact lendM_nil 197 _ _ _
    · simp only [nodupN, memNm, efb]
    · simp only [renBs, ren_rg]
    · intro q hq
      have e : namesBs true [rgB g'.free, rgB g'.bound] [] = [] := by
        show namesB true (rgB g'.free) (namesB true (rgB g'.bound) []) = _
        rw [nb, nb]
      rw [e] at hq; cases hq
    · have e : namesBs true [rgB g'.free, rgB g'.bound] [] = [] := by
        show namesB true (rgB g'.free) (namesB true (rgB g'.bound) []) = _
        rw [nb, nb]
      rw [e]; decide
    · simp only [renBs, ren_rg]
    · intro q hq
      simp only [List.mem_cons, List.not_mem_nil, or_false] at hq
      rcases hq with rfl | rfl
      · exact ⟨_, hf0⟩
      · exact ⟨_, hb0⟩
    · refine (hd _ 0 ⟨fun _ => rfl, fun _ => rfl, fun e => absurd hg e⟩ fun e => absurd hg e).mono ?_
      rintro x ⟨e1, e2⟩
      refine ⟨e1, ?_⟩
      show getAll x.2.H [[0], [1]] = _
      simp only [getAll, e2.f h1', e2.b h2']
      rfl
  | cons a l =>
    have hrn : g.room ≠ [] := by rw [hg]; simp
    obtain ⟨a', l', hg'⟩ : ∃ a' l', g'.room = a' :: l' := by
      cases hq : g'.room with
      | nil => rw [hq, hg] at hl3; simp at hl3
      | cons a' l' => exact ⟨a', l', rfl⟩
    have hr0 := h.r hrn
    have p3 : 0 < g.room.length := List.length_pos_iff.2 hrn
    have hq : ∀ q, rowX q g.room.length = .slice q 0 g.room.length g.room.length false := fun q => rowX_pos p3
    have hn0 : namesVs false (vacV v :: gasX f b r g :: rest) [] = [f, b, r] := by
      rw [hG, hq]
      show namesV false (vacV v) (namesV false (.agg [.slice f 0 g.free.length g.free.length false, .slice b 0 g.bound.length g.bound.length false, .slice r 0 g.room.length g.room.length false, .int .i64 g.most, .bool g.flashed]) (namesVs false rest [])) = _
      rw [hrest]; rfl
    have hra : renVs [(f, [0]), (b, [1]), (r, [2])] (vacV v :: gasX f b r g :: rest) = some (vacV v :: gasX [0] [1] [2] g :: rest) := by
      rw [hG, hG, hq, hq]
      simp only [renVs, hrv, renV, lookN, eqb_self, ebf, erf, erb, hrest2]
    have e : namesBs true [rgB g'.free, rgB g'.bound, rgB g'.room] [] = [] := by
      show namesB true (rgB g'.free) (namesB true (rgB g'.bound) (namesB true (rgB g'.room) [])) = _
      rw [nb, nb, nb]
    rw [hg']
    simp only
    rw [← hg']
    refine call3_keep (bs := [f, b, r]) (xs := [rgB g.free, rgB g.bound, rgB g.room]) (args' := vacV v :: gasX [0] [1] [2] g :: rest) (xs0 := [rgB g.free, rgB g.bound, rgB g.room]) (ys := [rgB g'.free, rgB g'.bound, rgB g'.room]) hm hf ?_ ?_ rfl hra ?_ rfl (fun _ => rfl) ?_ ?_ rfl ?_ rfl ?_ ?_
    · rw [hn0]
      show lendM (199 + 1) [f, b, r] [] [] _ = _
      rw [lend1 199 rfl hf0]
      show lendM (198 + 1) (namesB false (rgB g.free) [b, r]) [f] [_] _ = _
      rw [nb, lend1 198 (by simp only [memNm, ebf]) hb0]
      show lendM (197 + 1) (namesB false (rgB g.bound) [r]) [f, b] [_, _] _ = _
      rw [nb, lend1 197 (by simp only [memNm, erf, erb]) hr0]
      show lendM (196 + 1) (namesB false (rgB g.room) []) _ _ _ = _
      rw [nb]
      exact lendM_nil 196 _ _ _
    · simp only [nodupN, memNm, efb, efr, ebr]
    · simp only [renBs, ren_rg]
    · rw [e]; intro q hq; cases hq
    · rw [e]; decide
    · simp only [renBs, ren_rg]
    · intro q hq
      simp only [List.mem_cons, List.not_mem_nil, or_false] at hq
      rcases hq with rfl | rfl | rfl
      · exact ⟨_, hf0⟩
      · exact ⟨_, hb0⟩
      · exact ⟨_, hr0⟩
    · refine (hd _ 1 ⟨fun _ => rfl, fun _ => rfl, fun _ => rfl⟩ fun _ => Nat.le_refl 1).mono ?_
      rintro x ⟨e1, e2⟩
      refine ⟨e1, ?_⟩
      show getAll x.2.H [[0], [1], [2]] = _
      simp only [getAll, e2.f h1', e2.b h2', e2.r (by rw [hg']; simp)]
      rfl
end Go.Proofs.Ytgnpnfkncbnjnaa
namespace Go.Proofs.Ytgnpnfkncbnjnaa
open Go Go.Am
attribute [local congr] tr_congr does_congr all_congr
theorem rcut_call (L : List Rg) (q : Int) (f : Nm) (K : Nat) (H : Heap) (n : Nat) (p : Nm) (j : Delta) (hf : hget H f = some (rgB L)) (hK : L.length < K) (hl : L.length ≤ 1000000) :
    acall cfg (K + 1) 170 [.slice f 0 L.length L.length false, .int .i64 q] ⟨H, n, p, false, j⟩ = .ret (.tuple [], ⟨hset H f (rgB (L.map (cutR q))), n, p, false, j⟩) := by
  have nb : ∀ op L r, namesB op (rgB L) r = r := fun op L r => (rows_bare L).nm op r
  refine call3_keep (bs := [f]) (xs := [rgB L]) (args' := [.slice [0] 0 L.length L.length false, .int .i64 q]) (xs0 := [rgB L]) (ys := [rgB (L.map (cutR q))]) (ys' := [rgB (L.map (cutR q))]) mget170 fget170 ?_ rfl rfl ?_ ?_ rfl (fun _ => rfl) ?_ ?_ rfl ?_ rfl ?_ ?_
  · show lendM (199 + 1) [f] [] [] _ = _
    rw [lend1 199 rfl hf, nb]
    exact lendM_nil 198 _ _ _
  · show renVs [(f, [0])] _ = _
    simp only [renVs, renV, lookN, eqb_self]
  · simp only [renBs, ren_rg]
  · intro b hb
    have e : namesBs true [rgB (L.map (cutR q))] [] = [] := nb _ _ _
    rw [e] at hb; cases hb
  · have e : namesBs true [rgB (L.map (cutR q))] [] = [] := nb _ _ _
    rw [e]; decide
  · simp only [renBs, ren_rg]
  · intro b hb
    simp only [List.mem_cons, List.not_mem_nil, or_false] at hb
    subst hb
    exact ⟨_, hf⟩
  refine body_does rfl fun T hT' hA => ?_
  have a0 := hA 0 _ rfl
  have a1 := hA 1 _ rfl
  have hT : T.length = 29 := hT'
  clear hA hT'
  have hz : zipB (namesFrom [] 0 [f].length) [rgB L] = [([0], rgB L)] := rfl
  have hl3 : [f].length = 1 := rfl
  rw [hz, hl3]
  simp -implicitDefEqProofs only [go_sem]
  simp only [does_bind]
  refine xl_does (fun k T s' => T.length = 29 ∧ nth T 0 = some (.slice [0] 0 L.length L.length false) ∧ nth T 1 = some (.int .i64 q) ∧ ∃ (i m : Nat) (H : Heap), nth T 4 = some (.int .i64 i) ∧ i ≤ L.length ∧ k = L.length - i ∧ s' = ⟨H, m + 1, [], false, []⟩ ∧ hget H [0] = some (rgB ((L.map (cutR q)).take i ++ L.drop i))) (k := L.length) (by omega) ?_ ?_
  · exact ⟨by simp -implicitDefEqProofs only [go_sem, hT], by simp -implicitDefEqProofs only [go_sem, a0], by simp -implicitDefEqProofs only [go_sem, a1], 0, 0, _, by simp -implicitDefEqProofs only [go_sem, hT] <;> rfl, by omega, rfl, rfl, rfl⟩
  clear a0 a1 hT T
  rintro k T s' ⟨hT, a0, a1, i, m, H0, a4, hi, rfl, rfl, hx⟩
  simp -implicitDefEqProofs only [go_sem, a0, a4, hT]
  by_cases hil : (i : Int) < (L.length : Int)
  · have hi' : i < L.length := by omega
    have hkk : L.length - (i + 1) < L.length - i := by omega
    obtain ⟨R, hR, lR, f0, f1, fw⟩ := mix_row (G := L.map (cutR q)) (F := L) (List.length_map ..) hi' (cutR q L[i]) (fun h0 => by simp)
    rw [← hR] at hx
    clear hR
    generalize hF' : (L.map (cutR q)).take (i + 1) ++ L.drop (i + 1) = F' at fw
    have hin : inR (i : Int) L.length = some i := inR_of hi'
    have hw1 : wrapF .i64 ((i : Int) + 1) = ((i + 1 : Nat) : Int) := wrap_i64 (by omega) (by omega)
    generalize L[i] = x at *
    unfold rgB at hx
    simp only [cutR] at fw
    simp -implicitDefEqProofs only [go_sem, hil]
    try simp only [does_bind]
    refine draw_machX [[], [], [], [], [2, 3], [4, 2, 3], [5, 4, 2, 3], [], [6, 5, 4, 2, 3, 7], [], [], [9, 10], [11, 9, 10], [12, 11, 9, 10], [], [13, 12, 11, 9, 10, 14], [8, 6, 5, 4, 2, 3, 7, 15, 13, 12, 11, 9, 10, 14], [0, 1, 16, 8, 6, 5, 4, 2, 3, 7, 15, 13, 12, 11, 9, 10, 14], [17, 0, 1, 16, 8, 6, 5, 4, 2, 3, 7, 15, 13, 12, 11, 9, 10, 14]] [[], [], [], [], [], [], [], [], [], [], [], [], [], [], [], [], [], [], [[0]]] (by kernel_rfl) rfl rfl ?_
    simp -implicitDefEqProofs only [go_sem, Option.getD_some, a0, a1, a4, hT, hin, hx, f0, f1, mm_min, row_off, fw, hw1, sameW_self]
    exact ⟨L.length - (i + 1), hkk, trivial, trivial, trivial, i + 1, m + 1, _, rfl, hi', rfl, rfl, by rw [hF']; simp (disch := omega) only [hget_redoH, lk_same, Option.getD_some]; rfl⟩
  · have hie : i = L.length := by omega
    subst hie
    rw [List.drop_length, List.append_nil, List.take_of_length_le (by simp)] at hx
    simp -implicitDefEqProofs only [go_sem, hil, Try.results170]
    refine ⟨trivial, ?_⟩
    show getAll H0 [[0]] = _
    simp only [getAll, hx]
theorem rrelease_call {K : Nat} {f b r : Nm} {v : Vac} {g : Gs} {s : Bk} {H : Heap} {n : Nat} {p : Nm} {j : Delta} (h : GasAt H f b r g) (ha : Apart3 f b r) (h1 : g.free ≠ []) (hl1 : g.free.length = v.vessels.length) (hl2 : g.bound.length = v.vessels.length) (hK : v.vessels.length + 20 < K) (hl : v.vessels.length ≤ 1000000) (hbd : ∀ x ∈ v.vessels, x.bands.length ≤ 8) (hbe : ∀ x ∈ v.vessels, bandsE 0 0 x.bands = 0) :
    acall cfg (K + 2) 167 [vacV v, gasX f b r g, .int .i64 s.heat] ⟨H, n, p, false, j⟩ = .ret (.tuple [], ⟨gasPut f b r (relT v g s) H, n, p, false, j⟩) := by
  have hGF := relF_len (h := s.heat) hl1 hl2
  have hGB := relB_len (h := s.heat) hl2
  have h2 : g.bound ≠ [] := fun e => h1 (List.length_eq_zero_iff.1 (by rw [hl1, ← hl2, e]; rfl))
  have hpos : 0 < g.free.length := List.length_pos_iff.2 h1
  refine gas_call mget167 fget167 h ha h1 h2 rfl (fun e => by have : (relF s.heat v.vessels g.free g.bound).length = 0 := by rw [show relF s.heat v.vessels g.free g.bound = [] from e]; rfl
                                                              omega) (fun e => by have : (relB s.heat v.vessels g.bound).length = 0 := by rw [show relB s.heat v.vessels g.bound = [] from e]; rfl
                                                                                  omega) rfl (fun _ => rfl) fun H0 m hs hm => ?_
  refine body_does rfl fun T hT' hA => ?_
  have a0 := hA 0 _ rfl
  have a1 := hA 1 _ rfl
  have a2 := hA 2 _ rfl
  have hT : T.length = 66 := hT'
  clear hA hT'
  have hpb : 0 < g.bound.length := by omega
  unfold gasX at a1
  rw [rowX_pos hpos, rowX_pos hpb] at a1
  simp -implicitDefEqProofs only [go_sem, a0, a1]
  simp only [does_bind]
  unfold relT
  refine xl_does (fun k T s' => T.length = 66 ∧ nth T 2 = some (.int .i64 s.heat) ∧ nth T 3 = some (.ptr [m + 2] 0) ∧ nth T 4 = some (.ptr [m + 3] 0) ∧ ∃ (i m' : Nat) (H' : Heap), nth T 6 = some (.int .i64 i) ∧ i ≤ v.vessels.length ∧ k = v.vessels.length - i ∧ s' = ⟨H', m' + 4, [], false, []⟩ ∧ m ≤ m' ∧ hget H' [m + 2] = some (vacC v) ∧ hget H' [m + 3] = some (.cells [.slice [0] 0 g.free.length g.free.length false, .slice [1] 0 g.bound.length g.bound.length false, rowX [2] g.room.length, .int .i64 g.most, .bool g.flashed] true 0) ∧ hget H' [0] = some (rgB ((relF s.heat v.vessels g.free g.bound).take i ++ g.free.drop i)) ∧ hget H' [1] = some (rgB ((relB s.heat v.vessels g.bound).take i ++ g.bound.drop i)) ∧ (g.room ≠ [] → hget H' [2] = some (rgB g.room))) (k := v.vessels.length) (by omega) ?_ ?_
  · exact ⟨by simp -implicitDefEqProofs only [go_sem, hT], by simp -implicitDefEqProofs only [go_sem, a2], by simp -implicitDefEqProofs only [go_sem, hT], by simp -implicitDefEqProofs only [go_sem, hT], 0, m, _, by simp -implicitDefEqProofs only [go_sem, hT] <;> rfl, by omega, rfl, rfl, Nat.le_refl _, (hc11 (by omega)).trans (hget_cons_same ..), hget_cons_same .., (hc11 (by omega)).trans ((hc11 (by omega)).trans (hs.f h1)), (hc11 (by omega)).trans ((hc11 (by omega)).trans (hs.b h2)), fun e => (hc11 (by have := hm e; omega)).trans ((hc11 (by have := hm e; omega)).trans (hs.r e))⟩
  clear a0 a1 a2 hT T hs H0
  rintro k T s' ⟨hT, a2, a3, a4, i, m', H0, a6, hi, rfl, rfl, hmm, hvc, hgc, hx0, hx1, hx2⟩
  unfold vacC at hvc
  simp -implicitDefEqProofs only [go_sem, a3, a6, hT, hvc]
  by_cases hil : (i : Int) < (v.vessels.length : Int)
  · have hi' : i < v.vessels.length := by omega
    have e1 := elemAt_map (f := vesV) (l := v.vessels) (i := i) (z := 6) hi' rfl
    have hkk : v.vessels.length - (i + 1) < v.vessels.length - i := by omega
    have hbx := hbd _ (List.getElem_mem hi')
    have hbb := hbe _ (List.getElem_mem hi')
    obtain ⟨F, hF, lF, f0, f1, fw⟩ := mix_row (G := relF s.heat v.vessels g.free g.bound) (F := g.free) (by omega) (show i < g.free.length by omega) _ (fun h0 => relF_get h0 hi' (by omega) (by omega))
    obtain ⟨B, hB, lB, b0, b1, bw⟩ := mix_row (G := relB s.heat v.vessels g.bound) (F := g.bound) (by omega) (show i < g.bound.length by omega) _ (fun h0 => relB_get h0 hi' (by omega))
    rw [← hF] at hx0
    rw [← hB] at hx1
    clear hF hB
    generalize hF' : (relF s.heat v.vessels g.free g.bound).take (i + 1) ++ g.free.drop (i + 1) = F' at fw
    generalize hB' : (relB s.heat v.vessels g.bound).take (i + 1) ++ g.bound.drop (i + 1) = B' at bw
    generalize v.vessels[i] = x at *
    generalize g.free[i] = fi at *
    generalize g.bound[i] = bi at *
    have hra := fun st => rate_call x s.heat K st (by omega) (by omega)
    rw [rate_eq x.bands 0 0 s.heat ⟨0, 0⟩ hbb] at hra
    simp only [relFr, relBo] at fw bw
    generalize rateP s.heat ⟨0, 0⟩ x.bands = q at *
    simp only [vesV, rgV] at e1 hra
    have hinF : inR (i : Int) g.free.length = some i := inR_of (by omega)
    have hinB : inR (i : Int) g.bound.length = some i := inR_of (by omega)
    unfold rgB at hx0 hx1
    have c1 := fun a b s => rdown_call a b K s
    have c2 := fun a b s => rup_call a b K s
    have c3 := fun a b s => add_call ⟨fi.lo, fi.hi⟩ ⟨a, b⟩ K s
    simp only [rgV] at c3
    have hw1 : wrapF .i64 ((i : Int) + 1) = ((i + 1 : Nat) : Int) := wrap_i64 (by omega) (by omega)
    have nm2 : ∀ x r, lkD (([0], x) :: r) [m + 2] = lkD r [m + 2] := fun x r => lk11 (by omega)
    have nm3 : ∀ x r, lkD (([0], x) :: r) [m + 3] = lkD r [m + 3] := fun x r => lk11 (by omega)
    simp -implicitDefEqProofs only [go_sem, hil]
    try simp only [does_bind]
    refine draw_machX [[], [0], [], [1, 0, 2], [3, 1, 0, 2], [], [4, 3, 1, 0, 2, 5], [], [7], [], [8, 7, 9], [10, 8, 7, 9], [], [], [6, 4, 3, 1, 0, 2, 5, 12, 13], [11, 10, 8, 7, 9, 14, 6, 4, 3, 1, 0, 2, 5, 12, 13]] [[], [], [], [], [], [], [], [], [], [], [], [], [], [], [[m' + 4, 12, 0]], [[m' + 4, 13, 0]]] (by kernel_rfl) rfl rfl ?_
    simp -implicitDefEqProofs only [go_sem, hget_redoH, lkn, lk_same, lk33k, Option.getD_some, Option.getD_none, a2, a3, a4, a6, hT, hvc, hgc, hx1, hd31, e1, hra, hinB, b0, b1, sameW_self]
    try simp only [does_bind]
    refine draw_machX [[], [0], [], [], [3], [], [4, 3, 5], [6, 4, 3, 5], [], [8], [], [10], [9, 8, 11, 10], [], [13], [], [15], [14, 13, 16, 15, 12, 9, 8, 11, 10], [17, 14, 13, 16, 15, 12, 9, 8, 11, 10], [7, 6, 4, 3, 5, 18, 17, 14, 13, 16, 15, 12, 9, 8, 11, 10], [1, 0, 2, 19, 7, 6, 4, 3, 5, 18, 17, 14, 13, 16, 15, 12, 9, 8, 11, 10], [20, 1, 0, 2, 19, 7, 6, 4, 3, 5, 18, 17, 14, 13, 16, 15, 12, 9, 8, 11, 10]] [[], [], [], [], [], [], [], [], [], [], [], [], [], [], [], [], [], [], [], [], [], [[0]]] (by kernel_rfl) rfl rfl ?_
    simp -implicitDefEqProofs only [go_sem, hget_redoH, lkn, lk_same, lk31, lk33k, Option.getD_some, Option.getD_none, a4, a6, hT, hgc, hx0, hinF, f0, f1, c1, c2, c3, row_off, fw, sameW_self]
    try simp only [does_bind]
    refine draw_machX [[], [0], [], [], [3], [], [5], [6, 5], [4, 3, 7, 6, 5], [], [9], [], [11], [12, 11], [10, 9, 13, 12, 11, 8, 4, 3, 7, 6, 5], [14, 10, 9, 13, 12, 11, 8, 4, 3, 7, 6, 5], [1, 0, 2, 15, 14, 10, 9, 13, 12, 11, 8, 4, 3, 7, 6, 5], [16, 1, 0, 2, 15, 14, 10, 9, 13, 12, 11, 8, 4, 3, 7, 6, 5]] [[], [], [], [], [], [], [], [], [], [], [], [], [], [], [], [], [], [[1]]] (by kernel_rfl) rfl rfl ?_
    simp -implicitDefEqProofs only [go_sem, hget_redoH, lkn, lk_same, lk11, lk13, lk31, lk33k, Option.getD_some, Option.getD_none, a2, a3, a4, a6, hT, hgc, hx1, nm3, hinB, b0, b1, c1, c2, row_off, bw, hw1, sameW_self]
    refine ⟨v.vessels.length - (i + 1), hkk, trivial, trivial, trivial, trivial, i + 1, m' + 3, _, rfl, hi', rfl, rfl, by omega, ?_, ?_, ?_, ?_, fun e => ?_⟩
    all_goals clear hw1
    · simp (disch := omega) only [hget_redoH, lkn, lk11, lk31, Option.getD_none]; exact hvc
    · simp (disch := omega) only [hget_redoH, lkn, lk11, lk31, Option.getD_none]; exact hgc
    · rw [hF']; simp (disch := omega) only [hget_redoH, lkn, lk_same, lk11, lk31, Option.getD_some, Option.getD_none]; rfl
    · rw [hB']; simp (disch := omega) only [hget_redoH, lkn, lk_same, lk11, lk31, Option.getD_some, Option.getD_none]; rfl
    · simp (disch := omega) only [hget_redoH, lkn, lk11, lk31, Option.getD_none]; exact hx2 e
  · have hie : i = v.vessels.length := by omega
    subst hie
    have e1 : (relF s.heat v.vessels g.free g.bound).take v.vessels.length ++ g.free.drop v.vessels.length = relF s.heat v.vessels g.free g.bound := by
      rw [List.drop_of_length_le (by omega), List.append_nil, List.take_of_length_le (by omega)]
    have e2 : (relB s.heat v.vessels g.bound).take v.vessels.length ++ g.bound.drop v.vessels.length = relB s.heat v.vessels g.bound := by
      rw [List.drop_of_length_le (by omega), List.append_nil, List.take_of_length_le (by omega)]
    rw [e1] at hx0
    rw [e2] at hx1
    simp -implicitDefEqProofs only [go_sem, hil, Try.results167]
    exact ⟨trivial, ⟨fun _ => hx0, fun _ => hx1, hx2⟩⟩
end Go.Proofs.Ytgnpnfkncbnjnaa
namespace Go.Proofs.Ytgnpnfkncbnjnaa
open Go Go.Am
attribute [local congr] tr_congr does_congr all_congr
def getG (v : Vac) (g : Gs) : Gs := ⟨(getF v.getters 0 g.free g.room).1, g.bound, (getF v.getters 0 g.free g.room).2, g.most, g.flashed⟩
theorem rget_call {K : Nat} {f b r : Nm} {v : Vac} {g : Gs} {H : Heap} {n : Nat} {p : Nm} {j : Delta} (h : GasAt H f b r g) (ha : Apart3 f b r) (h1 : g.free ≠ []) (h2 : g.bound ≠ []) (hl1 : g.free.length = v.vessels.length) (hl3 : g.room.length = v.getters.length) (hK : v.getters.length + 20 < K) (hl : v.getters.length ≤ 1000000) (hat : ∀ t ∈ v.getters, 0 ≤ t.at' ∧ t.at' < v.vessels.length) :
    acall cfg (K + 2) 169 [vacV v, gasX f b r g] ⟨H, n, p, false, j⟩ = .ret (.tuple [], ⟨gasPut f b r (getG v g) H, n, p, false, j⟩) := by
  have hgl := getF_len v.getters 0 g.free g.room
  have hpos : 0 < g.free.length := List.length_pos_iff.2 h1
  have hpb : 0 < g.bound.length := List.length_pos_iff.2 h2
  refine gas_call (rest := []) mget169 fget169 h ha h1 h2 hgl.2 (fun e => by have : (getF v.getters 0 g.free g.room).1.length = 0 := by rw [show (getF v.getters 0 g.free g.room).1 = [] from e]; rfl
                                                                             omega) h2 rfl (fun _ => rfl) fun H0 m hs hm => ?_
  refine body_does rfl fun T hT' hA => ?_
  have a0 := hA 0 _ rfl
  have a1 := hA 1 _ rfl
  have hT : T.length = 86 := hT'
  clear hA hT'
  unfold gasX at a1
  rw [rowX_pos hpos, rowX_pos hpb] at a1
  simp -implicitDefEqProofs only [go_sem, a0, a1]
  simp only [does_bind]
  unfold getG
  refine xl_does (fun k T s' => T.length = 86 ∧ nth T 2 = some (.ptr [m + 2] 0) ∧ nth T 3 = some (.ptr [m + 3] 0) ∧ ∃ (i m' : Nat) (H' : Heap) (F R : List Rg), nth T 4 = some (.int .i64 i) ∧ i ≤ v.getters.length ∧ k = v.getters.length - i ∧ s' = ⟨H', m' + 4, [], false, []⟩ ∧ m ≤ m' ∧ hget H' [m + 2] = some (vacC v) ∧ hget H' [m + 3] = some (.cells [.slice [0] 0 g.free.length g.free.length false, .slice [1] 0 g.bound.length g.bound.length false, rowX [2] g.room.length, .int .i64 g.most, .bool g.flashed] true 0) ∧ hget H' [0] = some (rgB F) ∧ hget H' [1] = some (rgB g.bound) ∧ (g.room ≠ [] → hget H' [2] = some (rgB R)) ∧ F.length = g.free.length ∧ R.length = g.room.length ∧ getF v.getters 0 g.free g.room = getF (v.getters.drop i) i F R) (k := v.getters.length) (by omega) ?_ ?_
  · exact ⟨by simp -implicitDefEqProofs only [go_sem, hT], by simp -implicitDefEqProofs only [go_sem, hT], by simp -implicitDefEqProofs only [go_sem, hT], 0, m, _, g.free, g.room, by simp -implicitDefEqProofs only [go_sem, hT] <;> rfl, by omega, rfl, rfl, Nat.le_refl _, (hc11 (by omega)).trans (hget_cons_same ..), hget_cons_same .., (hc11 (by omega)).trans ((hc11 (by omega)).trans (hs.f h1)), (hc11 (by omega)).trans ((hc11 (by omega)).trans (hs.b h2)), fun e => (hc11 (by have := hm e; omega)).trans ((hc11 (by have := hm e; omega)).trans (hs.r e)), rfl, rfl, rfl⟩
  clear a0 a1 hT T hs H0
  rintro k T s' ⟨hT, a2, a3, i, m', H0, F, R, a4, hi, rfl, rfl, hmm, hvc, hgc, hx0, hx1, hx2, lF, lR, he⟩
  unfold vacC at hvc
  simp -implicitDefEqProofs only [go_sem, a2, a4, hT, hvc]
  by_cases hil : (i : Int) < (v.getters.length : Int)
  · have hi' : i < v.getters.length := by omega
    have e1 := elemAt_map (f := gtrV) (l := v.getters) (i := i) (z := 5) hi' rfl
    have hkk : v.getters.length - (i + 1) < v.getters.length - i := by omega
    have hax := hat _ (List.getElem_mem hi')
    rw [List.drop_eq_getElem_cons hi'] at he
    generalize v.getters[i] = x at *
    obtain ⟨a, hxa⟩ : ∃ a : Nat, x.at' = a := ⟨x.at'.toNat, by omega⟩
    have haF : a < F.length := by omega
    have hiR : i < R.length := by omega
    have hrne : g.room ≠ [] := fun e => by rw [e] at lR; simp at lR; rw [lR] at hiR; simp at hiR
    have hm1 := hm hrne
    simp only [getF] at he
    rw [hxa, Int.toNat_natCast, List.getElem?_eq_getElem haF, List.getElem?_eq_getElem hiR, Option.getD_some, Option.getD_some] at he
    have f0 := row_nth0 F haF
    have f1 := row_nth1 F haF
    have fw := row_set F haF (getFr x F[a] R[i])
    have r0 := row_nth0 R hiR
    have r1 := row_nth1 R hiR
    have rw' := row_set R hiR (getRo x F[a] R[i])
    generalize F[a] = fi at *
    generalize R[i] = ri at *
    generalize hF' : F.set a (getFr x fi ri) = F' at *
    generalize hR' : R.set i (getRo x fi ri) = R' at *
    have lF' : F'.length = F.length := by rw [← hF']; simp
    have lR' : R'.length = R.length := by rw [← hR']; simp
    simp only [getFr, getRo] at fw rw'
    have hinF : inR (a : Int) g.free.length = some a := inR_of (by omega)
    have hinR : inR (i : Int) g.room.length = some i := inR_of (by omega)
    rw [rowX_pos (show 0 < g.room.length by omega)] at hgc
    have hx2' := hx2 hrne
    unfold rgB at hx0 hx2'
    simp only [gtrV] at e1
    rw [hxa] at e1
    have c1 := fun a b s => rdown_call a b K s
    have c2 := fun a b s => rup_call a b K s
    have hw1 : wrapF .i64 ((i : Int) + 1) = ((i + 1 : Nat) : Int) := wrap_i64 (by omega) (by omega)
    have k0 : ∀ X, hget (([m' + 4], X) :: H0) [m' + 4] = some X := fun X => hget_cons_same ..
    have k2 : ∀ X, hget (([m' + 4], X) :: H0) [m + 2] = hget H0 [m + 2] := fun X => hc11 (by omega)
    have k3 : ∀ X, hget (([m' + 4], X) :: H0) [m + 3] = hget H0 [m + 3] := fun X => hc11 (by omega)
    have z1 : (m' + 1 = m) = False := eq_false (by omega)
    have z2 : (m' + 2 = m) = False := eq_false (by omega)
    have nm4 : ∀ x r, lkD (([0], x) :: r) [m' + 4] = lkD r [m' + 4] := fun x r => lk11 (by omega)
    have nm3 : ∀ x r, lkD (([0], x) :: r) [m + 3] = lkD r [m + 3] := fun x r => lk11 (by omega)
    simp -implicitDefEqProofs only [go_sem, a2, a4, hT, hvc, hil, e1]
    try simp only [does_bind]
    refine draw_machX [[], [0], [], [2], [1, 0, 3, 2], [4, 1, 0, 3, 2], [], [6], [], [7, 6, 8], [9, 7, 6, 8], [], [], [5, 4, 1, 0, 3, 2, 11, 12], [10, 9, 7, 6, 8, 13, 5, 4, 1, 0, 3, 2, 11, 12]] [[], [], [], [], [], [], [], [], [], [], [], [], [], [[m' + 5, 11, 0]], [[m' + 5, 12, 0]]] (by kernel_rfl) rfl rfl ?_
    simp -implicitDefEqProofs only [go_sem, hget_redoH, lkn, lk_same, lk33k, Option.getD_some, Option.getD_none, a3, a4, hT, hgc, hx0, hx2', k0, k3, z1, hd31, hinF, hinR, f0, f1, r0, r1, sameW_self]
    try simp only [does_bind]
    refine draw_machX [[], [0], [], [2], [], [4], [], [6], [], [8], [9, 8], [7, 6, 10, 9, 8], [], [12], [11, 7, 6, 10, 9, 8, 13, 12], [5, 4, 14, 11, 7, 6, 10, 9, 8, 13, 12], [], [16], [], [18], [], [20], [21, 20], [19, 18, 22, 21, 20, 11, 7, 6, 10, 9, 8], [], [24], [23, 19, 18, 22, 21, 20, 11, 7, 6, 10, 9, 8, 25, 24], [17, 16, 26, 23, 19, 18, 22, 21, 20, 11, 7, 6, 10, 9, 8, 25, 24], [15, 5, 4, 14, 13, 12, 27, 17, 16, 26, 23, 19, 18, 22, 21, 20, 11, 7, 6, 10, 9, 8, 25, 24], [1, 0, 3, 2, 28, 15, 5, 4, 14, 13, 12, 27, 17, 16, 26, 23, 19, 18, 22, 21, 20, 11, 7, 6, 10, 9, 8, 25, 24], [29, 1, 0, 3, 2, 28, 15, 5, 4, 14, 13, 12, 27, 17, 16, 26, 23, 19, 18, 22, 21, 20, 11, 7, 6, 10, 9, 8, 25, 24]] [[], [], [], [], [], [], [], [], [], [], [], [], [], [], [], [], [], [], [], [], [], [], [], [], [], [], [], [], [], [], [[0]]] (by kernel_rfl) rfl rfl ?_
    simp -implicitDefEqProofs only [go_sem, hget_redoH, lkn, lk_same, lk31, lk33k, Option.getD_some, Option.getD_none, a3, hT, hgc, hx0, k0, k3, hinF, f0, f1, c1, c2, mm_min, row_off, fw, sameW_self]
    try simp only [does_bind]
    refine draw_machX [[], [0], [], [], [3], [], [5], [], [7], [8, 7], [6, 5, 9, 8, 7], [4, 3, 10, 6, 5, 9, 8, 7], [11, 4, 3, 10, 6, 5, 9, 8, 7], [], [13], [], [15], [], [17], [18, 17], [16, 15, 19, 18, 17, 10, 6, 5, 9, 8, 7], [14, 13, 20, 16, 15, 19, 18, 17, 10, 6, 5, 9, 8, 7], [21, 14, 13, 20, 16, 15, 19, 18, 17, 10, 6, 5, 9, 8, 7], [12, 11, 4, 3, 22, 21, 14, 13, 20, 16, 15, 19, 18, 17, 10, 6, 5, 9, 8, 7], [1, 0, 2, 23, 12, 11, 4, 3, 22, 21, 14, 13, 20, 16, 15, 19, 18, 17, 10, 6, 5, 9, 8, 7], [24, 1, 0, 2, 23, 12, 11, 4, 3, 22, 21, 14, 13, 20, 16, 15, 19, 18, 17, 10, 6, 5, 9, 8, 7]] [[], [], [], [], [], [], [], [], [], [], [], [], [], [], [], [], [], [], [], [], [], [], [], [], [], [[2]]] (by kernel_rfl) rfl rfl ?_
    simp -implicitDefEqProofs only [go_sem, hget_redoH, lkn, lk_same, lk11, lk13, lk31, lk33k, Option.getD_some, Option.getD_none, a2, a3, a4, hT, hgc, hx2', k0, k3, nm4, nm3, hinR, r0, r1, c1, c2, mm_max, row_off, rw', hw1, sameW_self]
    refine ⟨v.getters.length - (i + 1), hkk, trivial, trivial, trivial, i + 1, m' + 4, _, F', R', rfl, hi', rfl, rfl, by omega, ?_, ?_, ?_, ?_, fun _ => ?_, by omega, by omega, he⟩
    all_goals clear hw1
    · simp (disch := omega) only [hc11, hget_redoH, lkn, lk11, lk31, Option.getD_none]; exact hvc
    · rw [rowX_pos (show 0 < g.room.length by omega)]; simp (disch := omega) only [hc11, hget_redoH, lkn, lk11, lk31, Option.getD_none]; exact hgc
    · simp (disch := omega) only [hc11, hget_redoH, lkn, lk_same, lk11, lk31, Option.getD_some, Option.getD_none]; rfl
    · simp (disch := omega) only [hc11, hget_redoH, lkn, lk11, lk31, Option.getD_none]; exact hx1
    · simp (disch := omega) only [hc11, hget_redoH, lkn, lk_same, lk11, lk31, Option.getD_some, Option.getD_none]; rfl
  · have hie : i = v.getters.length := by omega
    subst hie
    rw [List.drop_length] at he
    simp only [getF] at he
    rw [he]
    simp -implicitDefEqProofs only [go_sem, hil, Try.results169]
    exact ⟨trivial, ⟨fun _ => hx0, fun _ => hx1, fun e => hx2 (fun e2 => e (List.length_eq_zero_iff.1 (by rw [lR, e2]; rfl)))⟩⟩
end Go.Proofs.Ytgnpnfkncbnjnaa
namespace Go.Proofs.Ytgnpnfkncbnjnaa
open Go Go.Am
attribute [local congr] tr_congr does_congr all_congr
def lkS (x : Int) : Rg → List Inl → Rg
  | acc, [] => acc
  | acc, l :: r => lkS x (if l.at' = x then plusR acc l.gas else acc) r
theorem leakR_get (i : Nat) : ∀ (l : List Inl) (R : List Rg), (∀ q ∈ l, 0 ≤ q.at' ∧ q.at' < R.length) → (leakR R l)[i]? = (R[i]?).map fun acc => lkS i acc l
  | [], R, _ => by simp [leakR, lkS]
  | x :: l, R, h => by
    have hx := h x List.mem_cons_self
    obtain ⟨a, hxa⟩ : ∃ a : Nat, x.at' = a := ⟨x.at'.toNat, by omega⟩
    have ha : a < R.length := by omega
    unfold leakR
    rw [leakR_get i l _ (fun q hq => by rw [List.length_set]; exact h q (List.mem_cons_of_mem _ hq)), hxa, Int.toNat_natCast, atR_nat _ ha, List.getElem?_set]
    simp only [lkS, hxa]
    by_cases e : a = i
    · subst e
      rw [if_pos rfl, if_pos ha, List.getElem?_eq_getElem ha]
      simp
    · rw [if_neg e]
      have e2 : ¬ (a : Int) = (i : Int) := by omega
      simp only [e2, if_false]
theorem rflow_call {K : Nat} {f : Nm} {v : Vac} {F : List Rg} {shut : List Int} {H : Heap} {n : Nat} {p : Nm} {j : Delta} (hf : hget H f = some (rgB F)) (h1 : F ≠ []) (hl1 : F.length = v.vessels.length) (hK : v.vessels.length + 100 < K) (hl : v.vessels.length ≤ 1000000) (hv : v.Lens K) (hsh : shut.length < K) (hsh2 : shut.length ≤ 9223372036854775807)
    (hpp : ∀ q ∈ v.pipes, (0 ≤ q.a ∧ q.a < v.vessels.length) ∧ 0 ≤ q.b ∧ q.b < v.vessels.length) (hll : ∀ q ∈ v.leaks, 0 ≤ q.at' ∧ q.at' < v.vessels.length) :
    acall cfg (K + 3) 168 [vacV v, .slice f 0 F.length F.length false, .lst (shut.map iV)] ⟨H, n, p, false, j⟩ = .ret (.slice (p ++ [n]) 0 F.length F.length false, St.new ⟨H, n, p, false, j⟩ (rgB (leakR (flowG v shut F) v.leaks))) := by
  have hroom : ∀ i, i < F.length → (i + 1) * 16 ≤ 140737488355328 := fun i hi => by clear hpp hll; omega
  have nb : ∀ op L r, namesB op (rgB L) r = r := fun op L r => (rows_bare L).nm op r
  have hGl : (leakR (flowG v shut F) v.leaks).length = F.length := by rw [leakR_len, flowG_len]
  have hGx : ∀ i (h : i < F.length) (h2 : i < (leakR (flowG v shut F) v.leaks).length), (leakR (flowG v shut F) v.leaks)[i] = lkS i (quoR (flowS F shut i 0 (begR v shut F i) v.pipes)) v.leaks := fun i h h2 => by
    have e := leakR_get i v.leaks (flowG v shut F) (fun q hq => by rw [flowG_len, hl1]; exact hll q hq)
    rw [List.getElem?_eq_getElem h2, List.getElem?_eq_getElem (by rw [flowG_len]; exact h)] at e
    simp only [Option.map_some, Option.some.injEq] at e
    rw [e]
    congr 1
    simp [flowG]
  have hpos : 0 < F.length := List.length_pos_iff.2 h1
  generalize hGG : leakR (flowG v shut F) v.leaks = G at *
  have hrv : ∀ mp, renV mp (vacV v) = some (vacV v) := fun mp => by simp only [vacV, renV, renVs, fl_ves, fl_pip, fl_pmp, fl_inl, fl_gtr]
  refine call3_gen (bs := [f]) (args' := [vacV v, .slice [0] 0 F.length F.length false, .lst (shut.map iV)]) (xs := [rgB F]) (xs0 := [rgB F]) (ys' := [rgB F]) (zs' := [rgB G]) (s2 := ⟨H, n, p, false, j⟩) mget168 fget168 ?_ rfl rfl ?_ ?_ ?_ ?_ rfl
  · show lendM (199 + 1) [f] [] [] _ = _
    rw [lend1 199 rfl hf, nb]
    exact lendM_nil 198 _ _ _
  · show renVs [(f, [0])] _ = _
    simp only [renVs, hrv, renV, lookN, eqb_self, fl_i]
  · simp only [renBs, ren_rg]
  · refine Tr.Does.mono (Q := fun x => ∃ c, x.1 = .slice [c + 2] 0 F.length F.length false ∧ hget x.2.H [0] = some (rgB F) ∧ hget x.2.H [c + 2] = some (rgB G)) ?_ ?_
    · refine body_does rfl fun T hT' hA => ?_
      have a0 := hA 0 _ rfl
      have a1 := hA 1 _ rfl
      have a2 := hA 2 _ rfl
      have hT : T.length = 150 := hT'
      clear hA hT'
      have hz : zipB (namesFrom [] 0 [f].length) [rgB F] = [([0], rgB F)] := rfl
      have hl3 : [f].length = 1 := rfl
      rw [hz, hl3]
      simp -implicitDefEqProofs only [go_sem, a0]
      simp only [does_bind]
      refine xl_does (fun k T s' => T.length = 150 ∧ nth T 1 = some (.slice [0] 0 F.length F.length false) ∧ nth T 2 = some (.lst (shut.map iV)) ∧ nth T 3 = some (.ptr [1] 0) ∧ ∃ (i m c : Nat) (H : Heap), nth T 8 = some (.int .i64 i) ∧ nth T 7 = some (mutV [c + 2] i) ∧ i ≤ F.length ∧ k = F.length - i ∧ s' = ⟨H, m + 2, [], false, []⟩ ∧ hget H [0] = some (rgB F) ∧ hget H [1] = some (vacC v) ∧ (i ≠ 0 → c < m ∧ hget H [c + 2] = some (rgB (G.take i)))) (k := F.length) (by omega) ?_ ?_
      · exact ⟨by simp -implicitDefEqProofs only [go_sem, hT], by simp -implicitDefEqProofs only [go_sem, a1], by simp -implicitDefEqProofs only [go_sem, a2], by simp -implicitDefEqProofs only [go_sem, hT], 0, 0, 0, _, by simp -implicitDefEqProofs only [go_sem, hT] <;> rfl, by simp -implicitDefEqProofs only [go_sem, hT, mutV], by omega, rfl, rfl, rfl, rfl, fun e => absurd rfl e⟩
      clear a0 a1 a2 hT T
      rintro k T s' ⟨hT, a1, a2, a3, i, m, c, H0, a8, a7, hi, rfl, rfl, hx0, hvc, hrow⟩
      simp -implicitDefEqProofs only [go_sem, a1, a8, hT]
      by_cases hil : (i : Int) < (F.length : Int)
      · have hi' : i < F.length := by omega
        have hkk : F.length - (i + 1) < F.length - i := by omega
        have hou := fun st => out_call v i shut K st hv hsh hsh2
        have f0 := row_nth0 F hi'
        have f1 := row_nth1 F hi'
        have hin : inR (i : Int) F.length = some i := inR_of hi'
        have hbg : begR v shut F i = mulR F[i] ⟨wrapF .i64 (1000000 - (outR v i shut).hi), wrapF .i64 (1000000 - (outR v i shut).lo)⟩ := by unfold begR; rw [atR_nat _ hi']
        have hgx := hGx i hi'
        have x0 := hx0
        have vc := hvc
        unfold rgB at x0
        unfold vacC at vc
        have k0 : ∀ X, hget (([m + 2], X) :: H0) [0] = hget H0 [0] := fun X => hc11 (by omega)
        have k2 : ∀ X, hget (([m + 2], X) :: H0) [m + 2] = some X := fun X => hget_cons_same ..
        have hcm : i ≠ 0 → c < m := fun e => (hrow e).1
        simp only [vacV, rgV] at hou
        simp -implicitDefEqProofs only [go_sem, a2, a3, a8, hT, hil, vc, hou]
        try simp only [does_bind]
        refine draw_machX [[], [], [0, 1], [2, 0, 1], [3, 2, 0, 1], [], [5], [6, 5], [4, 3, 2, 0, 1, 7, 6, 5], [], [], [9, 10], [11, 9, 10], [12, 11, 9, 10], [], [14], [15, 14], [13, 12, 11, 9, 10, 16, 15, 14], [8, 4, 3, 2, 0, 1, 7, 6, 5], [17, 13, 12, 11, 9, 10, 16, 15, 14, 18, 8, 4, 3, 2, 0, 1, 7, 6, 5]] [[], [], [], [], [], [], [], [], [], [], [], [], [], [], [], [], [], [], [], []] (by kernel_rfl) rfl rfl ?_
        simp -implicitDefEqProofs only [go_sem, Option.getD_some, a1, a8, hT, k0, k2, x0, hin, f0, f1, sameW_self]
        simp only [does_bind]
        refine Tr.Does.mono (Q := fun x => ∃ (T' : List AV) (m' : Nat) (H' : Heap), x = ((AExit.exit 2, T'), (⟨H', m' + 2, [], false, []⟩ : St)) ∧ m < m' ∧ T'.length = 150 ∧ nth T' 1 = some (.slice [0] 0 F.length F.length false) ∧ nth T' 2 = some (.lst (shut.map iV)) ∧ nth T' 3 = some (.ptr [1] 0) ∧ nth T' 8 = some (.int .i64 i) ∧ nth T' 7 = some (mutV [c + 2] i) ∧ nth T' 10 = some (.int .i64 (flowS F shut i 0 (begR v shut F i) v.pipes).lo) ∧ nth T' 11 = some (.int .i64 (flowS F shut i 0 (begR v shut F i) v.pipes).hi) ∧ hget H' [0] = some (rgB F) ∧ hget H' [1] = some (vacC v) ∧ (i ≠ 0 → hget H' [c + 2] = some (rgB (G.take i)))) ?_ ?_
        · refine xl_does (fun k T s' => T.length = 150 ∧ nth T 1 = some (.slice [0] 0 F.length F.length false) ∧ nth T 2 = some (.lst (shut.map iV)) ∧ nth T 3 = some (.ptr [1] 0) ∧ nth T 8 = some (.int .i64 i) ∧ nth T 7 = some (mutV [c + 2] i) ∧ ∃ (q m' : Nat) (H' : Heap) (acc : Rg), nth T 12 = some (.int .i64 q) ∧ nth T 10 = some (.int .i64 acc.lo) ∧ nth T 11 = some (.int .i64 acc.hi) ∧ q ≤ v.pipes.length ∧ k = v.pipes.length - q ∧ s' = ⟨H', m' + 2, [], false, []⟩ ∧ m < m' ∧ hget H' [0] = some (rgB F) ∧ hget H' [1] = some (vacC v) ∧ (i ≠ 0 → hget H' [c + 2] = some (rgB (G.take i))) ∧ flowS F shut i 0 (begR v shut F i) v.pipes = flowS F shut i q acc (v.pipes.drop q)) (k := v.pipes.length) (by have := hv.pip.1; omega) ?_ ?_
          · exact ⟨by simp -implicitDefEqProofs only [go_sem, hT], by simp -implicitDefEqProofs only [go_sem, a1], by simp -implicitDefEqProofs only [go_sem, a2], by simp -implicitDefEqProofs only [go_sem, a3], by simp -implicitDefEqProofs only [go_sem, a8], by simp -implicitDefEqProofs only [go_sem, a7], 0, m + 2, _, begR v shut F i, by simp -implicitDefEqProofs only [go_sem, hT] <;> rfl, by rw [hbg]; simp -implicitDefEqProofs only [go_sem, hT, mulR], by rw [hbg]; simp -implicitDefEqProofs only [go_sem, hT, mulR], by omega, rfl, rfl, by omega, by simp (disch := omega) only [hc11, hget_redoH, lkn, Option.getD_none]; exact hx0, by simp (disch := omega) only [hc11, hget_redoH, lkn, Option.getD_none]; exact hvc, fun e => by have := (hrow e).1; simp (disch := omega) only [hc11, hget_redoH, lkn, Option.getD_none]; exact (hrow e).2, rfl⟩
          clear a1 a2 a3 a7 a8 hT T hx0 hvc hrow x0 vc k0 k2 hbg H0
          rintro k T s' ⟨hT, a1, a2, a3, a8, a7, q, m', H0, acc, a12, a10, a11, hq, rfl, rfl, hmm, hx0, hvc, hrow, he⟩
          have vc := hvc
          unfold vacC at vc
          simp -implicitDefEqProofs only [go_sem, a3, a12, hT, vc]
          by_cases hql : (q : Int) < (v.pipes.length : Int)
          · have hq' : q < v.pipes.length := by omega
            have e1 := elemAt_map (f := pipV) (l := v.pipes) (i := q) (z := 6) hq' rfl
            have hkk2 : v.pipes.length - (q + 1) < v.pipes.length - q := by omega
            have hpx := hpp _ (List.getElem_mem hq')
            rw [List.drop_eq_getElem_cons hq'] at he
            generalize v.pipes[q] = x at *
            simp only [flowS] at he
            have hco := fun st => rhas_call shut q (K + 1) st (by omega) hsh2
            simp only [pipV] at e1
            have hw1 : wrapF .i64 ((q : Int) + 1) = ((q + 1 : Nat) : Int) := wrap_i64 (by have := hv.pip.2; omega) (by have := hv.pip.2; omega)
            simp -implicitDefEqProofs only [go_sem, a2, a3, a12, hT, hql, vc, e1, hco]
            by_cases hin : (q : Int) ∈ shut
            · simp only [if_pos hin] at he
              simp -implicitDefEqProofs only [go_sem, a1, a2, a3, a7, a8, a10, a11, a12, hT, hin, hw1]
              exact ⟨v.pipes.length - (q + 1), hkk2, trivial, trivial, trivial, trivial, trivial, trivial, q + 1, m' + 1, _, acc, rfl, rfl, rfl, hq', rfl, rfl, by omega, (hc11 (by omega)).trans hx0, (hc11 (by omega)).trans hvc, fun e => (hc11 (by have := hcm e; omega)).trans (hrow e), he⟩
            · simp only [if_neg hin] at he
              obtain ⟨pa, hpa⟩ : ∃ q : Nat, x.a = q := ⟨x.a.toNat, by omega⟩
              obtain ⟨pb, hpb⟩ : ∃ q : Nat, x.b = q := ⟨x.b.toNat, by omega⟩
              have ha' : pa < F.length := by omega
              have hb' : pb < F.length := by omega
              rw [hpa, hpb, atR_nat _ ha', atR_nat _ hb'] at he
              have f0 := row_nth0 F ha'
              have f1 := row_nth1 F ha'
              have h0 := row_nth0 F hb'
              have h1 := row_nth1 F hb'
              have hia : inR (pa : Int) F.length = some pa := inR_of ha'
              have hib : inR (pb : Int) F.length = some pb := inR_of hb'
              generalize F[pa] = fa at *
              generalize F[pb] = fb at *
              have x0 := hx0
              unfold rgB at x0
              have k0 : ∀ X, hget (([m' + 2], X) :: H0) [0] = hget H0 [0] := fun X => hc11 (by omega)
              have k2 : ∀ X, hget (([m' + 2], X) :: H0) [m' + 2] = some X := fun X => hget_cons_same ..
              simp -implicitDefEqProofs only [go_sem, a8, hT, hin, hpa, hpb, k2]
              have fr0 : hget (([m' + 2], .cells [.int .i64 pa, .int .i64 pb, .int .i64 x.out.lo, .int .i64 x.out.hi, .int .i64 x.back.lo, .int .i64 x.back.hi] true 0) :: H0) [0] = some (rgB F) := (k0 _).trans hx0
              have fr1 : hget (([m' + 2], .cells [.int .i64 pa, .int .i64 pb, .int .i64 x.out.lo, .int .i64 x.out.hi, .int .i64 x.back.lo, .int .i64 x.back.hi] true 0) :: H0) [1] = some (vacC v) := (hc11 (by omega)).trans hvc
              have frc : i ≠ 0 → hget (([m' + 2], .cells [.int .i64 pa, .int .i64 pb, .int .i64 x.out.lo, .int .i64 x.out.hi, .int .i64 x.back.lo, .int .i64 x.back.hi] true 0) :: H0) [c + 2] = some (rgB (G.take i)) := fun e => (hc11 (by have := hcm e; omega)).trans (hrow e)
              by_cases eb : (pb : Int) = (i : Int)
              · have ebT : ((pb : Int) = (i : Int)) = True := eq_true eb
                have eb' : ((i : Int) = (pb : Int)) = True := eq_true eb.symm
                simp only [eb', if_true] at he
                simp -implicitDefEqProofs only [go_sem, ebT]
                try simp only [does_bind]
                refine draw_machX [[], [], [], [2], [1, 3, 2], [4, 1, 3, 2], [5, 4, 1, 3, 2], [], [7], [8, 7], [6, 5, 4, 1, 3, 2, 9, 8, 7], [0, 10, 6, 5, 4, 1, 3, 2, 9, 8, 7], [], [], [], [14], [13, 15, 14], [16, 13, 15, 14], [17, 16, 13, 15, 14], [], [19], [20, 19], [18, 17, 16, 13, 15, 14, 21, 20, 19], [12, 22, 18, 17, 16, 13, 15, 14, 21, 20, 19], [11, 0, 10, 6, 5, 4, 1, 3, 2, 9, 8, 7], [23, 12, 22, 18, 17, 16, 13, 15, 14, 21, 20, 19, 24, 11, 0, 10, 6, 5, 4, 1, 3, 2, 9, 8, 7]] [[], [], [], [], [], [], [], [], [], [], [], [], [], [], [], [], [], [], [], [], [], [], [], [], [], []] (by kernel_rfl) rfl rfl ?_
                simp -implicitDefEqProofs only [go_sem, hget_redoH, lkn, Option.getD_some, Option.getD_none, a1, a8, a10, a11, hT, k0, k2, x0, hia, f0, f1, sameW_self]
                by_cases ea : (pa : Int) = (i : Int)
                · have eaT : ((pa : Int) = (i : Int)) = True := eq_true ea
                  have ea' : ((i : Int) = (pa : Int)) = True := eq_true ea.symm
                  simp only [ea', if_true] at he
                  simp -implicitDefEqProofs only [go_sem, eaT]
                  try simp only [does_bind]
                  refine draw_machX [[], [], [], [2], [1, 3, 2], [4, 1, 3, 2], [5, 4, 1, 3, 2], [], [7], [8, 7], [6, 5, 4, 1, 3, 2, 9, 8, 7], [0, 10, 6, 5, 4, 1, 3, 2, 9, 8, 7], [], [], [], [14], [13, 15, 14], [16, 13, 15, 14], [17, 16, 13, 15, 14], [], [19], [20, 19], [18, 17, 16, 13, 15, 14, 21, 20, 19], [12, 22, 18, 17, 16, 13, 15, 14, 21, 20, 19], [11, 0, 10, 6, 5, 4, 1, 3, 2, 9, 8, 7], [23, 12, 22, 18, 17, 16, 13, 15, 14, 21, 20, 19, 24, 11, 0, 10, 6, 5, 4, 1, 3, 2, 9, 8, 7]] [[], [], [], [], [], [], [], [], [], [], [], [], [], [], [], [], [], [], [], [], [], [], [], [], [], []] (by kernel_rfl) rfl rfl ?_
                  simp -implicitDefEqProofs only [go_sem, hget_redoH, lkn, Option.getD_some, Option.getD_none, a1, a2, a3, a7, a8, a12, hT, k0, k2, x0, hib, h0, h1, sameW_self]
                  simp -implicitDefEqProofs only [go_sem, hw1]
                  exact ⟨v.pipes.length - (q + 1), hkk2, trivial, trivial, trivial, trivial, trivial, trivial, q + 1, m' + 3, _, (plusR (plusR acc (mulR fa x.out)) (mulR fb x.back)), rfl, rfl, rfl, hq', rfl, rfl, by omega, fr0, fr1, frc, he⟩
                · have eaT : ((pa : Int) = (i : Int)) = False := eq_false ea
                  have ea' : ((i : Int) = (pa : Int)) = False := eq_false (fun e => ea e.symm)
                  simp only [ea', if_false] at he
                  simp -implicitDefEqProofs only [go_sem, a1, a2, a3, a7, a8, a12, hT, eaT]
                  simp -implicitDefEqProofs only [go_sem, hw1]
                  exact ⟨v.pipes.length - (q + 1), hkk2, trivial, trivial, trivial, trivial, trivial, trivial, q + 1, m' + 2, _, (plusR acc (mulR fa x.out)), rfl, rfl, rfl, hq', rfl, rfl, by omega, fr0, fr1, frc, he⟩
              · have ebT : ((pb : Int) = (i : Int)) = False := eq_false eb
                have eb' : ((i : Int) = (pb : Int)) = False := eq_false (fun e => eb e.symm)
                simp only [eb', if_false] at he
                simp -implicitDefEqProofs only [go_sem, a8, hT, k2, ebT]
                by_cases ea : (pa : Int) = (i : Int)
                · have eaT : ((pa : Int) = (i : Int)) = True := eq_true ea
                  have ea' : ((i : Int) = (pa : Int)) = True := eq_true ea.symm
                  simp only [ea', if_true] at he
                  simp -implicitDefEqProofs only [go_sem, eaT]
                  try simp only [does_bind]
                  refine draw_machX [[], [], [], [2], [1, 3, 2], [4, 1, 3, 2], [5, 4, 1, 3, 2], [], [7], [8, 7], [6, 5, 4, 1, 3, 2, 9, 8, 7], [0, 10, 6, 5, 4, 1, 3, 2, 9, 8, 7], [], [], [], [14], [13, 15, 14], [16, 13, 15, 14], [17, 16, 13, 15, 14], [], [19], [20, 19], [18, 17, 16, 13, 15, 14, 21, 20, 19], [12, 22, 18, 17, 16, 13, 15, 14, 21, 20, 19], [11, 0, 10, 6, 5, 4, 1, 3, 2, 9, 8, 7], [23, 12, 22, 18, 17, 16, 13, 15, 14, 21, 20, 19, 24, 11, 0, 10, 6, 5, 4, 1, 3, 2, 9, 8, 7]] [[], [], [], [], [], [], [], [], [], [], [], [], [], [], [], [], [], [], [], [], [], [], [], [], [], []] (by kernel_rfl) rfl rfl ?_
                  simp -implicitDefEqProofs only [go_sem, Option.getD_some, a1, a2, a3, a7, a8, a10, a11, a12, hT, k0, k2, x0, hib, h0, h1, sameW_self]
                  simp -implicitDefEqProofs only [go_sem, hw1]
                  exact ⟨v.pipes.length - (q + 1), hkk2, trivial, trivial, trivial, trivial, trivial, trivial, q + 1, m' + 2, _, (plusR acc (mulR fb x.back)), rfl, rfl, rfl, hq', rfl, rfl, by omega, fr0, fr1, frc, he⟩
                · have eaT : ((pa : Int) = (i : Int)) = False := eq_false ea
                  have ea' : ((i : Int) = (pa : Int)) = False := eq_false (fun e => ea e.symm)
                  simp only [ea', if_false] at he
                  simp -implicitDefEqProofs only [go_sem, a1, a2, a3, a7, a8, a10, a11, a12, hT, eaT]
                  simp -implicitDefEqProofs only [go_sem, hw1]
                  exact ⟨v.pipes.length - (q + 1), hkk2, trivial, trivial, trivial, trivial, trivial, trivial, q + 1, m' + 1, _, acc, rfl, rfl, rfl, hq', rfl, rfl, by omega, fr0, fr1, frc, he⟩
          · have hqe : q = v.pipes.length := by omega
            subst hqe
            rw [List.drop_length] at he
            simp only [flowS] at he
            simp -implicitDefEqProofs only [go_sem, hql]
            exact ⟨_, m', H0, rfl, hmm, by simp -implicitDefEqProofs only [go_sem, hT], by simp -implicitDefEqProofs only [go_sem, a1], by simp -implicitDefEqProofs only [go_sem, a2], by simp -implicitDefEqProofs only [go_sem, a3], by simp -implicitDefEqProofs only [go_sem, a8], by simp -implicitDefEqProofs only [go_sem, a7], by rw [he]; simp -implicitDefEqProofs only [go_sem, a10], by rw [he]; simp -implicitDefEqProofs only [go_sem, a11], hx0, hvc, hrow⟩
        clear a1 a2 a3 a7 a8 hT T hx0 hvc hrow x0 vc k0 k2 hbg H0
        rintro _ ⟨T, m', H0, rfl, hmm, hT, a1, a2, a3, a8, a7, a10, a11, hx0, hvc, hrow⟩
        generalize hac : flowS F shut i 0 (begR v shut F i) v.pipes = acc at *
        simp -implicitDefEqProofs only [go_sem, a10, a11, hT]
        simp only [does_bind]
        refine Tr.Does.mono (Q := fun x => ∃ (T' : List AV) (m'' : Nat) (H' : Heap), x = ((AExit.exit 4, T'), (⟨H', m'' + 2, [], false, []⟩ : St)) ∧ m' < m'' ∧ T'.length = 150 ∧ nth T' 1 = some (.slice [0] 0 F.length F.length false) ∧ nth T' 2 = some (.lst (shut.map iV)) ∧ nth T' 3 = some (.ptr [1] 0) ∧ nth T' 8 = some (.int .i64 i) ∧ nth T' 7 = some (mutV [c + 2] i) ∧ nth T' 14 = some (.ptr [m' + 2] 0) ∧ hget H' [m' + 2] = some (.cells [.int .i64 (lkS i (quoR acc) v.leaks).lo, .int .i64 (lkS i (quoR acc) v.leaks).hi] true 0) ∧ hget H' [0] = some (rgB F) ∧ hget H' [1] = some (vacC v) ∧ (i ≠ 0 → hget H' [c + 2] = some (rgB (G.take i)))) ?_ ?_
        · refine xl_does (fun k T s' => T.length = 150 ∧ nth T 1 = some (.slice [0] 0 F.length F.length false) ∧ nth T 2 = some (.lst (shut.map iV)) ∧ nth T 3 = some (.ptr [1] 0) ∧ nth T 8 = some (.int .i64 i) ∧ nth T 7 = some (mutV [c + 2] i) ∧ nth T 14 = some (.ptr [m' + 2] 0) ∧ ∃ (q m'' : Nat) (H' : Heap) (ac : Rg), nth T 15 = some (.int .i64 q) ∧ q ≤ v.leaks.length ∧ k = v.leaks.length - q ∧ s' = ⟨H', m'' + 2, [], false, []⟩ ∧ m' < m'' ∧ hget H' [m' + 2] = some (.cells [.int .i64 ac.lo, .int .i64 ac.hi] true 0) ∧ hget H' [0] = some (rgB F) ∧ hget H' [1] = some (vacC v) ∧ (i ≠ 0 → hget H' [c + 2] = some (rgB (G.take i))) ∧ lkS i (quoR acc) v.leaks = lkS i ac (v.leaks.drop q)) (k := v.leaks.length) (by have := hv.inl.1; omega) ?_ ?_
          · exact ⟨by simp -implicitDefEqProofs only [go_sem, hT], by simp -implicitDefEqProofs only [go_sem, a1], by simp -implicitDefEqProofs only [go_sem, a2], by simp -implicitDefEqProofs only [go_sem, a3], by simp -implicitDefEqProofs only [go_sem, a8], by simp -implicitDefEqProofs only [go_sem, a7], by simp -implicitDefEqProofs only [go_sem, hT], 0, m' + 1, _, quoR acc, by simp -implicitDefEqProofs only [go_sem, hT] <;> rfl, by omega, rfl, rfl, by omega, hget_cons_same .., (hc11 (by omega)).trans hx0, (hc11 (by omega)).trans hvc, fun e => (hc11 (by have := hcm e; omega)).trans (hrow e), rfl⟩
          clear a1 a2 a3 a7 a8 a10 a11 hT T hx0 hvc hrow H0
          rintro k T s' ⟨hT, a1, a2, a3, a8, a7, a14, q, m2, H0, ac, a15, hq, rfl, rfl, hmm2, hxa, hx0, hvc, hrow, he⟩
          have vc := hvc
          unfold vacC at vc
          simp -implicitDefEqProofs only [go_sem, a3, a15, hT, vc]
          by_cases hql : (q : Int) < (v.leaks.length : Int)
          · have hq' : q < v.leaks.length := by omega
            have e1 := elemAt_map (f := inlV) (l := v.leaks) (i := q) (z := 3) hq' rfl
            have hkk2 : v.leaks.length - (q + 1) < v.leaks.length - q := by omega
            rw [List.drop_eq_getElem_cons hq'] at he
            generalize v.leaks[q] = x at *
            simp only [lkS] at he
            have hpl := fun st => add_call ac x.gas (K + 1) st
            simp only [rgV] at hpl
            simp only [inlV] at e1
            have hw1 : wrapF .i64 ((q : Int) + 1) = ((q + 1 : Nat) : Int) := wrap_i64 (by have := hv.inl.2; omega) (by have := hv.inl.2; omega)
            by_cases ea : x.at' = (i : Int)
            · have eaT : (x.at' = (i : Int)) = True := eq_true ea
              rw [if_pos ea] at he
              simp -implicitDefEqProofs only [go_sem, a3, a8, a15, hT, hql, vc, e1, eaT]
              try simp only [does_bind]
              refine draw_machX [[], [], [1], [], [2, 1, 3], [4, 2, 1, 3], [5, 4, 2, 1, 3], [0, 6, 5, 4, 2, 1, 3], [7, 0, 6, 5, 4, 2, 1, 3]] [[], [], [], [], [], [], [], [], [[m' + 2]]] (by kernel_rfl) rfl rfl ?_
              have zm : (m2 = m') = False := eq_false (by omega)
              simp -implicitDefEqProofs only [go_sem, Option.getD_some, a1, a2, a3, a7, a8, a14, a15, hT, vc, hxa, e1, hpl, zm, sameW_self, hw1]
              exact ⟨v.leaks.length - (q + 1), hkk2, trivial, trivial, trivial, trivial, trivial, trivial, trivial, q + 1, m2 + 1, _, plusR ac x.gas, rfl, hq', rfl, rfl, by omega, by simp (disch := omega) only [hget_redoH, lk_same, Option.getD_some, hxa], by simp (disch := omega) only [hget_redoH, lkn, lk11, Option.getD_none, hx0], by simp (disch := omega) only [hget_redoH, lkn, lk11, Option.getD_none, hvc], fun e => by have := hcm e; simp (disch := omega) only [hget_redoH, lkn, lk11, Option.getD_none, hrow e], he⟩
            · have eaT : (x.at' = (i : Int)) = False := eq_false ea
              rw [if_neg ea] at he
              simp -implicitDefEqProofs only [go_sem, a1, a2, a3, a7, a8, a14, a15, hT, hql, vc, e1, eaT, hw1]
              exact ⟨v.leaks.length - (q + 1), hkk2, trivial, trivial, trivial, trivial, trivial, trivial, trivial, q + 1, m2, _, ac, rfl, hq', rfl, rfl, by omega, hxa, hx0, hvc, hrow, he⟩
          · have hqe : q = v.leaks.length := by omega
            subst hqe
            rw [List.drop_length] at he
            simp only [lkS] at he
            simp -implicitDefEqProofs only [go_sem, hql]
            exact ⟨_, m2, H0, rfl, hmm2, by simp -implicitDefEqProofs only [go_sem, hT], by simp -implicitDefEqProofs only [go_sem, a1], by simp -implicitDefEqProofs only [go_sem, a2], by simp -implicitDefEqProofs only [go_sem, a3], by simp -implicitDefEqProofs only [go_sem, a8], by simp -implicitDefEqProofs only [go_sem, a7], by simp -implicitDefEqProofs only [go_sem, a14], by rw [he]; exact hxa, hx0, hvc, hrow⟩
        clear a1 a2 a3 a7 a8 a10 a11 hT T hx0 hvc hrow H0
        rintro _ ⟨T, m2, H0, rfl, hmm2, hT, a1, a2, a3, a8, a7, a14, hxa, hx0, hvc, hrow⟩
        generalize hal : lkS i (quoR acc) v.leaks = al at *
        have hgx2 := hgx (by omega)
        have htk : G.take (i + 1) = G.take i ++ [al] := by rw [List.take_succ_eq_append_getElem (by omega), hgx2]
        have hln : (G.take i).length = i := by simp; omega
        have hap := fun (cs : List AV) (m n : Nat) (b p : Nm) (H : Heap) (r : Rg) (hr : (m + 1) * 16 ≤ 140737488355328) (hcs : cs.length = m * 2) (hg : m ≠ 0 → hget H b = some (.cells cs true 2)) => append_mut (C := cfg.at 168) (sT := 50) (b := b) (cs := cs) (x := rgV r) (H := H) (m := m) (n := n) (p := p) (jr := false) (j := []) (z := 2) desc50 tget26 rfl rfl rfl rfl rfl rfl hr hcs hg
        have hw1 : wrapF .i64 ((i : Int) + 1) = ((i + 1 : Nat) : Int) := wrap_i64 (by omega) (by omega)
        have hap1 := hap ((G.take i).flatMap rgC) i (m2 + 2) [c + 2] [] H0 al (hroom i hi') (by rw [rows_len, hln]) (fun e => hrow e)
        simp only [rgV, List.nil_append] at hap1
        have bs := fun a b s => bs50 168 a b s
        have hrn : .cells ((G.take i).flatMap rgC ++ (AV.agg [.int .i64 al.lo, .int .i64 al.hi]).cells) true 2 = rgB (G.take (i + 1)) := by
          rw [htk]; unfold rgB; rw [rows_snoc]; rfl
        rw [hrn] at hap1
        simp -implicitDefEqProofs only [go_sem, a1, a2, a3, a7, a8, a14, hT, hxa, bs, hap1, hw1]
        refine ⟨F.length - (i + 1), hkk, trivial, trivial, trivial, trivial, i + 1, m2 + 1, m2, _, rfl, rfl, hi', rfl, rfl, ?_, ?_, fun _ => ⟨by omega, hget_cons_same ..⟩⟩
        · rw [hc11 (by omega), hget_dropRow _ _ (n11 (by omega))]; exact hx0
        · rw [hc11 (by omega)]
          by_cases e : i = 0
          · subst e; exact hvc
          · rw [hget_dropRow _ _ (n11 (by have := hcm e; omega))]; exact hvc
      · have hie : i = F.length := by omega
        subst hie
        rw [List.take_of_length_le (by omega)] at hrow
        rw [mutV_pos hpos] at a7
        simp -implicitDefEqProofs only [go_sem, a7, hT, hil, Try.results168]
        exact ⟨c, rfl, hx0, (hrow (by omega)).2⟩
    · rintro ⟨v1, s1⟩ ⟨c, rfl, e0, e1⟩
      have e2 : memNm [c + 2] [[0]] = false := rfl
      refine ⟨[rgB F], [[0], [c + 2]], [rgB G], ?_, ?_, ?_, ?_, ?_, ?_⟩
      · show getAll _ [[0]] = _
        simp only [getAll, e0]
      · show reachL s1.H 200 (namesV true (AV.slice [c + 2] 0 F.length F.length false) (namesB true (rgB F) [])) [[0]] [] = _
        rw [nb]
        show reachL s1.H 200 [[c + 2]] [[0]] [] = _
        rw [reachL_cons, e2]
        simp only at e1 ⊢
        rw [e1]
        simp only [nb, reachL_nil]
        rfl
      · rfl
      · show renV [([0], f), ([c + 2], p ++ [n])] _ = _
        have q1 : eqb [c + 2] [0] = false := rfl
        simp only [renV, lookN, q1, eqb_self]
      · simp only [renBs, ren_rg]
      · simp only [renBs, ren_rg]
  · exact putAll_same [f] [rgB F] H n p false j (by simp only [getAll, hf])
end Go.Proofs.Ytgnpnfkncbnjnaa
namespace Go.Proofs.Ytgnpnfkncbnjnaa
open Go Go.Am
attribute [local congr] tr_congr does_congr all_congr
theorem bands_of {v : Vac} (h : checkE v = 0) : ∀ x ∈ v.vessels, bandsE 0 0 x.bands = 0 := by
  obtain ⟨h1, h2⟩ := parts_of h
  intro x hx
  have h3 := first_zero h1 x hx
  unfold vesE at h3
  split at h3
  · split at h3
    · split at h3
      · split at h3
        · exact absurd h3 (by decide)
        · exact h3
      · rename_i h4; exact absurd h3 h4
    · rename_i h4; exact absurd h3 h4
  · exact absurd h3 (by decide)
theorem mutV_shut (b : Nm) (n : Nat) : (mutV b n).shut = rowX b n := by cases n <;> rfl
structure RAt (H : Heap) (f b r : Nm) (v : Vac) (g : Gs) (s : Bk) : Prop where
  v : hget H [0] = some (vacC v)
  c : hget H [1] = some (.cells [mutV f g.free.length, mutV b g.bound.length, mutV r g.room.length, .int .i64 g.most, .bool g.flashed] true 0)
  k : hget H [2] = some (.cells [.int .i64 s.ticks, .int .i64 s.heat, .lst (s.shut.map iV), .bool s.flash] true 0)
  z : hget H [3] = some (.cells [.nils, .nils, .nils, .int .i64 0, .bool false] true 0)
  g : GasAt H f b r g
theorem frozen_gasM {H : Heap} {b1 b2 b3 : Nm} {g : Gs} (h : GasAt H b1 b2 b3 g) : Go.Am.frozen H (gasM b1 b2 b3 g) = some (gsV g) := by
  unfold Go.Am.frozen
  rw [show freezeG (freezeD H 6) H (gasM b1 b2 b3 g) = some (gsV g) from fz_gas h]
  have h5 : (gsV g).flat = true := by simp only [gsV, AV.flat, flats, fl_rg]
  simp only [h5]
theorem RAt.put {H : Heap} {f b r : Nm} {v : Vac} {g g' : Gs} {s : Bk} (h : RAt H f b r v g s) (ha : Apart3 f b r) (h1 : g.free ≠ []) (h2 : g.bound ≠ []) (l1 : g'.free.length = g.free.length) (l2 : g'.bound.length = g.bound.length) (l3 : g'.room.length = g.room.length) (e1 : g'.most = g.most) (e2 : g'.flashed = g.flashed) (n0 : ∀ i, i < 4 → f ≠ [i] ∧ b ≠ [i] ∧ r ≠ [i]) : RAt (gasPut f b r g' H) f b r v g' s := by
  have q : ∀ i, i < 4 → hget (gasPut f b r g' H) [i] = hget H [i] := fun i hi => gasPut_ne (n0 i hi).1 (n0 i hi).2.1 (fun _ => (n0 i hi).2.2)
  exact ⟨(q 0 (by omega)).trans h.v, by rw [l1, l2, l3, e1, e2]; exact (q 1 (by omega)).trans h.c, (q 2 (by omega)).trans h.k, (q 3 (by omega)).trans h.z, gasPut_at h.g ha h1 h2 l3⟩
theorem rtick_call (v : Vac) (g : Gs) (s : Bk) (K : Nat) (st : St) (hva : Valid v) (hbe : ∀ x ∈ v.vessels, bandsE 0 0 x.bands = 0) (hf : Fits v g) (hK : 300 < K) (hsh : s.shut.length < K) (hsh2 : s.shut.length ≤ 9223372036854775807) :
    acall cfg (K + 8) 130 [vacV v, gsV g, bkV s] st = .ret (gsV (tickT v g s), st) := by
  refine call1 mget130 fget130 (by first | rfl | simp -implicitDefEqProofs only [redoH, redo1, go_sem]) (by first | rfl | simp -implicitDefEqProofs only [go_sem]) (by first | rfl | simp -implicitDefEqProofs only [go_sem]) ?_
  refine body_does rfl fun T hT' hA => ?_
  have a0 := hA 0 _ rfl
  have a1 := hA 1 _ rfl
  have a2 := hA 2 _ rfl
  have hT : T.length = 74 := hT'
  clear hA hT'
  obtain ⟨hn1, hn2⟩ := hf.ne hva
  have l1 : g.free.length ≤ 1000000 := by have := hf.f; have := hva.n8; omega
  have l2 : g.bound.length ≤ 1000000 := by have := hf.b; have := hva.n8; omega
  have l3 : g.room.length ≤ 1000000 := by have := hf.r; have := hva.g8; omega
  have c1 := fun H n p jr j => own_call g.free hn1 l1 (K + 6) H n p jr j
  have c2 := fun H n p jr j => own_call g.bound hn2 l2 (K + 6) H n p jr j
  simp only [rgB] at c1 c2
  simp -implicitDefEqProofs only [go_sem, a0, a1, a2]
  simp only [does_bind]
  refine Tr.Does.mono (Q := fun x => ∃ (T' : List AV) (H' : Heap), x = (T', (⟨H', 5, [], false, []⟩ : St)) ∧ T'.length = 74 ∧ nth T' 3 = some (.ptr [0] 0) ∧ nth T' 4 = some (.ptr [1] 0) ∧ nth T' 5 = some (.ptr [2] 0) ∧ nth T' 6 = some (.ptr [3] 0) ∧ RAt H' [4, 2, 0] [4, 5, 0] [4, 8, 0] v g s) ?_ ?_
  · rcases (show g.room = [] ∨ g.room ≠ [] from by cases g.room with | nil => exact .inl rfl | cons a l => exact .inr (by simp)) with hr | hr
    · have c3 := fun s => own_nil (K + 2) s
      rw [hr]
      simp only [List.map_nil]
      try simp only [does_bind]
      refine draw_machX [[], [0], [1, 0], [], [3], [4, 3, 2, 1, 0], [], [6], [7, 6, 5, 4, 3, 2, 1, 0], [2, 1, 0, 4, 3, 7, 6], [9, 8, 5, 2, 1, 0, 4, 3, 7, 6], [10, 9, 8, 5, 2, 1, 0, 4, 3, 7, 6], [11, 10, 9, 8, 5, 2, 1, 0, 4, 3, 7, 6], [12, 11, 10, 9, 8, 5, 2, 1, 0, 4, 3, 7, 6], [13, 12, 11, 10, 9, 8, 5, 2, 1, 0, 4, 3, 7, 6]] [[], [], [], [], [], [], [], [], [], [], [[1]], [], [[1]], [], [[1]]] (by kernel_rfl) rfl rfl ?_
      simp -implicitDefEqProofs only [go_sem, hget_redoH, lkn, lk_same, lk31, Option.getD_some, Option.getD_none, hT, c1, c2, c3, sameW_self]
      refine ⟨_, _, rfl, by simp -implicitDefEqProofs only [go_sem, hT], by simp -implicitDefEqProofs only [go_sem, hT], by simp -implicitDefEqProofs only [go_sem, hT], by simp -implicitDefEqProofs only [go_sem, hT], by simp -implicitDefEqProofs only [go_sem, hT], ⟨rfl, ?_, rfl, rfl, ⟨fun _ => rfl, fun _ => rfl, fun e => ?_⟩⟩⟩
      · rw [mutV_pos (List.length_pos_iff.2 hn1), mutV_pos (List.length_pos_iff.2 hn2), hr]; rfl
      · exact absurd hr e
    · have c3 := fun H n p jr j => own_call g.room hr l3 (K + 6) H n p jr j
      simp only [rgB] at c3
      try simp only [does_bind]
      refine draw_machX [[], [0], [1, 0], [], [3], [4, 3, 2, 1, 0], [], [6], [7, 6, 5, 4, 3, 2, 1, 0], [2, 1, 0, 4, 3, 7, 6], [9, 8, 5, 2, 1, 0, 4, 3, 7, 6], [10, 9, 8, 5, 2, 1, 0, 4, 3, 7, 6], [11, 10, 9, 8, 5, 2, 1, 0, 4, 3, 7, 6], [12, 11, 10, 9, 8, 5, 2, 1, 0, 4, 3, 7, 6], [13, 12, 11, 10, 9, 8, 5, 2, 1, 0, 4, 3, 7, 6]] [[], [], [], [], [], [], [], [], [], [], [[1]], [], [[1]], [], [[1]]] (by kernel_rfl) rfl rfl ?_
      simp -implicitDefEqProofs only [go_sem, hget_redoH, lkn, lk_same, lk31, Option.getD_some, Option.getD_none, hT, c1, c2, c3, sameW_self]
      refine ⟨_, _, rfl, by simp -implicitDefEqProofs only [go_sem, hT], by simp -implicitDefEqProofs only [go_sem, hT], by simp -implicitDefEqProofs only [go_sem, hT], by simp -implicitDefEqProofs only [go_sem, hT], by simp -implicitDefEqProofs only [go_sem, hT], ⟨rfl, ?_, rfl, rfl, ⟨fun _ => rfl, fun _ => rfl, fun e => ?_⟩⟩⟩
      · rw [mutV_pos (List.length_pos_iff.2 hn1), mutV_pos (List.length_pos_iff.2 hn2), mutV_pos (List.length_pos_iff.2 hr)]; rfl
      · rfl
  clear a0 a1 a2 hT T c1 c2
  rintro _ ⟨T, H0, rfl, hT, a3, a4, a5, a6, hR⟩
  obtain ⟨ld, hld⟩ : ∃ q, q = leakF g.most v.leaks := ⟨_, rfl⟩
  simp only [regK_app, does_ret, seqK_normal, x_seq]
  simp only [does_bind]
  refine Tr.Does.mono (Q := fun x => ∃ (T' : List AV) (H' : Heap), x = ((AExit.normal, T'), (⟨H', 5, [], false, []⟩ : St)) ∧ T'.length = 74 ∧ nth T' 3 = some (.ptr [0] 0) ∧ nth T' 4 = some (.ptr [1] 0) ∧ nth T' 5 = some (.ptr [2] 0) ∧ nth T' 6 = some (.ptr [3] 0) ∧ RAt H' [4, 2, 0] [4, 5, 0] [4, 8, 0] v ⟨g.free, g.bound, g.room, g.most, g.flashed || s.flash⟩ s) ?_ ?_
  · have b1 := hR.c
    have b2 := hR.k
    have e1 : ∀ Z, hget (hset H0 [1] Z) [1] = some Z := fun Z => hss b1
    cases hfl : g.flashed with
    | true =>
      rw [hfl] at b1
      simp -implicitDefEqProofs only [go_sem, a4, hT, b1]
      exact ⟨_, _, rfl, by simp -implicitDefEqProofs only [go_sem, hT], by simp -implicitDefEqProofs only [go_sem, a3], by simp -implicitDefEqProofs only [go_sem, a4], by simp -implicitDefEqProofs only [go_sem, a5], by simp -implicitDefEqProofs only [go_sem, a6], ⟨(hs11 (by decide)).trans hR.v, hss b1, (hs11 (by decide)).trans hR.k, (hs11 (by decide)).trans hR.z, ⟨fun e => hs13.trans (hR.g.f e), fun e => hs13.trans (hR.g.b e), fun e => hs13.trans (hR.g.r e)⟩⟩⟩
    | false =>
      rw [hfl] at b1
      simp -implicitDefEqProofs only [go_sem, a4, a5, hT, b1, b2]
      exact ⟨_, _, rfl, by simp -implicitDefEqProofs only [go_sem, hT], by simp -implicitDefEqProofs only [go_sem, a3], by simp -implicitDefEqProofs only [go_sem, a4], by simp -implicitDefEqProofs only [go_sem, a5], by simp -implicitDefEqProofs only [go_sem, a6], ⟨(hs11 (by decide)).trans hR.v, hss b1, (hs11 (by decide)).trans hR.k, (hs11 (by decide)).trans hR.z, ⟨fun e => hs13.trans (hR.g.f e), fun e => hs13.trans (hR.g.b e), fun e => hs13.trans (hR.g.r e)⟩⟩⟩
  clear a3 a4 a5 a6 hT T hR H0
  rintro _ ⟨T, H0, rfl, hT, a3, a4, a5, a6, hR⟩
  generalize hfl : (g.flashed || s.flash) = fl at *
  simp -implicitDefEqProofs only [go_sem]
  simp only [does_bind]
  refine Tr.Does.mono (Q := fun x => ∃ (T' : List AV) (m : Nat) (H' : Heap), x = ((AExit.exit 0, T'), (⟨H', m + 5, [], false, []⟩ : St)) ∧ T'.length = 74 ∧ nth T' 3 = some (.ptr [0] 0) ∧ nth T' 4 = some (.ptr [1] 0) ∧ nth T' 5 = some (.ptr [2] 0) ∧ nth T' 6 = some (.ptr [3] 0) ∧ RAt H' [4, 2, 0] [4, 5, 0] [4, 8, 0] v ⟨g.free, g.bound, g.room, leakF g.most v.leaks, fl⟩ s) ?_ ?_
  · refine xl_does (fun k T s' => T.length = 74 ∧ nth T 3 = some (.ptr [0] 0) ∧ nth T 4 = some (.ptr [1] 0) ∧ nth T 5 = some (.ptr [2] 0) ∧ nth T 6 = some (.ptr [3] 0) ∧ ∃ (i m : Nat) (H : Heap) (q : Int), nth T 7 = some (.int .i64 i) ∧ i ≤ v.leaks.length ∧ k = v.leaks.length - i ∧ s' = ⟨H, m + 5, [], false, []⟩ ∧ RAt H [4, 2, 0] [4, 5, 0] [4, 8, 0] v ⟨g.free, g.bound, g.room, q, fl⟩ s ∧ leakF g.most v.leaks = leakF q (v.leaks.drop i)) (k := v.leaks.length) (by have := hva.l8; omega) ?_ ?_
    · exact ⟨by simp -implicitDefEqProofs only [go_sem, hT], by simp -implicitDefEqProofs only [go_sem, a3], by simp -implicitDefEqProofs only [go_sem, a4], by simp -implicitDefEqProofs only [go_sem, a5], by simp -implicitDefEqProofs only [go_sem, a6], 0, 0, _, g.most, by simp -implicitDefEqProofs only [go_sem, hT] <;> rfl, by omega, rfl, rfl, hR, rfl⟩
    clear a3 a4 a5 a6 hT T hR H0
    rintro k T s' ⟨hT, a3, a4, a5, a6, i, m, H0, q, a7, hi, rfl, rfl, hR, he⟩
    have b0 := hR.v
    have b1 := hR.c
    unfold vacC at b0
    simp -implicitDefEqProofs only [go_sem, a3, a7, hT, b0]
    by_cases hil : (i : Int) < (v.leaks.length : Int)
    · have hi' : i < v.leaks.length := by omega
      have e1 := elemAt_map (f := inlV) (l := v.leaks) (i := i) (z := 3) hi' rfl
      have hkk : v.leaks.length - (i + 1) < v.leaks.length - i := by omega
      rw [List.drop_eq_getElem_cons hi'] at he
      generalize v.leaks[i] = x at *
      simp only [leakF] at he
      have hw1 : wrapF .i64 ((i : Int) + 1) = ((i + 1 : Nat) : Int) := wrap_i64 (by have := hva.l8; omega) (by have := hva.l8; omega)
      simp only [inlV] at e1
      simp -implicitDefEqProofs only [go_sem, hil]
      try simp only [does_bind]
      refine draw_machX [[], [0], [], [2], [], [3, 2, 4], [5, 3, 2, 4], [6, 5, 3, 2, 4], [7, 6, 5, 3, 2, 4], [1, 0, 8, 7, 6, 5, 3, 2, 4], [9, 1, 0, 8, 7, 6, 5, 3, 2, 4], [10, 9, 1, 0, 8, 7, 6, 5, 3, 2, 4], [11, 10, 9, 1, 0, 8, 7, 6, 5, 3, 2, 4]] [[], [], [], [], [], [], [], [], [], [], [], [], [[1]]] (by kernel_rfl) rfl rfl ?_
      simp -implicitDefEqProofs only [go_sem, Option.getD_some, a3, a4, a5, a6, a7, hT, b0, b1, e1, mm_min, hw1, sameW_self]
      refine ⟨v.leaks.length - (i + 1), hkk, trivial, trivial, trivial, trivial, trivial, i + 1, m + 1, _, min2 68719476736 (wrapF .i64 (q + x.gas.hi)), rfl, hi', rfl, rfl, ⟨?_, ?_, ?_, ?_, ⟨fun e => ?_, fun e => ?_, fun e => ?_⟩⟩, he⟩
      all_goals clear hw1
      · simp (disch := omega) only [hget_redoH, lkn, lk11, Option.getD_none]; exact hR.v
      · simp (disch := omega) only [hget_redoH, lk_same, Option.getD_some, b1]
      · simp (disch := omega) only [hget_redoH, lkn, lk11, Option.getD_none, hR.k]
      · simp (disch := omega) only [hget_redoH, lkn, lk11, Option.getD_none, hR.z]
      · simp (disch := omega) only [hget_redoH, lkn, lk13, Option.getD_none]; exact hR.g.f e
      · simp (disch := omega) only [hget_redoH, lkn, lk13, Option.getD_none]; exact hR.g.b e
      · simp (disch := omega) only [hget_redoH, lkn, lk13, Option.getD_none]; exact hR.g.r e
    · have hie : i = v.leaks.length := by omega
      subst hie
      rw [List.drop_length] at he
      simp only [leakF] at he
      simp -implicitDefEqProofs only [go_sem, hil]
      rw [he]
      exact ⟨_, m, H0, rfl, by simp -implicitDefEqProofs only [go_sem, hT], by simp -implicitDefEqProofs only [go_sem, a3], by simp -implicitDefEqProofs only [go_sem, a4], by simp -implicitDefEqProofs only [go_sem, a5], by simp -implicitDefEqProofs only [go_sem, a6], hR⟩
  clear a3 a4 a5 a6 hT T hR H0
  rintro _ ⟨T, m, H0, rfl, hT, a3, a4, a5, a6, hR⟩
  have hb : (⟨g.free, g.bound, g.room, leakF g.most v.leaks, fl⟩ : Gs) = beginT v g s := by rw [← hfl]; rfl
  rw [hb] at hR
  have f1 := fits_begin hf s
  obtain ⟨p1, p2⟩ := f1.ne hva
  have hcr := fun n => rrelease_call (K := K + 5) (s := s) (n := n) (p := []) (j := []) hR.g ⟨by decide, by decide, by decide⟩ p1 f1.f f1.b (by have := hva.n8; omega) (by have := hva.n8; omega) hva.bd hbe
  have f2 := fits_rel f1 s
  have hR2 := hR.put (g' := relT v (beginT v g s) s) ⟨by decide, by decide, by decide⟩ p1 p2 (f2.f.trans f1.f.symm) (f2.b.trans f1.b.symm) rfl rfl rfl (fun i hi => ⟨n31, n31, n31⟩)
  generalize gasPut [4, 2, 0] [4, 5, 0] [4, 8, 0] (relT v (beginT v g s) s) H0 = H1 at *
  have b0 := hR.v
  have b1 := hR.c
  have b2 := hR.k
  unfold vacC at b0
  simp only [vacV, gasX] at hcr
  obtain ⟨p3, p4⟩ := f2.ne hva
  have hfw := fun n => rflow_call (K := K + 4) (v := v) (shut := s.shut) (n := n) (p := []) (j := []) (hR2.g.f p3) p3 f2.f (by have := hva.n8; omega) (by have := hva.n8; omega) (hva.lens _ (by omega)) (by omega) hsh2 hva.pip hva.inl
  have f3 := fits_flow f2 s
  have c1 := hR2.c
  have c0 := hR2.v
  have c2 := hR2.k
  unfold vacC at c0
  rw [mutV_pos (List.length_pos_iff.2 p3)] at c1
  simp only [vacV, St.new, St.name, St.note, List.nil_append] at hfw
  have k1 : ∀ q X, hget (([q + 5], X) :: H1) [1] = hget H1 [1] := fun q X => hc11 (by omega)
  have e1 : ∀ Z, hget (hset H1 [1] Z) [1] = some Z := fun Z => hss c1
  simp -implicitDefEqProofs only [go_sem, a3, a4, a5, hT, b0, b1, b2, hcr, mutV_shut, c0, c1, c2, hfw, k1, e1]
  have hR3 : RAt (([m + 5], rgB (leakR (flowG v s.shut (relT v (beginT v g s) s).free) v.leaks)) :: hset H1 [1] (.cells [.slice [m + 5] 0 (relT v (beginT v g s) s).free.length (relT v (beginT v g s) s).free.length false, mutV [4, 5, 0] (relT v (beginT v g s) s).bound.length, mutV [4, 8, 0] (relT v (beginT v g s) s).room.length, .int .i64 (relT v (beginT v g s) s).most, .bool (relT v (beginT v g s) s).flashed] true 0)) [m + 5] [4, 5, 0] [4, 8, 0] v (flowT v (relT v (beginT v g s) s) s) s := by
    refine ⟨(hc11 (by omega)).trans ((hs11 (by decide)).trans hR2.v), (hc11 (by omega)).trans ((e1 _).trans ?_), (hc11 (by omega)).trans ((hs11 (by decide)).trans hR2.k), (hc11 (by omega)).trans ((hs11 (by decide)).trans hR2.z), ⟨fun _ => hget_cons_same .., fun e => hc13.trans (hs13.trans (hR2.g.b e)), fun e => hc13.trans (hs13.trans (hR2.g.r e))⟩⟩
    rw [show (flowT v (relT v (beginT v g s) s) s).free.length = (relT v (beginT v g s) s).free.length from f3.f.trans f2.f.symm, mutV_pos (List.length_pos_iff.2 p3)]
    rfl
  have hfl3 : (relT v (beginT v g s) s).flashed = (flowT v (relT v (beginT v g s) s) s).flashed := rfl
  rw [hfl3] at hR3 ⊢
  generalize hT3 : setNth _ _ _ = T3
  have b3 : nth T3 3 = some (.ptr [0] 0) := by rw [← hT3]; simp -implicitDefEqProofs only [go_sem, a3]
  have b4 : nth T3 4 = some (.ptr [1] 0) := by rw [← hT3]; simp -implicitDefEqProofs only [go_sem, a4]
  have b5 : nth T3 5 = some (.ptr [2] 0) := by rw [← hT3]; simp -implicitDefEqProofs only [go_sem, a5]
  have b6 : nth T3 6 = some (.ptr [3] 0) := by rw [← hT3]; simp -implicitDefEqProofs only [go_sem, a6]
  have hT' : T3.length = 74 := by rw [← hT3]; simp -implicitDefEqProofs only [go_sem, hT]
  clear hT3
  generalize (([m + 5], rgB _) :: hset H1 [1] _) = HH at *
  clear a3 a4 a5 a6 hT T b0 b1 b2 c0 c1 c2 hcr hfw k1 e1 hR hR2 hfl3 p1 p2 p3 p4 f1 f2 H0 H1 hb
  have htk : tickT v g s = cutT v (getT v (flowT v (relT v (beginT v g s) s) s) s) s := rfl
  rw [htk]
  generalize flowT v (relT v (beginT v g s) s) s = g3 at *
  obtain ⟨p3, p4⟩ := f3.ne hva
  have f4 := fits_get f3 s
  simp only [does_bind]
  refine Tr.Does.mono (Q := fun x => ∃ (T' : List AV) (H' : Heap), x = ((AExit.normal, T'), (⟨H', m + 6, [], false, []⟩ : St)) ∧ T'.length = 74 ∧ nth T' 4 = some (.ptr [1] 0) ∧ nth T' 6 = some (.ptr [3] 0) ∧ RAt H' [m + 5] [4, 5, 0] [4, 8, 0] v (getT v g3 s) s) ?_ ?_
  · have c0 := hR3.v
    have c1 := hR3.c
    unfold vacC at c0
    cases hfl2 : g3.flashed with
    | true =>
      have hgt : getT v g3 s = getG v g3 := by unfold getT; rw [if_pos hfl2]; rfl
      rw [hgt] at f4 ⊢
      have hcg := fun n => rget_call (K := K + 5) (v := v) (g := g3) (n := n) (p := []) (j := []) hR3.g ⟨n13, n13, by decide⟩ p3 p4 f3.f f3.r (by have := hva.g8; omega) (by have := hva.g8; omega) hva.gtr
      have hR4 := hR3.put (g' := getG v g3) ⟨n13, n13, by decide⟩ p3 p4 (f4.f.trans f3.f.symm) (f4.b.trans f3.b.symm) (f4.r.trans f3.r.symm) rfl rfl (fun i hi => ⟨n11 (by omega), n31, n31⟩)
      generalize gasPut [m + 5] [4, 5, 0] [4, 8, 0] (getG v g3) HH = H4 at *
      simp only [vacV, gasX] at hcg
      simp -implicitDefEqProofs only [go_sem, b3, b4, hT', c0, c1, hcg, mutV_shut]
      exact ⟨_, _, rfl, by simp -implicitDefEqProofs only [go_sem, hT'], by simp -implicitDefEqProofs only [go_sem, b4], by simp -implicitDefEqProofs only [go_sem, b6], hR4⟩
    | false =>
      have hgt : getT v g3 s = g3 := by unfold getT; rw [if_neg (by rw [hfl2]; decide)]
      rw [hgt]
      simp -implicitDefEqProofs only [go_sem]
      exact ⟨_, _, rfl, hT', b4, b6, hR3⟩
  clear b3 b4 b5 b6 hT' T3 hR3 HH
  generalize getT v g3 s = g4 at *
  obtain ⟨p5, p6⟩ := f4.ne hva
  rintro _ ⟨T, H0, rfl, hT, a4, a6, hR⟩
  have c1 := hR.c
  rw [mutV_pos (List.length_pos_iff.2 p5), mutV_pos (List.length_pos_iff.2 p6)] at c1
  have hc1 := fun n => rcut_call g4.free g4.most [m + 5] (K + 6) H0 n [] [] (hR.g.f p5) (by have := f4.f; have := hva.n8; omega) (by have := f4.f; have := hva.n8; omega)
  have hc2 := fun X n => rcut_call g4.bound g4.most [4, 5, 0] (K + 6) (hset H0 [m + 5] X) n [] [] (hs13.trans (hR.g.b p6)) (by have := f4.b; have := hva.n8; omega) (by have := f4.b; have := hva.n8; omega)
  have k1 : ∀ X, hget (hset H0 [m + 5] X) [1] = hget H0 [1] := fun X => hs11 (by omega)
  have k2 : ∀ X Y, hget (hset (hset H0 [m + 5] X) [4, 5, 0] Y) [1] = hget H0 [1] := fun X Y => hs31.trans (hs11 (by omega))
  have k3 : ∀ X Y, hget (hset (hset H0 [m + 5] X) [4, 5, 0] Y) [3] = hget H0 [3] := fun X Y => hs31.trans (hs11 (by omega))
  have z3 := hR.z
  have e3 : ∀ X Y Z, hget (hset (hset (hset H0 [m + 5] X) [4, 5, 0] Y) [3] Z) [3] = some Z := fun X Y Z => hss ((k3 X Y).trans z3)
  have hG : ∀ Z, GasAt (hset (hset (hset H0 [m + 5] (rgB (g4.free.map (cutR g4.most)))) [4, 5, 0] (rgB (g4.bound.map (cutR g4.most)))) [3] Z) [m + 5] [4, 5, 0] [4, 8, 0] (cutT v g4 s) := fun Z =>
    ⟨fun _ => (hs11 (by omega)).trans (hs31.trans (hss (hR.g.f p5))), fun _ => hs13.trans (hss (hs13.trans (hR.g.b p6))), fun e => hs13.trans ((hget_hset_ne _ _ (by decide)).trans (hs13.trans (hR.g.r e)))⟩
  have hfz := fun Z => frozen_gasM (hG Z)
  simp only [gasM, cutT, List.length_map, gsV] at hfz
  rw [mutV_pos (List.length_pos_iff.2 p5), mutV_pos (List.length_pos_iff.2 p6)] at hfz
  simp -implicitDefEqProofs only [go_sem, a4, a6, hT, c1, hc1, hc2, k1, k2, k3, z3, e3, Try.results130]
  exact hfz _
end Go.Proofs.Ytgnpnfkncbnjnaa
namespace Go.Proofs.Ytgnpnfkncbnjnaa
open Go Go.Am
attribute [local congr] tr_congr does_congr all_congr
theorem frozen_gasP (H : Heap) (g : Gs) (e : Int) : Go.Am.frozen H (.tuple [gsV g, .int .i64 e]) = some (gasP (g, e)) := by
  unfold Go.Am.frozen
  rw [show freezeG (freezeD H 6) H (.tuple [gsV g, .int .i64 e]) = some (gasP (g, e)) from rfl]
  have h5 : (gasP (g, e)).flat = true := flat_gasP _
  simp only [h5]
theorem rTick_call (v : Vac) (g : Gs) (b : Bk) (K : Nat) (s : St) (hK : 300 < K) (hv : v.Lens K) (hg : g.Lens) (hsh : b.shut.length < K) (hsh2 : b.shut.length ≤ 9223372036854775807) : acall cfg (K + 12) 71 [vacV v, gsV g, bkV b] s = .ret (gasP (tickE v g b), s) := by
  refine call1 mget71 fget71 (by first | rfl | simp -implicitDefEqProofs only [redoH, redo1, go_sem]) (by first | rfl | simp -implicitDefEqProofs only [go_sem]) (by first | rfl | simp -implicitDefEqProofs only [go_sem]) ?_
  refine body_does rfl fun T hT' hA => ?_
  have a0 := hA 0 _ rfl
  have a1 := hA 1 _ rfl
  have a2 := hA 2 _ rfl
  have hT : T.length = 28 := hT'
  clear hA hT'
  have hb := fun s => rbelongs_call v g K s (by omega) hv hg
  have hst := fun s => checkStage_call v b (K + 9) s (by omega) hsh2 hv.pip.2
  simp only [vacV, gsV, bkV] at hb hst
  unfold tickE
  by_cases c0 : belongsE v g = 0
  · have hf := belongs_fits c0
    have hva := valid_of (belongs_zero c0).1
    have hbe := bands_of (belongs_zero c0).1
    rw [if_pos c0]
    by_cases c1 : stageE v b = 0
    · rw [if_pos c1]
      have hti := fun s => rtick_call v g b (K + 3) s hva hbe hf (by omega) (by omega) hsh2
      simp only [vacV, gsV, bkV] at hti
      simp -implicitDefEqProofs only [go_sem, a0, a1, a2, hT, hb, c0, hst, c1, hti, Try.results71]
      exact frozen_gasP _ _ _
    · rw [if_neg c1]
      simp -implicitDefEqProofs only [go_sem, a0, a1, a2, hT, hb, c0, hst, c1, Try.results71]
      exact frozen_zero _ _
  · rw [if_neg c0]
    simp -implicitDefEqProofs only [go_sem, a0, a1, a2, hT, hb, c0, Try.results71]
    exact frozen_zero _ _
end Go.Proofs.Ytgnpnfkncbnjnaa
namespace Go.Proofs.Ytgnpnfkncbnjnaa
open Go Go.Am
attribute [local congr] tr_congr does_congr all_congr
structure StgG (k : Int) (q : Nat) (s : Bk) : Prop where
  t : 0 ≤ s.ticks ∧ s.ticks ≤ k
  h : 0 ≤ s.heat ∧ s.heat < 900
  n : s.shut.length ≤ q
  s : ∀ x ∈ s.shut, 0 ≤ x ∧ x < q
theorem bs22 (f : FuncId) (a : Int) (s : St) : buildSliceA (cfg.at f) true 22 1 [(0, .int .i64 a)] s = .ret (.lst [.int .i64 a], s) := by
  simp -implicitDefEqProofs only [go_sem, Go.Am.buildSliceA]
theorem stageOf_call (v : Vac) (hp : v.pipes.length ≤ 1000000) (k : Int) (hk : 0 ≤ k ∧ k ≤ 1000000) (w : Int) (u : Nat) (K : Nat) (hK : v.pipes.length + 20 < K) :
    ∃ s w', StgG k v.pipes.length s ∧ ∀ (b : Nm) (st : St), hget st.H b = some (.cells [.int .u64 w] true u) → acall cfg (K + 10) 24 [.ptr b 0, vacV v, .int .i64 k] st = .ret (bkV s, st.put b (.cells [.int .u64 w'] true u)) := by
  have key : ∃ s w', StgG k v.pipes.length s ∧ (bodyA (cfg.at 24) (acall cfg (K + 9)) (around cfg (K + 9)) (K + 9 + 1) Try.f24 [.ptr [0] 0, vacV v, .int .i64 k] ⟨[([0], .cells [.int .u64 w] true u)], 1, [], false, []⟩).Does fun x => x.1.shut = bkV s ∧ hget x.2.H [0] = some (.cells [.int .u64 w'] true u) := by
    suffices h : (bodyA (cfg.at 24) (acall cfg (K + 9)) (around cfg (K + 9)) (K + 9 + 1) Try.f24 [.ptr [0] 0, vacV v, .int .i64 k] ⟨[([0], .cells [.int .u64 w] true u)], 1, [], false, []⟩).Does fun x => ∃ s w', StgG k v.pipes.length s ∧ x.1.shut = bkV s ∧ hget x.2.H [0] = some (.cells [.int .u64 w'] true u) by
      obtain ⟨x, e, s, w', h1, h2, h3⟩ := h
      exact ⟨s, w', h1, x, e, h2, h3⟩
    refine body_does rfl fun T hT' hA => ?_
    have a0 := hA 0 _ rfl
    have a1 := hA 1 _ rfl
    have a2 := hA 2 _ rfl
    have hT : T.length = 34 := hT'
    clear hA hT'
    have hk1 : wrapF .i64 (k + 1) = k + 1 := wrap_i64 (by omega) (by omega)
    have ut1 := fun H m jr j hd => upto_d (H := H) (m := m) (u := u) (p := []) (jr := jr) (j := j) (k + 1) (K + 7) hd (by omega)
    have ut2 := fun H m jr j hd => upto_d (H := H) (m := m) (u := u) (p := []) (jr := jr) (j := j) 900 (K + 7) hd (by decide)
    have ot := fun H m jr j hd => one_d (H := H) (m := m) (u := u) (p := []) (jr := jr) (j := j) 4 (K + 6) hd (by decide)
    have d0 : isD u [([0], .cells [.int .u64 w] true u)] := ⟨w, rfl⟩
    simp -implicitDefEqProofs (maxDischargeDepth := 9) only [go_sem, isD_cons0, dW_cons0, isD_cons1, dW_cons1, a0, a1, a2, hT, hk1, ut1, ut2, ot, d0]
    have r1 := upto_range w (k + 1) (by omega)
    have r2 := upto_range (nextW w) 900 (by decide)
    generalize uptoN w (k + 1) = tk at *
    generalize uptoN (nextW w) 900 = ht at *
    generalize oneB (nextW (nextW w)) 4 = fl at *
    generalize nextW (nextW (nextW w)) = w1 at *
    clear ut1 ut2 ot d0 hk1
    simp only [does_bind]
    refine xl_does (fun l T s' => T.length = 34 ∧ nth T 0 = some (.ptr [0] 0) ∧ nth T 4 = some (.ptr [1] 0) ∧ nth T 6 = some (.ptr [2] 0) ∧ nth T 7 = some (.ptr [3] 0) ∧ ∃ (i m c : Nat) (H : Heap) (row : List Int), nth T 8 = some (.int .i64 i) ∧ i ≤ v.pipes.length ∧ l = v.pipes.length - i ∧ s' = ⟨H, m + 4, [], false, []⟩ ∧ isD u H ∧ hget H [1] = some (vacC v) ∧ hget H [2] = some (.cells [.int .i64 0, .int .i64 0, .nils, .bool false] true 0) ∧ hget H [3] = some (.cells [.int .i64 tk, .int .i64 ht, ownV [c + 4] (row.map iV), .bool fl] true 0) ∧ (row.map iV ≠ [] → c < m ∧ hget H [c + 4] = some (.tok row.length 1)) ∧ row.length ≤ i ∧ ∀ x ∈ row, 0 ≤ x ∧ x < v.pipes.length) (k := v.pipes.length) (by omega) ?_ ?_
    · exact ⟨by simp -implicitDefEqProofs only [go_sem, hT], by simp -implicitDefEqProofs only [go_sem, a0], by simp -implicitDefEqProofs only [go_sem, hT], by simp -implicitDefEqProofs only [go_sem, hT], by simp -implicitDefEqProofs only [go_sem, hT], 0, 0, 0, _, [], by simp -implicitDefEqProofs only [go_sem, hT] <;> rfl, by omega, rfl, rfl, ⟨_, rfl⟩, rfl, rfl, rfl, fun e => absurd rfl e, Nat.le_refl _, fun x hx => by cases hx⟩
    clear a0 a1 a2 hT T
    rintro l T s' ⟨hT, a0, a4, a6, a7, i, m, c, H, row, a8, hi, rfl, rfl, hd, g1, g2, g3, gt, hrl, hrx⟩
    unfold vacC at g1
    simp -implicitDefEqProofs only [go_sem, a4, a8, hT, g1]
    by_cases hil : (i : Int) < (v.pipes.length : Int)
    · have hi' : i < v.pipes.length := by omega
      have hkk : v.pipes.length - (i + 1) < v.pipes.length - i := by omega
      have ot := one_d (H := H) (m := m + 4) (u := u) (p := []) (jr := false) (j := []) 4 (K + 6) hd (by decide)
      generalize oneB (dW H) 4 = ob at *
      generalize nextW (dW H) = w2 at *
      have hd2 : isD u (hset H [0] (.cells [.int .u64 w2] true u)) := isD_set0 hd
      have q1 : hget (hset H [0] (.cells [.int .u64 w2] true u)) [1] = hget H [1] := hs11 (by decide)
      have q2 : hget (hset H [0] (.cells [.int .u64 w2] true u)) [2] = hget H [2] := hs11 (by decide)
      have q3 : hget (hset H [0] (.cells [.int .u64 w2] true u)) [3] = hget H [3] := hs11 (by decide)
      have qt : ∀ c, hget (hset H [0] (.cells [.int .u64 w2] true u)) [c + 4] = hget H [c + 4] := fun c => hs11 (by omega)
      rw [g1] at q1
      rw [g2] at q2
      rw [g3] at q3
      have qt' : row.map iV ≠ [] → c < m ∧ hget (hset H [0] (.cells [.int .u64 w2] true u)) [c + 4] = some (.tok row.length 1) := fun e => ⟨(gt e).1, (qt c).trans (gt e).2⟩
      generalize hset H [0] (.cells [.int .u64 w2] true u) = H1 at *
      clear hd g1 g2 g3 gt qt
      have hroom : (row.length + 1) * 8 ≤ 140737488355328 := by omega
      have hrl2 : row.length ≤ i + 1 := by omega
      have hw1 : wrapF .i64 ((i : Int) + 1) = ((i + 1 : Nat) : Int) := wrap_i64 (by omega) (by omega)
      have bs := fun a s => bs22 24 a s
      cases ob with
      | false =>
        simp -implicitDefEqProofs only [go_sem, a0, a4, a6, a7, a8, hT, hil, ot, hw1]
        exact ⟨v.pipes.length - (i + 1), hkk, trivial, trivial, trivial, trivial, trivial, i + 1, m, c, H1, row, rfl, hi', rfl, rfl, hd2, q1, q2, q3, qt', hrl2, hrx⟩
      | true =>
        have hap := append_abs (C := cfg.at 24) (sT := 22) (b := [c + 4]) (l := row.map iV) (x := iV i) (H := H1) (n := m + 4) (p := []) (jr := false) (j := []) (z := 1) desc22 tget3 rfl rfl rfl rfl rfl rfl (by rw [List.length_map]; exact hroom) (fun hx => by rw [List.length_map]; exact (qt' hx).2)
        have hown : ∀ b, ownV b (row.map iV ++ [iV i]) = .own b (row.map iV ++ [iV i]) := fun b => by cases row.map iV <;> rfl
        have hrm : (row ++ [(i : Int)]).map iV = row.map iV ++ [iV i] := by simp
        simp only [List.nil_append, List.length_map] at hap
        rw [hown] at hap
        have x3 : hget (dropTok (row.map iV) [c + 4] H1) [3] = hget H1 [3] := hget_dropTok _ _ (n11 (by clear hw1; omega))
        have x0 : hget (dropTok (row.map iV) [c + 4] H1) [0] = hget H1 [0] := hget_dropTok _ _ (n11 (by clear hw1; omega))
        have x1 : hget (dropTok (row.map iV) [c + 4] H1) [1] = hget H1 [1] := hget_dropTok _ _ (n11 (by clear hw1; omega))
        have x2 : hget (dropTok (row.map iV) [c + 4] H1) [2] = hget H1 [2] := hget_dropTok _ _ (n11 (by clear hw1; omega))
        generalize dropTok (row.map iV) [c + 4] H1 = H2 at *
        rw [q3] at x3
        have k3 : ∀ q X, hget (([q + 4], X) :: H2) [3] = hget H2 [3] := fun q X => hc11 (by clear hw1; omega)
        simp only [iV] at hap
        simp -implicitDefEqProofs only [go_sem, a0, a4, a6, a7, a8, hT, hil, ot, bs, q3, hap, x3, k3, hw1]
        refine ⟨v.pipes.length - (i + 1), hkk, trivial, trivial, trivial, trivial, trivial, i + 1, m + 1, m, _, row ++ [(i : Int)], rfl, hi', rfl, rfl, ?_, ?_, ?_, ?_, fun _ => ⟨by omega, ?_⟩, ?_, ?_⟩
        all_goals clear hw1
        · obtain ⟨w9, hw9⟩ := hd2
          exact ⟨w9, (hc11 (by omega)).trans ((hs11 (by decide)).trans (x0.trans hw9))⟩
        · exact (hc11 (by omega)).trans ((hs11 (by decide)).trans (x1.trans q1))
        · exact (hc11 (by omega)).trans ((hs11 (by decide)).trans (x2.trans q2))
        · rw [hrm, hown]; exact (hc11 (by omega)).trans (hss x3)
        · rw [List.length_append]; exact hget_cons_same ..
        · simp; omega
        · intro x hx
          rcases List.mem_append.1 hx with hx | hx
          · exact hrx x hx
          · simp only [List.mem_singleton] at hx; omega
    · have e2 : ∀ Z, hget (hset H [2] Z) [2] = some Z := fun Z => hss g2
      have e0 : ∀ Z, hget (hset H [2] Z) [0] = hget H [0] := fun Z => hs11 (by decide)
      have hsh : ∀ b, (ownV b (row.map iV)).shut = .lst (row.map iV) := fun b => shut_ownV b _
      simp -implicitDefEqProofs only [go_sem, a6, a7, hT, hil, g3, g2, e2, e0, hsh, Try.results24]
      exact ⟨⟨tk, ht, row, fl⟩, dW H, ⟨⟨r1.1, by show tk ≤ k; omega⟩, r2, by show row.length ≤ _; omega, hrx⟩, rfl, isD_get hd⟩
  obtain ⟨s, w', hg, hd⟩ := key
  refine ⟨s, w', hg, fun b st hb => ?_⟩
  exact call4_shut (v := bkV s) mget24 fget24 hb rfl (by simp only [vacV, renV, renVs, fl_ves, fl_pip, fl_pmp, fl_inl, fl_gtr]) rfl rfl rfl rfl (by rfl) (by simp only [bkV, renV, renVs, fl_i]) hd
end Go.Proofs.Ytgnpnfkncbnjnaa
