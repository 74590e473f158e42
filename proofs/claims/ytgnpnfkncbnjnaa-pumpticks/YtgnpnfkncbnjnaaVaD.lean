/- Vacuum systems: the gas that they begin with, stages, and their bounds. -/
import Derived.Test.YtgnpnfkncbnjnaaVaC
import Derived.Test.YtgnpnfkncbnjnaaVaA
set_option linter.unusedSimpArgs false
set_option linter.unusedVariables false
set_option maxRecDepth 100000
attribute [local go_sem_proc] Int.reduceEq Int.reduceNeg Nat.reduceEqDiff Nat.reduceLT Nat.reduceAdd Nat.reduceSub Nat.reduceMul Int.reduceLE Int.reduceLT Int.reduceToNat Nat.reduceLeDiff
attribute [local go_sem] Int.toNat_natCast Bool.not_true Bool.not_false
namespace Go.Proofs.Ytgnpnfkncbnjnaa
open Go Go.Am
attribute [local congr] tr_congr does_congr all_congr
attribute [local go_sem] Go.Am.buildSliceA Go.Am.frozen Go.Am.freezeG Go.Am.freezeGs Go.Am.minmax
def rgC (r : Rg) : List AV := [.int .i64 r.lo, .int .i64 r.hi]
theorem rgC_len (r : Rg) : (rgC r).length = 2 := rfl
theorem rgC_bare (r : Rg) : Bare (rgC r) := ⟨fun _ _ => rfl, fun _ => rfl⟩
theorem rows_bare (l : List Rg) : Bare (l.flatMap rgC) := bare_flatMap rgC_bare l
theorem rows_len (l : List Rg) : (l.flatMap rgC).length = l.length * 2 := cells_len rgC_len l
theorem rows_snoc (l : List Rg) (r : Rg) : (l ++ [r]).flatMap rgC = l.flatMap rgC ++ (rgV r).cells := by rw [List.flatMap_append]; rfl
theorem desc50 : cfg.desc 50 = some (.slice 26) := by kernel_rfl
def gasM (b1 b2 b3 : Nm) (g : Gs) : AV := .agg [mutV b1 g.free.length, mutV b2 g.bound.length, mutV b3 g.room.length, .int .i64 g.most, .bool g.flashed]
end Go.Proofs.Ytgnpnfkncbnjnaa
namespace Go.Proofs.Ytgnpnfkncbnjnaa
open Go Go.Am
attribute [local congr] tr_congr does_congr all_congr
attribute [local go_sem] Go.Am.buildSliceA Go.Am.minmax
theorem fz_row {H : Heap} {d : Nat} (l : List Rg) : freezeD H (d + 1) (l.flatMap rgC) = some (l.flatMap rgC) := by
  show freezeGs (freezeD H d) H _ = _
  refine freezeGs_cells (g := rgC) (fun a r t h => ?_) l
  show freezeGs (freezeD H d) H (.int .i64 a.lo :: .int .i64 a.hi :: r) = _
  simp only [freezeGs, freezeG, h]; rfl
theorem fz_mut {H : Heap} {d : Nat} {b : Nm} (l : List Rg) (hb : l ≠ [] → hget H b = some (.cells (l.flatMap rgC) true 2)) : freezeG (freezeD H (d + 1)) H (mutV b l.length) = some (.lst (l.map rgV)) := by
  cases l with
  | nil => rfl
  | cons a r =>
    have := freeze_row (g := rgC) (z := 2) rgC_len (by decide) (f := rgV) (fun _ => rfl) (row := freezeD H (d + 1)) (H := H) (a :: r) (fz_row _) (hb (by simp)) (a :: r).length false
    exact this
structure GasAt (H : Heap) (b1 b2 b3 : Nm) (g : Gs) : Prop where
  f : g.free ≠ [] → hget H b1 = some (.cells (g.free.flatMap rgC) true 2)
  b : g.bound ≠ [] → hget H b2 = some (.cells (g.bound.flatMap rgC) true 2)
  r : g.room ≠ [] → hget H b3 = some (.cells (g.room.flatMap rgC) true 2)
theorem fz_gas {H : Heap} {d : Nat} {b1 b2 b3 : Nm} {g : Gs} (h : GasAt H b1 b2 b3 g) : freezeG (freezeD H (d + 1)) H (gasM b1 b2 b3 g) = some (gsV g) := by
  show (match freezeGs (freezeD H (d + 1)) H [mutV b1 g.free.length, mutV b2 g.bound.length, mutV b3 g.room.length, .int .i64 g.most, .bool g.flashed] with | some l => some (AV.agg l) | none => none) = _
  simp only [freezeGs, fz_mut g.free h.f, fz_mut g.bound h.b, fz_mut g.room h.r]
  rfl
def zeroG : Gs := ⟨[], [], [], 0, false⟩
def gasE (e : Int) (g : Gs) : AV := .tuple [gsV (if e = 0 then g else zeroG), .int .i64 e]
@[go_sem] theorem flat_gasE (e : Int) (g : Gs) : (gasE e g).flat = true := by
  unfold gasE; simp only [gsV, AV.flat, flats, fl_rg]
end Go.Proofs.Ytgnpnfkncbnjnaa
namespace Go.Proofs.Ytgnpnfkncbnjnaa
open Go Go.Am
attribute [local congr] tr_congr does_congr all_congr
attribute [local go_sem] Go.Am.buildSliceA Go.Am.minmax
theorem ownV_snoc (b : Nm) (l : List AV) (x : AV) : ownV b (l ++ [x]) = .own b (l ++ [x]) := by cases l <;> rfl
end Go.Proofs.Ytgnpnfkncbnjnaa
namespace Go.Proofs.Ytgnpnfkncbnjnaa
open Go Go.Am
attribute [local congr] tr_congr does_congr all_congr
attribute [local go_sem] Go.Am.buildSliceA Go.Am.frozen Go.Am.freezeG Go.Am.freezeGs Go.Am.minmax
theorem Vac.Lens.more {v : Vac} {K : Nat} (hv : v.Lens K) (q : Nat) : v.Lens (K + q) := ⟨⟨by have := hv.ves.1; omega, hv.ves.2⟩, ⟨by have := hv.pip.1; omega, hv.pip.2⟩, ⟨by have := hv.pmp.1; omega, hv.pmp.2⟩, ⟨by have := hv.inl.1; omega, hv.inl.2⟩, ⟨by have := hv.gtr.1; omega, hv.gtr.2⟩, hv.bands⟩
theorem large_call (v : Vac) (K : Nat) (s : St) (hv : v.Lens K) : acall cfg (K + 1) 47 [vacV v] s = .ret (.bool (largeB v), s) := by
  refine call1 mget47 fget47 (by first | rfl | simp -implicitDefEqProofs only [redoH, redo1, go_sem]) (by first | rfl | simp -implicitDefEqProofs only [go_sem]) (by first | rfl | simp -implicitDefEqProofs only [redoH, redo1, go_sem]) ?_
  refine body_does rfl fun T hT' hA => ?_
  have a0 := hA 0 _ rfl
  have hT : T.length = 47 := hT'
  clear hA hT'
  obtain ⟨⟨hv1, hv2⟩, _, _, _, _, hbd⟩ := hv
  have q1 : (20 : Int) < (v.vessels.length : Int) ↔ 20 < v.vessels.length := by omega
  have q2 : (30 : Int) < (v.pipes.length : Int) ↔ 30 < v.pipes.length := by omega
  have q3 : (20 : Int) < (v.pumps.length : Int) ↔ 20 < v.pumps.length := by omega
  have q4 : (20 : Int) < (v.leaks.length : Int) ↔ 20 < v.leaks.length := by omega
  have q5 : (20 : Int) < (v.getters.length : Int) ↔ 20 < v.getters.length := by omega
  have hov : largeB v = (decide ((20 : Int) < (v.vessels.length : Int)) || decide ((30 : Int) < (v.pipes.length : Int)) || decide ((20 : Int) < (v.pumps.length : Int)) || decide ((20 : Int) < (v.leaks.length : Int)) || decide ((20 : Int) < (v.getters.length : Int)) || v.vessels.any fun x => decide (20 < x.bands.length)) := by
    unfold largeB
    simp only [q1, q2, q3, q4, q5]
  rw [hov]
  clear q1 q2 q3 q4 q5 hov
  simp -implicitDefEqProofs only [go_sem, a0, hT]
  by_cases o1 : (20 : Int) < (v.vessels.length : Int)
  · simp -implicitDefEqProofs only [go_sem, hT, o1, Bool.true_or, Try.results47]
  · by_cases o2 : (30 : Int) < (v.pipes.length : Int)
    · simp -implicitDefEqProofs only [go_sem, hT, o1, o2, Bool.true_or, Bool.or_true, Try.results47]
    · by_cases o3 : (20 : Int) < (v.pumps.length : Int)
      · simp -implicitDefEqProofs only [go_sem, hT, o1, o2, o3, Bool.true_or, Bool.or_true, Try.results47]
      · by_cases o4 : (20 : Int) < (v.leaks.length : Int)
        · simp -implicitDefEqProofs only [go_sem, hT, o1, o2, o3, o4, Bool.true_or, Bool.or_true, Try.results47]
        · by_cases o5 : (20 : Int) < (v.getters.length : Int)
          · simp -implicitDefEqProofs only [go_sem, hT, o1, o2, o3, o4, o5, Bool.true_or, Bool.or_true, Try.results47]
          · simp -implicitDefEqProofs only [go_sem, hT, o1, o2, o3, o4, o5, Bool.false_or]
            simp only [does_bind]
            refine xl_does (fun k T s' => T.length = 47 ∧ nth T 1 = some (.ptr [0] 0) ∧ s' = ⟨[([0], .cells [.lst (v.vessels.map vesV), .lst (v.pipes.map pipV), .lst (v.pumps.map pmpV), .lst (v.leaks.map inlV), .lst (v.getters.map gtrV)] true 0)], 1, [], false, []⟩ ∧ ∃ i : Nat, nth T 3 = some (.int .i64 i) ∧ i ≤ v.vessels.length ∧ k = v.vessels.length - i ∧ (v.vessels.any fun t => decide (20 < t.bands.length)) = ((v.vessels.drop i).any fun t => decide (20 < t.bands.length))) (k := v.vessels.length) (by omega) ?_ ?_
            · exact ⟨by simp -implicitDefEqProofs only [go_sem, hT], by simp -implicitDefEqProofs only [go_sem, hT], rfl, 0, by simp -implicitDefEqProofs only [go_sem, hT]; rfl, by omega, rfl, rfl⟩
            clear a0 hT
            rintro k T s' ⟨hT, a1, rfl, i, a3, hi, rfl, hany⟩
            simp -implicitDefEqProofs only [go_sem, a1, a3, hT]
            by_cases hlo : (i : Int) < (v.vessels.length : Int)
            · have hi' : i < v.vessels.length := by omega
              have hk2 : v.vessels.length - (i + 1) < v.vessels.length - i := by omega
              have hel := elemAt_map (f := vesV) (l := v.vessels) (i := i) (z := 6) hi' rfl
              rw [List.drop_eq_getElem_cons hi', List.any_cons] at hany
              generalize v.vessels[i] = x at *
              by_cases c2 : 20 < x.bands.length
              · have c2' : (20 : Int) < (x.bands.length : Int) := by omega
                rw [decide_eq_true c2, Bool.true_or] at hany
                simp -implicitDefEqProofs only [go_sem, a1, a3, hT, hlo, hel, c2', hany, Try.results47]
              · have c2' : ¬ (20 : Int) < (x.bands.length : Int) := by omega
                have hw1 : wrapF .i64 ((i : Int) + 1) = ((i + 1 : Nat) : Int) := wrap_i64 (by omega) (by omega)
                rw [decide_eq_false c2, Bool.false_or] at hany
                simp -implicitDefEqProofs only [go_sem, a1, a3, hT, hlo, hel, c2', hw1]
                exact ⟨v.vessels.length - (i + 1), hk2, trivial, trivial, trivial, i + 1, rfl, hi', rfl, hany⟩
            · have hie : i = v.vessels.length := by omega
              subst hie
              rw [List.drop_length] at hany
              simp only [List.any_nil] at hany
              simp -implicitDefEqProofs only [go_sem, hT, hlo, hany, Try.results47]
end Go.Proofs.Ytgnpnfkncbnjnaa
namespace Go.Proofs.Ytgnpnfkncbnjnaa
open Go Go.Am
attribute [local congr] tr_congr does_congr all_congr
attribute [local go_sem] Go.Am.buildSliceA Go.Am.frozen Go.Am.freezeG Go.Am.freezeGs Go.Am.minmax
structure RgG (m : Int) (r : Rg) : Prop where
  lo : 0 ≤ r.lo
  le : r.lo ≤ r.hi
  hi : r.hi ≤ m
def BandsG (k : Int) : List Rel → Prop
  | [] => True
  | b :: l => 0 ≤ b.frm ∧ b.frm < k ∧ (∀ m ∈ l, b.frm < m.frm) ∧ RgG 400000 b.rate ∧ BandsG k l
theorem bandsG_snoc {k k' : Int} {r : Rg} (h0 : 0 ≤ k) (h1 : k < k') (hr : RgG 400000 r) : ∀ {l : List Rel}, BandsG k l → BandsG k' (l ++ [⟨k, r⟩])
  | [], _ => ⟨h0, h1, (fun _ h => by cases h), hr, trivial⟩
  | b :: l, ⟨g1, g2, g3, g4, g5⟩ => ⟨g1, by omega, fun m hm => by
      rcases List.mem_append.1 hm with hm | hm
      · exact g3 m hm
      · simp only [List.mem_singleton] at hm; subst hm; exact g2, g4, bandsG_snoc h0 h1 hr g5⟩
theorem bandsG_mono {k k' : Int} (h : k ≤ k') : ∀ {l : List Rel}, BandsG k l → BandsG k' l
  | [], _ => trivial
  | b :: l, ⟨g1, g2, g3, g4, g5⟩ => ⟨g1, by omega, g3, g4, bandsG_mono h g5⟩
structure VesG (v : Ves) : Prop where
  vol : 1 ≤ v.vol ∧ v.vol ≤ 50
  free : RgG 20000 v.free
  bound : RgG 50000 v.bound
  len : v.bands.length ≤ 2
  bands : BandsG 1100 v.bands
structure PipG (n : Int) (p : Pip) : Prop where
  a : 0 ≤ p.a ∧ p.a < n
  b : 0 ≤ p.b ∧ p.b < n
  ab : p.a ≠ p.b
  out : RgG 120000 p.out
  back : RgG 120000 p.back
structure PmpG (n : Int) (p : Pmp) : Prop where
  at' : 0 ≤ p.at' ∧ p.at' < n
  part : RgG 200000 p.part
structure InlG (n : Int) (p : Inl) : Prop where
  at' : 0 ≤ p.at' ∧ p.at' < n
  gas : RgG 30 p.gas
structure GtrG (n : Int) (p : Gtr) : Prop where
  at' : 0 ≤ p.at' ∧ p.at' < n
  part : RgG 300000 p.part
  room : RgG 9000 p.room
structure VacG (v : Vac) : Prop where
  n1 : 1 ≤ v.vessels.length
  n4 : v.vessels.length ≤ 4
  ves : ∀ x ∈ v.vessels, VesG x
  np : v.pipes.length ≤ 4
  pip : ∀ x ∈ v.pipes, PipG v.vessels.length x
  nm : v.pumps.length ≤ 2
  pmp : ∀ x ∈ v.pumps, PmpG v.vessels.length x
  nl : v.leaks.length ≤ 2
  inl : ∀ x ∈ v.leaks, InlG v.vessels.length x
  ng : v.getters.length ≤ 2
  gtr : ∀ x ∈ v.getters, GtrG v.vessels.length x
theorem rangeG (w m : Int) (h : 0 ≤ m) : RgG m (rangeR w 0 m) := by
  have := range_range w 0 m h
  exact ⟨this.1, this.2.1, this.2.2⟩
theorem zeroR (m : Int) (h : 0 ≤ m) : RgG m ⟨0, 0⟩ := ⟨Int.le_refl _, Int.le_refl _, h⟩
section
variable {H : Heap} {m u : Nat} {p : Nm} {jr : Bool} {j : Delta}
def jD (jr : Bool) (w : Int) (u : Nat) (j : Delta) : Delta := match jr with | true => ([0], some (.cells [.int .u64 w] true u)) :: j | false => j
@[go_sem] theorem jD_true (w : Int) (u : Nat) (j : Delta) : jD true w u j = ([0], some (.cells [.int .u64 w] true u)) :: j := rfl
@[go_sem] theorem jD_false (w : Int) (u : Nat) (j : Delta) : jD false w u j = j := rfl
theorem upto_d (n : Int) (K : Nat) (hd : isD u H) (hn : n ≤ 9223372036854775807) : acall cfg (K + 2) 25 [.ptr [0] 0, .int .i64 n] ⟨H, m, p, jr, j⟩ = .ret (.int .i64 (uptoN (dW H) n), ⟨hset H [0] (.cells [.int .u64 (nextW (dW H))] true u), m, p, jr, jD jr (nextW (dW H)) u j⟩) :=
  upto_call (dW H) n [0] u K ⟨H, m, p, jr, j⟩ (isD_get hd) hn
theorem one_d (n : Int) (K : Nat) (hd : isD u H) (hn : n ≤ 9223372036854775807) : acall cfg (K + 3) 44 [.ptr [0] 0, .int .i64 n] ⟨H, m, p, jr, j⟩ = .ret (.bool (oneB (dW H) n), ⟨hset H [0] (.cells [.int .u64 (nextW (dW H))] true u), m, p, jr, jD jr (nextW (dW H)) u j⟩) :=
  one_call (dW H) n [0] u K ⟨H, m, p, jr, j⟩ (isD_get hd) hn
theorem between_d (lo hi : Int) (K : Nat) (h1 : -1000000000000 ≤ lo) (h2 : lo ≤ hi) (h3 : hi ≤ 1000000000000) (hd : isD u H) : acall cfg (K + 3) 85 [.ptr [0] 0, .int .i64 lo, .int .i64 hi] ⟨H, m, p, jr, j⟩ = .ret (.int .i64 (betweenN (dW H) lo hi), ⟨hset H [0] (.cells [.int .u64 (nextW (dW H))] true u), m, p, jr, jD jr (nextW (dW H)) u j⟩) :=
  between_call (dW H) lo hi [0] u K ⟨H, m, p, jr, j⟩ (isD_get hd) h1 h2 h3
theorem range_d (lo hi : Int) (K : Nat) (h1 : -1000000000000 ≤ lo) (h2 : lo ≤ hi) (h3 : hi ≤ 1000000000000) (hd : isD u H) : acall cfg (K + 4) 87 [.ptr [0] 0, .int .i64 lo, .int .i64 hi] ⟨H, m, p, jr, j⟩ = .ret (rgV (rangeR (dW H) lo hi), ⟨hset H [0] (.cells [.int .u64 (nextW (nextW (dW H)))] true u), m, p, jr, jD jr (nextW (nextW (dW H))) u j⟩) :=
  range_call (dW H) lo hi [0] u K ⟨H, m, p, jr, j⟩ (isD_get hd) h1 h2 h3
theorem part_d (most : Int) (K : Nat) (h2 : 0 ≤ most) (h3 : most ≤ 1000000000000) (hd : isD u H) : acall cfg (K + 5) 88 [.ptr [0] 0, .int .i64 most] ⟨H, m, p, jr, j⟩ = .ret (rgV (rangeR (dW H) 0 most), ⟨hset H [0] (.cells [.int .u64 (nextW (nextW (dW H)))] true u), m, p, jr, jD jr (nextW (nextW (dW H))) u j⟩) :=
  part_call (dW H) most [0] u K ⟨H, m, p, jr, j⟩ (isD_get hd) h2 h3
end
end Go.Proofs.Ytgnpnfkncbnjnaa
