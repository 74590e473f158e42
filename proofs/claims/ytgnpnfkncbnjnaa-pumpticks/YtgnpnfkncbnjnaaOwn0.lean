/- The statement PumpTicks holds for every input, without further conditions. -/
import Derived.Test.YtgnpnfkncbnjnaaVaE
import Derived.Test.YtgnpnfkncbnjnaaAmF
import Derived.Test.YtgnpnfkncbnjnaaAmE
import Derived.Test.YtgnpnfkncbnjnaaVaH
import Derived.Test.YtgnpnfkncbnjnaaAmC
import Derived.Test.YtgnpnfkncbnjnaaRows
import Derived.ProofKit
set_option linter.unusedSimpArgs false
set_option linter.unusedVariables false
set_option maxRecDepth 100000
attribute [local go_sem_proc] Int.reduceEq Int.reduceNeg Nat.reduceEqDiff Nat.reduceLT Nat.reduceAdd Nat.reduceSub Nat.reduceMul Int.reduceLE Int.reduceLT Int.reduceToNat Nat.reduceLeDiff
attribute [local go_sem] Int.toNat_natCast Bool.not_true Bool.not_false
namespace Go.Proofs.Ytgnpnfkncbnjnaa
open Go Go.Am
attribute [local congr] tr_congr does_congr all_congr
attribute [local go_sem] Go.Am.frozen Go.Am.freezeG Go.Am.freezeGs Go.Am.minmax
theorem VacG.lens {v : Vac} (h : VacG v) (K : Nat) (hK : 10 < K) : v.Lens K :=
  ⟨⟨by have := h.n4; omega, by have := h.n4; omega⟩, ⟨by have := h.np; omega, by have := h.np; omega⟩, ⟨by have := h.nm; omega, by have := h.nm; omega⟩, ⟨by have := h.nl; omega, by have := h.nl; omega⟩, ⟨by have := h.ng; omega, by have := h.ng; omega⟩, fun x hx => by have := (h.ves x hx).len; omega⟩
theorem Vac.I.lens {v : Vac} (h : v.I) (K : Nat) (h1 : v.vessels.length < K) (h2 : v.pipes.length < K) (h3 : v.pumps.length < K) (h4 : v.leaks.length < K) (h5 : v.getters.length < K) : v.Lens K :=
  ⟨⟨h1, h.1.1⟩, ⟨h2, h.2.1.1⟩, ⟨h3, h.2.2.1.1⟩, ⟨h4, h.2.2.2.1.1⟩, ⟨h5, h.2.2.2.2.1⟩, fun x hx => (h.1.2 x hx).2.2.2.1⟩
end Go.Proofs.Ytgnpnfkncbnjnaa
namespace Go.Proofs.Ytgnpnfkncbnjnaa
open Go Go.Am
attribute [local congr] tr_congr does_congr all_congr
attribute [local go_sem] Go.Am.frozen Go.Am.freezeG Go.Am.freezeGs
def wideB (g : Gs) : Bool := decide (20 < g.free.length) || decide (20 < g.bound.length) || decide (20 < g.room.length)
theorem wide_call (g : Gs) (K : Nat) (s : St) : acall cfg (K + 1) 69 [gsV g] s = .ret (.bool (wideB g), s) := by
  refine call1 mget69 fget69 (by first | rfl | simp -implicitDefEqProofs only [redoH, redo1, go_sem]) (by first | rfl | simp -implicitDefEqProofs only [go_sem]) (by first | rfl | simp -implicitDefEqProofs only [redoH, redo1, go_sem]) ?_
  refine body_does rfl fun T hT' hA => ?_
  have a0 := hA 0 _ rfl
  have hT : T.length = 19 := hT'
  clear hA hT'
  have q1 : (20 : Int) < (g.free.length : Int) ↔ 20 < g.free.length := by omega
  have q2 : (20 : Int) < (g.bound.length : Int) ↔ 20 < g.bound.length := by omega
  have q3 : (20 : Int) < (g.room.length : Int) ↔ 20 < g.room.length := by omega
  unfold wideB
  by_cases o1 : 20 < g.free.length
  · simp -implicitDefEqProofs only [go_sem, a0, hT, q1, o1, Bool.true_or, Try.results69]
  · by_cases o2 : 20 < g.bound.length
    · simp -implicitDefEqProofs only [go_sem, a0, hT, q1, q2, o1, o2, Bool.true_or, Bool.or_true, Try.results69]
    · by_cases o3 : 20 < g.room.length
      · simp -implicitDefEqProofs only [go_sem, a0, hT, q1, q2, q3, o1, o2, o3, Bool.or_true, Try.results69]
      · simp -implicitDefEqProofs only [go_sem, a0, hT, q1, q2, q3, o1, o2, o3, Bool.or_false, Try.results69]
theorem tickE_len (v : Vac) (g : Gs) (s : Bk) : (tickE v g s).1.free.length ≤ 8 ∧ (tickE v g s).1.bound.length ≤ 8 ∧ (tickE v g s).1.room.length ≤ 8 := by
  unfold tickE
  split
  · rename_i h
    split
    · have hf := fits_tick (belongs_fits h) s
      have hv := valid_of (belongs_zero h).1
      have h1 := hf.f; have h2 := hf.b; have h3 := hf.r
      have := hv.n8; have := hv.g8
      exact ⟨by show (tickT v g s).free.length ≤ 8; omega, by show (tickT v g s).bound.length ≤ 8; omega, by show (tickT v g s).room.length ≤ 8; omega⟩
    · exact ⟨Nat.zero_le _, Nat.zero_le _, Nat.zero_le _⟩
  · exact ⟨Nat.zero_le _, Nat.zero_le _, Nat.zero_le _⟩
theorem app_e (f : FuncId) (l : List Rg) (hl : l.length ≤ 1000000) : (l = [] ∧ ∀ s, appendA (cfg.at f) true 50 50 .empty (.lst (l.map rgV)) s = .ret (.empty, s)) ∨ (l ≠ [] ∧ ∀ H n p j, appendA (cfg.at f) true 50 50 .empty (.lst (l.map rgV)) ⟨H, n, p, true, j⟩ = .ret (.own (p ++ [n]) (l.map rgV), ⟨(p ++ [n], .tok l.length 2) :: H, n + 1, p, true, (p ++ [n], some (.tok l.length 2)) :: j⟩)) := by
  by_cases e : l = []
  · exact .inl ⟨e, fun s => by subst e; unfold appendA; rw [show (cfg.at f).desc 50 = some (.slice 26) from desc50]; simp only; rw [show (cfg.at f).ty.get 26 = some ty26 from tget26]; rfl⟩
  · refine .inr ⟨e, fun H n p j => ?_⟩
    rw [append_empty (C := cfg.at f) (sT := 50) (e := 26) (i := ty26) desc50 tget26 rfl rfl rfl rfl (l2 := l.map rgV) (z := 2) rfl (z_rg l) (by rw [List.length_map, Nat.zero_add]; show l.length * 16 ≤ _; omega) (by simpa using e)]
    rw [List.length_map]
set_option maxHeartbeats 2000000 in
theorem ticks_walk (v : Vac) (g : Gs) (b : Bk) (nums : List Int) (K : Nat) (hK : 1000 < K) (hv : v.Lens K) (hgl : g.Lens) (hk2 : nums.length < K) (hn : Len nums) :
    (acall cfg (K + 320) 13 [vacV v, gsV g, bkV b, .lst (nums.map iV)] s0).Does fun x => x.1 = .bool true := by
  rw [call0 mget13 fget13]
  refine body_does rfl fun T hT' hA => ?_
  have a0 := hA 0 _ rfl
  have a1 := hA 1 _ rfl
  have a2 := hA 2 _ rfl
  have a3 := hA 3 _ rfl
  have hT : T.length = 141 := hT'
  clear hA hT'
  have hla := fun s => large_call v (K + 318) s (hv.more 318)
  have hwi := fun s => wide_call g (K + 318) s
  simp only [vacV] at hla
  simp only [gsV] at hwi
  have haw := fun s => awake_all (K + 19) s
  simp -implicitDefEqProofs only [go_sem, a0, a1, a2, hT, hla]
  cases hlb : largeB v with
  | true => simp -implicitDefEqProofs only [go_sem, hT, haw, Try.results13]
  | false =>
    cases hwb : wideB g with
    | true => simp -implicitDefEqProofs only [go_sem, hT, hwi, hwb, haw, Try.results13]
    | false =>
      by_cases hsh : (40 : Int) < (b.shut.length : Int)
      · simp -implicitDefEqProofs only [go_sem, hT, hwi, hwb, hsh, haw, Try.results13]
      · have hnd := fun s => newDice_call nums (K + 317) s (by omega) hn
        generalize newDice nums = w0 at *
        obtain ⟨own, w1, hg, hof⟩ := vacuumOf_call w0 [3] 0 (K + 309) ⟨[([3], .cells [.int .u64 w0] true 0), ([2], .cells [.int .i64 b.ticks, .int .i64 b.heat, .lst (b.shut.map iV), .bool b.flash] true 0), ([1], .cells [.lst (g.free.map rgV), .lst (g.bound.map rgV), .lst (g.room.map rgV), .int .i64 g.most, .bool g.flashed] true 0), ([0], .cells [.lst (v.vessels.map vesV), .lst (v.pipes.map pipV), .lst (v.pumps.map pmpV), .lst (v.leaks.map inlV), .lst (v.getters.map gtrV)] true 0)], 4, [], false, []⟩ rfl (by omega)
        simp only [vacV] at hof
        simp -implicitDefEqProofs only [go_sem, a3, hT, hwi, hwb, hsh, hnd, hof]
        obtain ⟨og, w2, hgg, hgo⟩ := gasOf_all own hg w1 0 (K + 309) (by omega)
        obtain ⟨og2, w3, hgg2, hgo2⟩ := gasOf_all own hg w2 0 (K + 309) (by omega)
        obtain ⟨ob, w4, hob, hso⟩ := stageOf_call own (by have := hg.np; omega) 9 (by decide) w3 0 (K + 309) (by have := hg.np; omega)
        have hb1 : ∀ s, buildSliceA (cfg.at 13) true 91 3 [(0, vacV v), (1, vacV own), (2, vacV own)] s = .ret (.lst ([v, own, own].map vacV), s) := fun s => by
          simp -implicitDefEqProofs only [go_sem, Go.Am.buildSliceA, List.map_cons, List.map_nil]
        have hb2 : ∀ s, buildSliceA (cfg.at 13) true 116 3 [(0, gsV g), (1, gsV og), (2, gsV og2)] s = .ret (.lst ([g, og, og2].map gsV), s) := fun s => by
          simp -implicitDefEqProofs only [go_sem, Go.Am.buildSliceA, List.map_cons, List.map_nil]
        have hb3 : ∀ s, buildSliceA (cfg.at 13) true 73 3 [(0, bkV b), (1, bkV ob), (2, bkV b)] s = .ret (.lst ([b, ob, b].map bkV), s) := fun s => by
          simp -implicitDefEqProofs only [go_sem, Go.Am.buildSliceA, List.map_cons, List.map_nil]
        simp only [vacV, gsV, bkV] at hgo hgo2 hso hb1 hb2 hb3
        try simp only [does_bind]
        refine draw_machX [[], [], [], [0, 1, 2], [], [], [], [5, 6], [], [], [8, 9, 7, 5, 6], [4, 10, 8, 9, 7, 5, 6], [], [], [], [13, 14, 10, 8, 9, 7, 5, 6], [], [12, 15, 13, 14, 10, 8, 9, 7, 5, 6, 16], [15, 13, 14, 10, 8, 9, 7, 5, 6, 3, 0, 1, 2], [11, 4, 18, 15, 13, 14, 10, 8, 9, 7, 5, 6, 3, 0, 1, 2], [17, 12, 16, 19, 11, 4, 18, 15, 13, 14, 10, 8, 9, 7, 5, 6, 3, 0, 1, 2]] [[], [], [], [], [], [], [], [[3]], [], [], [[3]], [], [], [], [], [[3]], [], [], [], [], []] (by kernel_rfl) rfl rfl ?_
        simp -implicitDefEqProofs only [go_sem, Nat.reduceEqDiff, Nat.reduceLT, Nat.reduceAdd, hget_redoH, lk_same, Option.getD_some, hT, hgo [3], hgo2 [3], hso [3], hb1, hb2, hb3, sameW_self]
        have hL : ∀ x ∈ [v, own, own], x.Lens K := by
          have h2 := hg.lens K (by omega)
          intro x hx
          rcases List.mem_cons.1 hx with rfl | hx
          · exact hv
          · rcases List.mem_cons.1 hx with rfl | hx
            · exact h2
            · rw [List.mem_singleton] at hx; rw [hx]; exact h2
        have hG : ∀ y ∈ [g, og, og2], y.free.length ≤ 20 ∧ y.bound.length ≤ 20 ∧ y.room.length ≤ 20 := by
          intro y hy
          rcases List.mem_cons.1 hy with rfl | hy
          · unfold wideB at hwb
            simp only [Bool.or_eq_false_iff, decide_eq_false_iff_not] at hwb
            omega
          · rcases List.mem_cons.1 hy with rfl | hy
            · have := hgg.fl; have := hgg.bl; have := hgg.rl; have := hg.n4; have := hg.ng; omega
            · rw [List.mem_singleton] at hy; rw [hy]
              have := hgg2.fl; have := hgg2.bl; have := hgg2.rl; have := hg.n4; have := hg.ng; omega
        have hB : ∀ z ∈ [b, ob, b], z.shut.length ≤ 40 := by
          intro z hz
          rcases List.mem_cons.1 hz with rfl | hz
          · omega
          · rcases List.mem_cons.1 hz with rfl | hz
            · have := hob.n; have := hg.np; omega
            · rw [List.mem_singleton] at hz; rw [hz]; omega
        have hl1 : [v, own, own].length = 3 := rfl
        have hl2 : [g, og, og2].length = 3 := rfl
        have hl3 : [b, ob, b].length = 3 := rfl
        generalize [v, own, own] = VS at *
        generalize [g, og, og2] = GS at *
        generalize [b, ob, b] = BS at *
        clear hof hgo hgo2 hso hb1 hb2 hb3 hnd hla hwi hg hgg hgg2 hob hlb hwb
        simp only [does_bind]
        refine xl_does (fun k T s' => T.length = 141 ∧ nth T 11 = some (.lst (VS.map vacV)) ∧ nth T 12 = some (.lst (GS.map gsV)) ∧ nth T 13 = some (.lst (BS.map bkV)) ∧ ∃ (i m : Nat) (H : Heap), nth T 14 = some (.int .i64 i) ∧ i ≤ 3 ∧ k = 3 - i ∧ s' = ⟨H, m + 5, [], false, []⟩) (k := 3) (by omega) ?_ ?_
        · exact ⟨by simp -implicitDefEqProofs only [go_sem, hT], by simp -implicitDefEqProofs only [go_sem, hT], by simp -implicitDefEqProofs only [go_sem, hT], by simp -implicitDefEqProofs only [go_sem, hT], 0, 1, _, by simp -implicitDefEqProofs only [go_sem, hT] <;> rfl, by omega, rfl, rfl⟩
        clear a0 a1 a2 a3 hT T w0 w1 w2 w3 w4
        rintro k T s' ⟨hT, a11, a12, a13, i, m, H, a14, hi, rfl, rfl⟩
        simp -implicitDefEqProofs only [go_sem, a11, a14, hT, hl1]
        by_cases hlo : (i : Int) < ((3 : Nat) : Int)
        · have hi1 : i < VS.length := by omega
          have hi2 : i < GS.length := by omega
          have hi3 : i < BS.length := by omega
          have e1 := elemAt_map (f := vacV) (l := VS) (i := i) (z := 5) hi1 rfl
          have e2 := elemAt_map (f := gsV) (l := GS) (i := i) (z := 5) hi2 rfl
          have e3 := elemAt_map (f := bkV) (l := BS) (i := i) (z := 4) hi3 rfl
          have hx := hL VS[i] (List.getElem_mem hi1)
          have hy := hG GS[i] (List.getElem_mem hi2)
          have hz := hB BS[i] (List.getElem_mem hi3)
          generalize VS[i] = x at *
          generalize GS[i] = y at *
          generalize BS[i] = z at *
          have hyl : y.Lens := ⟨by omega, by omega, by omega⟩
          have c1 := fun s => Tick_call x y z (K + 307) s (by omega) (hx.more 307) hyl (by omega) (by omega)
          have c2 := fun s => rTick_call x y z (K + 307) s (by omega) (hx.more 307) hyl (by omega) (by omega)
          have hP := tickE_len x y z
          generalize tickE x y z = P at *
          have c3 := fun s => sameGas_self P.1 (K + 317) s (by omega) (by omega) (by omega) (by omega)
          have c4 := fun s => sameGas_self y (K + 317) s (by omega) (by omega) (by omega) (by omega)
          simp only [vacV, gsV, bkV, gasP] at e1 e2 e3 c1 c2 c3 c4
          have nf : y.free.length ≤ 1000000 := by omega
          have nb : y.bound.length ≤ 1000000 := by omega
          have nr : y.room.length ≤ 1000000 := by omega
          simp -implicitDefEqProofs only [go_sem, hlo]
          simp only [does_bind]
          refine Tr.Does.mono (Q := fun x => ∃ (T' : List AV) (H' : Heap) (A0 A1 A2 : AV), x = (T', (⟨H', m + 6, [], false, []⟩ : St)) ∧ T'.length = 141 ∧ nth T' 11 = some (.lst (VS.map vacV)) ∧ nth T' 12 = some (.lst (GS.map gsV)) ∧ nth T' 13 = some (.lst (BS.map bkV)) ∧ nth T' 14 = some (.int .i64 i) ∧ nth T' 15 = some (.ptr [m + 5, 32, 0] 0) ∧ hget H' [m + 5, 32, 0] = some (.cells [A0, A1, A2, .int .i64 y.most, .bool y.flashed] true 0) ∧ A0.shut = .lst (y.free.map rgV) ∧ A1.shut = .lst (y.bound.map rgV) ∧ A2.shut = .lst (y.room.map rgV)) ?_ ?_
          · have bsl : ∀ s, buildSliceA (cfg.at 13) true 50 0 [] s = .ret (.empty, s) := fun s => by simp -implicitDefEqProofs only [go_sem, Go.Am.buildSliceA]
            rcases app_e 13 y.free nf with ⟨eF, cF⟩ | ⟨eF, cF⟩ <;> rcases app_e 13 y.bound nb with ⟨eB, cB⟩ | ⟨eB, cB⟩ <;> rcases app_e 13 y.room nr with ⟨eR, cR⟩ | ⟨eR, cR⟩
            all_goals
              clear c1 c2 c3 c4
              try simp only [does_bind]
              refine draw_machX [[], [], [], [1, 2], [3, 1, 2], [4, 3, 1, 2], [0, 5, 4, 3, 1, 2], [], [], [], [8, 9], [10, 8, 9], [11, 10, 8, 9], [7, 12, 11, 10, 8, 9, 6, 0, 5, 4, 3, 1, 2], [], [], [], [15, 16], [17, 15, 16], [18, 17, 15, 16], [14, 19, 18, 17, 15, 16, 13, 7, 12, 11, 10, 8, 9, 6, 0, 5, 4, 3, 1, 2], [], [], [21, 22], [23, 21, 22], [24, 23, 21, 22], [], [], [26, 27], [28, 26, 27], [29, 28, 26, 27], [20, 14, 19, 18, 17, 15, 16, 13, 7, 12, 11, 10, 8, 9, 6, 0, 5, 4, 3, 1, 2, 25, 24, 23, 21, 22, 30, 29, 28, 26, 27], [], [31, 20, 14, 19, 18, 17, 15, 16, 13, 7, 12, 11, 10, 8, 9, 6, 0, 5, 4, 3, 1, 2, 25, 24, 23, 21, 22, 30, 29, 28, 26, 27, 32]] [[], [], [], [], [], [], [], [], [], [], [], [], [], [], [], [], [], [], [], [], [], [], [], [], [], [], [], [], [], [], [], [], [], [[m + 5, 32, 0]]] (by kernel_rfl) rfl rfl ?_
              simp -implicitDefEqProofs only [go_sem, hget_redoH, lkn, lk_same, lk33k, Option.getD_some, Option.getD_none, a12, a14, hT, e2, bsl, cF, cB, cR, sameW_self]
              refine ⟨_, _, _, _, _, rfl, by simp -implicitDefEqProofs only [go_sem, hT], by simp -implicitDefEqProofs only [go_sem, a11], by simp -implicitDefEqProofs only [go_sem, a12], by simp -implicitDefEqProofs only [go_sem, a13], by simp -implicitDefEqProofs only [go_sem, a14], by simp -implicitDefEqProofs only [go_sem, hT], by rw [hget_redoH, lk_same]; rfl, by first | rfl | (rw [eF]; rfl), by first | rfl | (rw [eB]; rfl), by first | rfl | (rw [eR]; rfl)⟩
          clear a11 a12 a13 a14 hT T H nf nb nr
          rintro _ ⟨T, H, A0, A1, A2, rfl, hT, a11, a12, a13, a14, a15, g15, hA0, hA1, hA2⟩
          simp -implicitDefEqProofs only [go_sem]
          try simp only [does_bind]
          refine draw_machX [[], [], [0, 1], [2, 0, 1], [], [], [], [5, 6], [7, 5, 6], [3, 2, 0, 1, 4, 8, 7, 5, 6], [9, 3, 2, 0, 1, 4, 8, 7, 5, 6], [10, 9, 3, 2, 0, 1, 4, 8, 7, 5, 6], [10, 9, 3, 2, 0, 1, 4, 8, 7, 5, 6], [], [11, 10, 9, 3, 2, 0, 1, 4, 8, 7, 5, 6, 13], [12, 14, 11, 10, 9, 3, 2, 0, 1, 4, 8, 7, 5, 6, 13]] [[], [], [], [], [], [], [], [], [], [], [], [], [], [], [[m + 6, 13, 0]], []] (by kernel_rfl) rfl rfl ?_
          simp -implicitDefEqProofs only [go_sem, hget_redoH, lk_same, Option.getD_some, a11, a13, a14, a15, hT, e1, e3, g15, hA0, hA1, hA2, AV.shut, shuts, c1, sameW_self]
          try simp only [does_bind]
          refine draw_machX [[], [], [0, 1], [2, 0, 1], [], [], [4, 5], [6, 4, 5], [], [], [8, 9], [10, 8, 9], [3, 2, 0, 1, 7, 6, 4, 5, 11, 10, 8, 9], [12, 3, 2, 0, 1, 7, 6, 4, 5, 11, 10, 8, 9], [13, 12, 3, 2, 0, 1, 7, 6, 4, 5, 11, 10, 8, 9], [13, 12, 3, 2, 0, 1, 7, 6, 4, 5, 11, 10, 8, 9], [], [14, 13, 12, 3, 2, 0, 1, 7, 6, 4, 5, 11, 10, 8, 9, 16], [15, 17, 14, 13, 12, 3, 2, 0, 1, 7, 6, 4, 5, 11, 10, 8, 9, 16]] [[], [], [], [], [], [], [], [], [], [], [], [], [], [], [], [], [], [[m + 7, 16, 0]], []] (by kernel_rfl) rfl rfl ?_
          simp -implicitDefEqProofs only [go_sem, hget_redoH, lkn, lk_same, lk33k, Option.getD_some, Option.getD_none, a11, a12, a13, a14, hT, e1, e2, e3, AV.shut, shuts, c2, sameW_self]
          have nm1 : ∀ x r, lkD (([m + 6 + 1, 16, 0], x) :: r) [m + 6, 13, 0] = lkD r [m + 6, 13, 0] := fun x r => lk33 (by omega)
          have nm2 : ∀ x r, lkD (([m + 6 + 1, 16, 0], x) :: r) [m + 5, 32, 0] = lkD r [m + 5, 32, 0] := fun x r => lk33 (by omega)
          have nm3 : ∀ x r, lkD (([m + 6, 13, 0], x) :: r) [m + 5, 32, 0] = lkD r [m + 5, 32, 0] := fun x r => lk33 (by omega)
          have nm4 : ∀ x r, lkD (([m + 6, 13, 0], x) :: r) [m + 6 + 1, 16, 0] = lkD r [m + 6 + 1, 16, 0] := fun x r => lk33 (by omega)
          try simp only [does_bind]
          refine draw_machX [[], [], [0, 1], [2, 0, 1], [3, 2, 0, 1], [3, 2, 0, 1], [4, 5, 3, 2, 0, 1], [6, 4, 5, 3, 2, 0, 1], [7, 6, 4, 5, 3, 2, 0, 1], [8, 7, 6, 4, 5, 3, 2, 0, 1], [9, 8, 7, 6, 4, 5, 3, 2, 0, 1], [9, 8, 7, 6, 4, 5, 3, 2, 0, 1], [9, 8, 7, 6, 4, 5, 3, 2, 0, 1], [11, 12, 9, 8, 7, 6, 4, 5, 3, 2, 0, 1], [13, 11, 12, 9, 8, 7, 6, 4, 5, 3, 2, 0, 1], [10, 14, 13, 11, 12, 9, 8, 7, 6, 4, 5, 3, 2, 0, 1], [15, 10, 14, 13, 11, 12, 9, 8, 7, 6, 4, 5, 3, 2, 0, 1], [16, 15, 10, 14, 13, 11, 12, 9, 8, 7, 6, 4, 5, 3, 2, 0, 1]] [[], [], [], [], [], [], [], [], [], [], [], [], [], [], [], [], [], []] (by kernel_rfl) rfl rfl ?_
          simp -implicitDefEqProofs only [go_sem, hget_redoH, lkn, lk_same, Option.getD_some, Option.getD_none, a11, a12, a13, a14, a15, hT, e2, g15, hA0, hA1, hA2, AV.shut, shuts, c3, c4, nm1, nm2, nm3, nm4, sameW_self]
          have hi4 : i + 1 ≤ 3 := by omega
          have hkk : 3 - (i + 1) < 3 - i := by omega
          have hw1 : wrapF .i64 ((i : Int) + 1) = ((i + 1 : Nat) : Int) := wrap_i64 (by omega) (by omega)
          exact ⟨3 - (i + 1), hkk, trivial, trivial, trivial, trivial, i + 1, m + 4, _, by rw [hw1], hi4, rfl, rfl⟩
        · simp -implicitDefEqProofs only [go_sem, hT, hlo, haw, Try.results13]
theorem ticks_yes (L : List (List AV)) (hl : L.length = [39, 56, 42, 22].length) (hc : ∀ (i : Nat) t acs, [39, 56, 42, 22][i]? = some t → L[i]? = some acs → Content Try.prog 12 t acs) :
    ∃ K, Yes (acall cfg K 13 (([39, 56, 42, 22].zip L).map fun x => argOf Try.prog x.1 x.2) s0) := by
  match L, hl with
  | [c0, c1, c2, c3], _ =>
    obtain ⟨v, rfl, hI⟩ := arg_vac 5 c0 (hc 0 39 c0 rfl rfl)
    obtain ⟨g, rfl, hg⟩ := arg_gs 8 c1 (hc 1 56 c1 rfl rfl)
    obtain ⟨b, rfl, hb⟩ := arg_bk 9 c2 (hc 2 42 c2 rfl rfl)
    obtain ⟨nums, rfl, hn⟩ := arg_ints 10 c3 (hc 3 22 c3 rfl rfl)
    refine ⟨(1001 + v.vessels.length + v.pipes.length + v.pumps.length + v.leaks.length + v.getters.length + nums.length) + 320, ⟨?_⟩⟩
    exact (ticks_walk v g b nums _ (by omega) (hI.lens _ (by omega) (by omega) (by omega) (by omega) (by omega)) ⟨hg.1.1, hg.2.1.1, hg.2.2.1.1⟩ (by omega) hn.1).all
end Go.Proofs.Ytgnpnfkncbnjnaa
namespace Go.Proofs.Ytgnpnfkncbnjnaa
open Go Go.Am Go.ChangeShapes Go.WideShapes Go.ChangeAt Go.RowKit
set_option maxRecDepth 100000 in
theorem ticks_lifted (os : Os) (started : os.Started) (H : Type) (enc : TypeId × Value → H) :
    ReturnsInHanded {} Try.checked os 13 .any (Rows.pumpTicksSpec.pre6 enc Try.prog Try.f13 Rows.pumpTicksRow.domain false) (Rows.pumpTicksSpec.post enc Try.prog Try.f13 false true false false) := by
  refine returnsInHanded_of_change (C := Try.checked) Try.own started (by kernel_rfl) Try.func13
    (ChangeSpec.witness6 (enc := enc) (C := Try.checked) false ⟨#[], #[.agg #[.slice none 0 0, .slice none 0 0, .slice none 0 0, .slice none 0 0, .slice none 0 0], .agg #[.slice none 0 0, .slice none 0 0, .slice none 0 0, .int .i64 0, .bool false], .agg #[.int .i64 0, .int .i64 0, .slice none 0 0, .bool false], .slice none 0 0], []⟩ 8 (by kernel_rfl) (by kernel_rfl) (by kernel_rfl) (by kernel_rfl)) ?_
  intro W base args ds gs before hval0 hW hcnd _
  have hW' := hW
  obtain ⟨p, q, hA0, hV, rfl, hfz, hnd⟩ := hW
  have hA : DataW.TrodAll enc Try.prog W 0 (fun _ => true) true Try.f13.params.toList args.toList ds p := hA0
  rw [Try.params13] at hA
  obtain ⟨rfl, rfl⟩ := trodVars_none hV
  simp only [List.append_nil] at hW'
  have hlen : ds.length = 4 := trod_len _ _ _ _ hA
  have hsup : (([39, 56, 42, 22] : List TypeId).all fun t => suppB Try.prog 12 t) = true := by as_aux_lemma => kernel_rfl
  have hpar : (([39, 56, 42, 22] : List TypeId).all fun t => Try.prog.readableRec t && Nat.blt t Try.prog.types.size) = true := by as_aux_lemma => kernel_rfl
  refine (calls_of_args (d := 12) cfgOk codesOk hA (fun t ht => List.all_eq_true.1 hsup t ht) (fun j t v e1 e2 => hval0 j t v (by rw [Try.params13]; simpa using e1) (by simpa using e2)) fun L hl hc => ticks_yes L hl hc).mono fun e W' ⟨he, hb⟩ => ?_
  subst he
  exact ⟨_, rfl, law_post Try.laidOut (fun t ht => by rw [Try.params13] at ht; have := List.all_eq_true.1 hpar t ht; rw [Bool.and_eq_true, Nat.blt_eq] at this; exact this) rfl rfl Try.underlying4 hW' (by match ds, hlen with | [_, _, _, _], _ => rfl) hb⟩
set_option maxHeartbeats 4000000 in
theorem ticks_closed : joinedFacts Try.prog 13 Try.f13 Rows.pumpTicksSpec Rows.pumpTicksRow = true := by
  refine joined_of Try.laidOut Try.rowed Try.noStops Try.noKnobs Try.plain Try.heard Try.enters Try.lifts Try.makes (by as_aux_lemma => kernel_rfl) (by as_aux_lemma => kernel_rfl) (by as_aux_lemma => kernel_rfl) (by as_aux_lemma => kernel_rfl) (by as_aux_lemma => kernel_rfl)
    (by as_aux_lemma => kernel_rfl) (by as_aux_lemma => kernel_rfl) (by as_aux_lemma => kernel_rfl) (by as_aux_lemma => kernel_rfl) ?_
  kernel_rfl
theorem ticks_holds : Rows.PumpTicksSaid :=
  OpenClaim.holds_of_wide 13 Try.f13 rfl rfl rfl rfl rfl rfl rfl ⟨rfl, rfl, rfl, rfl, rfl⟩ rfl rfl rfl rfl rfl (by as_aux_lemma => kernel_rfl) Try.func13 ticks_closed
    (of_decide_eq_true (by as_aux_lemma => kernel_rfl)) (by as_aux_lemma => unfold Func.isWrapper; first | (rw [if_pos (by decide +kernel)]; kernel_rfl) | (rw [if_neg (by decide +kernel)]; exact ⟨rfl, rfl⟩))
    (fun os started H enc _ => ticks_lifted os started H enc)
end Go.Proofs.Ytgnpnfkncbnjnaa
