/- The statement PumpGas holds for every input, without further conditions. -/
import Derived.Test.YtgnpnfkncbnjnaaVaE
import Derived.Test.YtgnpnfkncbnjnaaAmF
import Derived.Test.YtgnpnfkncbnjnaaAmE
import Derived.Test.YtgnpnfkncbnjnaaVaF
import Derived.Test.YtgnpnfkncbnjnaaAmC
import Derived.Test.YtgnpnfkncbnjnaaRows
import Derived.ProofKit
set_option linter.unusedSimpArgs false
set_option linter.unusedVariables false
set_option maxRecDepth 100000
namespace Go.Proofs.Ytgnpnfkncbnjnaa
open Go Go.Am
attribute [local congr] tr_congr does_congr all_congr
attribute [local go_sem] Go.Am.frozen Go.Am.freezeG Go.Am.freezeGs Go.Am.minmax
theorem VacG.lens {v : Vac} (h : VacG v) (K : Nat) (hK : 10 < K) : v.Lens K :=
  ⟨⟨by have := h.n4; omega, by have := h.n4; omega⟩, ⟨by have := h.np; omega, by have := h.np; omega⟩, ⟨by have := h.nm; omega, by have := h.nm; omega⟩, ⟨by have := h.nl; omega, by have := h.nl; omega⟩, ⟨by have := h.ng; omega, by have := h.ng; omega⟩, fun x hx => by have := (h.ves x hx).len; omega⟩
theorem Vac.I.lens {v : Vac} (h : v.I) (K : Nat) (h1 : v.vessels.length < K) (h2 : v.pipes.length < K) (h3 : v.pumps.length < K) (h4 : v.leaks.length < K) (h5 : v.getters.length < K) : v.Lens K :=
  ⟨⟨h1, h.1.1⟩, ⟨h2, h.2.1.1⟩, ⟨h3, h.2.2.1.1⟩, ⟨h4, h.2.2.2.1.1⟩, ⟨h5, h.2.2.2.2.1⟩, fun x hx => (h.1.2 x hx).2.2.2.1⟩
theorem beginG_len (v : Vac) : (beginG v).free.length = v.vessels.length ∧ (beginG v).bound.length = v.vessels.length ∧ (beginG v).room.length = v.getters.length := by
  simp [beginG]
theorem checks_walk (v : Vac) (b : Bk) (nums : List Int) (K : Nat) (hK : 1000 < K) (hv : v.Lens K) (hb : Len b.shut) (hk2 : nums.length < K) (hn : Len nums) :
    (acall cfg (K + 320) 9 [vacV v, bkV b, .lst (nums.map iV)] s0).Does fun x => x.1 = .bool true := by
  rw [call0 mget9 fget9]
  refine body_does rfl fun T hT' hA => ?_
  have a0 := hA 0 _ rfl
  have a1 := hA 1 _ rfl
  have a2 := hA 2 _ rfl
  have hT : T.length = 87 := hT'
  clear hA hT'
  have hla := fun s => large_call v (K + 318) s (hv.more 318)
  simp only [vacV] at hla
  have haw := fun s => awake_all (K + 19) s
  simp -implicitDefEqProofs only [go_sem, Nat.reduceEqDiff, Nat.reduceLT, Nat.reduceAdd, a0, a1, hT, hla]
  cases hlb : largeB v with
  | true => simp -implicitDefEqProofs only [go_sem, Nat.reduceLT, hT, haw, Try.results9]
  | false =>
    by_cases hsh : (40 : Int) < (b.shut.length : Int)
    · simp -implicitDefEqProofs only [go_sem, Nat.reduceLT, hT, hsh, haw, Try.results9]
    · simp -implicitDefEqProofs only [go_sem, Nat.reduceLT, hT, hsh]
      have hnd := fun s => newDice_call nums (K + 317) s (by omega) hn
      generalize newDice nums = w0 at *
      obtain ⟨own, w1, hg, hof⟩ := vacuumOf_call w0 [2, 2, 0] 0 (K + 309) ⟨redoH [([1], .cells [.int .i64 b.ticks, .int .i64 b.heat, .lst (b.shut.map iV), .bool b.flash] true 0), ([0], .cells [.lst (v.vessels.map vesV), .lst (v.pipes.map pipV), .lst (v.pumps.map pmpV), .lst (v.leaks.map inlV), .lst (v.getters.map gtrV)] true 0)] [([2, 2, 0], some (.cells [.int .u64 w0] true 0))], 0, [2, 3], true, []⟩ (by rw [hget_redoH, lk_same]; rfl) (by omega)
      have hbs : ∀ s, buildSliceA (cfg.at 9) true 91 2 [(0, vacV v), (1, vacV own)] s = .ret (.lst ([v, own].map vacV), s) := fun s => by
        simp -implicitDefEqProofs only [go_sem, Nat.reduceAdd, Nat.reduceMul, Go.Am.buildSliceA, List.map_cons, List.map_nil]
      simp only [vacV] at hof hbs
      try simp only [does_bind]
      refine draw_machX [[], [], [1], [2, 1], [0, 3, 2, 1], [4, 0, 3, 2, 1]] [[], [], [], [[2, 2, 0]], [], []] (by kernel_rfl) rfl rfl ?_
      simp -implicitDefEqProofs only [go_sem, Nat.reduceEqDiff, Nat.reduceLT, Nat.reduceAdd, Option.getD_some, a2, hT, hnd, hof, hbs, sameW_self]
      have hL : ∀ x ∈ [v, own], x.Lens K := by
        intro x hx
        rcases List.mem_cons.1 hx with rfl | hx
        · exact hv
        · rw [List.mem_singleton] at hx; rw [hx]; exact hg.lens K (by omega)
      have hl2 : [v, own].length = 2 := rfl
      generalize [v, own] = L at *
      clear hof hbs hnd hla hg
      simp only [does_bind]
      refine xl_does (fun k T s' => T.length = 87 ∧ nth T 4 = some (.ptr [1] 0) ∧ nth T 7 = some (.lst (L.map vacV)) ∧ ∃ (i n : Nat) (H : Heap), nth T 8 = some (.int .i64 i) ∧ i ≤ 2 ∧ k = 2 - i ∧ s' = ⟨H, n + 2, [], false, []⟩ ∧ hget H [1] = some (.cells [.int .i64 b.ticks, .int .i64 b.heat, .lst (b.shut.map iV), .bool b.flash] true 0)) (k := 2) (by omega) ?_ ?_
      · exact ⟨by simp -implicitDefEqProofs only [go_sem, hT], by simp -implicitDefEqProofs only [go_sem, Nat.reduceEqDiff, Nat.reduceLT, hT], by simp -implicitDefEqProofs only [go_sem, Nat.reduceEqDiff, Nat.reduceLT, hT], 0, 1, _, by simp -implicitDefEqProofs only [go_sem, Nat.reduceLT, hT] <;> rfl, by omega, rfl, rfl, by rw [hget_redoH, lk31, lk31]; rfl⟩
      clear a0 a1 a2 hT T
      rintro k T s' ⟨hT, a4, a7, i, n, H, a8, hi, rfl, rfl, g1⟩
      simp -implicitDefEqProofs only [go_sem, Nat.reduceEqDiff, Nat.reduceLT, a7, a8, hT, hl2]
      by_cases hlo : (i : Int) < ((2 : Nat) : Int)
      · have hi' : i < L.length := by omega
        have hel := elemAt_map (f := vacV) (l := L) (i := i) (z := 5) hi' rfl
        have hx := hL L[i] (List.getElem_mem hi')
        generalize L[i] = x at *
        have c1 := fun s => begin_call x (K + 309) s (by omega) (hx.more 309)
        have c2 := fun s => rbegin_call x (K + 313) s (by omega) (hx.more 313)
        have hGl : (if checkE x = 0 then beginG x else zeroG).free.length < K + 317 ∧ (if checkE x = 0 then beginG x else zeroG).bound.length < K + 317 ∧ (if checkE x = 0 then beginG x else zeroG).room.length < K + 317 := by
          obtain ⟨l1, l2, l3⟩ := beginG_len x
          have := hx.ves.1
          have := hx.gtr.1
          split
          · omega
          · refine ⟨?_, ?_, ?_⟩ <;> show 0 < _ <;> omega
        have hGl2 : (if checkE x = 0 then beginG x else zeroG).free.length ≤ 9223372036854775807 ∧ (if checkE x = 0 then beginG x else zeroG).bound.length ≤ 9223372036854775807 ∧ (if checkE x = 0 then beginG x else zeroG).room.length ≤ 9223372036854775807 := by
          obtain ⟨l1, l2, l3⟩ := beginG_len x
          have := hx.ves.2
          have := hx.gtr.2
          split
          · omega
          · refine ⟨?_, ?_, ?_⟩ <;> show 0 ≤ _ <;> omega
        simp only [gasE] at c1 c2
        generalize (if checkE x = 0 then beginG x else zeroG) = G at *
        have c3 := fun s => check_call x (K + 310) s (by omega) (hx.more 310)
        have c4 := fun s => rcheck_call x (K + 315) s (by omega) (hx.more 315)
        have c5 := fun s => sameGas_self G (K + 317) s hGl hGl2.1 hGl2.2.1 hGl2.2.2
        have c6 := fun s => cstage_call x b (K + 309) s (by omega) (hx.more 309) (by omega) (by omega)
        have c7 := fun s => rcheckStage_call x b (K + 314) s (by omega) (hx.more 314) (by omega) (by omega)
        simp only [vacV, bkV, gsV] at hel c1 c2 c3 c4 c5 c6 c7
        simp -implicitDefEqProofs only [go_sem, Nat.reduceEqDiff, Nat.reduceLT, Nat.reduceAdd, a7, a8, hT, hlo, hel, c1, c2]
        have q1 : ∀ X Y, hget (([n + 3], X) :: ([n + 2], Y) :: H) [1] = hget H [1] := fun X Y => by rw [hc11 (by omega), hc11 (by omega)]
        have hne : (n + 1 = n) = False := by simp
        have hkk : 2 - (i + 1) < 2 - i := by omega
        have hi2 : i + 1 ≤ 2 := by omega
        have hw1 : wrapF .i64 ((i : Int) + 1) = ((i + 1 : Nat) : Int) := wrap_i64 (by omega) (by omega)
        simp only [does_bind]
        refine draw_mach [] [] (by kernel_rfl) ?_
        simp -implicitDefEqProofs only [go_sem, Nat.reduceEqDiff, Nat.reduceLT, Nat.reduceAdd, Bool.not_true, a4, a7, a8, hT, hel, c3, c4, c5, c6, c7, g1, q1, hne, hw1]
        exact ⟨2 - (i + 1), hkk, trivial, trivial, trivial, i + 1, n + 3, _, rfl, hi2, rfl, rfl, by rw [hget_redoH, lkn, Option.getD_none, q1]; exact g1⟩
      · simp -implicitDefEqProofs only [go_sem, Nat.reduceLT, hT, hlo, haw, Try.results9]
theorem checks_yes (L : List (List AV)) (hl : L.length = [39, 42, 22].length) (hc : ∀ (i : Nat) t acs, [39, 42, 22][i]? = some t → L[i]? = some acs → Content Try.prog 12 t acs) :
    ∃ K, Yes (acall cfg K 9 (([39, 42, 22].zip L).map fun x => argOf Try.prog x.1 x.2) s0) := by
  match L, hl with
  | [c0, c1, c2], _ =>
    obtain ⟨v, rfl, hI⟩ := arg_vac 5 c0 (hc 0 39 c0 rfl rfl)
    obtain ⟨b, rfl, hb⟩ := arg_bk 9 c1 (hc 1 42 c1 rfl rfl)
    obtain ⟨nums, rfl, hn⟩ := arg_ints 10 c2 (hc 2 22 c2 rfl rfl)
    refine ⟨(1001 + v.vessels.length + v.pipes.length + v.pumps.length + v.leaks.length + v.getters.length + nums.length) + 320, ⟨?_⟩⟩
    exact (checks_walk v b nums _ (by omega) (hI.lens _ (by omega) (by omega) (by omega) (by omega) (by omega)) hb.2.2.1 (by omega) hn.1).all
end Go.Proofs.Ytgnpnfkncbnjnaa
namespace Go.Proofs.Ytgnpnfkncbnjnaa
open Go Go.Am
attribute [local congr] tr_congr does_congr all_congr
attribute [local go_sem] Go.Am.frozen Go.Am.freezeG Go.Am.freezeGs Go.Am.minmax
def wideB (g : Gs) : Bool := decide (20 < g.free.length) || decide (20 < g.bound.length) || decide (20 < g.room.length)
theorem wide_call (g : Gs) (K : Nat) (s : St) : acall cfg (K + 1) 69 [gsV g] s = .ret (.bool (wideB g), s) := by
  refine call1 mget69 fget69 (by first | rfl | simp -implicitDefEqProofs only [redoH, redo1, go_sem, Int.reduceEq, Int.reduceNeg, Nat.reduceEqDiff, Nat.reduceLT, Nat.reduceAdd, Nat.reduceSub, Nat.reduceMul, Int.reduceLE, Int.reduceLT, Int.reduceToNat, Int.toNat_natCast, Nat.reduceLeDiff, Bool.not_true, Bool.not_false]) (by first | rfl | simp -implicitDefEqProofs only [go_sem]) (by first | rfl | simp -implicitDefEqProofs only [redoH, redo1, go_sem, Int.reduceEq, Int.reduceNeg, Nat.reduceEqDiff, Nat.reduceLT, Nat.reduceAdd, Nat.reduceSub, Nat.reduceMul, Int.reduceLE, Int.reduceLT, Int.reduceToNat, Int.toNat_natCast, Nat.reduceLeDiff, Bool.not_true, Bool.not_false]) ?_
  refine body_does rfl fun T hT' hA => ?_
  have a0 := hA 0 _ rfl
  have hT : T.length = 19 := hT'
  clear hA hT'
  have q1 : (20 : Int) < (g.free.length : Int) ↔ 20 < g.free.length := by omega
  have q2 : (20 : Int) < (g.bound.length : Int) ↔ 20 < g.bound.length := by omega
  have q3 : (20 : Int) < (g.room.length : Int) ↔ 20 < g.room.length := by omega
  unfold wideB
  by_cases o1 : 20 < g.free.length
  · simp -implicitDefEqProofs only [go_sem, Nat.reduceEqDiff, Nat.reduceLT, a0, hT, q1, o1, Bool.true_or, Try.results69]
  · by_cases o2 : 20 < g.bound.length
    · simp -implicitDefEqProofs only [go_sem, Nat.reduceEqDiff, Nat.reduceLT, a0, hT, q1, q2, o1, o2, Bool.true_or, Bool.or_true, Try.results69]
    · by_cases o3 : 20 < g.room.length
      · simp -implicitDefEqProofs only [go_sem, Nat.reduceEqDiff, Nat.reduceLT, a0, hT, q1, q2, q3, o1, o2, o3, Bool.or_true, Try.results69]
      · simp -implicitDefEqProofs only [go_sem, Nat.reduceEqDiff, Nat.reduceLT, a0, hT, q1, q2, q3, o1, o2, o3, Bool.or_false, Try.results69]
theorem gas_walk (v : Vac) (g : Gs) (vessel limit : Int) (nums : List Int) (K : Nat) (hK : 1000 < K) (hv : v.Lens K) (hgl : g.Lens) (hk2 : nums.length < K) (hn : Len nums) :
    (acall cfg (K + 320) 15 [vacV v, gsV g, iV vessel, iV limit, .lst (nums.map iV)] s0).Does fun x => x.1 = .bool true := by
  rw [call0 mget15 fget15]
  refine body_does rfl fun T hT' hA => ?_
  have a0 := hA 0 _ rfl
  have a1 := hA 1 _ rfl
  have a2 := hA 2 _ rfl
  have a3 := hA 3 _ rfl
  have a4 := hA 4 _ rfl
  have hT : T.length = 171 := hT'
  clear hA hT'
  have hla := fun s => large_call v (K + 318) s (hv.more 318)
  have hwi := fun s => wide_call g (K + 318) s
  simp only [vacV] at hla
  simp only [gsV] at hwi
  have haw := fun s => awake_all (K + 19) s
  simp -implicitDefEqProofs only [go_sem, Nat.reduceEqDiff, Nat.reduceLT, Nat.reduceAdd, a0, a1, hT, hla]
  cases hlb : largeB v with
  | true => simp -implicitDefEqProofs only [go_sem, Nat.reduceLT, hT, haw, Try.results15]
  | false =>
    cases hwb : wideB g with
    | true => simp -implicitDefEqProofs only [go_sem, Nat.reduceEqDiff, Nat.reduceLT, hT, hwi, hwb, haw, Try.results15]
    | false =>
      have hnd := fun s => newDice_call nums (K + 317) s (by omega) hn
      generalize newDice nums = w0 at *
      obtain ⟨own, w1, hg, hof⟩ := vacuumOf_call w0 [2] 0 (K + 309) ⟨[([2], .cells [.int .u64 w0] true 0), ([1], .cells [.lst (g.free.map rgV), .lst (g.bound.map rgV), .lst (g.room.map rgV), .int .i64 g.most, .bool g.flashed] true 0), ([0], .cells [.lst (v.vessels.map vesV), .lst (v.pipes.map pipV), .lst (v.pumps.map pmpV), .lst (v.leaks.map inlV), .lst (v.getters.map gtrV)] true 0)], 3, [], false, []⟩ rfl (by omega)
      simp only [vacV] at hof
      simp -implicitDefEqProofs only [go_sem, Nat.reduceEqDiff, Nat.reduceLT, Nat.reduceAdd, a4, hT, hwi, hwb, hnd, hof]
      obtain ⟨og, w2, hgg, hgo⟩ := gasOf_call own hg w1 [2] 0 (K + 309) ⟨[([3], .cells [.lst (own.vessels.map vesV), .lst (own.pipes.map pipV), .lst (own.pumps.map pmpV), .lst (own.leaks.map inlV), .lst (own.getters.map gtrV)] true 0), ([2], .cells [.int .u64 w1] true 0), ([1], .cells [.lst (g.free.map rgV), .lst (g.bound.map rgV), .lst (g.room.map rgV), .int .i64 g.most, .bool g.flashed] true 0), ([0], .cells [.lst (v.vessels.map vesV), .lst (v.pipes.map pipV), .lst (v.pumps.map pmpV), .lst (v.leaks.map inlV), .lst (v.getters.map gtrV)] true 0)], 0, [4, 7], true, []⟩ rfl (by omega)
      have hb1 : ∀ s, buildSliceA (cfg.at 15) true 91 3 [(0, vacV v), (1, vacV own), (2, vacV own)] s = .ret (.lst ([v, own, own].map vacV), s) := fun s => by
        simp -implicitDefEqProofs only [go_sem, Nat.reduceAdd, Nat.reduceMul, Go.Am.buildSliceA, List.map_cons, List.map_nil]
      have hb2 : ∀ s, buildSliceA (cfg.at 15) true 116 3 [(0, gsV g), (1, gsV og), (2, gsV g)] s = .ret (.lst ([g, og, g].map gsV), s) := fun s => by
        simp -implicitDefEqProofs only [go_sem, Nat.reduceAdd, Nat.reduceMul, Go.Am.buildSliceA, List.map_cons, List.map_nil]
      simp only [vacV, gsV] at hgo hb1 hb2
      try simp only [does_bind]
      refine draw_machX [[], [], [], [0, 1, 2], [], [], [], [5, 6], [], [4, 7, 5, 6, 8], [7, 5, 6, 3, 0, 1, 2], [9, 4, 8, 10, 7, 5, 6, 3, 0, 1, 2]] [[], [], [], [], [], [], [], [[2]], [], [], [], []] (by kernel_rfl) rfl rfl ?_
      simp -implicitDefEqProofs only [go_sem, Nat.reduceEqDiff, Nat.reduceLT, Nat.reduceAdd, Option.getD_some, hT, hgo, hb1, hb2, sameW_self]
      have hL : ∀ x ∈ [v, own, own], x.Lens K := by
        have h2 := hg.lens K (by omega)
        intro x hx
        rcases List.mem_cons.1 hx with rfl | hx
        · exact hv
        · rcases List.mem_cons.1 hx with rfl | hx
          · exact h2
          · rw [List.mem_singleton] at hx; rw [hx]; exact h2
      have hG : ∀ y ∈ [g, og, g], y.Lens := by
        have h2 : og.Lens := ⟨by rw [hgg.fl]; have := hg.n4; omega, by rw [hgg.bl]; have := hg.n4; omega, by rw [hgg.rl]; have := hg.ng; omega⟩
        intro y hy
        rcases List.mem_cons.1 hy with rfl | hy
        · exact hgl
        · rcases List.mem_cons.1 hy with rfl | hy
          · exact h2
          · rw [List.mem_singleton] at hy; rw [hy]; exact hgl
      have hl1 : [v, own, own].length = 3 := rfl
      have hl2 : [g, og, g].length = 3 := rfl
      generalize [v, own, own] = VS at *
      generalize [g, og, g] = GS at *
      clear hof hgo hb1 hb2 hnd hla hwi hg hgg hlb hwb
      simp only [does_bind]
      refine xl_does (fun k T s' => T.length = 171 ∧ nth T 2 = some (.int .i64 vessel) ∧ nth T 3 = some (.int .i64 limit) ∧ nth T 11 = some (.ptr [2] 0) ∧ nth T 13 = some (.lst (VS.map vacV)) ∧ nth T 14 = some (.lst (GS.map gsV)) ∧ ∃ (i m : Nat) (H : Heap) (w : Int), nth T 15 = some (.int .i64 i) ∧ i ≤ 3 ∧ k = 3 - i ∧ s' = ⟨H, m + 3, [], false, []⟩ ∧ hget H [2] = some (.cells [.int .u64 w] true 0)) (k := 3) (by omega) ?_ ?_
      · exact ⟨by simp -implicitDefEqProofs only [go_sem, hT], by simp -implicitDefEqProofs only [go_sem, Nat.reduceEqDiff, a2], by simp -implicitDefEqProofs only [go_sem, Nat.reduceEqDiff, a3], by simp -implicitDefEqProofs only [go_sem, Nat.reduceEqDiff, Nat.reduceLT, hT], by simp -implicitDefEqProofs only [go_sem, Nat.reduceEqDiff, Nat.reduceLT, hT], by simp -implicitDefEqProofs only [go_sem, Nat.reduceEqDiff, Nat.reduceLT, hT], 0, 2, _, w2, by simp -implicitDefEqProofs only [go_sem, Nat.reduceLT, hT] <;> rfl, by omega, rfl, rfl, by simp (disch := omega) only [hget_cons_same, hc11, hget_redoH, lk_same, Option.getD_some] <;> rfl⟩
      clear a0 a1 a2 a3 a4 hT T w2 w1 w0
      rintro k T s' ⟨hT, a2, a3, a11, a13, a14, i, m, H, w, a15, hi, rfl, rfl, g2⟩
      simp -implicitDefEqProofs only [go_sem, Nat.reduceEqDiff, Nat.reduceLT, a13, a15, hT, hl1]
      by_cases hlo : (i : Int) < ((3 : Nat) : Int)
      · have hi1 : i < VS.length := by omega
        have hi2 : i < GS.length := by omega
        have e1 := elemAt_map (f := vacV) (l := VS) (i := i) (z := 5) hi1 rfl
        have e2 := elemAt_map (f := gsV) (l := GS) (i := i) (z := 5) hi2 rfl
        have hx := hL VS[i] (List.getElem_mem hi1)
        have hy := hG GS[i] (List.getElem_mem hi2)
        generalize VS[i] = x at *
        generalize GS[i] = y at *
        have c1 := fun s => Pressure_call x y vessel (K + 307) s (by omega) (hx.more 307) hy
        have c2 := fun s => rPressure_call x y vessel (K + 307) s (by omega) (hx.more 307) hy
        have c3 := fun s => belongs_call x y (K + 308) s (by omega) (hx.more 308) hy
        have c4 := fun s => rbelongs_call x y (K + 308) s (by omega) (hx.more 308) hy
        have c5 := fun lim s => Seal_call x y vessel lim (K + 306) s (by omega) (hx.more 306) hy
        have c6 := fun lim s => rSeal_call x y vessel lim (K + 306) s (by omega) (hx.more 306) hy
        generalize pressE x y vessel = P at *
        generalize belongsE x y = E at *
        have eqr := eq_rg (C := cfg.at 15) P.1 P.1 rfl
        simp only [vacV, gsV, pressV, sealV, rgV] at e1 e2 c1 c2 c3 c4 c5 c6
        have nm1 : ∀ x r, lkD (([m + 3 + 1, 13, 0], x) :: r) [m + 3, 13, 0] = lkD r [m + 3, 13, 0] := fun x r => lk33 (by omega)
        have nm2 : ∀ x r, lkD (([m + 3, 13, 0], x) :: r) [m + 3 + 1, 13, 0] = lkD r [m + 3 + 1, 13, 0] := fun x r => lk33 (by omega)
        have k1 : ∀ X, hget (([m + 3, 13, 0], X) :: H) [2] = hget H [2] := fun X => hc31
        simp -implicitDefEqProofs only [go_sem, hlo]
        try simp only [does_bind]
        refine draw_machX [[], [], [0, 1], [2, 0, 1], [], [], [4, 5], [6, 4, 5], [], [3, 2, 0, 1, 7, 6, 4, 5, 8], [9, 3, 2, 0, 1, 7, 6, 4, 5, 8], [10, 9, 3, 2, 0, 1, 7, 6, 4, 5, 8], [10, 9, 3, 2, 0, 1, 7, 6, 4, 5, 8], [], [11, 10, 9, 3, 2, 0, 1, 7, 6, 4, 5, 8, 13], [12, 14, 11, 10, 9, 3, 2, 0, 1, 7, 6, 4, 5, 8, 13]] [[], [], [], [], [], [], [], [], [], [], [], [], [], [], [[m + 3, 13, 0]], []] (by kernel_rfl) rfl rfl ?_
        simp -implicitDefEqProofs only [go_sem, Nat.reduceEqDiff, Nat.reduceLT, Nat.reduceAdd, hget_redoH, lk_same, Option.getD_some, a2, a13, a14, a15, hT, e1, e2, c1, sameW_self]
        try simp only [does_bind]
        refine draw_machX [[], [], [0, 1], [2, 0, 1], [], [], [4, 5], [6, 4, 5], [], [3, 2, 0, 1, 7, 6, 4, 5, 8], [9, 3, 2, 0, 1, 7, 6, 4, 5, 8], [10, 9, 3, 2, 0, 1, 7, 6, 4, 5, 8], [10, 9, 3, 2, 0, 1, 7, 6, 4, 5, 8], [], [11, 10, 9, 3, 2, 0, 1, 7, 6, 4, 5, 8, 13], [12, 14, 11, 10, 9, 3, 2, 0, 1, 7, 6, 4, 5, 8, 13]] [[], [], [], [], [], [], [], [], [], [], [], [], [], [], [[m + 4, 13, 0]], []] (by kernel_rfl) rfl rfl ?_
        simp -implicitDefEqProofs only [go_sem, Nat.reduceEqDiff, Nat.reduceLT, Nat.reduceAdd, hget_redoH, lk_same, Option.getD_some, a2, a13, a14, a15, hT, e1, e2, c2, sameW_self]
        try simp only [does_bind]
        refine draw_machX [[], [], [0, 1], [2, 0, 1], [], [], [4, 5], [6, 4, 5], [3, 2, 0, 1, 7, 6, 4, 5], [], [], [9, 10], [11, 9, 10], [], [], [13, 14], [15, 13, 14], [12, 11, 9, 10, 16, 15, 13, 14, 8, 3, 2, 0, 1, 7, 6, 4, 5], [17, 12, 11, 9, 10, 16, 15, 13, 14, 8, 3, 2, 0, 1, 7, 6, 4, 5], [18, 17, 12, 11, 9, 10, 16, 15, 13, 14, 8, 3, 2, 0, 1, 7, 6, 4, 5], [19, 18, 17, 12, 11, 9, 10, 16, 15, 13, 14, 8, 3, 2, 0, 1, 7, 6, 4, 5], [19, 18, 17, 12, 11, 9, 10, 16, 15, 13, 14, 8, 3, 2, 0, 1, 7, 6, 4, 5], [20, 21, 19, 18, 17, 12, 11, 9, 10, 16, 15, 13, 14, 8, 3, 2, 0, 1, 7, 6, 4, 5], [22, 20, 21, 19, 18, 17, 12, 11, 9, 10, 16, 15, 13, 14, 8, 3, 2, 0, 1, 7, 6, 4, 5], [23, 22, 20, 21, 19, 18, 17, 12, 11, 9, 10, 16, 15, 13, 14, 8, 3, 2, 0, 1, 7, 6, 4, 5], [24, 23, 22, 20, 21, 19, 18, 17, 12, 11, 9, 10, 16, 15, 13, 14, 8, 3, 2, 0, 1, 7, 6, 4, 5], [24, 23, 22, 20, 21, 19, 18, 17, 12, 11, 9, 10, 16, 15, 13, 14, 8, 3, 2, 0, 1, 7, 6, 4, 5], [25, 26, 24, 23, 22, 20, 21, 19, 18, 17, 12, 11, 9, 10, 16, 15, 13, 14, 8, 3, 2, 0, 1, 7, 6, 4, 5], [27, 25, 26, 24, 23, 22, 20, 21, 19, 18, 17, 12, 11, 9, 10, 16, 15, 13, 14, 8, 3, 2, 0, 1, 7, 6, 4, 5]] [[], [], [], [], [], [], [], [], [], [], [], [], [], [], [], [], [], [], [], [], [], [], [], [], [], [], [], [], []] (by kernel_rfl) rfl rfl ?_
        simp -implicitDefEqProofs only [go_sem, Nat.reduceEqDiff, Nat.reduceLT, Nat.reduceAdd, Bool.not_true, hget_redoH, lkn, lk_same, Option.getD_some, Option.getD_none, a13, a14, a15, hT, e1, e2, c3, c4, eqr, nm1, nm2, sameW_self]
        have hut := fun (s : St) (hb : hget s.H [2] = some (.cells [.int .u64 w] true 0)) => upto_call w 1000000 [2] 0 (K + 317) s hb (by decide)
        generalize uptoN w 1000000 = q at *
        generalize nextW w = w2 at *
        have hbs : ∀ (a b c d e f : Int) s, buildSliceA (cfg.at 15) true 22 6 [(0, .int .i64 a), (1, .int .i64 b), (2, .int .i64 c), (3, .int .i64 d), (4, .int .i64 e), (5, .int .i64 f)] s = .ret (.lst ([a, b, c, d, e, f].map iV), s) := fun a b c d e f s => by
          simp -implicitDefEqProofs only [go_sem, Nat.reduceAdd, Nat.reduceMul, Go.Am.buildSliceA, List.map_cons, List.map_nil]
        try simp only [does_bind]
        refine draw_machX [[], [], [1], [], [3], [4, 3], [], [6], [], [8], [9, 8], [], [11], [0, 2, 1, 5, 4, 3, 7, 6, 10, 9, 8, 12, 11], [13, 0, 2, 1, 5, 4, 3, 7, 6, 10, 9, 8, 12, 11]] [[], [], [], [], [], [], [], [], [], [], [], [], [[2]], [], []] (by kernel_rfl) rfl rfl ?_
        simp -implicitDefEqProofs only [go_sem, Nat.reduceEqDiff, Nat.reduceLT, Nat.reduceAdd, hget_redoH, lkn, lk_same, lk31, Option.getD_some, Option.getD_none, a3, a11, hT, g2, hut, hbs, hd13, nm2, sameW_self]
        generalize hLM : [limit, P.fst.lo, wrapF .i64 (P.fst.lo - 1), P.fst.hi, wrapF .i64 (P.fst.hi - 1), q] = LM
        have hl3 : LM.length = 6 := by rw [← hLM]; rfl
        clear hLM hut hbs
        simp only [does_bind]
        refine xl_does (fun k T s' => T.length = 171 ∧ nth T 2 = some (.int .i64 vessel) ∧ nth T 3 = some (.int .i64 limit) ∧ nth T 11 = some (.ptr [2] 0) ∧ nth T 13 = some (.lst (VS.map vacV)) ∧ nth T 14 = some (.lst (GS.map gsV)) ∧ nth T 15 = some (.int .i64 i) ∧ nth T 20 = some (.lst (LM.map iV)) ∧ ∃ (j m : Nat) (H : Heap), nth T 21 = some (.int .i64 j) ∧ j ≤ 6 ∧ k = 6 - j ∧ s' = ⟨H, m + 3, [], false, []⟩ ∧ hget H [2] = some (.cells [.int .u64 w2] true 0)) (k := 6) (by omega) ?_ ?_
        · exact ⟨by simp -implicitDefEqProofs only [go_sem, hT], by simp -implicitDefEqProofs only [go_sem, Nat.reduceEqDiff, a2], by simp -implicitDefEqProofs only [go_sem, Nat.reduceEqDiff, a3], by simp -implicitDefEqProofs only [go_sem, Nat.reduceEqDiff, a11], by simp -implicitDefEqProofs only [go_sem, Nat.reduceEqDiff, a13], by simp -implicitDefEqProofs only [go_sem, Nat.reduceEqDiff, a14], by simp -implicitDefEqProofs only [go_sem, Nat.reduceEqDiff, a15], by simp -implicitDefEqProofs only [go_sem, Nat.reduceEqDiff, Nat.reduceLT, hT], 0, m + 4, _, by simp -implicitDefEqProofs only [go_sem, Nat.reduceLT, hT] <;> rfl, by omega, rfl, rfl, by simp (disch := omega) only [hget_redoH, lkn, lk_same, lk31, Option.getD_some, Option.getD_none] <;> rfl⟩
        clear a2 a3 a11 a13 a14 a15 hT T c1 c2 c3 c4 g2 k1 H nm1 nm2
        rintro k T s' ⟨hT, a2, a3, a11, a13, a14, a15, a20, j, m, H, a21, hj, rfl, rfl, g2⟩
        simp -implicitDefEqProofs only [go_sem, Nat.reduceEqDiff, Nat.reduceLT, a20, a21, hT, hl3]
        by_cases hjl : (j : Int) < ((6 : Nat) : Int)
        · have hj1 : j < LM.length := by omega
          have e3 := elemAt_map (f := iV) (l := LM) (i := j) (z := 1) hj1 rfl
          have c5' := fun s => c5 LM[j] s
          have c6' := fun s => c6 LM[j] s
          generalize LM[j] = lim at *
          generalize sealE P lim = S at *
          have hkk : 6 - (j + 1) < 6 - j := by omega
          have hj2 : j + 1 ≤ 6 := by omega
          have hw1 : wrapF .i64 ((j : Int) + 1) = ((j + 1 : Nat) : Int) := wrap_i64 (by omega) (by omega)
          simp only [iV] at e3
          simp -implicitDefEqProofs only [go_sem, hjl]
          simp only [does_bind]
          refine draw_mach [] [] (by kernel_rfl) ?_
          simp -implicitDefEqProofs only [go_sem, Nat.reduceEqDiff, Nat.reduceLT, Nat.reduceAdd, a2, a13, a14, a15, a20, a21, hT, e1, e2, e3, c5']
          simp only [does_bind]
          refine draw_mach [] [] (by kernel_rfl) ?_
          simp -implicitDefEqProofs only [go_sem, Nat.reduceEqDiff, Nat.reduceLT, Nat.reduceAdd, Bool.not_true, a2, a3, a11, a13, a14, a15, a20, a21, hT, e1, e2, e3, c6', hw1]
          exact ⟨6 - (j + 1), hkk, trivial, trivial, trivial, trivial, trivial, trivial, trivial, trivial, j + 1, m + 2, _, rfl, hj2, rfl, rfl, by rw [hget_redoH, lkn, Option.getD_none, hget_redoH, lkn, Option.getD_none]; exact g2⟩
        · have hi3 : i + 1 ≤ 3 := by omega
          have hkk : 3 - (i + 1) < 3 - i := by omega
          have hw1 : wrapF .i64 ((i : Int) + 1) = ((i + 1 : Nat) : Int) := wrap_i64 (by omega) (by omega)
          simp -implicitDefEqProofs only [go_sem, Nat.reduceEqDiff, Nat.reduceLT, a2, a3, a11, a13, a14, a15, hT, hjl, hw1]
          exact ⟨3 - (i + 1), hkk, trivial, trivial, trivial, trivial, trivial, trivial, i + 1, m, H, w2, rfl, hi3, rfl, rfl, g2⟩
      · simp -implicitDefEqProofs only [go_sem, Nat.reduceLT, hT, hlo, haw, Try.results15]
theorem gas_yes (L : List (List AV)) (hl : L.length = [39, 56, 3, 3, 22].length) (hc : ∀ (i : Nat) t acs, [39, 56, 3, 3, 22][i]? = some t → L[i]? = some acs → Content Try.prog 12 t acs) :
    ∃ K, Yes (acall cfg K 15 (([39, 56, 3, 3, 22].zip L).map fun x => argOf Try.prog x.1 x.2) s0) := by
  match L, hl with
  | [c0, c1, c2, c3, c4], _ =>
    obtain ⟨v, rfl, hI⟩ := arg_vac 5 c0 (hc 0 39 c0 rfl rfl)
    obtain ⟨g, rfl, hg⟩ := arg_gs 8 c1 (hc 1 56 c1 rfl rfl)
    obtain ⟨a, rfl, _⟩ := arg_int 11 c2 (hc 2 3 c2 rfl rfl)
    obtain ⟨b, rfl, _⟩ := arg_int 11 c3 (hc 3 3 c3 rfl rfl)
    obtain ⟨nums, rfl, hn⟩ := arg_ints 10 c4 (hc 4 22 c4 rfl rfl)
    refine ⟨(1001 + v.vessels.length + v.pipes.length + v.pumps.length + v.leaks.length + v.getters.length + nums.length) + 320, ⟨?_⟩⟩
    exact (gas_walk v g a b nums _ (by omega) (hI.lens _ (by omega) (by omega) (by omega) (by omega) (by omega)) ⟨hg.1.1, hg.2.1.1, hg.2.2.1.1⟩ (by omega) hn.1).all
end Go.Proofs.Ytgnpnfkncbnjnaa
namespace Go.Proofs.Ytgnpnfkncbnjnaa
open Go Go.Am Go.ChangeShapes Go.WideShapes Go.ChangeAt Go.RowKit
set_option maxRecDepth 100000 in
theorem gas_lifted (os : Os) (started : os.Started) (H : Type) (enc : TypeId × Value → H) :
    ReturnsInHanded {} Try.checked os 15 .any (Rows.pumpGasSpec.pre6 enc Try.prog Try.f15 Rows.pumpGasRow.domain false) (Rows.pumpGasSpec.post enc Try.prog Try.f15 false true false false) := by
  refine returnsInHanded_of_change (C := Try.checked) Try.own started (by kernel_rfl) Try.func15
    (ChangeSpec.witness6 (enc := enc) (C := Try.checked) false ⟨#[], #[.agg #[.slice none 0 0, .slice none 0 0, .slice none 0 0, .slice none 0 0, .slice none 0 0], .agg #[.slice none 0 0, .slice none 0 0, .slice none 0 0, .int .i64 0, .bool false], .int .i64 0, .int .i64 0, .slice none 0 0], []⟩ 8 (by kernel_rfl) (by kernel_rfl) (by kernel_rfl) (by kernel_rfl)) ?_
  intro W base args ds gs before hval0 hW hcnd _
  have hW' := hW
  obtain ⟨p, q, hA0, hV, rfl, hfz, hnd⟩ := hW
  have hA : DataW.TrodAll enc Try.prog W 0 (fun _ => true) true Try.f15.params.toList args.toList ds p := hA0
  rw [Try.params15] at hA
  obtain ⟨rfl, rfl⟩ := trodVars_none hV
  simp only [List.append_nil] at hW'
  have hlen : ds.length = 5 := trod_len _ _ _ _ hA
  have hsup : (([39, 56, 3, 3, 22] : List TypeId).all fun t => suppB Try.prog 12 t) = true := by as_aux_lemma => kernel_rfl
  have hpar : (([39, 56, 3, 3, 22] : List TypeId).all fun t => Try.prog.readableRec t && Nat.blt t Try.prog.types.size) = true := by as_aux_lemma => kernel_rfl
  refine (calls_of_args (d := 12) cfgOk codesOk hA (fun t ht => List.all_eq_true.1 hsup t ht) (fun j t v e1 e2 => hval0 j t v (by rw [Try.params15]; simpa using e1) (by simpa using e2)) fun L hl hc => gas_yes L hl hc).mono fun e W' ⟨he, hb⟩ => ?_
  subst he
  exact ⟨_, rfl, law_post Try.laidOut (fun t ht => by rw [Try.params15] at ht; have := List.all_eq_true.1 hpar t ht; rw [Bool.and_eq_true, Nat.blt_eq] at this; exact this) rfl rfl Try.underlying4 hW' (by match ds, hlen with | [_, _, _, _, _], _ => rfl) hb⟩
set_option maxHeartbeats 4000000 in
theorem gas_closed : joinedFacts Try.prog 15 Try.f15 Rows.pumpGasSpec Rows.pumpGasRow = true := by
  refine joined_of Try.laidOut Try.rowed Try.noStops Try.noKnobs Try.plain Try.heard Try.enters Try.lifts Try.makes (by as_aux_lemma => kernel_rfl) (by as_aux_lemma => kernel_rfl) (by as_aux_lemma => kernel_rfl) (by as_aux_lemma => kernel_rfl) (by as_aux_lemma => kernel_rfl)
    (by as_aux_lemma => kernel_rfl) (by as_aux_lemma => kernel_rfl) (by as_aux_lemma => kernel_rfl) (by as_aux_lemma => kernel_rfl) ?_
  kernel_rfl
theorem gas_holds : Rows.PumpGasSaid :=
  OpenClaim.holds_of_wide 15 Try.f15 rfl rfl rfl rfl rfl rfl rfl ⟨rfl, rfl, rfl, rfl, rfl⟩ rfl rfl rfl rfl rfl (by as_aux_lemma => kernel_rfl) Try.func15 gas_closed
    (of_decide_eq_true (by as_aux_lemma => kernel_rfl)) (by as_aux_lemma => unfold Func.isWrapper; first | (rw [if_pos (by decide +kernel)]; kernel_rfl) | (rw [if_neg (by decide +kernel)]; exact ⟨rfl, rfl⟩))
    (fun os started H enc _ => gas_lifted os started H enc)
end Go.Proofs.Ytgnpnfkncbnjnaa
