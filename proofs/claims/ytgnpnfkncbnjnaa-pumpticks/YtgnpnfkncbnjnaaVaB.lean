/- Vacuum systems: the checks of the reference, of stages, and which gas is the same. -/
import Derived.Test.YtgnpnfkncbnjnaaAmF
import Derived.Test.YtgnpnfkncbnjnaaVaA
set_option linter.unusedSimpArgs false
set_option linter.unusedVariables false
set_option maxRecDepth 100000
attribute [local go_sem_proc] Int.reduceEq Int.reduceNeg Nat.reduceEqDiff Nat.reduceLT Nat.reduceAdd Nat.reduceSub Nat.reduceMul Int.reduceLE Int.reduceLT Int.reduceToNat Nat.reduceLeDiff
attribute [local go_sem] Int.toNat_natCast Bool.not_true Bool.not_false
namespace Go.Proofs.Ytgnpnfkncbnjnaa
open Go Go.Am
attribute [local congr] tr_congr does_congr all_congr
attribute [local go_sem] Go.Am.buildSliceA Go.Am.frozen Go.Am.freezeG Go.Am.freezeGs Go.Am.minmax
end Go.Proofs.Ytgnpnfkncbnjnaa
namespace Go.Proofs.Ytgnpnfkncbnjnaa
open Go Go.Am
attribute [local congr] tr_congr does_congr all_congr
attribute [local go_sem] Go.Am.buildSliceA Go.Am.frozen Go.Am.freezeG Go.Am.freezeGs Go.Am.minmax
theorem nm_ne' {a b : Nat} (h : a ≠ b) : ([a] : Nm) ≠ [b] := by simp only [ne_eq, List.cons.injEq, and_true]; exact h
def bandsE : Nat → Int → List Rel → Int
  | _, _, [] => 0
  | i, last, b :: r => if fromB b.frm 0 2000 = true then if 0 < i ∧ b.frm ≤ last then 11 else if spansE b.rate 1000000 = 0 then bandsE (i + 1) b.frm r else spansE b.rate 1000000 else 2
def vesE (v : Ves) : Int :=
  if fromB v.vol 1 1000000 = true then if spansE v.free 1000000000 = 0 then if spansE v.bound 1000000000 = 0 then if 8 < v.bands.length then 8 else bandsE 0 0 v.bands else spansE v.bound 1000000000 else spansE v.free 1000000000 else 2
theorem vessel_call (v : Ves) (K : Nat) (s : St) (hK : 20 < K) (hl : v.bands.length ≤ 9223372036854775807) : acall cfg (K + 2) 113 [vesV v] s = .ret (.int .i64 (vesE v), s) := by
  refine call1 mget113 fget113 (by first | rfl | simp -implicitDefEqProofs only [redoH, redo1, go_sem]) (by first | rfl | simp -implicitDefEqProofs only [go_sem]) (by first | rfl | simp -implicitDefEqProofs only [redoH, redo1, go_sem]) ?_
  refine body_does rfl fun T hT' hA => ?_
  have a0 := hA 0 _ rfl
  have hT : T.length = 66 := hT'
  clear hA hT'
  have hc1 := fun s => from_call v.vol 1 1000000 K s
  unfold vesE
  simp -implicitDefEqProofs only [go_sem, a0, hT, hc1]
  by_cases c1 : fromB v.vol 1 1000000 = true
  · rw [if_pos c1]
    simp -implicitDefEqProofs only [go_sem, hT, c1]
    simp only [does_bind]
    have hsp := fun r s => spans_call r 1000000000 K s
    have hsq := fun r s => spans_call r 1000000 K s
    have hfr := fun n s => from_call n 0 2000 K s
    simp only [rgV] at hsp hsq
    refine xl_does (fun k T s' => T.length = 66 ∧ nth T 1 = some (.ptr [0] 0) ∧ nth T 17 = some (.agg [.int .i64 v.free.lo, .int .i64 v.free.hi, .int .i64 v.bound.lo, .int .i64 v.bound.hi]) ∧ ∃ (i n : Nat) (H : Heap), nth T 18 = some (.int .i64 i) ∧ i ≤ 2 ∧ k = 2 - i ∧ s' = ⟨H, n + 1, [], false, []⟩ ∧ hget H [0] = some (.cells [.int .i64 v.vol, .int .i64 v.free.lo, .int .i64 v.free.hi, .int .i64 v.bound.lo, .int .i64 v.bound.hi, .lst (v.bands.map relV)] true 0) ∧
      (1 ≤ i → spansE v.free 1000000000 = 0) ∧ (2 ≤ i → spansE v.bound 1000000000 = 0)) (k := 2) (by omega) ?_ ?_
    · exact ⟨by simp -implicitDefEqProofs only [go_sem, hT], by simp -implicitDefEqProofs only [go_sem, hT], by simp -implicitDefEqProofs only [go_sem, hT], 0, 0, _, by simp -implicitDefEqProofs only [go_sem, hT] <;> rfl, by omega, rfl, rfl, rfl, by omega, by omega⟩
    clear a0 hT T
    rintro k T s' ⟨hT, a1, a17, i, n, H, a18, hi, rfl, rfl, g0, hp1, hp2⟩
    have hcase : i = 0 ∨ i = 1 ∨ i = 2 := by omega
    have hw01 : wrapF .i64 (0 + 1) = 1 := by decide
    have hw12 : wrapF .i64 (1 + 1) = 2 := by decide
    have hr0 : inR 0 2 = some 0 := rfl
    have hr1 : inR 1 2 = some 1 := rfl
    rcases hcase with rfl | rfl | rfl
    · have b18 : nth T 18 = some (.int .i64 0) := a18
      by_cases c2 : spansE v.free 1000000000 = 0
      · simp -implicitDefEqProofs only [go_sem, a1, a17, b18, hT, hsp ⟨v.free.lo, v.free.hi⟩, c2, hr0, hw01]
        exact ⟨1, by omega, trivial, trivial, trivial, 1, n + 1, _, rfl, by omega, rfl, rfl, (hget_cons_ne _ _ (nm_ne' (by omega))).trans g0, fun _ => by first | trivial | exact c2, fun h => by omega⟩
      · rw [if_neg c2]
        simp -implicitDefEqProofs only [go_sem, a17, b18, hT, hsp ⟨v.free.lo, v.free.hi⟩, c2, hr0, Try.results113]
    · have b18 : nth T 18 = some (.int .i64 1) := a18
      have c2 := hp1 (by omega)
      rw [if_pos c2]
      by_cases c3 : spansE v.bound 1000000000 = 0
      · simp -implicitDefEqProofs only [go_sem, a1, a17, b18, hT, hsp ⟨v.bound.lo, v.bound.hi⟩, c3, hr1, hw12]
        exact ⟨0, by omega, trivial, trivial, trivial, 2, n + 1, _, rfl, by omega, rfl, rfl, (hget_cons_ne _ _ (nm_ne' (by omega))).trans g0, fun _ => by first | trivial | exact c2, fun _ => by first | trivial | exact c3⟩
      · rw [if_neg c3]
        simp -implicitDefEqProofs only [go_sem, a17, b18, hT, hsp ⟨v.bound.lo, v.bound.hi⟩, c3, hr1, Try.results113]
    · have b18 : nth T 18 = some (.int .i64 2) := a18
      rw [if_pos (hp1 (by omega)), if_pos (hp2 (by omega))]
      by_cases c4 : 8 < v.bands.length
      · rw [if_pos c4]
        have c4' : (8 : Int) < (v.bands.length : Int) := by omega
        simp -implicitDefEqProofs only [go_sem, a1, b18, hT, g0, c4', Try.results113]
      · rw [if_neg c4]
        have c4' : ¬ (8 : Int) < (v.bands.length : Int) := by omega
        simp -implicitDefEqProofs only [go_sem, a1, b18, hT, g0, c4']
        simp only [does_bind]
        refine xl_does (fun k T s' => T.length = 66 ∧ nth T 1 = some (.ptr [0] 0) ∧ nth T 32 = some (.lst (v.bands.map relV)) ∧ nth T 33 = some (.int .i64 v.bands.length) ∧ ∃ (i n : Nat) (last : Int) (H : Heap), nth T 34 = some (.int .i64 i) ∧ i ≤ v.bands.length ∧ k = v.bands.length - i ∧ s' = ⟨H, n + 1, [], false, []⟩ ∧ hget H [0] = some (.cells [.int .i64 v.vol, .int .i64 v.free.lo, .int .i64 v.free.hi, .int .i64 v.bound.lo, .int .i64 v.bound.hi, .lst (v.bands.map relV)] true 0) ∧
          bandsE 0 0 v.bands = bandsE i last (v.bands.drop i) ∧ ∀ h : i - 1 < v.bands.length, 0 < i → v.bands[i - 1].frm = last) (k := v.bands.length) (by omega) ?_ ?_
        · exact ⟨by simp -implicitDefEqProofs only [go_sem, hT], by simp -implicitDefEqProofs only [go_sem, a1], by simp -implicitDefEqProofs only [go_sem, hT], by simp -implicitDefEqProofs only [go_sem, hT], 0, n, 0, H, by simp -implicitDefEqProofs only [go_sem, hT] <;> rfl, by omega, rfl, rfl, g0, rfl, fun _ h => by omega⟩
        clear a1 a17 a18 b18 hT T g0 hp1 hp2 H n
        rintro k T s' ⟨hT, a1, a32, a33, i, n, last, H, a34, hi, rfl, rfl, g0, he, hlast⟩
        simp -implicitDefEqProofs only [go_sem, a33, a34, hT]
        by_cases hil : (i : Int) < (v.bands.length : Int)
        · have hi' : i < v.bands.length := by omega
          have e1 := elemAt_map (f := relV) (l := v.bands) (i := i) (z := 3) hi' rfl
          have hkk : v.bands.length - (i + 1) < v.bands.length - i := by omega
          rw [List.drop_eq_getElem_cons hi'] at he
          have g1 : ∀ X, hget (([n + 1], X) :: H) [0] = some (.cells [.int .i64 v.vol, .int .i64 v.free.lo, .int .i64 v.free.hi, .int .i64 v.bound.lo, .int .i64 v.bound.hi, .lst (v.bands.map relV)] true 0) := fun X => (hget_cons_ne _ _ (nm_ne' (by omega))).trans g0
          have hnext : ∀ h : i + 1 - 1 < v.bands.length, 0 < i + 1 → v.bands[i + 1 - 1].frm = v.bands[i].frm := fun _ _ => rfl
          have hi0 : (0 : Int) < (i : Int) ↔ 0 < i := by omega
          have hprev : 0 < i → elemAt 3 ((i - 1 : Nat) : Int) (v.bands.map relV) = some (.fptr [.int .i64 last, .int .i64 v.bands[i - 1].rate.lo, .int .i64 v.bands[i - 1].rate.hi] 0) := fun h => by
            have := elemAt_map (f := relV) (l := v.bands) (i := i - 1) (z := 3) (by omega) rfl
            rw [this, ← hlast (by omega) h]; rfl
          have hw2 : 0 < i → wrapF .i64 ((i : Int) - 1) = ((i - 1 : Nat) : Int) := fun h => by rw [wrap_i64 (by omega) (by omega)]; omega
          have hw1 : wrapF .i64 ((i : Int) + 1) = ((i + 1 : Nat) : Int) := wrap_i64 (by omega) (by omega)
          generalize hb : v.bands[i] = b at *
          simp only [bandsE] at he
          simp -implicitDefEqProofs only [go_sem, a32, a34, hT, hil, e1, hfr]
          by_cases d1 : fromB b.frm 0 2000 = true
          · rw [if_pos d1] at he
            simp -implicitDefEqProofs only [go_sem, d1]
            simp only [does_bind]
            refine draw_mach [] [] (by kernel_rfl) ?_
            by_cases d2 : 0 < i
            · have d2' := hi0.2 d2
              by_cases d3 : b.frm ≤ last
              · rw [if_pos ⟨d2, d3⟩] at he
                simp -implicitDefEqProofs only [redoH, go_sem, a1, hT, g1, d2', d3, hprev d2, hw2 d2, he, Try.results113]
              · rw [if_neg (fun h => d3 h.2)] at he
                by_cases d4 : spansE b.rate 1000000 = 0
                · rw [if_pos d4] at he
                  simp -implicitDefEqProofs only [redoH, go_sem, a1, a32, a33, a34, hT, g1, d2', d3, hprev d2, hw2 d2, hsq ⟨b.rate.lo, b.rate.hi⟩, d4, hw1]
                  exact ⟨v.bands.length - (i + 1), hkk, trivial, trivial, trivial, trivial, i + 1, n + 2, b.frm, _, rfl, hi', rfl, rfl, g1 _, he, by rw [← hb]; exact hnext⟩
                · rw [if_neg d4] at he
                  simp -implicitDefEqProofs only [redoH, go_sem, a1, hT, g1, d2', d3, hprev d2, hw2 d2, hsq ⟨b.rate.lo, b.rate.hi⟩, d4, he, Try.results113]
            · have d2' : ¬ (0 : Int) < (i : Int) := fun h => d2 (hi0.1 h)
              rw [if_neg (fun h => d2 h.1)] at he
              by_cases d4 : spansE b.rate 1000000 = 0
              · rw [if_pos d4] at he
                simp -implicitDefEqProofs only [redoH, go_sem, a1, a32, a33, a34, hT, d2', hsq ⟨b.rate.lo, b.rate.hi⟩, d4, hw1]
                exact ⟨v.bands.length - (i + 1), hkk, trivial, trivial, trivial, trivial, i + 1, n + 2, b.frm, _, rfl, hi', rfl, rfl, g1 _, he, by rw [← hb]; exact hnext⟩
              · rw [if_neg d4] at he
                simp -implicitDefEqProofs only [redoH, go_sem, hT, d2', hsq ⟨b.rate.lo, b.rate.hi⟩, d4, he, Try.results113]
          · rw [if_neg d1] at he
            simp -implicitDefEqProofs only [go_sem, hT, d1, he, Try.results113]
        · have hie : i = v.bands.length := by omega
          subst hie
          rw [List.drop_length] at he
          simp only [bandsE] at he
          simp -implicitDefEqProofs only [go_sem, hT, hil, he, Try.results113]
  · rw [if_neg c1]
    simp -implicitDefEqProofs only [go_sem, hT, c1, Try.results113]
end Go.Proofs.Ytgnpnfkncbnjnaa
namespace Go.Proofs.Ytgnpnfkncbnjnaa
open Go Go.Am
attribute [local congr] tr_congr does_congr all_congr
attribute [local go_sem] Go.Am.buildSliceA Go.Am.frozen Go.Am.freezeG Go.Am.freezeGs Go.Am.minmax
theorem checkVessel_call (v : Ves) (K : Nat) (s : St) (hK : 20 < K) (hl : v.bands.length ≤ 9223372036854775807) : acall cfg (K + 2) 119 [vesV v] s = .ret (.int .i64 (vesE v), s) := by
  refine call1 mget119 fget119 (by first | rfl | simp -implicitDefEqProofs only [redoH, redo1, go_sem]) (by first | rfl | simp -implicitDefEqProofs only [go_sem]) (by first | rfl | simp -implicitDefEqProofs only [redoH, redo1, go_sem]) ?_
  refine body_does rfl fun T hT' hA => ?_
  have a0 := hA 0 _ rfl
  have hT : T.length = 70 := hT'
  clear hA hT'
  have hc1 := fun s => within_call v.vol 1 1000000 K s
  have hsp := fun r s => checkRange_call r 1000000000 K s
  have hsq := fun r s => checkRange_call r 1000000 K s
  have hfr := fun n s => within_call n 0 2000 K s
  simp only [rgV] at hsp hsq
  unfold vesE
  simp -implicitDefEqProofs only [go_sem, a0, hT, hc1]
  by_cases c1 : fromB v.vol 1 1000000 = true
  · rw [if_pos c1]
    by_cases c2 : spansE v.free 1000000000 = 0
    · rw [if_pos c2]
      by_cases c3 : spansE v.bound 1000000000 = 0
      · rw [if_pos c3]
        by_cases c4 : 8 < v.bands.length
        · rw [if_pos c4]
          have c4' : (8 : Int) < (v.bands.length : Int) := by omega
          simp -implicitDefEqProofs only [go_sem, hT, c1, hsp ⟨v.free.lo, v.free.hi⟩, hsp ⟨v.bound.lo, v.bound.hi⟩, c2, c3, c4', Try.results119]
        · rw [if_neg c4]
          have c4' : ¬ (8 : Int) < (v.bands.length : Int) := by omega
          simp -implicitDefEqProofs only [go_sem, hT, c1, hsp ⟨v.free.lo, v.free.hi⟩, hsp ⟨v.bound.lo, v.bound.hi⟩, c2, c3, c4']
          simp only [does_bind]
          refine xl_does (fun k T s' => T.length = 70 ∧ nth T 1 = some (.ptr [0] 0) ∧ ∃ (i n : Nat) (last : Int) (H : Heap), nth T 5 = some (.int .i64 i) ∧ i ≤ v.bands.length ∧ k = v.bands.length - i ∧ s' = ⟨H, n + 1, [], false, []⟩ ∧ hget H [0] = some (.cells [.int .i64 v.vol, .int .i64 v.free.lo, .int .i64 v.free.hi, .int .i64 v.bound.lo, .int .i64 v.bound.hi, .lst (v.bands.map relV)] true 0) ∧
            bandsE 0 0 v.bands = bandsE i last (v.bands.drop i) ∧ ∀ h : i - 1 < v.bands.length, 0 < i → v.bands[i - 1].frm = last) (k := v.bands.length) (by omega) ?_ ?_
          · exact ⟨by simp -implicitDefEqProofs only [go_sem, hT], by simp -implicitDefEqProofs only [go_sem, hT], 0, 0, 0, _, by simp -implicitDefEqProofs only [go_sem, hT] <;> rfl, by omega, rfl, rfl, rfl, rfl, fun _ h => by omega⟩
          clear a0 hT T
          rintro k T s' ⟨hT, a1, i, n, last, H, a5, hi, rfl, rfl, g0, he, hlast⟩
          simp -implicitDefEqProofs only [go_sem, a1, a5, hT, g0]
          by_cases hil : (i : Int) < (v.bands.length : Int)
          · have hi' : i < v.bands.length := by omega
            have e1 := elemAt_map (f := relV) (l := v.bands) (i := i) (z := 3) hi' rfl
            have hkk : v.bands.length - (i + 1) < v.bands.length - i := by omega
            rw [List.drop_eq_getElem_cons hi'] at he
            have hnext : ∀ h : i + 1 - 1 < v.bands.length, 0 < i + 1 → v.bands[i + 1 - 1].frm = v.bands[i].frm := fun _ _ => rfl
            have hi0 : (0 : Int) < (i : Int) ↔ 0 < i := by omega
            have hprev : 0 < i → elemAt 3 ((i - 1 : Nat) : Int) (v.bands.map relV) = some (.fptr [.int .i64 last, .int .i64 v.bands[i - 1].rate.lo, .int .i64 v.bands[i - 1].rate.hi] 0) := fun h => by
              have := elemAt_map (f := relV) (l := v.bands) (i := i - 1) (z := 3) (by omega) rfl
              rw [this, ← hlast (by omega) h]; rfl
            have hw2 : 0 < i → wrapF .i64 ((i : Int) - 1) = ((i - 1 : Nat) : Int) := fun h => by rw [wrap_i64 (by omega) (by omega)]; omega
            have hw1 : wrapF .i64 ((i : Int) + 1) = ((i + 1 : Nat) : Int) := wrap_i64 (by omega) (by omega)
            generalize hb : v.bands[i] = b at *
            simp only [bandsE] at he
            simp -implicitDefEqProofs only [go_sem, a1, a5, hT, g0, hil, e1, hfr]
            by_cases d1 : fromB b.frm 0 2000 = true
            · rw [if_pos d1] at he
              simp -implicitDefEqProofs only [go_sem, d1]
              simp only [does_bind]
              refine draw_mach [] [] (by kernel_rfl) ?_
              by_cases d2 : 0 < i
              · have d2' := hi0.2 d2
                by_cases d3 : b.frm ≤ last
                · rw [if_pos ⟨d2, d3⟩] at he
                  simp -implicitDefEqProofs only [redoH, go_sem, a1, a5, hT, g0, e1, d2', d3, hprev d2, hw2 d2, he, Try.results119]
                · rw [if_neg (fun h => d3 h.2)] at he
                  by_cases d4 : spansE b.rate 1000000 = 0
                  · rw [if_pos d4] at he
                    simp -implicitDefEqProofs only [redoH, go_sem, a1, a5, hT, g0, e1, d2', d3, hprev d2, hw2 d2, hsq ⟨b.rate.lo, b.rate.hi⟩, d4, hw1]
                    exact ⟨v.bands.length - (i + 1), hkk, trivial, trivial, i + 1, n + 1, b.frm, _, rfl, hi', rfl, rfl, g0, he, by rw [← hb]; exact hnext⟩
                  · rw [if_neg d4] at he
                    simp -implicitDefEqProofs only [redoH, go_sem, a1, a5, hT, g0, e1, d2', d3, hprev d2, hw2 d2, hsq ⟨b.rate.lo, b.rate.hi⟩, d4, he, Try.results119]
              · have d2' : ¬ (0 : Int) < (i : Int) := fun h => d2 (hi0.1 h)
                rw [if_neg (fun h => d2 h.1)] at he
                by_cases d4 : spansE b.rate 1000000 = 0
                · rw [if_pos d4] at he
                  simp -implicitDefEqProofs only [redoH, go_sem, a1, a5, hT, g0, e1, d2', hsq ⟨b.rate.lo, b.rate.hi⟩, d4, hw1]
                  exact ⟨v.bands.length - (i + 1), hkk, trivial, trivial, i + 1, n + 1, b.frm, _, rfl, hi', rfl, rfl, g0, he, by rw [← hb]; exact hnext⟩
                · rw [if_neg d4] at he
                  simp -implicitDefEqProofs only [redoH, go_sem, a1, a5, hT, g0, e1, d2', hsq ⟨b.rate.lo, b.rate.hi⟩, d4, he, Try.results119]
            · rw [if_neg d1] at he
              simp -implicitDefEqProofs only [go_sem, hT, d1, he, Try.results119]
          · have hie : i = v.bands.length := by omega
            subst hie
            rw [List.drop_length] at he
            simp only [bandsE] at he
            simp -implicitDefEqProofs only [go_sem, hT, hil, he, Try.results119]
      · rw [if_neg c3]
        simp -implicitDefEqProofs only [go_sem, hT, c1, hsp ⟨v.free.lo, v.free.hi⟩, hsp ⟨v.bound.lo, v.bound.hi⟩, c2, c3, Try.results119]
    · rw [if_neg c2]
      simp -implicitDefEqProofs only [go_sem, hT, c1, hsp ⟨v.free.lo, v.free.hi⟩, c2, Try.results119]
  · rw [if_neg c1]
    simp -implicitDefEqProofs only [go_sem, hT, c1, Try.results119]
def atE (n : Int) (at' : Int) (r : Rg) (most : Int) : Int := if fromB at' 0 (n - 1) = true then spansE r most else 7
def pipE (n : Int) (p : Pip) : Int :=
  if fromB p.a 0 (n - 1) = true ∧ fromB p.b 0 (n - 1) = true then if p.a = p.b then 9 else if spansE p.out 1000000 = 0 then spansE p.back 1000000 else spansE p.out 1000000 else 7
theorem checkAt_call (n at' : Int) (r : Rg) (most : Int) (K : Nat) (s : St) (h1 : 0 ≤ n) (h2 : n ≤ 9223372036854775807) : acall cfg (K + 2) 161 [.int .i64 at', .int .i64 n, rgV r, .int .i64 most] s = .ret (.int .i64 (atE n at' r most), s) := by
  refine call1 mget161 fget161 (by first | rfl | simp -implicitDefEqProofs only [redoH, redo1, go_sem]) (by first | rfl | simp -implicitDefEqProofs only [redoH, redo1, go_sem]) (by first | rfl | simp -implicitDefEqProofs only [redoH, redo1, go_sem]) ?_
  refine body_does rfl fun T hT' hA => ?_
  have a0 := hA 0 _ rfl
  have a1 := hA 1 _ rfl
  have a2 := hA 2 _ rfl
  have a3 := hA 3 _ rfl
  have hT : T.length = 17 := hT'
  clear hA hT'
  have hc := fun s => within_call at' 0 (n - 1) K s
  have hsp := fun s => checkRange_call r most K s
  have hw : wrapF .i64 (n - 1) = n - 1 := wrap_i64 (by omega) (by omega)
  simp only [rgV] at hsp
  unfold atE
  by_cases c1 : fromB at' 0 (n - 1) = true
  · rw [if_pos c1]
    simp -implicitDefEqProofs only [go_sem, a0, a1, a2, a3, hT, hw, hc, c1, hsp, Try.results161]
  · rw [if_neg c1]
    simp -implicitDefEqProofs only [go_sem, a0, a1, a2, hT, hw, hc, c1, Try.results161]
theorem checkPipe_call (n : Int) (p : Pip) (K : Nat) (s : St) (h1 : 0 ≤ n) (h2 : n ≤ 9223372036854775807) : acall cfg (K + 2) 160 [pipV p, .int .i64 n] s = .ret (.int .i64 (pipE n p), s) := by
  refine call1 mget160 fget160 (by first | rfl | simp -implicitDefEqProofs only [redoH, redo1, go_sem]) (by first | rfl | simp -implicitDefEqProofs only [redoH, redo1, go_sem]) (by first | rfl | simp -implicitDefEqProofs only [redoH, redo1, go_sem]) ?_
  refine body_does rfl fun T hT' hA => ?_
  have a0 := hA 0 _ rfl
  have a1 := hA 1 _ rfl
  have hT : T.length = 34 := hT'
  clear hA hT'
  have hc := fun m s => within_call m 0 (n - 1) K s
  have hsp := fun r s => checkRange_call r 1000000 K s
  have hw : wrapF .i64 (n - 1) = n - 1 := wrap_i64 (by omega) (by omega)
  simp only [rgV] at hsp
  unfold pipE
  by_cases c1 : fromB p.a 0 (n - 1) = true
  · by_cases c2 : fromB p.b 0 (n - 1) = true
    · rw [if_pos ⟨c1, c2⟩]
      by_cases c3 : p.a = p.b
      · rw [if_pos c3]
        simp -implicitDefEqProofs only [go_sem, a0, a1, hT, hw, hc, c2, c3, Try.results160]
      · rw [if_neg c3]
        by_cases c4 : spansE p.out 1000000 = 0
        · rw [if_pos c4]
          simp -implicitDefEqProofs only [go_sem, a0, a1, hT, hw, hc, c1, c2, c3, hsp ⟨p.out.lo, p.out.hi⟩, hsp ⟨p.back.lo, p.back.hi⟩, c4, Try.results160]
        · rw [if_neg c4]
          simp -implicitDefEqProofs only [go_sem, a0, a1, hT, hw, hc, c1, c2, c3, hsp ⟨p.out.lo, p.out.hi⟩, c4, Try.results160]
    · rw [if_neg (fun h => c2 h.2)]
      simp -implicitDefEqProofs only [go_sem, a0, a1, hT, hw, hc, c1, c2, Try.results160]
  · rw [if_neg (fun h => c1 h.1)]
    simp -implicitDefEqProofs only [go_sem, a0, a1, hT, hw, hc, c1, Try.results160]
theorem rhas_call (l : List Int) (x : Int) (K : Nat) (s : St) (hK : l.length < K) (hl : l.length ≤ 9223372036854775807) : acall cfg (K + 1) 162 [.lst (l.map iV), .int .i64 x] s = .ret (.bool (decide (x ∈ l)), s) := by
  refine call1 mget162 fget162 (by first | rfl | simp -implicitDefEqProofs only [redoH, redo1, go_sem]) (by first | rfl | simp -implicitDefEqProofs only [go_sem]) (by first | rfl | simp -implicitDefEqProofs only [redoH, redo1, go_sem]) ?_
  refine body_does rfl fun T hT' hA => ?_
  have a0 := hA 0 _ rfl
  have a1 := hA 1 _ rfl
  have hT : T.length = 18 := hT'
  clear hA hT'
  simp -implicitDefEqProofs only [go_sem]
  simp only [does_bind]
  refine xl_does (fun k T s' => T.length = 18 ∧ nth T 0 = some (.lst (l.map iV)) ∧ nth T 1 = some (.int .i64 x) ∧ s' = ⟨[], 0, [], false, []⟩ ∧ ∃ i : Nat, nth T 5 = some (.int .i64 i) ∧ i ≤ l.length ∧ k = l.length - i ∧ (x ∈ l ↔ x ∈ l.drop i)) (k := l.length) (by omega) ?_ ?_
  · exact ⟨by simp -implicitDefEqProofs only [go_sem, hT], by simp -implicitDefEqProofs only [go_sem, a0], by simp -implicitDefEqProofs only [go_sem, a1], rfl, 0, by simp -implicitDefEqProofs only [go_sem, hT] <;> rfl, by omega, rfl, Iff.rfl⟩
  clear a0 a1 hT
  rintro k T s' ⟨hT, a0, a1, rfl, i, a5, hi, rfl, hm⟩
  simp -implicitDefEqProofs only [go_sem, a0, a5, hT]
  by_cases hil : (i : Int) < (l.length : Int)
  · have hi' : i < l.length := by omega
    have e1 := elemAt_map (f := iV) (l := l) (i := i) (z := 1) hi' rfl
    have hkk : l.length - (i + 1) < l.length - i := by omega
    rw [List.drop_eq_getElem_cons hi', List.mem_cons] at hm
    have hw1 : wrapF .i64 ((i : Int) + 1) = ((i + 1 : Nat) : Int) := wrap_i64 (by omega) (by omega)
    generalize l[i] = y at *
    by_cases c1 : y = x
    · have hm2 : decide (x ∈ l) = true := decide_eq_true (hm.2 (.inl c1.symm))
      simp -implicitDefEqProofs only [go_sem, a0, a1, a5, hT, hil, e1, c1, hm2, Try.results162]
    · have hm2 : x ∈ l ↔ x ∈ l.drop (i + 1) := hm.trans ⟨fun h => h.resolve_left fun h => c1 h.symm, .inr⟩
      simp -implicitDefEqProofs only [go_sem, a0, a1, a5, hT, hil, e1, c1, hw1]
      exact ⟨l.length - (i + 1), hkk, trivial, trivial, trivial, trivial, i + 1, rfl, hi', rfl, hm2⟩
  · have hie : i = l.length := by omega
    subst hie
    rw [List.drop_length] at hm
    have hm2 : decide (x ∈ l) = false := decide_eq_false fun h => by have := hm.1 h; cases this
    simp -implicitDefEqProofs only [go_sem, hT, hil, hm2, Try.results162]
def indexI (x : Int) : Nat → List Int → Int
  | _, [] => -1
  | i, y :: l => if x = y then i else indexI x (i + 1) l
theorem index_nonneg (x : Int) : ∀ (l : List Int) (i : Nat), decide (0 ≤ indexI x i l) = decide (x ∈ l)
  | [], i => by simp [indexI]
  | y :: l, i => by
    unfold indexI
    by_cases h : x = y
    · rw [if_pos h]; simp [h]
    · rw [if_neg h, index_nonneg x l (i + 1)]
      congr 1
      apply propext
      simp [h]
theorem index_call (l : List Int) (x : Int) (K : Nat) (s : St) (hK : l.length < K) (hl : l.length ≤ 9223372036854775807) : acall cfg (K + 1) 181 [.lst (l.map iV), .int .i64 x] s = .ret (.int .i64 (indexI x 0 l), s) := by
  refine call1 mget181 fget181 (by first | rfl | simp -implicitDefEqProofs only [redoH, redo1, go_sem]) (by first | rfl | simp -implicitDefEqProofs only [go_sem]) (by first | rfl | simp -implicitDefEqProofs only [redoH, redo1, go_sem]) ?_
  refine body_does rfl fun T hT' hA => ?_
  have a0 := hA 0 _ rfl
  have a1 := hA 1 _ rfl
  have hT : T.length = 19 := hT'
  clear hA hT'
  simp -implicitDefEqProofs only [go_sem, a0, hT]
  simp only [does_bind]
  refine xl_does (fun k T s' => T.length = 19 ∧ nth T 0 = some (.lst (l.map iV)) ∧ nth T 1 = some (.int .i64 x) ∧ nth T 7 = some (.int .i64 l.length) ∧ s' = ⟨[], 0, [], false, []⟩ ∧ ∃ i : Nat, nth T 8 = some (.int .i64 i) ∧ i ≤ l.length ∧ k = l.length - i ∧ indexI x 0 l = indexI x i (l.drop i)) (k := l.length) (by omega) ?_ ?_
  · exact ⟨by simp -implicitDefEqProofs only [go_sem, hT], by simp -implicitDefEqProofs only [go_sem, a0], by simp -implicitDefEqProofs only [go_sem, a1], by simp -implicitDefEqProofs only [go_sem, hT], rfl, 0, by simp -implicitDefEqProofs only [go_sem, hT] <;> rfl, by omega, rfl, rfl⟩
  clear a0 a1 hT
  rintro k T s' ⟨hT, a0, a1, a7, rfl, i, a8, hi, rfl, hm⟩
  simp -implicitDefEqProofs only [go_sem, a7, a8, hT]
  by_cases hil : (i : Int) < (l.length : Int)
  · have hi' : i < l.length := by omega
    have e1 := elemAt_map (f := iV) (l := l) (i := i) (z := 1) hi' rfl
    have hkk : l.length - (i + 1) < l.length - i := by omega
    rw [List.drop_eq_getElem_cons hi'] at hm
    simp only [indexI] at hm
    have hw1 : wrapF .i64 ((i : Int) + 1) = ((i + 1 : Nat) : Int) := wrap_i64 (by omega) (by omega)
    generalize l[i] = y at *
    by_cases c1 : x = y
    · rw [if_pos c1] at hm
      simp -implicitDefEqProofs only [go_sem, a0, a1, a8, hT, hil, e1, c1, Try.results181]
      rw [← c1, hm]
    · rw [if_neg c1] at hm
      simp -implicitDefEqProofs only [go_sem, a0, a1, a7, a8, hT, hil, e1, c1, hw1]
      exact ⟨l.length - (i + 1), hkk, trivial, trivial, trivial, trivial, trivial, i + 1, rfl, hi', rfl, hm⟩
  · have hie : i = l.length := by omega
    subst hie
    rw [List.drop_length] at hm
    simp only [indexI] at hm
    simp -implicitDefEqProofs only [go_sem, hT, hil, hm, Try.results181]
theorem contains_call (l : List Int) (x : Int) (K : Nat) (s : St) (hK : l.length < K) (hl : l.length ≤ 9223372036854775807) : acall cfg (K + 2) 158 [.lst (l.map iV), .int .i64 x] s = .ret (.bool (decide (x ∈ l)), s) := by
  refine call1 mget158 fget158 (by first | rfl | simp -implicitDefEqProofs only [redoH, redo1, go_sem]) (by first | rfl | simp -implicitDefEqProofs only [go_sem]) (by first | rfl | simp -implicitDefEqProofs only [redoH, redo1, go_sem]) ?_
  refine body_does rfl fun T hT' hA => ?_
  have a0 := hA 0 _ rfl
  have a1 := hA 1 _ rfl
  have hT : T.length = 9 := hT'
  clear hA hT'
  have hc := fun s => index_call l x K s hK hl
  have hn := index_nonneg x l 0
  simp -implicitDefEqProofs only [go_sem, a0, a1, hT, hc, hn, Try.results158]
end Go.Proofs.Ytgnpnfkncbnjnaa
namespace Go.Proofs.Ytgnpnfkncbnjnaa
open Go Go.Am
attribute [local congr] tr_congr does_congr all_congr
attribute [local go_sem] Go.Am.buildSliceA Go.Am.frozen Go.Am.freezeG Go.Am.freezeGs Go.Am.minmax
def shutE (np : Int) : Int → List Int → Int
  | _, [] => 0
  | last, p :: l => if fromB p 0 (np - 1) = true then if p ≤ last then 11 else shutE np p l else 7
def stageE (v : Vac) (s : Bk) : Int := if fromB s.ticks 0 2000 = true ∧ fromB s.heat 0 2000 = true then shutE v.pipes.length (-1) s.shut else 2
theorem stage_call (v : Vac) (b : Bk) (K : Nat) (s : St) (hK : b.shut.length < K) (hl : b.shut.length ≤ 9223372036854775807) (hp : v.pipes.length ≤ 9223372036854775807) : acall cfg (K + 2) 95 [vacV v, bkV b] s = .ret (.int .i64 (stageE v b), s) := by
  refine call1 mget95 fget95 (by first | rfl | simp -implicitDefEqProofs only [redoH, redo1, go_sem]) (by first | rfl | simp -implicitDefEqProofs only [go_sem]) (by first | rfl | simp -implicitDefEqProofs only [redoH, redo1, go_sem]) ?_
  refine body_does rfl fun T hT' hA => ?_
  have a0 := hA 0 _ rfl
  have a1 := hA 1 _ rfl
  have hT : T.length = 39 := hT'
  clear hA hT'
  have hc := fun n lo hi s => from_call n lo hi K s
  have hw : wrapF .i64 ((v.pipes.length : Int) - 1) = (v.pipes.length : Int) - 1 := wrap_i64 (by omega) (by omega)
  unfold stageE
  simp -implicitDefEqProofs only [go_sem, a0, a1, hT, hc]
  by_cases c1 : fromB b.ticks 0 2000 = true
  · by_cases c2 : fromB b.heat 0 2000 = true
    · rw [if_pos ⟨c1, c2⟩]
      simp -implicitDefEqProofs only [go_sem, hT, c1, c2]
      simp only [does_bind]
      refine xl_does (fun k T s' => T.length = 39 ∧ nth T 2 = some (.ptr [0] 0) ∧ nth T 19 = some (.lst (b.shut.map iV)) ∧ nth T 20 = some (.int .i64 b.shut.length) ∧ s' = ⟨[([1], .cells [.int .i64 b.ticks, .int .i64 b.heat, .lst (b.shut.map iV), .bool b.flash] true 0), ([0], .cells [.lst (v.vessels.map vesV), .lst (v.pipes.map pipV), .lst (v.pumps.map pmpV), .lst (v.leaks.map inlV), .lst (v.getters.map gtrV)] true 0)], 2, [], false, []⟩ ∧
        ∃ (i : Nat) (last : Int), nth T 21 = some (.int .i64 i) ∧ nth T 5 = some (.int .i64 last) ∧ i ≤ b.shut.length ∧ k = b.shut.length - i ∧ shutE v.pipes.length (-1) b.shut = shutE v.pipes.length last (b.shut.drop i)) (k := b.shut.length) (by omega) ?_ ?_
      · exact ⟨by simp -implicitDefEqProofs only [go_sem, hT], by simp -implicitDefEqProofs only [go_sem, hT], by simp -implicitDefEqProofs only [go_sem, hT], by simp -implicitDefEqProofs only [go_sem, hT], rfl, 0, -1, by simp -implicitDefEqProofs only [go_sem, hT] <;> rfl, by simp -implicitDefEqProofs only [go_sem, hT] <;> rfl, by omega, rfl, rfl⟩
      clear a0 a1 hT T
      rintro k T s' ⟨hT, a2, a19, a20, rfl, i, last, a21, a5, hi, rfl, he⟩
      simp -implicitDefEqProofs only [go_sem, a20, a21, hT]
      by_cases hil : (i : Int) < (b.shut.length : Int)
      · have hi' : i < b.shut.length := by omega
        have e1 := elemAt_map (f := iV) (l := b.shut) (i := i) (z := 1) hi' rfl
        have hkk : b.shut.length - (i + 1) < b.shut.length - i := by omega
        rw [List.drop_eq_getElem_cons hi'] at he
        have hw1 : wrapF .i64 ((i : Int) + 1) = ((i + 1 : Nat) : Int) := wrap_i64 (by omega) (by omega)
        generalize b.shut[i] = x at *
        simp only [shutE] at he
        simp -implicitDefEqProofs only [go_sem, a2, a19, a21, hT, hil, e1, hw, hc]
        by_cases d1 : fromB x 0 (v.pipes.length - 1) = true
        · rw [if_pos d1] at he
          by_cases d2 : x ≤ last
          · rw [if_pos d2] at he
            simp -implicitDefEqProofs only [go_sem, a5, hT, d1, d2, he, Try.results95]
          · rw [if_neg d2] at he
            simp -implicitDefEqProofs only [go_sem, a2, a5, a19, a20, a21, hT, d1, d2, hw1]
            exact ⟨b.shut.length - (i + 1), hkk, trivial, trivial, trivial, trivial, trivial, i + 1, x, rfl, rfl, hi', rfl, he⟩
        · rw [if_neg d1] at he
          simp -implicitDefEqProofs only [go_sem, hT, d1, he, Try.results95]
      · have hie : i = b.shut.length := by omega
        subst hie
        rw [List.drop_length] at he
        simp only [shutE] at he
        simp -implicitDefEqProofs only [go_sem, hT, hil, he, Try.results95]
    · rw [if_neg (fun h => c2 h.2)]
      simp -implicitDefEqProofs only [go_sem, hT, c1, c2, Try.results95]
  · rw [if_neg (fun h => c1 h.1)]
    simp -implicitDefEqProofs only [go_sem, hT, c1, Try.results95]
theorem checkStage_call (v : Vac) (b : Bk) (K : Nat) (s : St) (hK : b.shut.length < K) (hl : b.shut.length ≤ 9223372036854775807) (hp : v.pipes.length ≤ 9223372036854775807) : acall cfg (K + 2) 122 [vacV v, bkV b] s = .ret (.int .i64 (stageE v b), s) := by
  refine call1 mget122 fget122 (by first | rfl | simp -implicitDefEqProofs only [redoH, redo1, go_sem]) (by first | rfl | simp -implicitDefEqProofs only [go_sem]) (by first | rfl | simp -implicitDefEqProofs only [redoH, redo1, go_sem]) ?_
  refine body_does rfl fun T hT' hA => ?_
  have a0 := hA 0 _ rfl
  have a1 := hA 1 _ rfl
  have hT : T.length = 50 := hT'
  clear hA hT'
  have hc := fun n lo hi s => within_call n lo hi K s
  have hw : wrapF .i64 ((v.pipes.length : Int) - 1) = (v.pipes.length : Int) - 1 := wrap_i64 (by omega) (by omega)
  unfold stageE
  simp -implicitDefEqProofs only [go_sem, a0, a1, hT, hc]
  by_cases c1 : fromB b.ticks 0 2000 = true
  · by_cases c2 : fromB b.heat 0 2000 = true
    · rw [if_pos ⟨c1, c2⟩]
      simp -implicitDefEqProofs only [go_sem, hT, c1, c2]
      simp only [does_bind]
      refine xl_does (fun k T s' => T.length = 50 ∧ nth T 2 = some (.ptr [0] 0) ∧ nth T 3 = some (.ptr [1] 0) ∧
        ∃ (i n : Nat) (last : Int) (H : Heap), nth T 5 = some (.int .i64 i) ∧ i ≤ b.shut.length ∧ k = b.shut.length - i ∧ s' = ⟨H, n, [], false, []⟩ ∧ hget H [0] = some (.cells [.lst (v.vessels.map vesV), .lst (v.pipes.map pipV), .lst (v.pumps.map pmpV), .lst (v.leaks.map inlV), .lst (v.getters.map gtrV)] true 0) ∧ hget H [1] = some (.cells [.int .i64 b.ticks, .int .i64 b.heat, .lst (b.shut.map iV), .bool b.flash] true 0) ∧ shutE v.pipes.length (-1) b.shut = shutE v.pipes.length last (b.shut.drop i) ∧
        (i = 0 → last = -1) ∧ ∀ h : i - 1 < b.shut.length, 0 < i → b.shut[i - 1] = last) (k := b.shut.length) (by omega) ?_ ?_
      · exact ⟨by simp -implicitDefEqProofs only [go_sem, hT], by simp -implicitDefEqProofs only [go_sem, hT], by simp -implicitDefEqProofs only [go_sem, hT], 0, _, -1, _, by simp -implicitDefEqProofs only [go_sem, hT] <;> rfl, by omega, rfl, rfl, rfl, rfl, rfl, fun _ => rfl, fun _ h => by omega⟩
      clear a0 a1 hT T
      rintro k T s' ⟨hT, a2, a3, i, n, last, H, a5, hi, rfl, rfl, g0, g1, he, hl0, hlast⟩
      simp -implicitDefEqProofs only [go_sem, a3, a5, hT, g1]
      by_cases hil : (i : Int) < (b.shut.length : Int)
      · have hi' : i < b.shut.length := by omega
        have e1 := elemAt_map (f := iV) (l := b.shut) (i := i) (z := 1) hi' rfl
        have hkk : b.shut.length - (i + 1) < b.shut.length - i := by omega
        rw [List.drop_eq_getElem_cons hi'] at he
        have hnext : ∀ h : i + 1 - 1 < b.shut.length, 0 < i + 1 → b.shut[i + 1 - 1] = b.shut[i] := fun _ _ => rfl
        have hi0 : (0 : Int) < (i : Int) ↔ 0 < i := by omega
        have hprev : 0 < i → elemAt 1 ((i - 1 : Nat) : Int) (b.shut.map iV) = some (.fptr [.int .i64 last] 0) := fun h => by
          have := elemAt_map (f := iV) (l := b.shut) (i := i - 1) (z := 1) (by omega) rfl
          rw [this, ← hlast (by omega) h]; rfl
        have hz : ∀ x : Int, fromB x 0 (v.pipes.length - 1) = true → ¬ x ≤ -1 := fun x hx => by
          unfold fromB at hx
          have := of_decide_eq_true hx
          omega
        have hnz : i + 1 = 0 → b.shut[i] = -1 := fun h => by omega
        have hw2 : 0 < i → wrapF .i64 ((i : Int) - 1) = ((i - 1 : Nat) : Int) := fun h => by rw [wrap_i64 (by omega) (by omega)]; omega
        have hw1 : wrapF .i64 ((i : Int) + 1) = ((i + 1 : Nat) : Int) := wrap_i64 (by omega) (by omega)
        generalize hb : b.shut[i] = x at *
        simp only [shutE] at he
        simp -implicitDefEqProofs only [go_sem, hil]
        simp only [does_bind]
        refine draw_mach [] [] (by kernel_rfl) ?_
        by_cases d1 : fromB x 0 (v.pipes.length - 1) = true
        · rw [if_pos d1] at he
          simp -implicitDefEqProofs only [redoH, go_sem, a2, a3, a5, hT, g0, g1, e1, hw, hc, d1]
          simp only [does_bind]
          refine draw_mach [] [] (by kernel_rfl) ?_
          by_cases d0 : 0 < i
          · have d0' := hi0.2 d0
            by_cases d2 : x ≤ last
            · rw [if_pos d2] at he
              simp -implicitDefEqProofs only [redoH, go_sem, a3, a5, hT, g1, e1, d0', hprev d0, hw2 d0, d2, he, Try.results122]
            · rw [if_neg d2] at he
              simp -implicitDefEqProofs only [redoH, go_sem, a2, a3, a5, hT, g1, e1, d0', hprev d0, hw2 d0, d2, hw1]
              exact ⟨b.shut.length - (i + 1), hkk, trivial, trivial, trivial, i + 1, _, x, H, rfl, hi', rfl, rfl, g0, g1, he, hnz, by rw [← hb]; exact hnext⟩
          · have d0' : ¬ (0 : Int) < (i : Int) := fun h => d0 (hi0.1 h)
            have hi00 : i = 0 := Nat.eq_zero_of_not_pos d0
            rw [hl0 hi00, if_neg (hz x d1)] at he
            simp -implicitDefEqProofs only [redoH, go_sem, a2, a3, a5, hT, d0', hw1]
            exact ⟨b.shut.length - (i + 1), hkk, trivial, trivial, trivial, i + 1, _, x, H, rfl, hi', rfl, rfl, g0, g1, he, hnz, by rw [← hb]; exact hnext⟩
        · rw [if_neg d1] at he
          simp -implicitDefEqProofs only [redoH, go_sem, a2, a3, a5, hT, g0, g1, e1, hw, hc, d1, he, Try.results122]
      · have hie : i = b.shut.length := by omega
        subst hie
        rw [List.drop_length] at he
        simp only [shutE] at he
        simp -implicitDefEqProofs only [go_sem, hT, hil, he, Try.results122]
    · rw [if_neg (fun h => c2 h.2)]
      simp -implicitDefEqProofs only [go_sem, hT, c1, c2, Try.results122]
  · rw [if_neg (fun h => c1 h.1)]
    simp -implicitDefEqProofs only [go_sem, hT, c1, Try.results122]
def sameR : List Rg → List Rg → Bool
  | [], [] => true
  | a :: l, b :: r => decide (a = b) && sameR l r
  | _, _ => false
theorem sameR_eq : ∀ {l r : List Rg}, sameR l r = true ↔ l = r
  | [], [] => by simp [sameR]
  | [], _ :: _ => by simp [sameR]
  | _ :: _, [] => by simp [sameR]
  | a :: l, b :: r => by simp [sameR, sameR_eq (l := l) (r := r)]
theorem sameR_len : ∀ {l r : List Rg}, l.length ≠ r.length → sameR l r = false
  | [], [], h => absurd rfl h
  | [], _ :: _, _ => rfl
  | _ :: _, [], _ => rfl
  | a :: l, b :: r, h => by
    have := sameR_len (l := l) (r := r) (by simpa using h)
    simp [sameR, this]
theorem eq_rg {C : Cfg} (a b : Rg) (hC : C.ty = cfg.ty) : eqA C 20 26 (.agg [.int .i64 a.lo, .int .i64 a.hi]) (.agg [.int .i64 b.lo, .int .i64 b.hi]) = some (decide (a = b)) := by
  have h26 : C.ty.get 26 = some ty26 := by rw [hC]; exact tget26
  have h3 : C.ty.get 3 = some ty3 := by rw [hC]; exact tget3
  obtain ⟨al, ah⟩ := a
  obtain ⟨bl, bh⟩ := b
  by_cases h1 : al = bl
  · by_cases h2 : ah = bh
    · subst h1; subst h2
      simp only [eqA, eqFields, go_sem, h26, h3]
    · have h4 : decide ((⟨al, ah⟩ : Rg) = ⟨bl, bh⟩) = false := decide_eq_false fun h => h2 (by injection h)
      subst h1
      simp only [eqA, eqFields, go_sem, h26, h3, h2, h4]
  · have h4 : decide ((⟨al, ah⟩ : Rg) = ⟨bl, bh⟩) = false := decide_eq_false fun h => h1 (by injection h)
    simp only [eqA, eqFields, go_sem, h26, h3, h1, h4]
theorem sameRanges_call (l r : List Rg) (K : Nat) (s : St) (hK : l.length < K) (hl : l.length ≤ 9223372036854775807) (hr : r.length ≤ 9223372036854775807) : acall cfg (K + 1) 100 [.lst (l.map rgV), .lst (r.map rgV)] s = .ret (.bool (sameR l r), s) := by
  refine call1 mget100 fget100 (by first | rfl | simp -implicitDefEqProofs only [redoH, redo1, go_sem]) (by first | rfl | simp -implicitDefEqProofs only [go_sem]) (by first | rfl | simp -implicitDefEqProofs only [redoH, redo1, go_sem]) ?_
  refine body_does rfl fun T hT' hA => ?_
  have a0 := hA 0 _ rfl
  have a1 := hA 1 _ rfl
  have hT : T.length = 26 := hT'
  clear hA hT'
  simp -implicitDefEqProofs only [go_sem, a0, a1, hT]
  by_cases hlen : (l.length : Int) = (r.length : Int)
  · have hlr : l.length = r.length := by omega
    simp -implicitDefEqProofs only [go_sem, hlen]
    simp only [does_bind]
    refine xl_does (fun k T s' => T.length = 26 ∧ nth T 0 = some (.lst (l.map rgV)) ∧ nth T 1 = some (.lst (r.map rgV)) ∧ ∃ i n : Nat, s' = ⟨[], n, [], false, []⟩ ∧ nth T 5 = some (.int .i64 i) ∧ i ≤ l.length ∧ k = l.length - i ∧ sameR l r = sameR (l.drop i) (r.drop i)) (k := l.length) (by omega) ?_ ?_
    · exact ⟨by simp -implicitDefEqProofs only [go_sem, hT], by simp -implicitDefEqProofs only [go_sem, a0], by simp -implicitDefEqProofs only [go_sem, a1], 0, 0, rfl, by simp -implicitDefEqProofs only [go_sem, hT] <;> rfl, by omega, rfl, rfl⟩
    clear a0 a1 hT
    rintro k T s' ⟨hT, a0, a1, i, n, rfl, a5, hi, rfl, hs⟩
    simp -implicitDefEqProofs only [go_sem, a0, a5, hT]
    by_cases hlo : (i : Int) < (l.length : Int)
    · have hi' : i < l.length := by omega
      have hi2 : i < r.length := by omega
      have hk2 : l.length - (i + 1) < l.length - i := by omega
      have hel := elemAt_map (f := rgV) (l := l) (i := i) (z := 2) hi' rfl
      have hel2 := elemAt_map (f := rgV) (l := r) (i := i) (z := 2) hi2 rfl
      rw [List.drop_eq_getElem_cons hi', List.drop_eq_getElem_cons hi2, sameR] at hs
      have heq := eq_rg (C := cfg.at 100) l[i] r[i] rfl
      have hw1 : wrapF .i64 ((i : Int) + 1) = ((i + 1 : Nat) : Int) := wrap_i64 (by omega) (by omega)
      simp -implicitDefEqProofs only [go_sem, hlo]
      simp only [does_bind]
      refine draw_mach [] [] (by kernel_rfl) ?_
      by_cases c1 : l[i] = r[i]
      · rw [decide_eq_true c1] at heq hs
        rw [Bool.true_and] at hs
        simp -implicitDefEqProofs only [redoH, go_sem, a0, a1, a5, hT, hel, hel2, heq, hw1]
        exact ⟨l.length - (i + 1), hk2, trivial, trivial, trivial, i + 1, n + 1, rfl, rfl, hi', rfl, hs⟩
      · rw [decide_eq_false c1] at heq hs
        rw [Bool.false_and] at hs
        simp -implicitDefEqProofs only [redoH, go_sem, a0, a1, a5, hT, hel, hel2, heq, hs, Try.results100]
    · have hil : i = l.length := by omega
      subst hil
      rw [List.drop_length, hlr, List.drop_length] at hs
      simp -implicitDefEqProofs only [go_sem, hT, hlo, hs, sameR, Try.results100]
  · have hlr : l.length ≠ r.length := by omega
    simp -implicitDefEqProofs only [go_sem, hT, hlen, sameR_len hlr, Try.results100]
theorem sameGas_self (g : Gs) (K : Nat) (s : St) (hK : g.free.length < K ∧ g.bound.length < K ∧ g.room.length < K) (h1 : g.free.length ≤ 9223372036854775807) (h2 : g.bound.length ≤ 9223372036854775807) (h3 : g.room.length ≤ 9223372036854775807) : acall cfg (K + 2) 51 [gsV g, gsV g] s = .ret (.bool true, s) := by
  refine call1 mget51 fget51 (by first | rfl | simp -implicitDefEqProofs only [redoH, redo1, go_sem]) (by first | rfl | simp -implicitDefEqProofs only [go_sem]) (by first | rfl | simp -implicitDefEqProofs only [redoH, redo1, go_sem]) ?_
  refine body_does rfl fun T hT' hA => ?_
  have a0 := hA 0 _ rfl
  have a1 := hA 1 _ rfl
  have hT : T.length = 38 := hT'
  clear hA hT'
  have hc1 := fun s => sameRanges_call g.free g.free K s hK.1 h1 h1
  have hc2 := fun s => sameRanges_call g.bound g.bound K s hK.2.1 h2 h2
  have hc3 := fun s => sameRanges_call g.room g.room K s hK.2.2 h3 h3
  rw [sameR_eq.2 rfl] at hc1 hc2 hc3
  have hb : eqA (cfg.at 51) 20 4 (.bool g.flashed) (.bool g.flashed) = some true := by
    cases g.flashed <;> simp only [eqA, go_sem]
  simp -implicitDefEqProofs only [go_sem, a0, a1, hT, hc1, hc2, hc3, hb, Try.results51]
def largeB (v : Vac) : Bool := decide (20 < v.vessels.length) || decide (30 < v.pipes.length) || decide (20 < v.pumps.length) || decide (20 < v.leaks.length) || decide (20 < v.getters.length) || v.vessels.any fun x => decide (20 < x.bands.length)
end Go.Proofs.Ytgnpnfkncbnjnaa
namespace Go.Proofs.Ytgnpnfkncbnjnaa
open Go Go.Am
attribute [local congr] tr_congr does_congr all_congr
attribute [local go_sem] Go.Am.buildSliceA Go.Am.frozen Go.Am.freezeG Go.Am.freezeGs Go.Am.minmax
def outP (x : Int) (shut : List Int) : Nat → Rg → List Pip → Rg
  | _, acc, [] => acc
  | i, acc, p :: r => if (i : Int) ∈ shut then outP x shut (i + 1) acc r else
    outP x shut (i + 1) (if p.b = x then plusR (if p.a = x then plusR acc p.out else acc) p.back else (if p.a = x then plusR acc p.out else acc)) r
def outM (x : Int) : Rg → List Pmp → Rg
  | acc, [] => acc
  | acc, q :: r => outM x (if q.at' = x then plusR acc q.part else acc) r
def outR (v : Vac) (x : Int) (shut : List Int) : Rg := outM x (outP x shut 0 ⟨0, 0⟩ v.pipes) v.pumps
structure Vac.Lens (v : Vac) (K : Nat) : Prop where
  ves : v.vessels.length < K ∧ v.vessels.length ≤ 9223372036854775807
  pip : v.pipes.length < K ∧ v.pipes.length ≤ 9223372036854775807
  pmp : v.pumps.length < K ∧ v.pumps.length ≤ 9223372036854775807
  inl : v.leaks.length < K ∧ v.leaks.length ≤ 9223372036854775807
  gtr : v.getters.length < K ∧ v.getters.length ≤ 9223372036854775807
  bands : ∀ x ∈ v.vessels, x.bands.length ≤ 9223372036854775807
theorem out_call (v : Vac) (x : Int) (shut : List Int) (K : Nat) (s : St) (hv : v.Lens K) (hs : shut.length < K) (hs2 : shut.length ≤ 9223372036854775807) : acall cfg (K + 2) 121 [vacV v, .int .i64 x, .lst (shut.map iV)] s = .ret (rgV (outR v x shut), s) := by
  refine call1 mget121 fget121 (by first | rfl | simp -implicitDefEqProofs only [redoH, redo1, go_sem]) (by first | rfl | simp -implicitDefEqProofs only [go_sem]) (by first | rfl | simp -implicitDefEqProofs only [redoH, redo1, go_sem]) ?_
  refine body_does rfl fun T hT' hA => ?_
  have a0 := hA 0 _ rfl
  have a1 := hA 1 _ rfl
  have a2 := hA 2 _ rfl
  have hT : T.length = 66 := hT'
  clear hA hT'
  obtain ⟨⟨_, _⟩, ⟨hp1, hp2⟩, ⟨hm1, hm2⟩, _, _, _⟩ := hv
  have hh := fun n s => rhas_call shut n K s hs hs2
  have had := fun a b s => add_call a b K s
  simp only [rgV] at had
  simp -implicitDefEqProofs only [go_sem, a0]
  simp only [does_bind]
  refine xl_does (fun k T s' => T.length = 66 ∧ nth T 1 = some (.int .i64 x) ∧ nth T 2 = some (.lst (shut.map iV)) ∧ nth T 3 = some (.ptr [0] 0) ∧ nth T 6 = some (.ptr [1] 0) ∧ nth T 7 = some (.ptr [2] 0) ∧ ∃ (i n : Nat) (acc : Rg) (H : Heap), nth T 8 = some (.int .i64 i) ∧ i ≤ v.pipes.length ∧ k = v.pipes.length - i ∧ s' = ⟨H, n + 3, [], false, []⟩ ∧ hget H [0] = some (.cells [.lst (v.vessels.map vesV), .lst (v.pipes.map pipV), .lst (v.pumps.map pmpV), .lst (v.leaks.map inlV), .lst (v.getters.map gtrV)] true 0) ∧
    hget H [1] = some (.cells [.int .i64 0, .int .i64 0] true 0) ∧ hget H [2] = some (.cells [.int .i64 acc.lo, .int .i64 acc.hi] true 0) ∧ outP x shut 0 ⟨0, 0⟩ v.pipes = outP x shut i acc (v.pipes.drop i)) (k := v.pipes.length) (by omega) ?_ ?_
  · exact ⟨by simp -implicitDefEqProofs only [go_sem, hT], by simp -implicitDefEqProofs only [go_sem, a1], by simp -implicitDefEqProofs only [go_sem, a2], by simp -implicitDefEqProofs only [go_sem, hT], by simp -implicitDefEqProofs only [go_sem, hT], by simp -implicitDefEqProofs only [go_sem, hT], 0, 0, ⟨0, 0⟩, _, by simp -implicitDefEqProofs only [go_sem, hT] <;> rfl, by omega, rfl, rfl, rfl, rfl, rfl, rfl⟩
  clear a0 a1 a2 hT T
  rintro k T s' ⟨hT, a1, a2, a3, a6, a7, i, n, acc, H, a8, hi, rfl, rfl, g0, g1, g2, he⟩
  simp -implicitDefEqProofs only [go_sem, a3, a8, hT, g0]
  by_cases hil : (i : Int) < (v.pipes.length : Int)
  · have hi' : i < v.pipes.length := by omega
    have e1 := elemAt_map (f := pipV) (l := v.pipes) (i := i) (z := 6) hi' rfl
    have hkk : v.pipes.length - (i + 1) < v.pipes.length - i := by omega
    rw [List.drop_eq_getElem_cons hi'] at he
    generalize v.pipes[i] = p at *
    simp only [outP] at he
    have k0 : ∀ X, hget (([n + 3], X) :: H) [0] = _ := fun X => (hget_cons_ne _ _ (nm_ne' (by omega))).trans g0
    have k1 : ∀ X, hget (([n + 3], X) :: H) [1] = _ := fun X => (hget_cons_ne _ _ (nm_ne' (by omega))).trans g1
    have k2 : ∀ X, hget (([n + 3], X) :: H) [2] = _ := fun X => (hget_cons_ne _ _ (nm_ne' (by omega))).trans g2
    have m0 : ∀ X Z, hget (([n + 3], X) :: hset H [2] Z) [0] = _ := fun X Z => (hget_cons_ne _ _ (nm_ne' (by omega))).trans ((hget_hset_ne H Z (by decide)).trans g0)
    have m1 : ∀ X Z, hget (([n + 3], X) :: hset H [2] Z) [1] = _ := fun X Z => (hget_cons_ne _ _ (nm_ne' (by omega))).trans ((hget_hset_ne H Z (by decide)).trans g1)
    have m2 : ∀ X Z, hget (([n + 3], X) :: hset H [2] Z) [2] = _ := fun X Z => (hget_cons_ne _ _ (nm_ne' (by omega))).trans (hget_hset_same Z g2)
    have w2 : ∀ Z, hget (hset H [2] Z) [2] = _ := fun Z => hget_hset_same Z g2
    have d2 : ∀ Z Y, hget (hset (hset H [2] Z) [2] Y) [2] = some Y := fun Z Y => hget_hset_same Y (w2 Z)
    have d0 : ∀ X Z Y, hget (([n + 3], X) :: hset (hset H [2] Z) [2] Y) [0] = _ := fun X Z Y => (hget_cons_ne _ _ (nm_ne' (by omega))).trans ((hget_hset_ne _ Y (by decide)).trans ((hget_hset_ne H Z (by decide)).trans g0))
    have d1 : ∀ X Z Y, hget (([n + 3], X) :: hset (hset H [2] Z) [2] Y) [1] = _ := fun X Z Y => (hget_cons_ne _ _ (nm_ne' (by omega))).trans ((hget_hset_ne _ Y (by decide)).trans ((hget_hset_ne H Z (by decide)).trans g1))
    have d3 : ∀ X Z Y, hget (([n + 3], X) :: hset (hset H [2] Z) [2] Y) [2] = some Y := fun X Z Y => (hget_cons_ne _ _ (nm_ne' (by omega))).trans (d2 Z Y)
    have hw1 : wrapF .i64 ((i : Int) + 1) = ((i + 1 : Nat) : Int) := wrap_i64 (by omega) (by omega)
    simp -implicitDefEqProofs only [go_sem, a2, a3, a8, hT, hil, e1, hh, g0]
    by_cases c1 : (i : Int) ∈ shut
    · rw [if_pos c1] at he
      simp -implicitDefEqProofs only [go_sem, a1, a2, a3, a6, a7, a8, hT, c1, hw1]
      exact ⟨v.pipes.length - (i + 1), hkk, trivial, trivial, trivial, trivial, trivial, trivial, i + 1, n + 1, acc, _, rfl, hi', rfl, rfl, k0 _, k1 _, k2 _, he⟩
    · rw [if_neg c1] at he
      by_cases c2 : p.a = x
      · rw [if_pos c2] at he
        by_cases c3 : p.b = x
        · rw [if_pos c3] at he
          simp -implicitDefEqProofs only [go_sem, a1, a2, a3, a6, a7, a8, hT, c1, c2, c3, g2, w2, had ⟨acc.lo, acc.hi⟩ ⟨p.out.lo, p.out.hi⟩, had ⟨(plusR acc p.out).lo, (plusR acc p.out).hi⟩ ⟨p.back.lo, p.back.hi⟩, hw1]
          exact ⟨v.pipes.length - (i + 1), hkk, trivial, trivial, trivial, trivial, trivial, trivial, i + 1, n + 1, _, _, rfl, hi', rfl, rfl, d0 _ _ _, d1 _ _ _, d3 _ _ _, he⟩
        · rw [if_neg c3] at he
          simp -implicitDefEqProofs only [go_sem, a1, a2, a3, a6, a7, a8, hT, c1, c2, c3, g2, had ⟨acc.lo, acc.hi⟩ ⟨p.out.lo, p.out.hi⟩, hw1]
          exact ⟨v.pipes.length - (i + 1), hkk, trivial, trivial, trivial, trivial, trivial, trivial, i + 1, n + 1, _, _, rfl, hi', rfl, rfl, m0 _ _, m1 _ _, m2 _ _, he⟩
      · rw [if_neg c2] at he
        by_cases c3 : p.b = x
        · rw [if_pos c3] at he
          simp -implicitDefEqProofs only [go_sem, a1, a2, a3, a6, a7, a8, hT, c1, c2, c3, g2, had ⟨acc.lo, acc.hi⟩ ⟨p.back.lo, p.back.hi⟩, hw1]
          exact ⟨v.pipes.length - (i + 1), hkk, trivial, trivial, trivial, trivial, trivial, trivial, i + 1, n + 1, _, _, rfl, hi', rfl, rfl, m0 _ _, m1 _ _, m2 _ _, he⟩
        · rw [if_neg c3] at he
          simp -implicitDefEqProofs only [go_sem, a1, a2, a3, a6, a7, a8, hT, c1, c2, c3, hw1]
          exact ⟨v.pipes.length - (i + 1), hkk, trivial, trivial, trivial, trivial, trivial, trivial, i + 1, n + 1, acc, _, rfl, hi', rfl, rfl, k0 _, k1 _, k2 _, he⟩
  · have hie : i = v.pipes.length := by omega
    subst hie
    rw [List.drop_length] at he
    simp only [outP] at he
    unfold outR
    rw [he]
    simp -implicitDefEqProofs only [go_sem, hil]
    simp only [does_bind]
    refine xl_does (fun k T s' => T.length = 66 ∧ nth T 1 = some (.int .i64 x) ∧ nth T 3 = some (.ptr [0] 0) ∧ nth T 6 = some (.ptr [1] 0) ∧ nth T 7 = some (.ptr [2] 0) ∧ ∃ (i n : Nat) (acc2 : Rg) (H : Heap), nth T 10 = some (.int .i64 i) ∧ i ≤ v.pumps.length ∧ k = v.pumps.length - i ∧ s' = ⟨H, n, [], false, []⟩ ∧ hget H [0] = some (.cells [.lst (v.vessels.map vesV), .lst (v.pipes.map pipV), .lst (v.pumps.map pmpV), .lst (v.leaks.map inlV), .lst (v.getters.map gtrV)] true 0) ∧
      hget H [1] = some (.cells [.int .i64 0, .int .i64 0] true 0) ∧ hget H [2] = some (.cells [.int .i64 acc2.lo, .int .i64 acc2.hi] true 0) ∧ outM x acc v.pumps = outM x acc2 (v.pumps.drop i)) (k := v.pumps.length) (by omega) ?_ ?_
    · exact ⟨by simp -implicitDefEqProofs only [go_sem, hT], by simp -implicitDefEqProofs only [go_sem, a1], by simp -implicitDefEqProofs only [go_sem, a3], by simp -implicitDefEqProofs only [go_sem, a6], by simp -implicitDefEqProofs only [go_sem, a7], 0, _, acc, H, by simp -implicitDefEqProofs only [go_sem, hT] <;> rfl, by omega, rfl, rfl, g0, g1, g2, rfl⟩
    clear a1 a2 a3 a6 a7 a8 hT T g0 g1 g2 H n
    rintro k T s' ⟨hT, a1, a3, a6, a7, i, n, acc2, H, a10, hi, rfl, rfl, g0, g1, g2, he2⟩
    simp -implicitDefEqProofs only [go_sem, a3, a10, hT, g0]
    by_cases hil2 : (i : Int) < (v.pumps.length : Int)
    · have hi' : i < v.pumps.length := by omega
      have e1 := elemAt_map (f := pmpV) (l := v.pumps) (i := i) (z := 3) hi' rfl
      have hkk : v.pumps.length - (i + 1) < v.pumps.length - i := by omega
      rw [List.drop_eq_getElem_cons hi'] at he2
      generalize v.pumps[i] = q at *
      simp only [outM] at he2
      have n0 : ∀ Z, hget (hset H [2] Z) [0] = _ := fun Z => (hget_hset_ne H Z (by decide)).trans g0
      have n1 : ∀ Z, hget (hset H [2] Z) [1] = _ := fun Z => (hget_hset_ne H Z (by decide)).trans g1
      have n2 : ∀ Z, hget (hset H [2] Z) [2] = some Z := fun Z => hget_hset_same Z g2
      have hw1 : wrapF .i64 ((i : Int) + 1) = ((i + 1 : Nat) : Int) := wrap_i64 (by omega) (by omega)
      simp -implicitDefEqProofs only [go_sem, a1, a3, a10, hT, hil2, e1, g0]
      by_cases c2 : q.at' = x
      · rw [if_pos c2] at he2
        simp -implicitDefEqProofs only [go_sem, c2]
        simp only [does_bind]
        refine draw_machH [[], [], [1], [], [2, 1, 3], [4, 2, 1, 3], [5, 4, 2, 1, 3], [0, 6, 5, 4, 2, 1, 3], [7, 0, 6, 5, 4, 2, 1, 3]] [8] (by kernel_rfl) (by kernel_rfl) ?_
        simp -implicitDefEqProofs only [redoH, redo1, go_sem, a1, a3, a6, a7, a10, hT, g0, g2, e1, had ⟨acc2.lo, acc2.hi⟩ ⟨q.part.lo, q.part.hi⟩, hw1]
        exact ⟨v.pumps.length - (i + 1), hkk, trivial, trivial, trivial, trivial, trivial, i + 1, n + 1, _, _, rfl, hi', rfl, rfl, n0 _, n1 _, n2 _, he2⟩
      · rw [if_neg c2] at he2
        simp -implicitDefEqProofs only [go_sem, a1, a3, a6, a7, a10, hT, c2, hw1]
        exact ⟨v.pumps.length - (i + 1), hkk, trivial, trivial, trivial, trivial, trivial, i + 1, n, acc2, H, rfl, hi', rfl, rfl, g0, g1, g2, he2⟩
    · have hie : i = v.pumps.length := by omega
      subst hie
      rw [List.drop_length] at he2
      simp only [outM] at he2
      rw [he2]
      have n1 : ∀ Z, hget (hset H [1] Z) [1] = some Z := fun Z => hget_hset_same Z g1
      simp -implicitDefEqProofs only [go_sem, a6, a7, hT, hil2, g1, g2, n1, Try.results121]
end Go.Proofs.Ytgnpnfkncbnjnaa
namespace Go.Proofs.Ytgnpnfkncbnjnaa
open Go Go.Am
attribute [local congr] tr_congr does_congr all_congr
attribute [local go_sem] Go.Am.buildSliceA Go.Am.frozen Go.Am.freezeG Go.Am.freezeGs Go.Am.minmax
def firstE {α : Type} (f : α → Int) : List α → Int
  | [] => 0
  | a :: r => if f a = 0 then firstE f r else f a
def getE (n : Int) (g : Gtr) : Int := if atE n g.at' g.part 1000000 = 0 then spansE g.room 1000000000 else atE n g.at' g.part 1000000
def partsE (v : Vac) : Int :=
  if firstE (pipE v.vessels.length) v.pipes = 0 then
    if firstE (fun q : Pmp => atE v.vessels.length q.at' q.part 1000000) v.pumps = 0 then
      if firstE (fun l : Inl => atE v.vessels.length l.at' l.gas 100000) v.leaks = 0 then firstE (getE v.vessels.length) v.getters
      else firstE (fun l : Inl => atE v.vessels.length l.at' l.gas 100000) v.leaks
    else firstE (fun q : Pmp => atE v.vessels.length q.at' q.part 1000000) v.pumps
  else firstE (pipE v.vessels.length) v.pipes
theorem checkParts_call (v : Vac) (K : Nat) (s : St) (hv : v.Lens K) : acall cfg (K + 3) 120 [vacV v] s = .ret (.int .i64 (partsE v), s) := by
  refine call1 mget120 fget120 (by first | rfl | simp -implicitDefEqProofs only [redoH, redo1, go_sem]) (by first | rfl | simp -implicitDefEqProofs only [go_sem]) (by first | rfl | simp -implicitDefEqProofs only [redoH, redo1, go_sem]) ?_
  refine body_does rfl fun T hT' hA => ?_
  have a0 := hA 0 _ rfl
  have hT : T.length = 115 := hT'
  clear hA hT'
  obtain ⟨⟨hv1, hv2⟩, ⟨hp1, hp2⟩, ⟨hm1, hm2⟩, ⟨hi1, hi2⟩, ⟨hg1, hg2⟩, _⟩ := hv
  have hpi := fun p s => checkPipe_call v.vessels.length p K s (by omega) (by omega)
  have hat := fun a r m s => checkAt_call v.vessels.length a r m K s (by omega) (by omega)
  have hsp := fun r s => checkRange_call r 1000000000 (K + 1) s
  simp only [rgV, pipV] at hpi hat hsp
  unfold partsE
  simp -implicitDefEqProofs only [go_sem, a0, hT]
  simp only [does_bind]
  refine xl_does (fun k T s' => T.length = 115 ∧ nth T 1 = some (.ptr [0] 0) ∧ nth T 3 = some (.int .i64 v.vessels.length) ∧ ∃ (i n : Nat), nth T 4 = some (.int .i64 i) ∧ i ≤ v.pipes.length ∧ k = v.pipes.length - i ∧ s' = ⟨[([0], .cells [.lst (v.vessels.map vesV), .lst (v.pipes.map pipV), .lst (v.pumps.map pmpV), .lst (v.leaks.map inlV), .lst (v.getters.map gtrV)] true 0)], n, [], false, []⟩ ∧ firstE (pipE v.vessels.length) v.pipes = firstE (pipE v.vessels.length) (v.pipes.drop i)) (k := v.pipes.length) (by omega) ?_ ?_
  · exact ⟨by simp -implicitDefEqProofs only [go_sem, hT], by simp -implicitDefEqProofs only [go_sem, hT], by simp -implicitDefEqProofs only [go_sem, hT], 0, _, by simp -implicitDefEqProofs only [go_sem, hT] <;> rfl, by omega, rfl, rfl, rfl⟩
  clear a0 hT T
  rintro k T s' ⟨hT, a1, a3, i, n, a4, hi, rfl, rfl, he⟩
  simp -implicitDefEqProofs only [go_sem, a1, a4, hT]
  by_cases hil : (i : Int) < (v.pipes.length : Int)
  · have hi' : i < v.pipes.length := by omega
    have e1 := elemAt_map (f := pipV) (l := v.pipes) (i := i) (z := 6) hi' rfl
    have hkk : v.pipes.length - (i + 1) < v.pipes.length - i := by omega
    rw [List.drop_eq_getElem_cons hi'] at he
    have hw1 : wrapF .i64 ((i : Int) + 1) = ((i + 1 : Nat) : Int) := wrap_i64 (by omega) (by omega)
    generalize v.pipes[i] = x at *
    simp only [firstE] at he
    by_cases c1 : pipE v.vessels.length x = 0
    · rw [if_pos c1] at he
      simp -implicitDefEqProofs only [go_sem, a1, a3, a4, hT, hil, e1, hpi, c1, hw1]
      exact ⟨v.pipes.length - (i + 1), hkk, trivial, trivial, trivial, i + 1, _, rfl, hi', rfl, rfl, he⟩
    · rw [if_neg c1] at he
      rw [if_neg (by rw [he]; exact c1)]
      simp -implicitDefEqProofs only [go_sem, a1, a3, a4, hT, hil, e1, hpi, c1, he, Try.results120]
  · have hie : i = v.pipes.length := by omega
    subst hie
    rw [List.drop_length] at he
    simp only [firstE] at he
    rw [if_pos he]
    simp -implicitDefEqProofs only [go_sem, hil]
    simp only [does_bind]
    refine xl_does (fun k T s' => T.length = 115 ∧ nth T 1 = some (.ptr [0] 0) ∧ nth T 3 = some (.int .i64 v.vessels.length) ∧ ∃ (i n : Nat), nth T 6 = some (.int .i64 i) ∧ i ≤ v.pumps.length ∧ k = v.pumps.length - i ∧ s' = ⟨[([0], .cells [.lst (v.vessels.map vesV), .lst (v.pipes.map pipV), .lst (v.pumps.map pmpV), .lst (v.leaks.map inlV), .lst (v.getters.map gtrV)] true 0)], n, [], false, []⟩ ∧ firstE (fun q : Pmp => atE v.vessels.length q.at' q.part 1000000) v.pumps = firstE (fun q : Pmp => atE v.vessels.length q.at' q.part 1000000) (v.pumps.drop i)) (k := v.pumps.length) (by omega) ?_ ?_
    · exact ⟨by simp -implicitDefEqProofs only [go_sem, hT], by simp -implicitDefEqProofs only [go_sem, a1], by simp -implicitDefEqProofs only [go_sem, a3], 0, _, by simp -implicitDefEqProofs only [go_sem, hT] <;> rfl, by omega, rfl, rfl, rfl⟩
    clear a1 a3 a4 hT T
    rintro k T s' ⟨hT, a1, a3, i, n, a6, hi, rfl, rfl, he⟩
    simp -implicitDefEqProofs only [go_sem, a1, a6, hT]
    by_cases hil : (i : Int) < (v.pumps.length : Int)
    · have hi' : i < v.pumps.length := by omega
      have e1 := elemAt_map (f := pmpV) (l := v.pumps) (i := i) (z := 3) hi' rfl
      have hkk : v.pumps.length - (i + 1) < v.pumps.length - i := by omega
      rw [List.drop_eq_getElem_cons hi'] at he
      have hw1 : wrapF .i64 ((i : Int) + 1) = ((i + 1 : Nat) : Int) := wrap_i64 (by omega) (by omega)
      generalize v.pumps[i] = x at *
      simp only [firstE] at he
      simp -implicitDefEqProofs only [go_sem, hil]
      simp only [does_bind]
      refine draw_mach [] [] (by kernel_rfl) ?_
      by_cases c1 : atE v.vessels.length x.at' x.part 1000000 = 0
      · rw [if_pos c1] at he
        simp -implicitDefEqProofs only [redoH, go_sem, a1, a3, a6, hT, e1, hat x.at' ⟨x.part.lo, x.part.hi⟩, c1, hw1]
        exact ⟨v.pumps.length - (i + 1), hkk, trivial, trivial, trivial, i + 1, _, rfl, hi', rfl, rfl, he⟩
      · rw [if_neg c1] at he
        rw [if_neg (by rw [he]; exact c1)]
        simp -implicitDefEqProofs only [redoH, go_sem, a1, a3, a6, hT, e1, hat x.at' ⟨x.part.lo, x.part.hi⟩, c1, he, Try.results120]
    · have hie : i = v.pumps.length := by omega
      subst hie
      rw [List.drop_length] at he
      simp only [firstE] at he
      rw [if_pos he]
      simp -implicitDefEqProofs only [go_sem, hil]
      simp only [does_bind]
      refine xl_does (fun k T s' => T.length = 115 ∧ nth T 1 = some (.ptr [0] 0) ∧ nth T 3 = some (.int .i64 v.vessels.length) ∧ ∃ (i n : Nat), nth T 8 = some (.int .i64 i) ∧ i ≤ v.leaks.length ∧ k = v.leaks.length - i ∧ s' = ⟨[([0], .cells [.lst (v.vessels.map vesV), .lst (v.pipes.map pipV), .lst (v.pumps.map pmpV), .lst (v.leaks.map inlV), .lst (v.getters.map gtrV)] true 0)], n, [], false, []⟩ ∧ firstE (fun l : Inl => atE v.vessels.length l.at' l.gas 100000) v.leaks = firstE (fun l : Inl => atE v.vessels.length l.at' l.gas 100000) (v.leaks.drop i)) (k := v.leaks.length) (by omega) ?_ ?_
      · exact ⟨by simp -implicitDefEqProofs only [go_sem, hT], by simp -implicitDefEqProofs only [go_sem, a1], by simp -implicitDefEqProofs only [go_sem, a3], 0, _, by simp -implicitDefEqProofs only [go_sem, hT] <;> rfl, by omega, rfl, rfl, rfl⟩
      clear a1 a3 a6 hT T
      rintro k T s' ⟨hT, a1, a3, i, n, a8, hi, rfl, rfl, he⟩
      simp -implicitDefEqProofs only [go_sem, a1, a8, hT]
      by_cases hil : (i : Int) < (v.leaks.length : Int)
      · have hi' : i < v.leaks.length := by omega
        have e1 := elemAt_map (f := inlV) (l := v.leaks) (i := i) (z := 3) hi' rfl
        have hkk : v.leaks.length - (i + 1) < v.leaks.length - i := by omega
        rw [List.drop_eq_getElem_cons hi'] at he
        have hw1 : wrapF .i64 ((i : Int) + 1) = ((i + 1 : Nat) : Int) := wrap_i64 (by omega) (by omega)
        generalize v.leaks[i] = x at *
        simp only [firstE] at he
        simp -implicitDefEqProofs only [go_sem, hil]
        simp only [does_bind]
        refine draw_mach [] [] (by kernel_rfl) ?_
        by_cases c1 : atE v.vessels.length x.at' x.gas 100000 = 0
        · rw [if_pos c1] at he
          simp -implicitDefEqProofs only [redoH, go_sem, a1, a3, a8, hT, e1, hat x.at' ⟨x.gas.lo, x.gas.hi⟩, c1, hw1]
          exact ⟨v.leaks.length - (i + 1), hkk, trivial, trivial, trivial, i + 1, _, rfl, hi', rfl, rfl, he⟩
        · rw [if_neg c1] at he
          rw [if_neg (by rw [he]; exact c1)]
          simp -implicitDefEqProofs only [redoH, go_sem, a1, a3, a8, hT, e1, hat x.at' ⟨x.gas.lo, x.gas.hi⟩, c1, he, Try.results120]
      · have hie : i = v.leaks.length := by omega
        subst hie
        rw [List.drop_length] at he
        simp only [firstE] at he
        rw [if_pos he]
        simp -implicitDefEqProofs only [go_sem, hil]
        simp only [does_bind]
        refine xl_does (fun k T s' => T.length = 115 ∧ nth T 1 = some (.ptr [0] 0) ∧ nth T 3 = some (.int .i64 v.vessels.length) ∧ ∃ (i n : Nat), nth T 10 = some (.int .i64 i) ∧ i ≤ v.getters.length ∧ k = v.getters.length - i ∧ s' = ⟨[([0], .cells [.lst (v.vessels.map vesV), .lst (v.pipes.map pipV), .lst (v.pumps.map pmpV), .lst (v.leaks.map inlV), .lst (v.getters.map gtrV)] true 0)], n, [], false, []⟩ ∧ firstE (getE v.vessels.length) v.getters = firstE (getE v.vessels.length) (v.getters.drop i)) (k := v.getters.length) (by omega) ?_ ?_
        · exact ⟨by simp -implicitDefEqProofs only [go_sem, hT], by simp -implicitDefEqProofs only [go_sem, a1], by simp -implicitDefEqProofs only [go_sem, a3], 0, _, by simp -implicitDefEqProofs only [go_sem, hT] <;> rfl, by omega, rfl, rfl, rfl⟩
        clear a1 a3 a8 hT T
        rintro k T s' ⟨hT, a1, a3, i, n, a10, hi, rfl, rfl, he⟩
        simp -implicitDefEqProofs only [go_sem, a1, a10, hT]
        by_cases hil : (i : Int) < (v.getters.length : Int)
        · have hi' : i < v.getters.length := by omega
          have e1 := elemAt_map (f := gtrV) (l := v.getters) (i := i) (z := 5) hi' rfl
          have hkk : v.getters.length - (i + 1) < v.getters.length - i := by omega
          rw [List.drop_eq_getElem_cons hi'] at he
          have hw1 : wrapF .i64 ((i : Int) + 1) = ((i + 1 : Nat) : Int) := wrap_i64 (by omega) (by omega)
          generalize v.getters[i] = x at *
          simp only [firstE] at he
          simp -implicitDefEqProofs only [go_sem, hil]
          simp only [does_bind]
          refine draw_mach [] [] (by kernel_rfl) ?_
          by_cases c1 : atE v.vessels.length x.at' x.part 1000000 = 0
          · by_cases c2 : spansE x.room 1000000000 = 0
            · have c3 : getE v.vessels.length x = 0 := by unfold getE; rw [if_pos c1]; exact c2
              rw [if_pos c3] at he
              simp -implicitDefEqProofs only [redoH, go_sem, a1, a3, a10, hT, e1, hat x.at' ⟨x.part.lo, x.part.hi⟩, hsp ⟨x.room.lo, x.room.hi⟩, c1, c2, hw1]
              exact ⟨v.getters.length - (i + 1), hkk, trivial, trivial, trivial, i + 1, _, rfl, hi', rfl, rfl, he⟩
            · have c3 : getE v.vessels.length x = spansE x.room 1000000000 := by unfold getE; rw [if_pos c1]
              rw [c3, if_neg c2] at he
              simp -implicitDefEqProofs only [redoH, go_sem, a1, a3, a10, hT, e1, hat x.at' ⟨x.part.lo, x.part.hi⟩, hsp ⟨x.room.lo, x.room.hi⟩, c1, c2, he, Try.results120]
          · have c3 : getE v.vessels.length x = atE v.vessels.length x.at' x.part 1000000 := by unfold getE; rw [if_neg c1]
            rw [c3, if_neg c1] at he
            simp -implicitDefEqProofs only [redoH, go_sem, a1, a3, a10, hT, e1, hat x.at' ⟨x.part.lo, x.part.hi⟩, c1, he, Try.results120]
        · have hie : i = v.getters.length := by omega
          subst hie
          rw [List.drop_length] at he
          simp only [firstE] at he
          simp -implicitDefEqProofs only [go_sem, hT, hil, he, Try.results120]
def overB (v : Vac) : Bool := decide (8 < v.vessels.length) || decide (16 < v.pipes.length) || decide (8 < v.pumps.length) || decide (8 < v.leaks.length) || decide (8 < v.getters.length)
def outB (v : Vac) : Nat → Nat → Bool
  | _, 0 => false
  | i, k + 1 => decide (1000000 < (outR v i []).hi) || outB v (i + 1) k
def checkE (v : Vac) : Int :=
  if v.vessels.length = 0 then 6 else if overB v = true then 8 else
  if firstE vesE v.vessels = 0 then if partsE v = 0 then if outB v 0 v.vessels.length = true then 14 else 0 else partsE v else firstE vesE v.vessels
theorem rcheck_call (v : Vac) (K : Nat) (s : St) (hK : 20 < K) (hv : v.Lens K) : acall cfg (K + 4) 50 [vacV v] s = .ret (.int .i64 (checkE v), s) := by
  refine call1 mget50 fget50 (by first | rfl | simp -implicitDefEqProofs only [redoH, redo1, go_sem]) (by first | rfl | simp -implicitDefEqProofs only [go_sem]) (by first | rfl | simp -implicitDefEqProofs only [redoH, redo1, go_sem]) ?_
  refine body_does rfl fun T hT' hA => ?_
  have a0 := hA 0 _ rfl
  have hT : T.length = 72 := hT'
  clear hA hT'
  have hvs := fun x (hx : x ∈ v.vessels) s => checkVessel_call x (K + 1) s (by omega) (hv.bands x hx)
  have hpc := fun s => checkParts_call v K s hv
  have hoc := fun n s => out_call v n [] (K + 1) s ⟨⟨by have := hv.ves.1; omega, hv.ves.2⟩, ⟨by have := hv.pip.1; omega, hv.pip.2⟩, ⟨by have := hv.pmp.1; omega, hv.pmp.2⟩, ⟨by have := hv.inl.1; omega, hv.inl.2⟩, ⟨by have := hv.gtr.1; omega, hv.gtr.2⟩, hv.bands⟩ (by simp) (by simp)
  obtain ⟨⟨hv1, hv2⟩, _, _, _, _, _⟩ := hv
  simp only [vacV, rgV, List.map_nil] at hpc hoc
  have q1 : (8 : Int) < (v.vessels.length : Int) ↔ 8 < v.vessels.length := by omega
  have q2 : (16 : Int) < (v.pipes.length : Int) ↔ 16 < v.pipes.length := by omega
  have q3 : (8 : Int) < (v.pumps.length : Int) ↔ 8 < v.pumps.length := by omega
  have q4 : (8 : Int) < (v.leaks.length : Int) ↔ 8 < v.leaks.length := by omega
  have q5 : (8 : Int) < (v.getters.length : Int) ↔ 8 < v.getters.length := by omega
  unfold checkE
  simp -implicitDefEqProofs only [go_sem, a0, hT]
  by_cases c1 : v.vessels.length = 0
  · have c1' : (v.vessels.length : Int) = 0 := by omega
    rw [if_pos c1]
    simp -implicitDefEqProofs only [go_sem, hT, c1', Try.results50]
  · have c1' : ¬ (v.vessels.length : Int) = 0 := by omega
    rw [if_neg c1]
    have hov : overB v = (decide ((8 : Int) < (v.vessels.length : Int)) || decide ((16 : Int) < (v.pipes.length : Int)) || decide ((8 : Int) < (v.pumps.length : Int)) || decide ((8 : Int) < (v.leaks.length : Int)) || decide ((8 : Int) < (v.getters.length : Int))) := by
      unfold overB
      simp only [q1, q2, q3, q4, q5]
    rw [hov]
    by_cases o1 : (8 : Int) < (v.vessels.length : Int)
    · simp -implicitDefEqProofs only [go_sem, hT, c1', o1, Bool.true_or, Try.results50]
    · by_cases o2 : (16 : Int) < (v.pipes.length : Int)
      · simp -implicitDefEqProofs only [go_sem, hT, c1', o1, o2, Bool.true_or, Bool.or_true, Try.results50]
      · by_cases o3 : (8 : Int) < (v.pumps.length : Int)
        · simp -implicitDefEqProofs only [go_sem, hT, c1', o1, o2, o3, Bool.true_or, Bool.or_true, Try.results50]
        · by_cases o4 : (8 : Int) < (v.leaks.length : Int)
          · simp -implicitDefEqProofs only [go_sem, hT, c1', o1, o2, o3, o4, Bool.true_or, Bool.or_true, Try.results50]
          · by_cases o5 : (8 : Int) < (v.getters.length : Int)
            · simp -implicitDefEqProofs only [go_sem, hT, c1', o1, o2, o3, o4, o5, Bool.or_true, Try.results50]
            · clear hov q1 q2 q3 q4 q5
              simp -implicitDefEqProofs only [go_sem, hT, c1', o1, o2, o3, o4, o5, Bool.or_false, Bool.false_eq_true, if_false]
              simp only [does_bind]
              refine xl_does (fun k T s' => T.length = 72 ∧ nth T 1 = some (.ptr [0] 0) ∧ ∃ (i n : Nat), nth T 3 = some (.int .i64 i) ∧ i ≤ v.vessels.length ∧ k = v.vessels.length - i ∧ s' = ⟨[([0], .cells [.lst (v.vessels.map vesV), .lst (v.pipes.map pipV), .lst (v.pumps.map pmpV), .lst (v.leaks.map inlV), .lst (v.getters.map gtrV)] true 0)], n, [], false, []⟩ ∧ firstE vesE v.vessels = firstE vesE (v.vessels.drop i)) (k := v.vessels.length) (by omega) ?_ ?_
              · exact ⟨by simp -implicitDefEqProofs only [go_sem, hT], by simp -implicitDefEqProofs only [go_sem, hT], 0, _, by simp -implicitDefEqProofs only [go_sem, hT] <;> rfl, by omega, rfl, rfl, rfl⟩
              clear a0 hT T
              rintro k T s' ⟨hT, a1, i, n, a3, hi, rfl, rfl, he⟩
              simp -implicitDefEqProofs only [go_sem, a1, a3, hT]
              by_cases hil : (i : Int) < (v.vessels.length : Int)
              · have hi' : i < v.vessels.length := by omega
                have e1 := elemAt_map (f := vesV) (l := v.vessels) (i := i) (z := 6) hi' rfl
                have hkk : v.vessels.length - (i + 1) < v.vessels.length - i := by omega
                have hv1 := fun s => hvs _ (List.getElem_mem hi') s
                rw [List.drop_eq_getElem_cons hi'] at he
                have hw1 : wrapF .i64 ((i : Int) + 1) = ((i + 1 : Nat) : Int) := wrap_i64 (by omega) (by omega)
                generalize v.vessels[i] = x at *
                simp only [firstE] at he
                simp only [vesV] at hv1
                by_cases d1 : vesE x = 0
                · rw [if_pos d1] at he
                  simp -implicitDefEqProofs only [go_sem, a1, a3, hT, hil, e1, hv1, d1, hw1]
                  exact ⟨v.vessels.length - (i + 1), hkk, trivial, trivial, i + 1, _, rfl, hi', rfl, rfl, he⟩
                · rw [if_neg d1] at he
                  rw [if_neg (by rw [he]; exact d1)]
                  simp -implicitDefEqProofs only [go_sem, a1, a3, hT, hil, e1, hv1, d1, he, Try.results50]
              · have hie : i = v.vessels.length := by omega
                subst hie
                rw [List.drop_length] at he
                simp only [firstE] at he
                rw [if_pos he]
                by_cases d2 : partsE v = 0
                · rw [if_pos d2]
                  simp -implicitDefEqProofs only [go_sem, a1, hT, hil, hpc, d2]
                  simp only [does_bind]
                  refine xl_does (fun k T s' => T.length = 72 ∧ nth T 1 = some (.ptr [0] 0) ∧ ∃ (i n : Nat), nth T 6 = some (.int .i64 i) ∧ i ≤ v.vessels.length ∧ k = v.vessels.length - i ∧ s' = ⟨[([0], .cells [.lst (v.vessels.map vesV), .lst (v.pipes.map pipV), .lst (v.pumps.map pmpV), .lst (v.leaks.map inlV), .lst (v.getters.map gtrV)] true 0)], n, [], false, []⟩ ∧ outB v 0 v.vessels.length = outB v i (v.vessels.length - i)) (k := v.vessels.length) (by omega) ?_ ?_
                  · exact ⟨by simp -implicitDefEqProofs only [go_sem, hT], by simp -implicitDefEqProofs only [go_sem, a1], 0, _, by simp -implicitDefEqProofs only [go_sem, hT] <;> rfl, by omega, rfl, rfl, rfl⟩
                  clear a1 a3 hT T hil he
                  rintro k T s' ⟨hT, a1, i, n, a6, hi, rfl, rfl, he⟩
                  simp -implicitDefEqProofs only [go_sem, a1, a6, hT]
                  by_cases hil : (i : Int) < (v.vessels.length : Int)
                  · have hi' : i < v.vessels.length := by omega
                    have hkk : v.vessels.length - (i + 1) < v.vessels.length - i := by omega
                    rw [show v.vessels.length - i = (v.vessels.length - (i + 1)) + 1 by omega] at he
                    simp only [outB] at he
                    have hw1 : wrapF .i64 ((i : Int) + 1) = ((i + 1 : Nat) : Int) := wrap_i64 (by omega) (by omega)
                    by_cases d3 : 1000000 < (outR v i []).hi
                    · rw [decide_eq_true d3, Bool.true_or] at he
                      simp -implicitDefEqProofs only [go_sem, a1, a6, hT, hil, hoc, d3, he, Try.results50]
                    · rw [decide_eq_false d3, Bool.false_or] at he
                      simp -implicitDefEqProofs only [go_sem, a1, a6, hT, hil, hoc, d3, hw1]
                      exact ⟨v.vessels.length - (i + 1), hkk, trivial, trivial, i + 1, _, rfl, hi', rfl, rfl, he⟩
                  · have hie : i = v.vessels.length := by omega
                    subst hie
                    rw [Nat.sub_self] at he
                    simp only [outB] at he
                    simp -implicitDefEqProofs only [go_sem, hT, hil, he, Bool.false_eq_true, if_false, Try.results50]
                · rw [if_neg d2]
                  simp -implicitDefEqProofs only [go_sem, a1, hT, hil, hpc, d2, Try.results50]
end Go.Proofs.Ytgnpnfkncbnjnaa
