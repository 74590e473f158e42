/- The statement PumpLeast holds for every input, without further conditions. -/
import Derived.Test.YtgnpnfkncbnjnaaHuB
import Derived.Test.YtgnpnfkncbnjnaaHuC
import Derived.Test.YtgnpnfkncbnjnaaAmF
import Derived.Test.YtgnpnfkncbnjnaaAmE
import Derived.Test.YtgnpnfkncbnjnaaAmC
import Derived.Test.YtgnpnfkncbnjnaaRows
import Derived.ProofKit
set_option linter.unusedSimpArgs false
set_option linter.unusedVariables false
set_option maxRecDepth 100000
namespace Go.Proofs.Ytgnpnfkncbnjnaa
open Go Go.Am
/-! ### What the tests of a hunt show -/
def bitsL (s : Nat) : List Int := ((List.range 12).filter fun k => s.testBit k).map fun (k : Nat) => (k : Int)
theorem bits_filter (s o : Nat) (hs : s < 4096) (l : List Int) (hl : ∀ k : Nat, k < 12 → decide ((k : Int) ∈ l) = o.testBit k) (b : Bool) :
    (bitsL s).filter (fun n => decide (n ∈ l) == b) = bitsL (if b then s &&& o else restN s o) := by
  unfold bitsL
  rw [List.filter_map, List.filter_filter]
  congr 1
  apply List.filter_congr
  intro k hk
  have hk12 := List.mem_range.1 hk
  simp only [Function.comp_apply]
  rw [hl k hk12]
  cases b with
  | true => simp only [if_true, Nat.testBit_and, beq_true]; rw [Bool.and_comm]
  | false => simp only [Bool.false_eq_true, if_false, rest_bit s o k hs, beq_false]; rw [Bool.and_comm]
theorem setN_bit : ∀ (l : List Int) (m k : Nat), (∀ n ∈ l, 0 ≤ n) → (setN m l).testBit k = (m.testBit k || decide ((k : Int) ∈ l))
  | [], m, k, _ => by simp [setN]
  | n :: l, m, k, h => by
    have h1 := setN_bit l (m ||| 2 ^ n.toNat) k fun n hn => h n (List.mem_cons_of_mem _ hn)
    have h0 := h n List.mem_cons_self
    show (setN (m ||| 2 ^ n.toNat) l).testBit k = _
    rw [h1, Nat.testBit_or, Nat.testBit_two_pow, Bool.or_assoc]
    congr 1
    rw [← Bool.decide_or]
    congr 1
    apply propext
    rw [List.mem_cons]
    constructor
    · rintro (h2 | h2)
      · left; omega
      · right; exact h2
    · rintro (h2 | h2)
      · left; omega
      · right; exact h2
theorem first_bits : ∀ S : Fin 13, firstL S.val = bitsL (2 ^ S.val - 1) := by decide +kernel
noncomputable def alBit (s : Nat) : Bool := match aloneB s with | true => Nat.ble (bitsL s).length 1 | false => true
theorem alBit_all : allOk alBit 4095 = true := by kernel_rfl
theorem alone_bits {s k : Nat} (h1 : 1 ≤ s) (h2 : s < 4096) (ha : aloneB s = true) (hk : s.testBit k = true) : bitsL s = [(k : Int)] := by
  have h3 := allOk_spec alBit 4095 alBit_all s h1 (Nat.le_of_lt_succ h2)
  unfold alBit at h3
  rw [ha] at h3
  have h4 : (bitsL s).length ≤ 1 := Nat.le_of_ble_eq_true h3
  have h5 : (k : Int) ∈ bitsL s := by
    unfold bitsL
    exact List.mem_map.2 ⟨k, List.mem_filter.2 ⟨List.mem_range.2 (bit_lt h2 hk), hk⟩, rfl⟩
  match hb : bitsL s with
  | [] => rw [hb] at h5; cases h5
  | [a] => rw [hb] at h5; rcases List.mem_cons.1 h5 with h | h; rw [h]; cases h
  | a :: b :: r => rw [hb] at h4; simp at h4
def foldT (h : Hnt) : List Try' → List Int × Int → List Int × Int
  | [], p => p
  | x :: r, p => match h.trials[x.trial.toNat]? with
    | some t => foldT h r (p.1.filter (fun n => decide (n ∈ t.of) == x.inn), p.2 + t.cost)
    | none => foldT h r p
theorem found_fold (h : Hnt) (hh : huntE h = 0) (leak : Nat) : ∀ (s f : Nat), 1 ≤ s → s < 4096 → s < f → ¬ (bestS (setsOf h) s).1 < 0 → s.testBit leak = true → ∀ c : Int,
    foldT h (findL h leak f s).1 (bitsL s, c) = ([(leak : Int)], c + (findL h leak f s).2) ∧ (∀ x ∈ (findL h leak f s).1, ∃ j : Nat, j < h.trials.length ∧ x.trial = j) ∧ 0 ≤ (findL h leak f s).2 ∧ (findL h leak f s).2 ≤ (bestS (setsOf h) s).1 := by
  intro s
  induction s using Nat.strongRecOn with
  | ind s ih =>
  intro f h1 h2 h3 hb hbit c
  obtain ⟨f, rfl⟩ : ∃ k, f = k + 1 := ⟨f - 1, by omega⟩
  unfold findL
  by_cases ha : aloneB s = true
  · rw [if_pos ha]
    have hz := bestS_eq (setsOf h) s h2
    rw [if_pos ha] at hz
    refine ⟨by simp [foldT, alone_bits h1 h2 ha hbit], by simp, by simp, by rw [hz]; exact Int.le_refl 0⟩
  · rw [if_neg ha]
    obtain ⟨j, hj, g1, g2, g3, g4, g5, g6⟩ := best_ok (setsOf h) s h2 ha hb
    obtain ⟨j', hj', e1, e2, e3, e4, e5, e6⟩ := find_step (leak := leak) h2 ha hb
    have ejj : j = j' := by rw [g1] at e1; omega
    subst ejj
    rw [e3]
    simp only
    have hjt : j < h.trials.length := by simpa [setsOf] using hj
    have hsj : (setsOf h)[j] = (setN 0 h.trials[j].of, h.trials[j].cost) := by simp [setsOf]
    obtain ⟨hs1, hs2, hlen, htr⟩ := hunt_ok hh
    have htj := htr _ (List.getElem_mem hjt)
    have hin := susp_in h.suspects h.trials[j].of (-1) htj.1
    have hmem : ∀ k : Nat, k < 12 → decide ((k : Int) ∈ h.trials[j].of) = (setN 0 h.trials[j].of).testBit k := fun k _ => by
      rw [setN_bit _ _ _ fun n hn => (hin n hn).1]; simp
    rw [hsj] at e4 e5 e6 g2 g3 g4 g5 g6 ⊢
    simp only at e4 e5 e6 g2 g3 g4 g5 g6 ⊢
    generalize hoo : setN 0 h.trials[j].of = o at *
    have hnb : (if o.testBit leak = true then s &&& o else restN s o).testBit leak = true := by
      split
      · rename_i hbt; rw [Nat.testBit_and, hbit, hbt]; rfl
      · rename_i hbt; rw [rest_bit s o leak h2, hbit, eq_false_of_ne_true hbt]; rfl
    have hr := ih _ e4 f (by omega) (by omega) (by omega) e6 hnb
    have hmax : (bestS (setsOf h) (if o.testBit leak = true then s &&& o else restN s o)).1 ≤ max (bestS (setsOf h) (s &&& o)).1 (bestS (setsOf h) (restN s o)).1 := by
      split
      · exact Int.le_max_left _ _
      · exact Int.le_max_right _ _
    refine ⟨?_, ?_, ?_, ?_⟩
    · have ht : h.trials[(bestS (setsOf h) s).2.toNat]? = some h.trials[j] := by rw [e2]; exact List.getElem?_eq_getElem hjt
      simp only [foldT]
      rw [ht]
      simp only
      rw [bits_filter s o h2 _ hmem, (hr (c + h.trials[j].cost)).1]
      simp only [Prod.mk.injEq, true_and]
      omega
    · intro x hx
      rcases List.mem_cons.1 hx with rfl | hx
      · exact ⟨j, hjt, e1⟩
      · exact (hr 0).2.1 x hx
    · have := (hr 0).2.2.1; have := htj.2.1; omega
    · have := (hr 0).2.2.2; omega
/-- One leak costs what the worst case says. -/
theorem found_worst (h : Hnt) (hh : huntE h = 0) : ∀ (s f : Nat), 1 ≤ s → s < 4096 → s < f → ¬ (bestS (setsOf h) s).1 < 0 → ∃ leak, s.testBit leak = true ∧ (findL h leak f s).2 = (bestS (setsOf h) s).1 := by
  intro s
  induction s using Nat.strongRecOn with
  | ind s ih =>
  intro f h1 h2 h3 hb
  obtain ⟨f, rfl⟩ : ∃ k, f = k + 1 := ⟨f - 1, by omega⟩
  by_cases ha : aloneB s = true
  · have hz := bestS_eq (setsOf h) s h2
    rw [if_pos ha] at hz
    obtain ⟨k, hk⟩ := Nat.exists_testBit_of_ne_zero (show s ≠ 0 by omega)
    refine ⟨k, hk, ?_⟩
    unfold findL
    rw [if_pos ha, hz]
  · obtain ⟨j, hj, g1, g2, g3, g4, g5, g6⟩ := best_ok (setsOf h) s h2 ha hb
    have hi := in_lt s _ h2 g3
    have hr := rest_lt s _ h2 g2
    have key : ∀ leak, (findL h leak (f + 1) s).2 = (setsOf h)[j].2 + (findL h leak f (if (setsOf h)[j].1.testBit leak then s &&& (setsOf h)[j].1 else restN s (setsOf h)[j].1)).2 := fun leak => by
      obtain ⟨j', hj', e1, e2, e3, _⟩ := find_step (leak := leak) h2 ha hb
      have ejj : j = j' := by rw [g1] at e1; omega
      subst ejj
      conv => lhs; unfold findL
      rw [if_neg ha, e3]
    by_cases hm : (bestS (setsOf h) (restN s (setsOf h)[j].1)).1 ≤ (bestS (setsOf h) (s &&& (setsOf h)[j].1)).1
    · obtain ⟨leak, hl1, hl2⟩ := ih _ hi f (by omega) (by omega) (by omega) (by omega)
      rw [Nat.testBit_and, Bool.and_eq_true] at hl1
      refine ⟨leak, hl1.1, ?_⟩
      rw [key leak, if_pos hl1.2, hl2, g6, Int.max_eq_left hm]
    · obtain ⟨leak, hl1, hl2⟩ := ih _ hr f (by omega) (by omega) (by omega) (by omega)
      rw [rest_bit s _ leak h2, Bool.and_eq_true, Bool.not_eq_true'] at hl1
      refine ⟨leak, hl1.1, ?_⟩
      rw [key leak, if_neg (by rw [hl1.2]; simp), hl2, g6, Int.max_eq_right (by omega)]
theorem findL_len2 (h : Hnt) (leak : Nat) : ∀ (f s : Nat), (findL h leak f s).1.length ≤ f
  | 0, s => Nat.le_refl 0
  | f + 1, s => by
    unfold findL
    split
    · simp
    · split
      · exact Nat.succ_le_succ (findL_len2 h leak f _)
      · simp
def mostL (f : Nat → Int) : Nat → Int
  | 0 => -1
  | k + 1 => max (mostL f k) (f k)
theorem mostL_le {f : Nat → Int} {w : Int} (hw : -1 ≤ w) : ∀ S, (∀ k, k < S → f k ≤ w) → mostL f S ≤ w
  | 0, _ => hw
  | S + 1, h => Int.max_le.2 ⟨mostL_le hw S fun k hk => h k (by omega), h S (by omega)⟩
theorem mostL_ge {f : Nat → Int} : ∀ S k, k < S → f k ≤ mostL f S
  | S + 1, k, h => by
    rcases Nat.lt_or_eq_of_le (Nat.le_of_lt_succ h) with h1 | h1
    · exact Int.le_trans (mostL_ge S k h1) (Int.le_max_left _ _)
    · subst h1; exact Int.le_max_right _ _
end Go.Proofs.Ytgnpnfkncbnjnaa
namespace Go.Proofs.Ytgnpnfkncbnjnaa
open Go Go.Am
/-! ### The best test costs least -/
/-- What a test costs in the worst case, where it tells something. -/
def cand (rec : Nat → Int × Int) (s : Nat) (t : Nat × Int) : Option Int :=
  if s &&& t.1 = 0 then none else if restN s t.1 = 0 then none else
  if (rec (s &&& t.1)).1 < 0 then none else if (rec (restN s t.1)).1 < 0 then none else some (t.2 + max (rec (s &&& t.1)).1 (rec (restN s t.1)).1)
theorem step_cand (rec : Nat → Int × Int) (s : Nat) (x : Int × Int) (i : Nat) (t : Nat × Int) : stepC rec s x i t = match cand rec s t with
    | none => x
    | some c => if x.1 < 0 then (c, (i : Int)) else if c < x.1 then (c, (i : Int)) else x := by
  unfold stepC cand
  split
  · rfl
  · split
    · rfl
    · split
      · rfl
      · split
        · rfl
        · rfl
theorem fold_min (rec : Nat → Int × Int) (s : Nat) : ∀ (l : List (Nat × Int)), (∀ t ∈ l, ∀ c, cand rec s t = some c → 0 ≤ c) → ∀ (x : Int × Int) (i : Nat),
    ((foldC rec s x i l).1 < 0 → x.1 < 0 ∧ ∀ t ∈ l, cand rec s t = none) ∧ (0 ≤ (foldC rec s x i l).1 → (0 ≤ x.1 ∧ (foldC rec s x i l).1 = x.1) ∨ ∃ t ∈ l, cand rec s t = some (foldC rec s x i l).1) ∧
    (∀ t ∈ l, ∀ c, cand rec s t = some c → 0 ≤ (foldC rec s x i l).1 ∧ (foldC rec s x i l).1 ≤ c) ∧ (0 ≤ x.1 → 0 ≤ (foldC rec s x i l).1 ∧ (foldC rec s x i l).1 ≤ x.1)
  | [], _, x, i => ⟨fun h => ⟨h, by simp⟩, fun h => .inl ⟨h, rfl⟩, by simp, fun h => ⟨h, Int.le_refl _⟩⟩
  | t :: l, hl, x, i => by
    simp only [foldC]
    have ih := fold_min rec s l (fun t ht => hl t (List.mem_cons_of_mem _ ht)) (stepC rec s x i t) (i + 1)
    obtain ⟨h1, h2, h3, h4⟩ := ih
    have hst := step_cand rec s x i t
    have ht0 := hl t List.mem_cons_self
    generalize foldC rec s (stepC rec s x i t) (i + 1) l = y at *
    generalize stepC rec s x i t = z at *
    cases hc : cand rec s t with
    | none =>
      rw [hc] at hst
      simp only at hst
      subst hst
      refine ⟨fun h => ⟨(h1 h).1, fun u hu => ?_⟩, fun h => ?_, fun u hu c hcu => ?_, h4⟩
      · rcases List.mem_cons.1 hu with rfl | hu
        · exact hc
        · exact (h1 h).2 u hu
      · rcases h2 h with h5 | ⟨u, hu, h5⟩
        · exact .inl h5
        · exact .inr ⟨u, List.mem_cons_of_mem _ hu, h5⟩
      · rcases List.mem_cons.1 hu with rfl | hu
        · rw [hc] at hcu; cases hcu
        · exact h3 u hu c hcu
    | some c0 =>
      rw [hc] at hst
      simp only at hst
      have hc0 := ht0 c0 hc
      have hz : 0 ≤ z.1 ∧ z.1 ≤ c0 ∧ (z.1 = c0 ∨ (0 ≤ x.1 ∧ z.1 = x.1)) ∧ (0 ≤ x.1 → z.1 ≤ x.1) := by
        rw [hst]
        split
        · refine ⟨hc0, Int.le_refl _, .inl rfl, fun h => by omega⟩
        · split
          · refine ⟨hc0, Int.le_refl _, .inl rfl, fun h => by simp only; omega⟩
          · refine ⟨by omega, by omega, .inr ⟨by omega, rfl⟩, fun h => Int.le_refl _⟩
      obtain ⟨z1, z2, z3, z4⟩ := hz
      have hy := h4 z1
      refine ⟨fun h => by omega, fun h => ?_, fun u hu c hcu => ?_, fun h => ⟨hy.1, by have := z4 h; omega⟩⟩
      · rcases h2 h with ⟨_, h5⟩ | ⟨u, hu, h5⟩
        · rcases z3 with h6 | ⟨h6, h7⟩
          · exact .inr ⟨t, List.mem_cons_self, by rw [hc, h5, h6]⟩
          · exact .inl ⟨h6, by rw [h5, h7]⟩
        · exact .inr ⟨u, List.mem_cons_of_mem _ hu, h5⟩
      · rcases List.mem_cons.1 hu with rfl | hu
        · rw [hc] at hcu; injection hcu with hcu; subst hcu; exact ⟨hy.1, by omega⟩
        · exact h3 u hu c hcu
theorem cand_nonneg {ts : List (Nat × Int)} (hts : ∀ t ∈ ts, 0 ≤ t.2) (s : Nat) : ∀ t ∈ ts, ∀ c, cand (bestS ts) s t = some c → 0 ≤ c := by
  intro t ht c h
  unfold cand at h
  split at h
  · cases h
  · split at h
    · cases h
    · split at h
      · cases h
      · split at h
        · cases h
        · injection h with h
          have := hts t ht
          omega
theorem best_min {ts : List (Nat × Int)} (hts : ∀ t ∈ ts, 0 ≤ t.2) (s : Nat) (hs : s < 4096) (ha : ¬ aloneB s = true) :
    ((bestS ts s).1 < 0 → ∀ t ∈ ts, cand (bestS ts) s t = none) ∧ (0 ≤ (bestS ts s).1 → ∃ t ∈ ts, cand (bestS ts) s t = some (bestS ts s).1) ∧ (∀ t ∈ ts, ∀ c, cand (bestS ts) s t = some c → 0 ≤ (bestS ts s).1 ∧ (bestS ts s).1 ≤ c) := by
  have h := bestS_eq ts s hs
  rw [if_neg ha] at h
  obtain ⟨h1, h2, h3, _⟩ := fold_min (bestS ts) s ts (cand_nonneg hts s) (-1, -1) 0
  rw [← h] at h1 h2 h3
  refine ⟨fun hx => (h1 hx).2, fun hx => ?_, h3⟩
  rcases h2 hx with ⟨h5, _⟩ | h5
  · simp at h5
  · exact h5
/-! ### All strategies -/
def strat (ts : List Tri) : Nat → List Int → List Int
  | 0, _ => []
  | f + 1, s => if s.length = 1 then [0] else ts.flatMap fun t =>
    if s.filter (fun n => decide (n ∈ t.of)) = [] then [] else if s.filter (fun n => !decide (n ∈ t.of)) = [] then [] else
    (strat ts f (s.filter fun n => decide (n ∈ t.of))).flatMap fun a => (strat ts f (s.filter fun n => !decide (n ∈ t.of))).map fun b => t.cost + max a b
/-- A row of suspects and its set. -/
def Ms (s : List Int) (m : Nat) : Prop := m < 4096 ∧ s.Nodup ∧ (∀ n ∈ s, 0 ≤ n ∧ n ≤ 11) ∧ ∀ k : Nat, m.testBit k = decide ((k : Int) ∈ s)
theorem Ms.mem {s : List Int} {m : Nat} (h : Ms s m) {n : Int} (hn : n ∈ s) : m.testBit n.toNat = true := by
  obtain ⟨_, _, h3, h4⟩ := h
  rw [h4, decide_eq_true_eq, Int.toNat_of_nonneg (h3 n hn).1]
  exact hn
theorem Ms.nil {s : List Int} {m : Nat} (h : Ms s m) : s = [] ↔ m = 0 := by
  constructor
  · rintro rfl
    apply Nat.eq_of_testBit_eq
    intro i
    rw [h.2.2.2, Nat.zero_testBit]; simp
  · rintro rfl
    cases s with
    | nil => rfl
    | cons a r =>
      have := h.mem (List.mem_cons_self (a := a) (l := r))
      rw [Nat.zero_testBit] at this; cases this
theorem alone_pow : ∀ k : Fin 12, aloneB (2 ^ k.val) = true := by decide +kernel
theorem Ms.one {s : List Int} {m : Nat} (h : Ms s m) (hm : m ≠ 0) : s.length = 1 ↔ aloneB m = true := by
  constructor
  · intro hl
    match s, hl with
    | [a], _ =>
      have ha := h.2.2.1 a List.mem_cons_self
      have : m = 2 ^ a.toNat := by
        apply Nat.eq_of_testBit_eq
        intro i
        rw [h.2.2.2, Nat.testBit_two_pow]
        congr 1
        apply propext
        simp
        omega
      rw [this]
      exact alone_pow ⟨a.toNat, by omega⟩
  · intro ha
    cases s with
    | nil => exact absurd (h.nil.1 rfl) hm
    | cons a r =>
      cases r with
      | nil => rfl
      | cons b r =>
        have h1 := alone_bits (by omega) h.1 ha (h.mem (List.mem_cons_self (a := a)))
        have h2 := alone_bits (by omega) h.1 ha (h.mem (List.mem_cons_of_mem a (List.mem_cons_self (a := b))))
        rw [h1] at h2
        have ha0 := h.2.2.1 a List.mem_cons_self
        have hb0 := h.2.2.1 b (List.mem_cons_of_mem _ List.mem_cons_self)
        have hab : a = b := by simp at h2; omega
        have hnd := h.2.1
        subst hab
        simp at hnd
theorem Ms.inn {s : List Int} {m : Nat} (h : Ms s m) (l : List Int) (o : Nat) (hl : ∀ k : Nat, k < 12 → decide ((k : Int) ∈ l) = o.testBit k) : Ms (s.filter fun n => decide (n ∈ l)) (m &&& o) := by
  refine ⟨and_4096 m o h.1, h.2.1.sublist List.filter_sublist, fun n hn => h.2.2.1 n (List.mem_filter.1 hn).1, fun k => ?_⟩
  rw [Nat.testBit_and, h.2.2.2]
  by_cases hk : k < 12
  · rw [← hl k hk, ← Bool.decide_and]
    congr 1
    apply propext
    simp [List.mem_filter]
  · have h1 : ¬ (k : Int) ∈ s := fun hx => by have := h.2.2.1 _ hx; omega
    simp [h1]
theorem Ms.rest {s : List Int} {m : Nat} (h : Ms s m) (l : List Int) (o : Nat) (hl : ∀ k : Nat, k < 12 → decide ((k : Int) ∈ l) = o.testBit k) : Ms (s.filter fun n => !decide (n ∈ l)) (restN m o) := by
  refine ⟨Nat.lt_of_le_of_lt (rest_le m o) h.1, h.2.1.sublist List.filter_sublist, fun n hn => h.2.2.1 n (List.mem_filter.1 hn).1, fun k => ?_⟩
  rw [rest_bit m o k h.1, h.2.2.2]
  by_cases hk : k < 12
  · rw [← hl k hk, ← decide_not, ← Bool.decide_and]
    congr 1
    apply propext
    simp [List.mem_filter]
  · have h1 : ¬ (k : Int) ∈ s := fun hx => by have := h.2.2.1 _ hx; omega
    simp [h1]
theorem filter_lt {s : List Int} {p : Int → Bool} (h : s.filter (fun n => !p n) ≠ []) : (s.filter p).length < s.length := by
  have h1 : (s.filter p).length + (s.filter fun n => !p n).length = s.length := by
    induction s with
    | nil => rfl
    | cons a r ih =>
      cases hp : p a with
      | true =>
        simp only [List.filter_cons, hp, if_true, Bool.not_true, Bool.false_eq_true, if_false, List.length_cons]
        by_cases hr : r.filter (fun n => !p n) = []
        · simp only [List.filter_cons, hp, Bool.not_true, Bool.false_eq_true, if_false] at h
          exact absurd hr h
        · have := ih hr; omega
      | false =>
        simp only [List.filter_cons, hp, if_true, Bool.not_false, Bool.false_eq_true, if_false, List.length_cons]
        by_cases hr : r.filter (fun n => !p n) = []
        · have : r.filter p = r := List.filter_eq_self.2 fun x hx => by
            cases hpx : p x with
            | true => rfl
            | false =>
              have : x ∈ r.filter fun n => !p n := List.mem_filter.2 ⟨hx, by rw [hpx]; rfl⟩
              rw [hr] at this; cases this
          rw [this, hr]; simp
        · have := ih hr; omega
  have h2 : 0 < (s.filter fun n => !p n).length := by
    cases hx : s.filter fun n => !p n with
    | nil => exact absurd hx h
    | cons a r => simp
  omega
theorem strat_best (h : Hnt) (hh : huntE h = 0) : ∀ (f : Nat) (s : List Int) (m : Nat), s.length ≤ f → s ≠ [] → Ms s m →
    ((bestS (setsOf h) m).1 < 0 → strat h.trials f s = []) ∧ (0 ≤ (bestS (setsOf h) m).1 → (bestS (setsOf h) m).1 ∈ strat h.trials f s ∧ ∀ x ∈ strat h.trials f s, (bestS (setsOf h) m).1 ≤ x) := by
  intro f
  induction f with
  | zero => intro s m hf hne; cases s with | nil => exact absurd rfl hne | cons a r => simp at hf
  | succ f ih =>
    intro s m hf hne hms
    have hm0 : m ≠ 0 := fun hm => hne (hms.nil.2 hm)
    unfold strat
    by_cases h1 : s.length = 1
    · rw [if_pos h1]
      have hz := bestS_eq (setsOf h) m hms.1
      rw [if_pos ((hms.one hm0).1 h1)] at hz
      rw [hz]
      exact ⟨fun hx => by simp at hx, fun _ => by simp⟩
    · rw [if_neg h1]
      have ha : ¬ aloneB m = true := fun hx => h1 ((hms.one hm0).2 hx)
      have hts : ∀ t ∈ setsOf h, 0 ≤ t.2 := fun t ht => (sets_ok hh t ht).2.1
      obtain ⟨b1, b2, b3⟩ := best_min hts m hms.1 ha
      obtain ⟨hs1, hs2, hlen, htr⟩ := hunt_ok hh
      -- one test
      have one : ∀ t ∈ h.trials, ∀ x, x ∈ (if s.filter (fun n => decide (n ∈ t.of)) = [] then [] else if s.filter (fun n => !decide (n ∈ t.of)) = [] then [] else
          (strat h.trials f (s.filter fun n => decide (n ∈ t.of))).flatMap fun a => (strat h.trials f (s.filter fun n => !decide (n ∈ t.of))).map fun b => t.cost + max a b) → ∃ c, cand (bestS (setsOf h)) m (setN 0 t.of, t.cost) = some c ∧ c ≤ x := by
        intro t ht x hx
        have htj := htr t ht
        have hin := susp_in h.suspects t.of (-1) htj.1
        have hmem : ∀ k : Nat, k < 12 → decide ((k : Int) ∈ t.of) = (setN 0 t.of).testBit k := fun k _ => by
          rw [setN_bit _ _ _ fun n hn => (hin n hn).1]; simp
        have m1 := hms.inn t.of _ hmem
        have m2 := hms.rest t.of _ hmem
        split at hx
        · cases hx
        · split at hx
          · cases hx
          · rename_i n1 n2
            obtain ⟨a, ha1, hx⟩ := List.mem_flatMap.1 hx
            obtain ⟨b, hb1, rfl⟩ := List.mem_map.1 hx
            have l1 := filter_lt (p := fun n => decide (n ∈ t.of)) n2
            have l2 := filter_lt (s := s) (p := fun n => !decide (n ∈ t.of)) (by simpa using n1)
            have i1 := ih _ _ (by omega) n1 m1
            have i2 := ih _ _ (by omega) n2 m2
            have c1 : m &&& setN 0 t.of ≠ 0 := fun hc => n1 (m1.nil.2 hc)
            have c2 : restN m (setN 0 t.of) ≠ 0 := fun hc => n2 (m2.nil.2 hc)
            have c3 : ¬ (bestS (setsOf h) (m &&& setN 0 t.of)).1 < 0 := fun hc => by rw [i1.1 hc] at ha1; cases ha1
            have c4 : ¬ (bestS (setsOf h) (restN m (setN 0 t.of))).1 < 0 := fun hc => by rw [i2.1 hc] at hb1; cases hb1
            refine ⟨_, by unfold cand; rw [if_neg c1, if_neg c2, if_neg c3, if_neg c4], ?_⟩
            have q1 := (i1.2 (by omega)).2 a ha1
            have q2 := (i2.2 (by omega)).2 b hb1
            simp only
            omega
      refine ⟨fun hx => ?_, fun hx => ⟨?_, fun x hxx => ?_⟩⟩
      · have hb := b1 hx
        apply List.eq_nil_iff_forall_not_mem.2
        intro x hxx
        obtain ⟨t, ht, hx2⟩ := List.mem_flatMap.1 hxx
        obtain ⟨c, hc, _⟩ := one t ht x hx2
        rw [hb (setN 0 t.of, t.cost) (List.mem_map.2 ⟨t, ht, rfl⟩)] at hc
        cases hc
      · obtain ⟨t', ht', hc⟩ := b2 hx
        obtain ⟨t, ht, rfl⟩ := List.mem_map.1 ht'
        refine List.mem_flatMap.2 ⟨t, ht, ?_⟩
        have htj := htr t ht
        have hin := susp_in h.suspects t.of (-1) htj.1
        have hmem : ∀ k : Nat, k < 12 → decide ((k : Int) ∈ t.of) = (setN 0 t.of).testBit k := fun k _ => by
          rw [setN_bit _ _ _ fun n hn => (hin n hn).1]; simp
        have m1 := hms.inn t.of _ hmem
        have m2 := hms.rest t.of _ hmem
        unfold cand at hc
        split at hc
        · cases hc
        · split at hc
          · cases hc
          · split at hc
            · cases hc
            · split at hc
              · cases hc
              · rename_i c1 c2 c3 c4
                simp only at c1 c2 c3 c4 hc
                have n1 : s.filter (fun n => decide (n ∈ t.of)) ≠ [] := fun hn => c1 (m1.nil.1 hn)
                have n2 : s.filter (fun n => !decide (n ∈ t.of)) ≠ [] := fun hn => c2 (m2.nil.1 hn)
                have l1 := filter_lt (p := fun n => decide (n ∈ t.of)) n2
                have l2 := filter_lt (s := s) (p := fun n => !decide (n ∈ t.of)) (by simpa using n1)
                have i1 := ih _ _ (by omega) n1 m1
                have i2 := ih _ _ (by omega) n2 m2
                rw [if_neg n1, if_neg n2]
                injection hc with hc
                rw [← hc]
                exact List.mem_flatMap.2 ⟨_, (i1.2 (by omega)).1, List.mem_map.2 ⟨_, (i2.2 (by omega)).1, rfl⟩⟩
      · obtain ⟨t, ht, hx2⟩ := List.mem_flatMap.1 hxx
        obtain ⟨c, hc, hcx⟩ := one t ht x hx2
        have := b3 (setN 0 t.of, t.cost) (List.mem_map.2 ⟨t, ht, rfl⟩) c hc
        omega
end Go.Proofs.Ytgnpnfkncbnjnaa
namespace Go.Proofs.Ytgnpnfkncbnjnaa
open Go Go.Am
attribute [local congr] tr_congr does_congr all_congr
/-! ### All strategies, as the statement looks at them -/
def lenB : Nat → Nat
  | 0 => 0
  | 1 => 1
  | n + 2 => 4 * (lenB (n + 1) * lenB (n + 1))
def tryT (ts : List Tri) (f : Nat) (s : List Int) (t : Tri) : List Int :=
    if s.filter (fun n => decide (n ∈ t.of)) = [] then [] else if s.filter (fun n => !decide (n ∈ t.of)) = [] then [] else
    (strat ts f (s.filter fun n => decide (n ∈ t.of))).flatMap fun a => (strat ts f (s.filter fun n => !decide (n ∈ t.of))).map fun b => t.cost + max a b
theorem strat_succ (ts : List Tri) (f : Nat) (s : List Int) : strat ts (f + 1) s = if s.length = 1 then [0] else ts.flatMap (tryT ts f s) := rfl
theorem len_flat {α : Type} (g : α → List Int) (m : Nat) : ∀ (l : List α), (∀ a ∈ l, (g a).length ≤ m) → (l.flatMap g).length ≤ l.length * m
  | [], _ => by simp
  | a :: l, h => by
    rw [List.flatMap_cons, List.length_append, List.length_cons, Nat.succ_mul]
    have h1 := h a List.mem_cons_self
    have h2 := len_flat g m l fun b hb => h b (List.mem_cons_of_mem _ hb)
    omega
theorem try_len {ts : List Tri} {f : Nat} {s : List Int} {t : Tri} {m : Nat} (h : ∀ s, (strat ts f s).length ≤ m) : (tryT ts f s t).length ≤ m * m := by
  unfold tryT
  split
  · simp
  · split
    · simp
    · refine Nat.le_trans (len_flat _ m _ fun a _ => by rw [List.length_map]; exact h _) (Nat.mul_le_mul_right m (h _))
theorem strat_len {ts : List Tri} (hts : ts.length ≤ 4) : ∀ (f : Nat) (s : List Int), s ≠ [] → s.length ≤ f → (strat ts f s).length ≤ lenB f := by
  intro f
  induction f with
  | zero => intro s hs hf; cases s with | nil => exact absurd rfl hs | cons a r => simp at hf
  | succ f ih =>
    intro s hs hf
    rw [strat_succ]
    cases f with
    | zero =>
      have h1 : s.length = 1 := by
        cases s with
        | nil => exact absurd rfl hs
        | cons a r => simp at hf ⊢; exact hf
      rw [if_pos h1]; simp [lenB]
    | succ f =>
      split
      · have h1 : 1 ≤ lenB (f + 1) := by
          clear ih hf hs
          induction f with
          | zero => exact Nat.le_refl 1
          | succ f ih => unfold lenB; have := Nat.mul_le_mul ih ih; omega
        have := Nat.mul_le_mul h1 h1
        simp [lenB]; omega
      · have hl : ∀ t ∈ ts, (tryT ts (f + 1) s t).length ≤ lenB (f + 1) * lenB (f + 1) := by
          intro t _
          unfold tryT
          split
          · simp
          · split
            · simp
            · rename_i n1 n2
              have l1 := filter_lt (p := fun n => decide (n ∈ t.of)) n2
              have l2 := filter_lt (s := s) (p := fun n => !decide (n ∈ t.of)) (by simpa using n1)
              have i1 := ih _ n1 (by omega)
              have i2 := ih _ n2 (by omega)
              exact Nat.le_trans (len_flat _ _ _ fun a _ => by rw [List.length_map]; exact i2) (Nat.mul_le_mul_right _ i1)
        have h2 := len_flat (tryT ts (f + 1) s) _ ts hl
        have h3 := Nat.mul_le_mul_right (lenB (f + 1) * lenB (f + 1)) hts
        unfold lenB
        omega
theorem take_flat (g : Tri → List Int) (l : List Tri) (n : Nat) : ((l.take n).flatMap g).length ≤ (l.flatMap g).length := by
  have h : l.flatMap g = (l.take n).flatMap g ++ (l.drop n).flatMap g := by rw [← List.flatMap_append, List.take_append_drop]
  rw [h, List.length_append]; omega
theorem strat_range {ts : List Tri} (hts : ∀ t ∈ ts, 0 ≤ t.cost ∧ t.cost ≤ 8) : ∀ (f : Nat) (s : List Int), ∀ x ∈ strat ts f s, 0 ≤ x ∧ x ≤ 8 * f := by
  intro f
  induction f with
  | zero => intro s x hx; cases hx
  | succ f ih =>
    intro s x hx
    rw [strat_succ] at hx
    split at hx
    · simp at hx; omega
    · obtain ⟨t, ht, hx⟩ := List.mem_flatMap.1 hx
      unfold tryT at hx
      split at hx
      · cases hx
      · split at hx
        · cases hx
        · obtain ⟨a, ha, hx⟩ := List.mem_flatMap.1 hx
          obtain ⟨b, hb, rfl⟩ := List.mem_map.1 hx
          have h1 := ih _ a ha
          have h2 := ih _ b hb
          have h3 := hts t ht
          omega
theorem strat_call (h : Hnt) (hts : h.trials.length ≤ 4) (htc : ∀ t ∈ h.trials, (0 ≤ t.cost ∧ t.cost ≤ 8) ∧ t.of.length ≤ 12) : ∀ (f : Nat), f ≤ 4 → ∀ (s : List Int), s ≠ [] → s.length ≤ f → ∀ (K : Nat) (st : St), 20000 < K →
    acall cfg (K + f) 43 [hntV h, .lst (s.map iV)] st = .ret (.lst ((strat h.trials f s).map iV), st) := by
  intro f
  induction f with
  | zero => intro _ s hs hf; cases s with | nil => exact absurd rfl hs | cons a r => simp at hf
  | succ f ih =>
  intro hf4 s hne hsf K st hK
  have hB : lenB (f + 1) ≤ 16384 := by
    have : f = 0 ∨ f = 1 ∨ f = 2 ∨ f = 3 := by omega
    rcases this with rfl | rfl | rfl | rfl <;> decide
  show acall cfg (K + f + 1) 43 _ st = _
  refine call1 mget43 fget43 (by simp -implicitDefEqProofs only [redoH, redo1, go_sem, Int.reduceEq, Int.reduceNeg, Nat.reduceEqDiff, Nat.reduceLT, Nat.reduceAdd, Nat.reduceSub, Nat.reduceMul, Int.reduceLE, Int.reduceLT, Int.reduceToNat, Int.toNat_natCast, Nat.reduceLeDiff, Bool.not_true, Bool.not_false]) (by simp -implicitDefEqProofs only [redoH, redo1, go_sem, Int.reduceEq, Int.reduceNeg, Nat.reduceEqDiff, Nat.reduceLT, Nat.reduceAdd, Nat.reduceSub, Nat.reduceMul, Int.reduceLE, Int.reduceLT, Int.reduceToNat, Int.toNat_natCast, Nat.reduceLeDiff, Bool.not_true, Bool.not_false]) (by simp -implicitDefEqProofs only [redoH, redo1, go_sem, Int.reduceEq, Int.reduceNeg, Nat.reduceEqDiff, Nat.reduceLT, Nat.reduceAdd, Nat.reduceSub, Nat.reduceMul, Int.reduceLE, Int.reduceLT, Int.reduceToNat, Int.toNat_natCast, Nat.reduceLeDiff, Bool.not_true, Bool.not_false]) ?_
  refine body_does rfl fun T hT' hA => ?_
  have a0 := hA 0 _ rfl
  have a1 := hA 1 _ rfl
  have hT : T.length = 102 := hT'
  clear hA hT'
  rw [strat_succ]
  simp -implicitDefEqProofs only [redoH, redo1, go_sem, Int.reduceEq, Int.reduceNeg, Nat.reduceEqDiff, Nat.reduceLT, Nat.reduceAdd, Nat.reduceSub, Nat.reduceMul, Int.reduceLE, Int.reduceLT, Int.reduceToNat, Int.toNat_natCast, Nat.reduceLeDiff, Bool.not_true, Bool.not_false, a0, a1, hT]
  by_cases h1 : s.length = 1
  · have h1' : (s.length : Int) = 1 := by omega
    rw [if_pos h1]
    simp -implicitDefEqProofs only [redoH, redo1, go_sem, Int.reduceEq, Int.reduceNeg, Nat.reduceEqDiff, Nat.reduceLT, Nat.reduceAdd, Nat.reduceSub, Nat.reduceMul, Int.reduceLE, Int.reduceLT, Int.reduceToNat, Int.toNat_natCast, Nat.reduceLeDiff, Bool.not_true, Bool.not_false, a0, a1, hT, h1', Try.results43]
    rfl
  · have h1' : ¬ (s.length : Int) = 1 := by omega
    rw [if_neg h1]
    have hslen := strat_len hts (f + 1) s hne hsf
    rw [strat_succ, if_neg h1] at hslen
    simp -implicitDefEqProofs only [redoH, redo1, go_sem, Int.reduceEq, Int.reduceNeg, Nat.reduceEqDiff, Nat.reduceLT, Nat.reduceAdd, Nat.reduceSub, Nat.reduceMul, Int.reduceLE, Int.reduceLT, Int.reduceToNat, Int.toNat_natCast, Nat.reduceLeDiff, Bool.not_true, Bool.not_false, a0, a1, hT, h1']
    simp only [does_bind]
    refine xl_does (fun k T s' => T.length = 102 ∧ nth T 1 = some (.lst (s.map iV)) ∧ nth T 2 = some (.ptr [0] 0) ∧ ∃ (i n to : Nat) (H : Heap), nth T 5 = some (ownV [to, 18, 0] (((h.trials.take i).flatMap (tryT h.trials f s)).map iV)) ∧ nth T 6 = some (.int .i64 i) ∧ i ≤ h.trials.length ∧ k = h.trials.length - i ∧ s' = ⟨H, n + 1, [], false, []⟩ ∧ hget H [0] = some (.cells [.int .i64 h.suspects, .lst (h.trials.map triV)] true 0) ∧
      ((((h.trials.take i).flatMap (tryT h.trials f s)).map iV) ≠ [] → hget H [to, 18, 0] = some (.tok ((h.trials.take i).flatMap (tryT h.trials f s)).length 1))) (k := h.trials.length) (by omega) ?_ ?_
    · exact ⟨by simp -implicitDefEqProofs only [redoH, redo1, go_sem, Int.reduceEq, Int.reduceNeg, Nat.reduceEqDiff, Nat.reduceLT, Nat.reduceAdd, Nat.reduceSub, Nat.reduceMul, Int.reduceLE, Int.reduceLT, Int.reduceToNat, Int.toNat_natCast, Nat.reduceLeDiff, Bool.not_true, Bool.not_false, hT], by simp -implicitDefEqProofs only [redoH, redo1, go_sem, Int.reduceEq, Int.reduceNeg, Nat.reduceEqDiff, Nat.reduceLT, Nat.reduceAdd, Nat.reduceSub, Nat.reduceMul, Int.reduceLE, Int.reduceLT, Int.reduceToNat, Int.toNat_natCast, Nat.reduceLeDiff, Bool.not_true, Bool.not_false, a1], by simp -implicitDefEqProofs only [redoH, redo1, go_sem, Int.reduceEq, Int.reduceNeg, Nat.reduceEqDiff, Nat.reduceLT, Nat.reduceAdd, Nat.reduceSub, Nat.reduceMul, Int.reduceLE, Int.reduceLT, Int.reduceToNat, Int.toNat_natCast, Nat.reduceLeDiff, Bool.not_true, Bool.not_false, hT], 0, 0, 0, _, by simp -implicitDefEqProofs only [redoH, redo1, go_sem, Int.reduceEq, Int.reduceNeg, Nat.reduceEqDiff, Nat.reduceLT, Nat.reduceAdd, Nat.reduceSub, Nat.reduceMul, Int.reduceLE, Int.reduceLT, Int.reduceToNat, Int.toNat_natCast, Nat.reduceLeDiff, Bool.not_true, Bool.not_false, hT] <;> rfl, by simp -implicitDefEqProofs only [redoH, redo1, go_sem, Int.reduceEq, Int.reduceNeg, Nat.reduceEqDiff, Nat.reduceLT, Nat.reduceAdd, Nat.reduceSub, Nat.reduceMul, Int.reduceLE, Int.reduceLT, Int.reduceToNat, Int.toNat_natCast, Nat.reduceLeDiff, Bool.not_true, Bool.not_false, hT] <;> rfl, by omega, rfl, rfl, rfl, fun hx => absurd rfl hx⟩
    clear a0 a1 hT T
    rintro k T s' ⟨hT, a1, a2, i, n, to, H, a5, a6, hi, rfl, rfl, g0, gt⟩
    simp -implicitDefEqProofs only [redoH, redo1, go_sem, Int.reduceEq, Int.reduceNeg, Nat.reduceEqDiff, Nat.reduceLT, Nat.reduceAdd, Nat.reduceSub, Nat.reduceMul, Int.reduceLE, Int.reduceLT, Int.reduceToNat, Int.toNat_natCast, Nat.reduceLeDiff, Bool.not_true, Bool.not_false, a1, a2, a5, a6, hT, g0]
    by_cases hil : (i : Int) < (h.trials.length : Int)
    · have hi' : i < h.trials.length := by omega
      have e1 := elemAt_map (f := triV) (l := h.trials) (i := i) (z := 2) hi' rfl
      have htci := htc _ (List.getElem_mem hi')
      have htk : (h.trials.take (i + 1)).flatMap (tryT h.trials f s) = (h.trials.take i).flatMap (tryT h.trials f s) ++ tryT h.trials f s h.trials[i] := by
        rw [List.take_succ_eq_append_getElem hi', List.flatMap_append]; simp
      have hlen1 : ((h.trials.take (i + 1)).flatMap (tryT h.trials f s)).length ≤ 16384 := by
        exact Nat.le_trans (take_flat _ _ _) (Nat.le_trans hslen hB)
      have hkk : h.trials.length - (i + 1) < h.trials.length - i := by omega
      rw [htk] at hlen1
      generalize (h.trials.take i).flatMap (tryT h.trials f s) = out at *
      have hha := fun st n => has_call h.trials[i].of n (K + f - 1) st (by omega) (by omega)
      rw [show K + f - 1 + 1 = K + f by omega] at hha
      generalize hti : h.trials[i] = t at *
      simp -implicitDefEqProofs only [redoH, redo1, go_sem, Int.reduceEq, Int.reduceNeg, Nat.reduceEqDiff, Nat.reduceLT, Nat.reduceAdd, Nat.reduceSub, Nat.reduceMul, Int.reduceLE, Int.reduceLT, Int.reduceToNat, Int.toNat_natCast, Nat.reduceLeDiff, Bool.not_true, Bool.not_false, a1, a2, a5, a6, hT, hil]
      simp only [does_bind]
      refine xl_does (fun k T s' => T.length = 102 ∧ nth T 1 = some (.lst (s.map iV)) ∧ nth T 2 = some (.ptr [0] 0) ∧ nth T 5 = some (ownV [to, 18, 0] (out.map iV)) ∧ nth T 6 = some (.int .i64 i) ∧ ∃ (j n ta tb : Nat) (H : Heap) (inn rest : List Int), nth T 7 = some (ownV [ta + 1] (inn.map iV)) ∧ nth T 8 = some (ownV [tb + 1] (rest.map iV)) ∧ nth T 9 = some (.int .i64 j) ∧ j ≤ s.length ∧ k = s.length - j ∧ s' = ⟨H, n + 1, [], false, []⟩ ∧ hget H [0] = some (.cells [.int .i64 h.suspects, .lst (h.trials.map triV)] true 0) ∧
        (out.map iV ≠ [] → hget H [to, 18, 0] = some (.tok out.length 1)) ∧ (inn.map iV ≠ [] → ta < n ∧ hget H [ta + 1] = some (.tok inn.length 1)) ∧ (rest.map iV ≠ [] → tb < n ∧ hget H [tb + 1] = some (.tok rest.length 1)) ∧ (inn.map iV ≠ [] → rest.map iV ≠ [] → ta ≠ tb) ∧
        inn = (s.take j).filter (fun n => decide (n ∈ t.of)) ∧ rest = (s.take j).filter (fun n => !decide (n ∈ t.of)) ∧ inn.length ≤ j ∧ rest.length ≤ j) (k := s.length) (by omega) ?_ ?_
      · exact ⟨by simp -implicitDefEqProofs only [redoH, redo1, go_sem, Int.reduceEq, Int.reduceNeg, Nat.reduceEqDiff, Nat.reduceLT, Nat.reduceAdd, Nat.reduceSub, Nat.reduceMul, Int.reduceLE, Int.reduceLT, Int.reduceToNat, Int.toNat_natCast, Nat.reduceLeDiff, Bool.not_true, Bool.not_false, hT], by simp -implicitDefEqProofs only [redoH, redo1, go_sem, Int.reduceEq, Int.reduceNeg, Nat.reduceEqDiff, Nat.reduceLT, Nat.reduceAdd, Nat.reduceSub, Nat.reduceMul, Int.reduceLE, Int.reduceLT, Int.reduceToNat, Int.toNat_natCast, Nat.reduceLeDiff, Bool.not_true, Bool.not_false, a1], by simp -implicitDefEqProofs only [redoH, redo1, go_sem, Int.reduceEq, Int.reduceNeg, Nat.reduceEqDiff, Nat.reduceLT, Nat.reduceAdd, Nat.reduceSub, Nat.reduceMul, Int.reduceLE, Int.reduceLT, Int.reduceToNat, Int.toNat_natCast, Nat.reduceLeDiff, Bool.not_true, Bool.not_false, a2], by simp -implicitDefEqProofs only [redoH, redo1, go_sem, Int.reduceEq, Int.reduceNeg, Nat.reduceEqDiff, Nat.reduceLT, Nat.reduceAdd, Nat.reduceSub, Nat.reduceMul, Int.reduceLE, Int.reduceLT, Int.reduceToNat, Int.toNat_natCast, Nat.reduceLeDiff, Bool.not_true, Bool.not_false, a5], by simp -implicitDefEqProofs only [redoH, redo1, go_sem, Int.reduceEq, Int.reduceNeg, Nat.reduceEqDiff, Nat.reduceLT, Nat.reduceAdd, Nat.reduceSub, Nat.reduceMul, Int.reduceLE, Int.reduceLT, Int.reduceToNat, Int.toNat_natCast, Nat.reduceLeDiff, Bool.not_true, Bool.not_false, a6], 0, n, 0, 0, H, [], [], by simp -implicitDefEqProofs only [redoH, redo1, go_sem, Int.reduceEq, Int.reduceNeg, Nat.reduceEqDiff, Nat.reduceLT, Nat.reduceAdd, Nat.reduceSub, Nat.reduceMul, Int.reduceLE, Int.reduceLT, Int.reduceToNat, Int.toNat_natCast, Nat.reduceLeDiff, Bool.not_true, Bool.not_false, hT] <;> rfl, by simp -implicitDefEqProofs only [redoH, redo1, go_sem, Int.reduceEq, Int.reduceNeg, Nat.reduceEqDiff, Nat.reduceLT, Nat.reduceAdd, Nat.reduceSub, Nat.reduceMul, Int.reduceLE, Int.reduceLT, Int.reduceToNat, Int.toNat_natCast, Nat.reduceLeDiff, Bool.not_true, Bool.not_false, hT] <;> rfl, by simp -implicitDefEqProofs only [redoH, redo1, go_sem, Int.reduceEq, Int.reduceNeg, Nat.reduceEqDiff, Nat.reduceLT, Nat.reduceAdd, Nat.reduceSub, Nat.reduceMul, Int.reduceLE, Int.reduceLT, Int.reduceToNat, Int.toNat_natCast, Nat.reduceLeDiff, Bool.not_true, Bool.not_false, hT] <;> rfl, by omega, rfl, rfl, g0, gt, fun hx => absurd rfl hx, fun hx => absurd rfl hx, fun hx => absurd rfl hx, rfl, rfl, by simp, by simp⟩
      clear a1 a2 a5 a6 hT T g0 gt H n
      rintro k T s' ⟨hT, a1, a2, a5, a6, j, n, ta, tb, H, inn, rest, a7, a8, a9, hj, rfl, rfl, g0, gt, gin, grs, gne, hin, hrs, hil1, hrl1⟩
      simp -implicitDefEqProofs only [redoH, redo1, go_sem, Int.reduceEq, Int.reduceNeg, Nat.reduceEqDiff, Nat.reduceLT, Nat.reduceAdd, Nat.reduceSub, Nat.reduceMul, Int.reduceLE, Int.reduceLT, Int.reduceToNat, Int.toNat_natCast, Nat.reduceLeDiff, Bool.not_true, Bool.not_false, a1, a2, a5, a6, a7, a8, a9, hT]
      by_cases hjl : (j : Int) < (s.length : Int)
      · have hj' : j < s.length := by omega
        have e2 := elemAt_map (f := iV) (l := s) (i := j) (z := 1) hj' rfl
        have hk2 : s.length - (j + 1) < s.length - j := by omega
        have t1 : (s.take (j + 1)).filter (fun n => decide (n ∈ t.of)) = inn ++ (if decide (s[j] ∈ t.of) = true then [s[j]] else []) := by
          rw [List.take_succ_eq_append_getElem hj', List.filter_append, ← hin]; simp only [List.filter_cons, List.filter_nil]
        have t2 : (s.take (j + 1)).filter (fun n => !decide (n ∈ t.of)) = rest ++ (if (!decide (s[j] ∈ t.of)) = true then [s[j]] else []) := by
          rw [List.take_succ_eq_append_getElem hj', List.filter_append, ← hrs]; simp only [List.filter_cons, List.filter_nil]
        have hha1 := fun st => hha st s[j]
        generalize s[j] = sj at *
        have hap1 := append_abs (C := cfg.at 43) (sT := 22) (b := [ta + 1]) (l := inn.map iV) (x := iV sj) (H := H) (n := n + 1 + 1) (p := []) (jr := false) (j := []) (z := 1) desc22 tget3 rfl rfl rfl rfl rfl rfl (by rw [List.length_map]; show (inn.length + 1) * 8 ≤ _; omega) (fun hx => by rw [List.length_map]; exact (gin hx).2)
        have hap2 := append_abs (C := cfg.at 43) (sT := 22) (b := [tb + 1]) (l := rest.map iV) (x := iV sj) (H := H) (n := n + 1 + 1) (p := []) (jr := false) (j := []) (z := 1) desc22 tget3 rfl rfl rfl rfl rfl rfl (by rw [List.length_map]; show (rest.length + 1) * 8 ≤ _; omega) (fun hx => by rw [List.length_map]; exact (grs hx).2)
        have m1 : (inn ++ [sj]).map iV = inn.map iV ++ [iV sj] := by simp
        have m2 : (rest ++ [sj]).map iV = rest.map iV ++ [iV sj] := by simp
        have l1 : (inn ++ [sj]).length = inn.length + 1 := by simp
        have l2 : (rest ++ [sj]).length = rest.length + 1 := by simp
        rw [← m1, List.length_map] at hap1
        rw [← m2, List.length_map] at hap2
        have hl1 : inn.length + 1 ≤ j + 1 := by omega
        have hl2 : rest.length + 1 ≤ j + 1 := by omega
        have hl3 : inn.length ≤ j + 1 := by omega
        have hl4 : rest.length ≤ j + 1 := by omega
        have hnn : n + 1 < n + 2 := by omega
        -- what stays when a token goes
        have k1 : ∀ X b, b ≠ [n + 1 + 1] → b ≠ [ta + 1] → hget (([n + 1 + 1], X) :: dropTok (inn.map iV) [ta + 1] H) b = hget H b := fun X b q1 q2 => (hget_cons_ne _ _ (Ne.symm q1)).trans (hget_dropTok _ _ (Ne.symm q2))
        have k2 : ∀ X b, b ≠ [n + 1 + 1] → b ≠ [tb + 1] → hget (([n + 1 + 1], X) :: dropTok (rest.map iV) [tb + 1] H) b = hget H b := fun X b q1 q2 => (hget_cons_ne _ _ (Ne.symm q1)).trans (hget_dropTok _ _ (Ne.symm q2))
        have p0 := fun X => (k1 X [0] (nm_ne (by omega)) (nm_ne (by omega))).trans g0
        have q0 := fun X => (k2 X [0] (nm_ne (by omega)) (nm_ne (by omega))).trans g0
        have pt := fun X (hx : out.map iV ≠ []) => (k1 X [to, 18, 0] (by simp) (by simp)).trans (gt hx)
        have qt := fun X (hx : out.map iV ≠ []) => (k2 X [to, 18, 0] (by simp) (by simp)).trans (gt hx)
        have pr : ∀ X, rest.map iV ≠ [] → tb < n + 2 ∧ hget (([n + 1 + 1], X) :: dropTok (inn.map iV) [ta + 1] H) [tb + 1] = some (.tok rest.length 1) := fun X hx => by
          have h2 := grs hx
          refine ⟨by omega, ?_⟩
          by_cases hi0 : inn.map iV = []
          · rw [hi0]
            exact (hget_cons_ne _ _ (nm_ne (by omega))).trans h2.2
          · have := gne hi0 hx
            exact (k1 X [tb + 1] (nm_ne (by omega)) (nm_ne (by omega))).trans h2.2
        have qr : ∀ X, inn.map iV ≠ [] → ta < n + 2 ∧ hget (([n + 1 + 1], X) :: dropTok (rest.map iV) [tb + 1] H) [ta + 1] = some (.tok inn.length 1) := fun X hx => by
          have h2 := gin hx
          refine ⟨by omega, ?_⟩
          by_cases hi0 : rest.map iV = []
          · rw [hi0]
            exact (hget_cons_ne _ _ (nm_ne (by omega))).trans h2.2
          · have := gne hx hi0
            exact (k2 X [ta + 1] (nm_ne (by omega)) (nm_ne (by omega))).trans h2.2
        have dn1 : rest.map iV ≠ [] → n + 1 ≠ tb := fun hx => by have := (grs hx).1; omega
        have dn2 : inn.map iV ≠ [] → ta ≠ n + 1 := fun hx => by have := (gin hx).1; omega
        simp only [iV] at hap1 hap2
        have hw1 : wrapF .i64 ((j : Int) + 1) = ((j + 1 : Nat) : Int) := wrap_i64 (by omega) (by omega)
        simp -implicitDefEqProofs only [redoH, redo1, go_sem, Int.reduceEq, Int.reduceNeg, Nat.reduceEqDiff, Nat.reduceLT, Nat.reduceAdd, Nat.reduceSub, Nat.reduceMul, Int.reduceLE, Int.reduceLT, Int.reduceToNat, Int.toNat_natCast, Nat.reduceLeDiff, Bool.not_true, Bool.not_false, a1, a2, a5, a6, a7, a8, a9, hT, hjl]
        simp only [does_bind]
        refine draw_mach [] [] (by kernel_rfl) ?_
        cases hq : decide (sj ∈ t.of) with
        | true =>
          rw [hq] at t1 t2 hha1
          simp -implicitDefEqProofs only [redoH, redo1, go_sem, Int.reduceEq, Int.reduceNeg, Nat.reduceEqDiff, Nat.reduceLT, Nat.reduceAdd, Nat.reduceSub, Nat.reduceMul, Int.reduceLE, Int.reduceLT, Int.reduceToNat, Int.toNat_natCast, Nat.reduceLeDiff, Bool.not_true, Bool.not_false, a1, a2, a5, a6, a7, a8, a9, hT, e1, e2, g0, hha1, hap1, desc22, hw1]
          exact ⟨s.length - (j + 1), hk2, trivial, trivial, trivial, trivial, trivial, j + 1, n + 2, n + 1, tb, _, inn ++ [sj], rest, rfl, rfl, rfl, hj', rfl, rfl, p0 _, pt _, fun _ => ⟨hnn, by rw [l1]; exact hget_cons_same ..⟩, pr _, fun _ hx => dn1 hx, t1.symm, by rw [t2]; simp, by rw [l1]; exact hl1, hl4⟩
        | false =>
          rw [hq] at t1 t2 hha1
          simp -implicitDefEqProofs only [redoH, redo1, go_sem, Int.reduceEq, Int.reduceNeg, Nat.reduceEqDiff, Nat.reduceLT, Nat.reduceAdd, Nat.reduceSub, Nat.reduceMul, Int.reduceLE, Int.reduceLT, Int.reduceToNat, Int.toNat_natCast, Nat.reduceLeDiff, Bool.not_true, Bool.not_false, a1, a2, a5, a6, a7, a8, a9, hT, e1, e2, g0, hha1, hap2, desc22, hw1]
          exact ⟨s.length - (j + 1), hk2, trivial, trivial, trivial, trivial, trivial, j + 1, n + 2, ta, n + 1, _, inn, rest ++ [sj], rfl, rfl, rfl, hj', rfl, rfl, q0 _, qt _, qr _, fun _ => ⟨hnn, by rw [l2]; exact hget_cons_same ..⟩, fun hx _ => dn2 hx, by rw [t1]; simp, t2.symm, hl3, by rw [l2]; exact hl2⟩
      · have hje : j = s.length := by omega
        subst hje
        rw [List.take_length] at hin hrs
        by_cases n1 : inn = []
        · have hnil : tryT h.trials f s t = [] := by
            unfold tryT
            rw [← hin, if_pos n1]
          have n1' : (0 : Int) = 0 := rfl
          rw [n1] at a7
          simp only [List.map_nil, ownV_nil] at a7
          rw [hnil, List.append_nil] at htk
          have hw1 : wrapF .i64 ((i : Int) + 1) = ((i + 1 : Nat) : Int) := wrap_i64 (by omega) (by omega)
          simp -implicitDefEqProofs only [redoH, redo1, go_sem, Int.reduceEq, Int.reduceNeg, Nat.reduceEqDiff, Nat.reduceLT, Nat.reduceAdd, Nat.reduceSub, Nat.reduceMul, Int.reduceLE, Int.reduceLT, Int.reduceToNat, Int.toNat_natCast, Nat.reduceLeDiff, Bool.not_true, Bool.not_false, a1, a2, a5, a6, a7, a8, a9, hT, hjl, n1', hw1]
          exact ⟨h.trials.length - (i + 1), hkk, trivial, trivial, trivial, i + 1, n, to, H, by rw [htk], rfl, hi', rfl, rfl, g0, by rw [htk]; exact gt⟩
        · by_cases n2 : rest = []
          · have hnil : tryT h.trials f s t = [] := by
              unfold tryT
              rw [← hin, if_neg n1, ← hrs, if_pos n2]
            have n1' : ¬ (inn.length : Int) = 0 := by
              cases inn with
              | nil => exact absurd rfl n1
              | cons a r => simp only [List.length_cons]; omega
            have n2' : (0 : Int) = 0 := rfl
            rw [n2] at a8
            simp only [List.map_nil, ownV_nil] at a8
            have o1 : ∀ b, ownV b (inn.map iV) = .own b (inn.map iV) := fun b => by
              cases inn with
              | nil => exact absurd rfl n1
              | cons a r => rfl
            rw [o1] at a7
            rw [hnil, List.append_nil] at htk
            have hw1 : wrapF .i64 ((i : Int) + 1) = ((i + 1 : Nat) : Int) := wrap_i64 (by omega) (by omega)
            simp -implicitDefEqProofs only [redoH, redo1, go_sem, Int.reduceEq, Int.reduceNeg, Nat.reduceEqDiff, Nat.reduceLT, Nat.reduceAdd, Nat.reduceSub, Nat.reduceMul, Int.reduceLE, Int.reduceLT, Int.reduceToNat, Int.toNat_natCast, Nat.reduceLeDiff, Bool.not_true, Bool.not_false, a1, a2, a5, a6, a7, a8, a9, hT, hjl, n1', n2', hw1]
            exact ⟨h.trials.length - (i + 1), hkk, trivial, trivial, trivial, i + 1, n, to, H, by rw [htk], rfl, hi', rfl, rfl, g0, by rw [htk]; exact gt⟩
          · have n1' : ¬ (inn.length : Int) = 0 := by
              cases inn with
              | nil => exact absurd rfl n1
              | cons a r => simp only [List.length_cons]; omega
            have n2' : ¬ (rest.length : Int) = 0 := by
              cases rest with
              | nil => exact absurd rfl n2
              | cons a r => simp only [List.length_cons]; omega
            have o1 : ∀ b, ownV b (inn.map iV) = .own b (inn.map iV) := fun b => by
              cases inn with
              | nil => exact absurd rfl n1
              | cons a r => rfl
            have o2 : ∀ b, ownV b (rest.map iV) = .own b (rest.map iV) := fun b => by
              cases rest with
              | nil => exact absurd rfl n2
              | cons a r => rfl
            rw [o1] at a7
            rw [o2] at a8
            have f1 := filter_lt (s := s) (p := fun n => decide (n ∈ t.of)) (by rw [← hrs]; exact n2)
            have f2 := filter_lt (s := s) (p := fun n => !decide (n ∈ t.of)) (by simp only [Bool.not_not]; rw [← hin]; exact n1)
            rw [← hin] at f1
            rw [← hrs] at f2
            have hca := fun st => ih (by omega) inn n1 (by omega) K st hK
            have hcb := fun st => ih (by omega) rest n2 (by omega) K st hK
            have hra := strat_range (fun t ht => (htc t ht).1) f inn
            have hrb := strat_range (fun t ht => (htc t ht).1) f rest
            have hla := strat_len hts f inn n1 (by omega)
            have hlb := strat_len hts f rest n2 (by omega)
            have hB2 : lenB f ≤ 64 := by
              have : f = 0 ∨ f = 1 ∨ f = 2 ∨ f = 3 := by omega
              rcases this with rfl | rfl | rfl | rfl <;> decide
            have htry : tryT h.trials f s t = (strat h.trials f inn).flatMap fun a => (strat h.trials f rest).map fun b => t.cost + max a b := by
              unfold tryT
              rw [← hin, ← hrs, if_neg n1, if_neg n2]
            rw [htry] at htk hlen1
            simp only [hntV] at hca hcb
            generalize strat h.trials f inn = A at *
            generalize strat h.trials f rest = B at *
            have hcost := htci.1
            clear hin hrs gin grs gne htry f1 f2 hha
            simp -implicitDefEqProofs only [redoH, redo1, go_sem, Int.reduceEq, Int.reduceNeg, Nat.reduceEqDiff, Nat.reduceLT, Nat.reduceAdd, Nat.reduceSub, Nat.reduceMul, Int.reduceLE, Int.reduceLT, Int.reduceToNat, Int.toNat_natCast, Nat.reduceLeDiff, Bool.not_true, Bool.not_false, a1, a2, a5, a6, a7, a8, a9, hT, hjl, n1', n2']
            simp only [does_bind]
            refine draw_mach [] [] (by kernel_rfl) ?_
            simp -implicitDefEqProofs only [redoH, redo1, go_sem, Int.reduceEq, Int.reduceNeg, Nat.reduceEqDiff, Nat.reduceLT, Nat.reduceAdd, Nat.reduceSub, Nat.reduceMul, Int.reduceLE, Int.reduceLT, Int.reduceToNat, Int.toNat_natCast, Nat.reduceLeDiff, Bool.not_true, Bool.not_false, a1, a2, a5, a6, a7, a8, a9, hT, g0, hca, hcb]
            simp only [does_bind]
            refine xl_does (fun k T s' => T.length = 102 ∧ nth T 1 = some (.lst (s.map iV)) ∧ nth T 2 = some (.ptr [0] 0) ∧ nth T 6 = some (.int .i64 i) ∧ nth T 10 = some (.lst (A.map iV)) ∧ nth T 11 = some (.lst (B.map iV)) ∧ ∃ (p n to : Nat) (H : Heap) (o : List Int), nth T 5 = some (ownV [to, 18, 0] (o.map iV)) ∧ nth T 12 = some (.int .i64 p) ∧ p ≤ A.length ∧ k = A.length - p ∧ s' = ⟨H, n + 1, [], false, []⟩ ∧ hget H [0] = some (.cells [.int .i64 h.suspects, .lst (h.trials.map triV)] true 0) ∧
              (o.map iV ≠ [] → hget H [to, 18, 0] = some (.tok o.length 1)) ∧ o = out ++ (A.take p).flatMap fun a => B.map fun b => t.cost + max a b) (k := A.length) (by omega) ?_ ?_
            · exact ⟨by simp -implicitDefEqProofs only [redoH, redo1, go_sem, Int.reduceEq, Int.reduceNeg, Nat.reduceEqDiff, Nat.reduceLT, Nat.reduceAdd, Nat.reduceSub, Nat.reduceMul, Int.reduceLE, Int.reduceLT, Int.reduceToNat, Int.toNat_natCast, Nat.reduceLeDiff, Bool.not_true, Bool.not_false, hT], by simp -implicitDefEqProofs only [redoH, redo1, go_sem, Int.reduceEq, Int.reduceNeg, Nat.reduceEqDiff, Nat.reduceLT, Nat.reduceAdd, Nat.reduceSub, Nat.reduceMul, Int.reduceLE, Int.reduceLT, Int.reduceToNat, Int.toNat_natCast, Nat.reduceLeDiff, Bool.not_true, Bool.not_false, a1], by simp -implicitDefEqProofs only [redoH, redo1, go_sem, Int.reduceEq, Int.reduceNeg, Nat.reduceEqDiff, Nat.reduceLT, Nat.reduceAdd, Nat.reduceSub, Nat.reduceMul, Int.reduceLE, Int.reduceLT, Int.reduceToNat, Int.toNat_natCast, Nat.reduceLeDiff, Bool.not_true, Bool.not_false, a2], by simp -implicitDefEqProofs only [redoH, redo1, go_sem, Int.reduceEq, Int.reduceNeg, Nat.reduceEqDiff, Nat.reduceLT, Nat.reduceAdd, Nat.reduceSub, Nat.reduceMul, Int.reduceLE, Int.reduceLT, Int.reduceToNat, Int.toNat_natCast, Nat.reduceLeDiff, Bool.not_true, Bool.not_false, a6], by simp -implicitDefEqProofs only [redoH, redo1, go_sem, Int.reduceEq, Int.reduceNeg, Nat.reduceEqDiff, Nat.reduceLT, Nat.reduceAdd, Nat.reduceSub, Nat.reduceMul, Int.reduceLE, Int.reduceLT, Int.reduceToNat, Int.toNat_natCast, Nat.reduceLeDiff, Bool.not_true, Bool.not_false, hT], by simp -implicitDefEqProofs only [redoH, redo1, go_sem, Int.reduceEq, Int.reduceNeg, Nat.reduceEqDiff, Nat.reduceLT, Nat.reduceAdd, Nat.reduceSub, Nat.reduceMul, Int.reduceLE, Int.reduceLT, Int.reduceToNat, Int.toNat_natCast, Nat.reduceLeDiff, Bool.not_true, Bool.not_false, hT], 0, n + 1, to, _, out, by simp -implicitDefEqProofs only [redoH, redo1, go_sem, Int.reduceEq, Int.reduceNeg, Nat.reduceEqDiff, Nat.reduceLT, Nat.reduceAdd, Nat.reduceSub, Nat.reduceMul, Int.reduceLE, Int.reduceLT, Int.reduceToNat, Int.toNat_natCast, Nat.reduceLeDiff, Bool.not_true, Bool.not_false, a5], by simp -implicitDefEqProofs only [redoH, redo1, go_sem, Int.reduceEq, Int.reduceNeg, Nat.reduceEqDiff, Nat.reduceLT, Nat.reduceAdd, Nat.reduceSub, Nat.reduceMul, Int.reduceLE, Int.reduceLT, Int.reduceToNat, Int.toNat_natCast, Nat.reduceLeDiff, Bool.not_true, Bool.not_false, hT] <;> rfl, by omega, rfl, rfl, g0, gt, by simp⟩
            clear a1 a2 a5 a6 a7 a8 a9 hT T g0 gt H n hca hcb hj
            rintro k T s' ⟨hT, a1, a2, a6, a10, a11, p, n, to, H, o, a5, a12, hp, rfl, rfl, g0, gt, ho⟩
            simp -implicitDefEqProofs only [redoH, redo1, go_sem, Int.reduceEq, Int.reduceNeg, Nat.reduceEqDiff, Nat.reduceLT, Nat.reduceAdd, Nat.reduceSub, Nat.reduceMul, Int.reduceLE, Int.reduceLT, Int.reduceToNat, Int.toNat_natCast, Nat.reduceLeDiff, Bool.not_true, Bool.not_false, a1, a2, a5, a6, a10, a11, a12, hT]
            by_cases hpl : (p : Int) < (A.length : Int)
            · have hp' : p < A.length := by omega
              have e2 := elemAt_map (f := iV) (l := A) (i := p) (z := 1) hp' rfl
              have hrap := hra _ (List.getElem_mem hp')
              have htkp : (A.take (p + 1)).flatMap (fun a => B.map fun b => t.cost + max a b) = (A.take p).flatMap (fun a => B.map fun b => t.cost + max a b) ++ B.map fun b => t.cost + max A[p] b := by
                rw [List.take_succ_eq_append_getElem hp', List.flatMap_append]; simp
              have hlo1 : (o ++ B.map fun b => t.cost + max A[p] b).length ≤ 16384 := by
                have h0 : ∀ (G : Int → List Int) (l : List Int) (n : Nat), ((l.take n).flatMap G).length ≤ (l.flatMap G).length := fun G l n => by
                  have h : l.flatMap G = (l.take n).flatMap G ++ (l.drop n).flatMap G := by rw [← List.flatMap_append, List.take_append_drop]
                  rw [h, List.length_append]; omega
                have := h0 (fun a => B.map fun b => t.cost + max a b) A (p + 1)
                rw [htkp] at this
                rw [ho]
                simp only [List.length_append] at this hlen1 ⊢
                omega
              have hkp : A.length - (p + 1) < A.length - p := by omega
              simp -implicitDefEqProofs only [redoH, redo1, go_sem, Int.reduceEq, Int.reduceNeg, Nat.reduceEqDiff, Nat.reduceLT, Nat.reduceAdd, Nat.reduceSub, Nat.reduceMul, Int.reduceLE, Int.reduceLT, Int.reduceToNat, Int.toNat_natCast, Nat.reduceLeDiff, Bool.not_true, Bool.not_false, a1, a2, a5, a6, a10, a11, a12, hT, hpl]
              simp only [does_bind]
              refine xl_does (fun k T s' => T.length = 102 ∧ nth T 1 = some (.lst (s.map iV)) ∧ nth T 2 = some (.ptr [0] 0) ∧ nth T 6 = some (.int .i64 i) ∧ nth T 10 = some (.lst (A.map iV)) ∧ nth T 11 = some (.lst (B.map iV)) ∧ nth T 12 = some (.int .i64 p) ∧ ∃ (q n to : Nat) (H : Heap) (o2 : List Int), nth T 5 = some (ownV [to, 18, 0] (o2.map iV)) ∧ nth T 13 = some (.int .i64 q) ∧ q ≤ B.length ∧ k = B.length - q ∧ s' = ⟨H, n + 1, [], false, []⟩ ∧ hget H [0] = some (.cells [.int .i64 h.suspects, .lst (h.trials.map triV)] true 0) ∧
                (o2.map iV ≠ [] → hget H [to, 18, 0] = some (.tok o2.length 1)) ∧ o2 = o ++ (B.take q).map fun b => t.cost + max A[p] b) (k := B.length) (by omega) ?_ ?_
              · exact ⟨by simp -implicitDefEqProofs only [redoH, redo1, go_sem, Int.reduceEq, Int.reduceNeg, Nat.reduceEqDiff, Nat.reduceLT, Nat.reduceAdd, Nat.reduceSub, Nat.reduceMul, Int.reduceLE, Int.reduceLT, Int.reduceToNat, Int.toNat_natCast, Nat.reduceLeDiff, Bool.not_true, Bool.not_false, hT], by simp -implicitDefEqProofs only [redoH, redo1, go_sem, Int.reduceEq, Int.reduceNeg, Nat.reduceEqDiff, Nat.reduceLT, Nat.reduceAdd, Nat.reduceSub, Nat.reduceMul, Int.reduceLE, Int.reduceLT, Int.reduceToNat, Int.toNat_natCast, Nat.reduceLeDiff, Bool.not_true, Bool.not_false, a1], by simp -implicitDefEqProofs only [redoH, redo1, go_sem, Int.reduceEq, Int.reduceNeg, Nat.reduceEqDiff, Nat.reduceLT, Nat.reduceAdd, Nat.reduceSub, Nat.reduceMul, Int.reduceLE, Int.reduceLT, Int.reduceToNat, Int.toNat_natCast, Nat.reduceLeDiff, Bool.not_true, Bool.not_false, a2], by simp -implicitDefEqProofs only [redoH, redo1, go_sem, Int.reduceEq, Int.reduceNeg, Nat.reduceEqDiff, Nat.reduceLT, Nat.reduceAdd, Nat.reduceSub, Nat.reduceMul, Int.reduceLE, Int.reduceLT, Int.reduceToNat, Int.toNat_natCast, Nat.reduceLeDiff, Bool.not_true, Bool.not_false, a6], by simp -implicitDefEqProofs only [redoH, redo1, go_sem, Int.reduceEq, Int.reduceNeg, Nat.reduceEqDiff, Nat.reduceLT, Nat.reduceAdd, Nat.reduceSub, Nat.reduceMul, Int.reduceLE, Int.reduceLT, Int.reduceToNat, Int.toNat_natCast, Nat.reduceLeDiff, Bool.not_true, Bool.not_false, a10], by simp -implicitDefEqProofs only [redoH, redo1, go_sem, Int.reduceEq, Int.reduceNeg, Nat.reduceEqDiff, Nat.reduceLT, Nat.reduceAdd, Nat.reduceSub, Nat.reduceMul, Int.reduceLE, Int.reduceLT, Int.reduceToNat, Int.toNat_natCast, Nat.reduceLeDiff, Bool.not_true, Bool.not_false, a11], by simp -implicitDefEqProofs only [redoH, redo1, go_sem, Int.reduceEq, Int.reduceNeg, Nat.reduceEqDiff, Nat.reduceLT, Nat.reduceAdd, Nat.reduceSub, Nat.reduceMul, Int.reduceLE, Int.reduceLT, Int.reduceToNat, Int.toNat_natCast, Nat.reduceLeDiff, Bool.not_true, Bool.not_false, a12], 0, n, to, H, o, by simp -implicitDefEqProofs only [redoH, redo1, go_sem, Int.reduceEq, Int.reduceNeg, Nat.reduceEqDiff, Nat.reduceLT, Nat.reduceAdd, Nat.reduceSub, Nat.reduceMul, Int.reduceLE, Int.reduceLT, Int.reduceToNat, Int.toNat_natCast, Nat.reduceLeDiff, Bool.not_true, Bool.not_false, a5], by simp -implicitDefEqProofs only [redoH, redo1, go_sem, Int.reduceEq, Int.reduceNeg, Nat.reduceEqDiff, Nat.reduceLT, Nat.reduceAdd, Nat.reduceSub, Nat.reduceMul, Int.reduceLE, Int.reduceLT, Int.reduceToNat, Int.toNat_natCast, Nat.reduceLeDiff, Bool.not_true, Bool.not_false, hT] <;> rfl, by omega, rfl, rfl, g0, gt, by simp⟩
              clear a1 a2 a5 a6 a10 a11 a12 hT T g0 gt H n
              rintro k T s' ⟨hT, a1, a2, a6, a10, a11, a12, q, n, to, H, o2, a5, a13, hq, rfl, rfl, g0, gt, ho2⟩
              simp -implicitDefEqProofs only [redoH, redo1, go_sem, Int.reduceEq, Int.reduceNeg, Nat.reduceEqDiff, Nat.reduceLT, Nat.reduceAdd, Nat.reduceSub, Nat.reduceMul, Int.reduceLE, Int.reduceLT, Int.reduceToNat, Int.toNat_natCast, Nat.reduceLeDiff, Bool.not_true, Bool.not_false, a1, a2, a5, a6, a10, a11, a12, a13, hT]
              by_cases hql : (q : Int) < (B.length : Int)
              · have hq' : q < B.length := by omega
                have e3 := elemAt_map (f := iV) (l := B) (i := q) (z := 1) hq' rfl
                have hrbq := hrb _ (List.getElem_mem hq')
                have hkq : B.length - (q + 1) < B.length - q := by omega
                have ht2 : o2 ++ [t.cost + max A[p] B[q]] = o ++ (B.take (q + 1)).map fun b => t.cost + max A[p] b := by
                  rw [ho2, List.take_succ_eq_append_getElem hq', List.map_append, List.append_assoc]; rfl
                have hlo2 : o2.length + 1 ≤ 16385 := by
                  rw [ho2]
                  simp only [List.length_append, List.length_map, List.length_take] at hlo1 ⊢
                  omega
                rw [max_def'] at ht2
                generalize A[p] = av at *
                generalize B[q] = bv at *
                have hap := fun x Hc => fun (hx : o2.map iV ≠ [] → hget Hc [to, 18, 0] = some (.tok o2.length 1)) => append_abs (C := cfg.at 43) (sT := 22) (b := [to, 18, 0]) (l := o2.map iV) (x := iV x) (H := Hc) (n := 0) (p := [n + 1, 18]) (jr := true) (j := []) (z := 1) desc22 tget3 rfl rfl rfl rfl rfl rfl (by rw [List.length_map]; show (o2.length + 1) * 8 ≤ _; omega) (fun h => by rw [List.length_map]; exact hx h)
                have hap1 := fun x => hap x H gt
                have hrm : ∀ x, o2.map iV ++ [iV x] = (o2 ++ [x]).map iV := fun x => by simp
                have hln : ∀ x, (o2 ++ [x]).length = o2.length + 1 := fun x => by simp
                have keep : ∀ X b, b ≠ [n + 1, 18, 0] → b ≠ [to, 18, 0] → hget (redoH H (([n + 1, 18, 0], some X) :: tokJ (o2.map iV) [to, 18, 0] [])) b = hget H b := fun X b h1 h2 => by
                  rw [hget_redoH]
                  cases o2.map iV with
                  | nil => simp only [tokJ, lkD, if_neg (Ne.symm h1)]; rfl
                  | cons a r => simp only [tokJ, lkD, if_neg (Ne.symm h1), if_neg (Ne.symm h2)]; rfl
                have fresh : ∀ X, hget (redoH H (([n + 1, 18, 0], some X) :: tokJ (o2.map iV) [to, 18, 0] [])) [n + 1, 18, 0] = some X := fun X => by
                  rw [hget_redoH]
                  simp only [lkD, if_true]; rfl
                have k0 := fun X => (keep X [0] (by simp) (by simp)).trans g0
                simp only [hrm, List.length_map] at hap1
                simp only [iV, List.singleton_append, List.nil_append, List.cons_append] at hap1
                have hwm : wrapF .i64 (t.cost + if av < bv then bv else av) = t.cost + if av < bv then bv else av := by
                  split <;> exact wrap_i64 (by omega) (by omega)
                have hw1 : wrapF .i64 ((q : Int) + 1) = ((q + 1 : Nat) : Int) := wrap_i64 (by omega) (by omega)
                simp -implicitDefEqProofs only [redoH, redo1, go_sem, Int.reduceEq, Int.reduceNeg, Nat.reduceEqDiff, Nat.reduceLT, Nat.reduceAdd, Nat.reduceSub, Nat.reduceMul, Int.reduceLE, Int.reduceLT, Int.reduceToNat, Int.toNat_natCast, Nat.reduceLeDiff, Bool.not_true, Bool.not_false, a1, a2, a5, a6, a10, a11, a12, a13, hT, hql]
                simp only [does_bind]
                refine draw_mach [18] [18] (by kernel_rfl) ?_
                by_cases hmx : av < bv
                · rw [if_pos hmx] at hwm ht2
                  simp -implicitDefEqProofs only [go_sem, Int.reduceEq, Int.reduceNeg, Nat.reduceEqDiff, Nat.reduceLT, Nat.reduceAdd, Nat.reduceSub, Nat.reduceMul, Int.reduceLE, Int.reduceLT, Int.reduceToNat, Int.toNat_natCast, Nat.reduceLeDiff, Bool.not_true, Bool.not_false, a1, a2, a5, a6, a10, a11, a12, a13, hT, g0, e1, e2, e3, hmx, hwm, hap1, desc22, hw1]
                  exact ⟨B.length - (q + 1), hkq, trivial, trivial, trivial, trivial, trivial, trivial, trivial, q + 1, n + 1, n + 1, _, o2 ++ [t.cost + bv], rfl, rfl, hq', rfl, rfl, k0 _, fun _ => by rw [hln]; exact fresh _, ht2⟩
                · rw [if_neg hmx] at hwm ht2
                  simp -implicitDefEqProofs only [go_sem, Int.reduceEq, Int.reduceNeg, Nat.reduceEqDiff, Nat.reduceLT, Nat.reduceAdd, Nat.reduceSub, Nat.reduceMul, Int.reduceLE, Int.reduceLT, Int.reduceToNat, Int.toNat_natCast, Nat.reduceLeDiff, Bool.not_true, Bool.not_false, a1, a2, a5, a6, a10, a11, a12, a13, hT, g0, e1, e2, e3, hmx, hwm, hap1, desc22, hw1]
                  exact ⟨B.length - (q + 1), hkq, trivial, trivial, trivial, trivial, trivial, trivial, trivial, q + 1, n + 1, n + 1, _, o2 ++ [t.cost + av], rfl, rfl, hq', rfl, rfl, k0 _, fun _ => by rw [hln]; exact fresh _, ht2⟩
              · have hqe : q = B.length := by omega
                subst hqe
                rw [List.take_length] at ho2
                have ho3 : o2 = out ++ (A.take (p + 1)).flatMap fun a => B.map fun b => t.cost + max a b := by
                  rw [ho2, htkp, ho, List.append_assoc]
                have hw1 : wrapF .i64 ((p : Int) + 1) = ((p + 1 : Nat) : Int) := wrap_i64 (by omega) (by omega)
                simp -implicitDefEqProofs only [redoH, redo1, go_sem, Int.reduceEq, Int.reduceNeg, Nat.reduceEqDiff, Nat.reduceLT, Nat.reduceAdd, Nat.reduceSub, Nat.reduceMul, Int.reduceLE, Int.reduceLT, Int.reduceToNat, Int.toNat_natCast, Nat.reduceLeDiff, Bool.not_true, Bool.not_false, a1, a2, a5, a6, a10, a11, a12, a13, hT, hql, hw1]
                exact ⟨A.length - (p + 1), hkp, trivial, trivial, trivial, trivial, trivial, trivial, p + 1, n, to, H, o2, rfl, rfl, hp', rfl, rfl, g0, gt, ho3⟩
            · have hpe : p = A.length := by omega
              subst hpe
              rw [List.take_length, ← htk] at ho
              have hw1 : wrapF .i64 ((i : Int) + 1) = ((i + 1 : Nat) : Int) := wrap_i64 (by omega) (by omega)
              simp -implicitDefEqProofs only [redoH, redo1, go_sem, Int.reduceEq, Int.reduceNeg, Nat.reduceEqDiff, Nat.reduceLT, Nat.reduceAdd, Nat.reduceSub, Nat.reduceMul, Int.reduceLE, Int.reduceLT, Int.reduceToNat, Int.toNat_natCast, Nat.reduceLeDiff, Bool.not_true, Bool.not_false, a1, a2, a5, a6, a10, a11, a12, hT, hpl, hw1]
              exact ⟨h.trials.length - (i + 1), hkk, trivial, trivial, trivial, i + 1, n, to, H, by rw [ho], rfl, hi', rfl, rfl, g0, by rw [← ho]; exact gt⟩
    · have hie : i = h.trials.length := by omega
      subst hie
      rw [List.take_length] at a5
      simp -implicitDefEqProofs only [redoH, redo1, go_sem, Int.reduceEq, Int.reduceNeg, Nat.reduceEqDiff, Nat.reduceLT, Nat.reduceAdd, Nat.reduceSub, Nat.reduceMul, Int.reduceLE, Int.reduceLT, Int.reduceToNat, Int.toNat_natCast, Nat.reduceLeDiff, Bool.not_true, Bool.not_false, a1, a2, a5, a6, hT, hil, Try.results43]
end Go.Proofs.Ytgnpnfkncbnjnaa
namespace Go.Proofs.Ytgnpnfkncbnjnaa
open Go Go.Am
attribute [local congr] tr_congr does_congr all_congr
theorem first_set : ∀ S : Fin 13, setN 0 (firstL S.val) = 2 ^ S.val - 1 := by decide +kernel
theorem first_susp : ∀ S : Fin 13, suspE (S.val : Int) (-1) (firstL S.val) = 0 := by decide +kernel
theorem first_mem (S : Nat) (n : Int) : n ∈ firstL S ↔ 0 ≤ n ∧ n < S := by
  unfold firstL
  rw [List.mem_map]
  constructor
  · rintro ⟨k, hk, rfl⟩
    have := List.mem_range.1 hk
    omega
  · rintro ⟨h1, h2⟩
    exact ⟨n.toNat, List.mem_range.2 (by omega), by omega⟩
theorem first_nodup (S : Nat) : (firstL S).Nodup := by
  unfold firstL
  rw [List.nodup_iff_pairwise_ne, List.pairwise_map]
  exact List.nodup_range.imp fun h hh => h (by omega)
theorem first_ms (S : Nat) (h : S ≤ 12) : Ms (firstL S) (2 ^ S - 1) := by
  have hN : 2 ^ S ≤ 4096 := Nat.pow_le_pow_right (n := 2) (by decide) h
  have h1 : 1 ≤ 2 ^ S := Nat.one_le_two_pow
  refine ⟨by omega, first_nodup S, fun n hn => by have := (first_mem S n).1 hn; omega, fun k => ?_⟩
  rw [Nat.testBit_two_pow_sub_one]
  congr 1
  apply propext
  rw [first_mem]
  omega
def minL : Int → List Int → Int
  | m, [] => m
  | m, x :: r => minL (min m x) r
theorem minL_le : ∀ (l : List Int) (m : Int), minL m l ≤ m ∧ ∀ x ∈ l, minL m l ≤ x
  | [], m => ⟨Int.le_refl _, by simp⟩
  | y :: r, m => by
    have h := minL_le r (min m y)
    refine ⟨by have := h.1; simp only [minL]; omega, fun x hx => ?_⟩
    rcases List.mem_cons.1 hx with rfl | hx
    · have := h.1; simp only [minL]; omega
    · exact h.2 x hx
theorem minL_in : ∀ (l : List Int) (m : Int), minL m l = m ∨ minL m l ∈ l
  | [], m => .inl rfl
  | y :: r, m => by
    simp only [minL]
    rcases minL_in r (min m y) with h | h
    · rw [h]
      by_cases hm : m ≤ y
      · left; omega
      · right; rw [show min m y = y by omega]; exact List.mem_cons_self
    · right; exact List.mem_cons_of_mem _ h
theorem least_walk (nums : List Int) (K : Nat) (hK : 21000 < K) (hk2 : nums.length < K) (hn : Len nums) :
    (acall cfg (K + 320) 5 [.lst (nums.map iV)] s0).Does fun x => x.1 = .bool true := by
  rw [call0 mget5 fget5]
  refine body_does rfl fun T hT' hA => ?_
  have a0 := hA 0 _ rfl
  have hT : T.length = 60 := hT'
  clear hA hT'
  have haw := fun s => awake_all (K + 19) s
  have hnd := fun s => newDice_call nums (K + 317) s (by omega) hn
  generalize newDice nums = w0 at *
  obtain ⟨h, w1, hg, hof⟩ := huntOf_call w0 4 4 [0] 0 (K + 309) ⟨[([0], .cells [.int .u64 w0] true 0)], 1, [], false, []⟩ rfl (by omega) (by omega) (by omega) (by omega) (by omega)
  have hh := hntG_ok (by omega) (by omega) hg
  have hok := fun k (hk : 20 < k) => hntG_Ok (by omega) hg k (by omega)
  obtain ⟨hg1, hg2, hg3, hg4⟩ := hg
  obtain ⟨S, hS⟩ : ∃ S : Nat, h.suspects = S := ⟨h.suspects.toNat, by omega⟩
  have hf := fun s => first_call S (K + 318) s (by omega) (by omega)
  have hfl := firstL_length S
  have hwc := fun s => worst_call h (firstL S) (K + 309) s (by omega) (hok _ (by omega)) (by omega) (by omega)
  have hwt : worstT h (firstL S) = if (bestS (setsOf h) (2 ^ S - 1)).1 < 0 then (0, 0, 15) else ((bestS (setsOf h) (2 ^ S - 1)).1, (bestS (setsOf h) (2 ^ S - 1)).2, 0) := by
    unfold worstT
    rw [if_pos hh, if_neg (by omega), hS, if_pos (first_susp ⟨S, by omega⟩), first_set ⟨S, by omega⟩]
  rw [hwt] at hwc
  have hne : firstL S ≠ [] := fun hx => by rw [hx] at hfl; simp at hfl; omega
  have hst := fun s => strat_call h (by omega) (fun t ht => ⟨⟨(hg4 t ht).2.2.1, (hg4 t ht).2.2.2⟩, (hg4 t ht).2.1⟩) 4 (by omega) (firstL S) hne (by omega) (K + 315) s (by omega)
  obtain ⟨hb1, hb2⟩ := strat_best h hh 4 (firstL S) (2 ^ S - 1) (by omega) hne (first_ms S (by omega))
  have hsl := strat_len (ts := h.trials) (by omega) 4 (firstL S) hne (by omega)
  have hsl2 : (strat h.trials 4 (firstL S)).length ≤ 16384 := Nat.le_trans hsl (by decide)
  simp only [hntV, hS] at hof hwc hst
  generalize bestS (setsOf h) (2 ^ S - 1) = B0 at *
  generalize strat h.trials 4 (firstL S) = l at *
  clear hwt hsl
  simp -implicitDefEqProofs only [redoH, redo1, go_sem, Int.reduceEq, Int.reduceNeg, Nat.reduceEqDiff, Nat.reduceLT, Nat.reduceAdd, Nat.reduceSub, Nat.reduceMul, Int.reduceLE, Int.reduceLT, Int.reduceToNat, Int.toNat_natCast, Nat.reduceLeDiff, Bool.not_true, Bool.not_false, a0, hT, hnd, hof]
  simp only [does_bind]
  refine draw_mach [] [] (by kernel_rfl) ?_
  cases hl : l with
  | nil =>
    subst hl
    have c1 : B0.1 < 0 := by
      rcases Int.lt_or_le B0.1 0 with h1 | h1
      · exact h1
      · have := (hb2 h1).1; cases this
    rw [if_pos c1] at hwc
    simp only [t3V] at hwc
    simp -implicitDefEqProofs only [redoH, redo1, go_sem, Int.reduceEq, Int.reduceNeg, Nat.reduceEqDiff, Nat.reduceLT, Nat.reduceAdd, Nat.reduceSub, Nat.reduceMul, Int.reduceLE, Int.reduceLT, Int.reduceToNat, Int.toNat_natCast, Nat.reduceLeDiff, Bool.not_true, Bool.not_false, a0, hT, hf, hwc]
    simp only [does_bind]
    refine draw_mach [] [] (by kernel_rfl) ?_
    simp only [List.map_nil] at hst
    have hz : (((0 : Nat) : Int) = 0) = True := by simp
    simp -implicitDefEqProofs only [redoH, redo1, go_sem, Int.reduceEq, Int.reduceNeg, Nat.reduceEqDiff, Nat.reduceLT, Nat.reduceAdd, Nat.reduceSub, Nat.reduceMul, Int.reduceLE, Int.reduceLT, Int.reduceToNat, Int.toNat_natCast, Nat.reduceLeDiff, Bool.not_true, Bool.not_false, a0, hT, hf, hst, hz, haw, Try.results5]
  | cons b r =>
    have c1 : ¬ B0.1 < 0 := fun h1 => by have := hb1 h1; rw [hl] at this; cases this
    rw [if_neg c1] at hwc
    obtain ⟨q1, q2⟩ := hb2 (by omega)
    have hmin : minL b l = B0.1 := by
      have h1 := minL_le l b
      have h2 := h1.2 _ q1
      have h3 : B0.1 ≤ minL b l := by
        rcases minL_in l b with h4 | h4
        · rw [h4]; exact q2 b (by rw [hl]; exact List.mem_cons_self)
        · exact q2 _ h4
      omega
    have hl0 : 0 < l.length := by rw [hl]; simp
    have hlne : ¬ (l.length : Int) = 0 := by omega
    have e0 := elemAt_map (f := iV) (l := l) (i := 0) (z := 1) hl0 rfl
    have hb0 : l[0] = b := by simp [hl]
    rw [hb0] at e0
    clear hb1 hb2 q1 q2 hl hb0 r hl0
    simp only [t3V] at hwc
    simp -implicitDefEqProofs only [redoH, redo1, go_sem, Int.reduceEq, Int.reduceNeg, Nat.reduceEqDiff, Nat.reduceLT, Nat.reduceAdd, Nat.reduceSub, Nat.reduceMul, Int.reduceLE, Int.reduceLT, Int.reduceToNat, Int.toNat_natCast, Nat.reduceLeDiff, Bool.not_true, Bool.not_false, a0, hT, hf, hwc]
    simp only [does_bind]
    refine draw_mach [] [] (by kernel_rfl) ?_
    have e0' : elemAt 1 0 (l.map iV) = some (.fptr (iV b).cells 0) := e0
    simp -implicitDefEqProofs only [redoH, redo1, go_sem, Int.reduceEq, Int.reduceNeg, Nat.reduceEqDiff, Nat.reduceLT, Nat.reduceAdd, Nat.reduceSub, Nat.reduceMul, Int.reduceLE, Int.reduceLT, Int.reduceToNat, Int.toNat_natCast, Nat.reduceLeDiff, Bool.not_true, Bool.not_false, a0, hT, hf, hst, hlne, e0']
    simp only [does_bind]
    refine xl_does (fun k T s' => T.length = 60 ∧ nth T 4 = some (.int .i64 B0.1) ∧ nth T 6 = some (.int .i64 0) ∧ nth T 7 = some (.lst (l.map iV)) ∧ ∃ (i n : Nat) (m : Int) (H : Heap), nth T 8 = some (.int .i64 m) ∧ nth T 9 = some (.int .i64 i) ∧ i ≤ l.length ∧ k = l.length - i ∧ s' = ⟨H, n, [], false, []⟩ ∧ minL b l = minL m (l.drop i)) (k := l.length) (by omega) ?_ ?_
    · exact ⟨by simp -implicitDefEqProofs only [redoH, redo1, go_sem, Int.reduceEq, Int.reduceNeg, Nat.reduceEqDiff, Nat.reduceLT, Nat.reduceAdd, Nat.reduceSub, Nat.reduceMul, Int.reduceLE, Int.reduceLT, Int.reduceToNat, Int.toNat_natCast, Nat.reduceLeDiff, Bool.not_true, Bool.not_false, hT], by simp -implicitDefEqProofs only [redoH, redo1, go_sem, Int.reduceEq, Int.reduceNeg, Nat.reduceEqDiff, Nat.reduceLT, Nat.reduceAdd, Nat.reduceSub, Nat.reduceMul, Int.reduceLE, Int.reduceLT, Int.reduceToNat, Int.toNat_natCast, Nat.reduceLeDiff, Bool.not_true, Bool.not_false, hT], by simp -implicitDefEqProofs only [redoH, redo1, go_sem, Int.reduceEq, Int.reduceNeg, Nat.reduceEqDiff, Nat.reduceLT, Nat.reduceAdd, Nat.reduceSub, Nat.reduceMul, Int.reduceLE, Int.reduceLT, Int.reduceToNat, Int.toNat_natCast, Nat.reduceLeDiff, Bool.not_true, Bool.not_false, hT], by simp -implicitDefEqProofs only [redoH, redo1, go_sem, Int.reduceEq, Int.reduceNeg, Nat.reduceEqDiff, Nat.reduceLT, Nat.reduceAdd, Nat.reduceSub, Nat.reduceMul, Int.reduceLE, Int.reduceLT, Int.reduceToNat, Int.toNat_natCast, Nat.reduceLeDiff, Bool.not_true, Bool.not_false, hT], 0, _, b, _, by simp -implicitDefEqProofs only [redoH, redo1, go_sem, Int.reduceEq, Int.reduceNeg, Nat.reduceEqDiff, Nat.reduceLT, Nat.reduceAdd, Nat.reduceSub, Nat.reduceMul, Int.reduceLE, Int.reduceLT, Int.reduceToNat, Int.toNat_natCast, Nat.reduceLeDiff, Bool.not_true, Bool.not_false, hT], by simp -implicitDefEqProofs only [redoH, redo1, go_sem, Int.reduceEq, Int.reduceNeg, Nat.reduceEqDiff, Nat.reduceLT, Nat.reduceAdd, Nat.reduceSub, Nat.reduceMul, Int.reduceLE, Int.reduceLT, Int.reduceToNat, Int.toNat_natCast, Nat.reduceLeDiff, Bool.not_true, Bool.not_false, hT] <;> rfl, by omega, rfl, rfl, rfl⟩
    clear a0 hT T
    rintro k T s' ⟨hT, a4, a6, a7, i, n, m, H, a8, a9, hi, rfl, rfl, hm⟩
    simp -implicitDefEqProofs only [redoH, redo1, go_sem, Int.reduceEq, Int.reduceNeg, Nat.reduceEqDiff, Nat.reduceLT, Nat.reduceAdd, Nat.reduceSub, Nat.reduceMul, Int.reduceLE, Int.reduceLT, Int.reduceToNat, Int.toNat_natCast, Nat.reduceLeDiff, Bool.not_true, Bool.not_false, a4, a6, a7, a8, a9, hT]
    by_cases hil : (i : Int) < (l.length : Int)
    · have hi' : i < l.length := by omega
      have e1 := elemAt_map (f := iV) (l := l) (i := i) (z := 1) hi' rfl
      have hkk : l.length - (i + 1) < l.length - i := by omega
      rw [List.drop_eq_getElem_cons hi'] at hm
      simp only [minL] at hm
      rw [min_def'] at hm
      have hw1 : wrapF .i64 ((i : Int) + 1) = ((i + 1 : Nat) : Int) := wrap_i64 (by omega) (by omega)
      generalize l[i] = x at *
      by_cases hmx : x < m
      · rw [if_pos hmx] at hm
        simp -implicitDefEqProofs only [redoH, redo1, go_sem, Int.reduceEq, Int.reduceNeg, Nat.reduceEqDiff, Nat.reduceLT, Nat.reduceAdd, Nat.reduceSub, Nat.reduceMul, Int.reduceLE, Int.reduceLT, Int.reduceToNat, Int.toNat_natCast, Nat.reduceLeDiff, Bool.not_true, Bool.not_false, a4, a6, a7, a8, a9, hT, hil, e1, hmx, hw1]
        exact ⟨l.length - (i + 1), hkk, trivial, trivial, trivial, trivial, i + 1, n, x, H, rfl, rfl, hi', rfl, rfl, hm⟩
      · rw [if_neg hmx] at hm
        simp -implicitDefEqProofs only [redoH, redo1, go_sem, Int.reduceEq, Int.reduceNeg, Nat.reduceEqDiff, Nat.reduceLT, Nat.reduceAdd, Nat.reduceSub, Nat.reduceMul, Int.reduceLE, Int.reduceLT, Int.reduceToNat, Int.toNat_natCast, Nat.reduceLeDiff, Bool.not_true, Bool.not_false, a4, a6, a7, a8, a9, hT, hil, e1, hmx, hw1]
        exact ⟨l.length - (i + 1), hkk, trivial, trivial, trivial, trivial, i + 1, n, m, H, rfl, rfl, hi', rfl, rfl, hm⟩
    · have hie : i = l.length := by omega
      subst hie
      rw [List.drop_length] at hm
      simp only [minL] at hm
      rw [hmin] at hm
      subst hm
      simp -implicitDefEqProofs only [redoH, redo1, go_sem, Int.reduceEq, Int.reduceNeg, Nat.reduceEqDiff, Nat.reduceLT, Nat.reduceAdd, Nat.reduceSub, Nat.reduceMul, Int.reduceLE, Int.reduceLT, Int.reduceToNat, Int.toNat_natCast, Nat.reduceLeDiff, Bool.not_true, Bool.not_false, a4, a6, a7, a8, a9, hT, hil, haw, Try.results5]
theorem least_yes (L : List (List AV)) (hl : L.length = [22].length) (hc : ∀ (i : Nat) t acs, [22][i]? = some t → L[i]? = some acs → Content Try.prog 12 t acs) :
    ∃ K, Yes (acall cfg K 5 (([22].zip L).map fun x => argOf Try.prog x.1 x.2) s0) := by
  match L, hl with
  | [c0], _ =>
    obtain ⟨nums, rfl, hn⟩ := arg_ints 10 c0 (hc 0 22 c0 rfl rfl)
    refine ⟨(21001 + nums.length) + 320, ⟨?_⟩⟩
    exact (least_walk nums _ (by omega) (by omega) hn.1).all
end Go.Proofs.Ytgnpnfkncbnjnaa
namespace Go.Proofs.Ytgnpnfkncbnjnaa
open Go Go.Am Go.ChangeShapes Go.WideShapes Go.ChangeAt Go.RowKit
set_option maxRecDepth 100000 in
theorem least_lifted (os : Os) (started : os.Started) (H : Type) (enc : TypeId × Value → H) :
    ReturnsInHanded {} Try.checked os 5 .any (Rows.pumpLeastSpec.pre6 enc Try.prog Try.f5 Rows.pumpLeastRow.domain false) (Rows.pumpLeastSpec.post enc Try.prog Try.f5 false true false false) := by
  refine returnsInHanded_of_change (C := Try.checked) Try.own started (by kernel_rfl) Try.func5
    (ChangeSpec.witness6 (enc := enc) (C := Try.checked) false ⟨#[], #[.slice none 0 0], []⟩ 8 (by kernel_rfl) (by kernel_rfl) (by kernel_rfl) (by kernel_rfl)) ?_
  intro W base args ds gs before hval0 hW hcnd _
  have hW' := hW
  obtain ⟨p, q, hA0, hV, rfl, hfz, hnd⟩ := hW
  have hA : DataW.TrodAll enc Try.prog W 0 (fun _ => true) true Try.f5.params.toList args.toList ds p := hA0
  rw [Try.params5] at hA
  obtain ⟨rfl, rfl⟩ := trodVars_none hV
  simp only [List.append_nil] at hW'
  have hlen : ds.length = 1 := trod_len _ _ _ _ hA
  have hsup : (([22] : List TypeId).all fun t => suppB Try.prog 12 t) = true := by as_aux_lemma => kernel_rfl
  have hpar : (([22] : List TypeId).all fun t => Try.prog.readableRec t && Nat.blt t Try.prog.types.size) = true := by as_aux_lemma => kernel_rfl
  refine (calls_of_args (d := 12) cfgOk codesOk hA (fun t ht => List.all_eq_true.1 hsup t ht) (fun j t v e1 e2 => hval0 j t v (by rw [Try.params5]; simpa using e1) (by simpa using e2)) fun L hl hc => least_yes L hl hc).mono fun e W' ⟨he, hb⟩ => ?_
  subst he
  exact ⟨_, rfl, law_post Try.laidOut (fun t ht => by rw [Try.params5] at ht; have := List.all_eq_true.1 hpar t ht; rw [Bool.and_eq_true, Nat.blt_eq] at this; exact this) rfl rfl Try.underlying4 hW' (by match ds, hlen with | [_], _ => rfl) hb⟩
set_option maxHeartbeats 4000000 in
theorem least_closed : joinedFacts Try.prog 5 Try.f5 Rows.pumpLeastSpec Rows.pumpLeastRow = true := by
  refine joined_of Try.laidOut Try.rowed Try.noStops Try.noKnobs Try.plain Try.heard Try.enters Try.lifts Try.makes (by as_aux_lemma => kernel_rfl) (by as_aux_lemma => kernel_rfl) (by as_aux_lemma => kernel_rfl) (by as_aux_lemma => kernel_rfl) (by as_aux_lemma => kernel_rfl)
    (by as_aux_lemma => kernel_rfl) (by as_aux_lemma => kernel_rfl) (by as_aux_lemma => kernel_rfl) (by as_aux_lemma => kernel_rfl) ?_
  kernel_rfl
theorem least_holds : Rows.PumpLeastSaid :=
  OpenClaim.holds_of_wide 5 Try.f5 rfl rfl rfl rfl rfl rfl rfl ⟨rfl, rfl, rfl, rfl, rfl⟩ rfl rfl rfl rfl rfl (by as_aux_lemma => kernel_rfl) Try.func5 least_closed
    (of_decide_eq_true (by as_aux_lemma => kernel_rfl)) (by as_aux_lemma => unfold Func.isWrapper; first | (rw [if_pos (by decide +kernel)]; kernel_rfl) | (rw [if_neg (by decide +kernel)]; exact ⟨rfl, rfl⟩))
    (fun os started H enc _ => least_lifted os started H enc)
end Go.Proofs.Ytgnpnfkncbnjnaa
