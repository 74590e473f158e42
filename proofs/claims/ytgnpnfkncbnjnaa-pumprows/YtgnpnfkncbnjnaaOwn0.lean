/- The statement PumpRows holds for every input, without further conditions. -/
import Derived.Test.YtgnpnfkncbnjnaaHuB
import Derived.Test.YtgnpnfkncbnjnaaAmF
import Derived.Test.YtgnpnfkncbnjnaaAmE
import Derived.Test.YtgnpnfkncbnjnaaAmC
import Derived.Test.YtgnpnfkncbnjnaaRows
import Derived.ProofKit
set_option linter.unusedSimpArgs false
set_option linter.unusedVariables false
set_option maxRecDepth 100000
namespace Go.Proofs.Ytgnpnfkncbnjnaa
open Go Go.Am
/-! ### Choices by a table -/
def lkT : List (Nat × Int × Int) → Nat → Int × Int
  | [], _ => (0, 0)
  | e :: r, s => if Nat.beq e.1 s = true then e.2 else lkT r s
def inT : List (Nat × Int × Int) → Nat → Bool
  | [], _ => false
  | e :: r, s => if Nat.beq e.1 s = true then true else inT r s
def okE (ts : List (Nat × Int)) (tab : List (Nat × Int × Int)) (e : Nat × Int × Int) : Bool :=
  decide (e.1 < 4096) && decide (lkT tab e.1 = e.2) && decide ((if aloneB e.1 = true then (0, -1) else foldC (lkT tab) e.1 (-1, -1) 0 ts) = e.2) && ts.all fun t => decide (e.1 &&& t.1 = 0) || decide (restN e.1 t.1 = 0) || (inT tab (e.1 &&& t.1) && inT tab (restN e.1 t.1))
theorem inT_mem : ∀ {tab : List (Nat × Int × Int)} {s : Nat}, inT tab s = true → ∃ e ∈ tab, e.1 = s
  | [], _, h => by cases h
  | e :: r, s, h => by
    unfold inT at h
    by_cases h1 : Nat.beq e.1 s = true
    · exact ⟨e, List.mem_cons_self, Nat.eq_of_beq_eq_true h1⟩
    · rw [if_neg h1] at h
      obtain ⟨e', h2, h3⟩ := inT_mem h
      exact ⟨e', List.mem_cons_of_mem _ h2, h3⟩
theorem foldC_congr' {r1 r2 : Nat → Int × Int} {s : Nat} : ∀ (l : List (Nat × Int)), (∀ t ∈ l, s &&& t.1 ≠ 0 → restN s t.1 ≠ 0 → r1 (s &&& t.1) = r2 (s &&& t.1) ∧ r1 (restN s t.1) = r2 (restN s t.1)) → ∀ (x : Int × Int) (i : Nat), foldC r1 s x i l = foldC r2 s x i l
  | [], _, x, i => rfl
  | t :: l, h, x, i => by
    simp only [foldC]
    have hs : stepC r1 s x i t = stepC r2 s x i t := by
      unfold stepC
      split
      · rfl
      · split
        · rfl
        · rename_i h1 h2
          have := h t List.mem_cons_self h1 h2
          rw [this.1, this.2]
    rw [hs, foldC_congr' l fun t ht => h t (List.mem_cons_of_mem _ ht)]
theorem best_table {ts : List (Nat × Int)} {tab : List (Nat × Int × Int)} (h : (tab.all (okE ts tab)) = true) : ∀ (s : Nat) (e : Nat × Int × Int), e ∈ tab → e.1 = s → bestS ts s = e.2 ∧ lkT tab s = e.2 := by
  intro s
  induction s using Nat.strongRecOn with
  | ind s ih =>
  rintro e he rfl
  have h1 := List.all_eq_true.1 h e he
  simp only [okE, Bool.and_eq_true, decide_eq_true_eq, List.all_eq_true, Bool.or_eq_true] at h1
  obtain ⟨⟨⟨a1, a2⟩, a3⟩, a4⟩ := h1
  refine ⟨?_, a2⟩
  rw [bestS_eq ts e.1 a1, ← a3]
  split
  · rfl
  · refine foldC_congr' ts (fun t ht n1 n2 => ?_) _ _
    rcases a4 t ht with (h5 | h5) | h5
    · exact absurd h5 n1
    · exact absurd h5 n2
    · obtain ⟨e1, m1, q1⟩ := inT_mem h5.1
      obtain ⟨e2, m2, q2⟩ := inT_mem h5.2
      have k1 := ih _ (in_lt e.1 t.1 a1 n2) e1 m1 q1
      have k2 := ih _ (rest_lt e.1 t.1 a1 n1) e2 m2 q2
      exact ⟨k1.1.trans k1.2.symm, k2.1.trans k2.2.symm⟩
def rowT (j : Nat) : List Tri := (List.range j).map fun i => ⟨firstL (i + 1), 1⟩
theorem rowT_succ (j : Nat) : rowT (j + 1) = rowT j ++ [⟨firstL (j + 1), 1⟩] := by simp [rowT, List.range_succ]
theorem rowT_len (j : Nat) : (rowT j).length = j := by simp [rowT]
def rowHnt (m : Nat) : Hnt := ⟨(m : Int), rowT (m - 1)⟩
/-- The least k of which 2^k is at least m. -/
def clog (m : Nat) : Nat := if m ≤ 1 then 0 else if m ≤ 2 then 1 else if m ≤ 4 then 2 else if m ≤ 8 then 3 else 4
def rowE (m : Nat) : Bool := decide (huntE (rowHnt m) = 0) && decide ((firstL m).length ≠ 0) && decide (suspE (m : Int) (-1) (firstL m) = 0)
def rowTab1 : List (Nat × Int × Int) := [(1, 0, -1)]
theorem row_1 : bestS (setsOf (rowHnt 1)) (setN 0 (firstL 1)) = (0, -1) := (best_table (ts := setsOf (rowHnt 1)) (tab := rowTab1) (by decide +kernel) _ (1, 0, -1) (by decide +kernel) (by decide +kernel)).1
theorem roe_1 : rowE 1 = true := by decide +kernel
def rowTab2 : List (Nat × Int × Int) := [(1, 0, -1), (3, 1, 0), (2, 0, -1)]
theorem row_2 : bestS (setsOf (rowHnt 2)) (setN 0 (firstL 2)) = (1, 0) := (best_table (ts := setsOf (rowHnt 2)) (tab := rowTab2) (by decide +kernel) _ (3, 1, 0) (by decide +kernel) (by decide +kernel)).1
theorem roe_2 : rowE 2 = true := by decide +kernel
def rowTab3 : List (Nat × Int × Int) := [(1, 0, -1), (3, 1, 0), (7, 2, 0), (2, 0, -1), (6, 1, 1), (4, 0, -1)]
theorem row_3 : bestS (setsOf (rowHnt 3)) (setN 0 (firstL 3)) = (2, 0) := (best_table (ts := setsOf (rowHnt 3)) (tab := rowTab3) (by decide +kernel) _ (7, 2, 0) (by decide +kernel) (by decide +kernel)).1
theorem roe_3 : rowE 3 = true := by decide +kernel
def rowTab4 : List (Nat × Int × Int) := [(1, 0, -1), (3, 1, 0), (7, 2, 0), (15, 2, 1), (2, 0, -1), (6, 1, 1), (14, 2, 1), (4, 0, -1), (12, 1, 2), (8, 0, -1)]
theorem row_4 : bestS (setsOf (rowHnt 4)) (setN 0 (firstL 4)) = (2, 1) := (best_table (ts := setsOf (rowHnt 4)) (tab := rowTab4) (by decide +kernel) _ (15, 2, 1) (by decide +kernel) (by decide +kernel)).1
theorem roe_4 : rowE 4 = true := by decide +kernel
def rowTab5 : List (Nat × Int × Int) := [(1, 0, -1), (3, 1, 0), (7, 2, 0), (15, 2, 1), (31, 3, 0), (2, 0, -1), (6, 1, 1), (14, 2, 1), (30, 2, 2), (4, 0, -1), (12, 1, 2), (28, 2, 2), (8, 0, -1), (24, 1, 3), (16, 0, -1)]
theorem row_5 : bestS (setsOf (rowHnt 5)) (setN 0 (firstL 5)) = (3, 0) := (best_table (ts := setsOf (rowHnt 5)) (tab := rowTab5) (by decide +kernel) _ (31, 3, 0) (by decide +kernel) (by decide +kernel)).1
theorem roe_5 : rowE 5 = true := by decide +kernel
def rowTab6 : List (Nat × Int × Int) := [(1, 0, -1), (3, 1, 0), (7, 2, 0), (15, 2, 1), (31, 3, 0), (63, 3, 1), (2, 0, -1), (6, 1, 1), (14, 2, 1), (30, 2, 2), (62, 3, 1), (4, 0, -1), (12, 1, 2), (28, 2, 2), (60, 2, 3), (8, 0, -1), (24, 1, 3), (56, 2, 3), (16, 0, -1), (48, 1, 4), (32, 0, -1)]
theorem row_6 : bestS (setsOf (rowHnt 6)) (setN 0 (firstL 6)) = (3, 1) := (best_table (ts := setsOf (rowHnt 6)) (tab := rowTab6) (by decide +kernel) _ (63, 3, 1) (by decide +kernel) (by decide +kernel)).1
theorem roe_6 : rowE 6 = true := by decide +kernel
def rowTab7 : List (Nat × Int × Int) := [(1, 0, -1), (3, 1, 0), (7, 2, 0), (15, 2, 1), (31, 3, 0), (63, 3, 1), (127, 3, 2), (2, 0, -1), (6, 1, 1), (14, 2, 1), (30, 2, 2), (62, 3, 1), (126, 3, 2), (4, 0, -1), (12, 1, 2), (28, 2, 2), (60, 2, 3), (124, 3, 2), (8, 0, -1), (24, 1, 3), (56, 2, 3), (120, 2, 4), (16, 0, -1), (48, 1, 4), (112, 2, 4), (32, 0, -1), (96, 1, 5), (64, 0, -1)]
theorem row_7 : bestS (setsOf (rowHnt 7)) (setN 0 (firstL 7)) = (3, 2) := (best_table (ts := setsOf (rowHnt 7)) (tab := rowTab7) (by decide +kernel) _ (127, 3, 2) (by decide +kernel) (by decide +kernel)).1
theorem roe_7 : rowE 7 = true := by decide +kernel
def rowTab8 : List (Nat × Int × Int) := [(1, 0, -1), (3, 1, 0), (7, 2, 0), (15, 2, 1), (31, 3, 0), (63, 3, 1), (127, 3, 2), (255, 3, 3), (2, 0, -1), (6, 1, 1), (14, 2, 1), (30, 2, 2), (62, 3, 1), (126, 3, 2), (254, 3, 3), (4, 0, -1), (12, 1, 2), (28, 2, 2), (60, 2, 3), (124, 3, 2), (252, 3, 3), (8, 0, -1), (24, 1, 3), (56, 2, 3), (120, 2, 4), (248, 3, 3), (16, 0, -1), (48, 1, 4), (112, 2, 4), (240, 2, 5), (32, 0, -1), (96, 1, 5), (224, 2, 5), (64, 0, -1), (192, 1, 6), (128, 0, -1)]
theorem row_8 : bestS (setsOf (rowHnt 8)) (setN 0 (firstL 8)) = (3, 3) := (best_table (ts := setsOf (rowHnt 8)) (tab := rowTab8) (by decide +kernel) _ (255, 3, 3) (by decide +kernel) (by decide +kernel)).1
theorem roe_8 : rowE 8 = true := by decide +kernel
def rowTab9 : List (Nat × Int × Int) := [(1, 0, -1), (3, 1, 0), (7, 2, 0), (15, 2, 1), (31, 3, 0), (63, 3, 1), (127, 3, 2), (255, 3, 3), (511, 4, 0), (2, 0, -1), (6, 1, 1), (14, 2, 1), (30, 2, 2), (62, 3, 1), (126, 3, 2), (254, 3, 3), (510, 3, 4), (4, 0, -1), (12, 1, 2), (28, 2, 2), (60, 2, 3), (124, 3, 2), (252, 3, 3), (508, 3, 4), (8, 0, -1), (24, 1, 3), (56, 2, 3), (120, 2, 4), (248, 3, 3), (504, 3, 4), (16, 0, -1), (48, 1, 4), (112, 2, 4), (240, 2, 5), (496, 3, 4), (32, 0, -1), (96, 1, 5), (224, 2, 5), (480, 2, 6), (64, 0, -1), (192, 1, 6), (448, 2, 6), (128, 0, -1), (384, 1, 7), (256, 0, -1)]
theorem row_9 : bestS (setsOf (rowHnt 9)) (setN 0 (firstL 9)) = (4, 0) := (best_table (ts := setsOf (rowHnt 9)) (tab := rowTab9) (by decide +kernel) _ (511, 4, 0) (by decide +kernel) (by decide +kernel)).1
theorem roe_9 : rowE 9 = true := by decide +kernel
def rowTab10 : List (Nat × Int × Int) := [(1, 0, -1), (3, 1, 0), (7, 2, 0), (15, 2, 1), (31, 3, 0), (63, 3, 1), (127, 3, 2), (255, 3, 3), (511, 4, 0), (1023, 4, 1), (2, 0, -1), (6, 1, 1), (14, 2, 1), (30, 2, 2), (62, 3, 1), (126, 3, 2), (254, 3, 3), (510, 3, 4), (1022, 4, 1), (4, 0, -1), (12, 1, 2), (28, 2, 2), (60, 2, 3), (124, 3, 2), (252, 3, 3), (508, 3, 4), (1020, 3, 5), (8, 0, -1), (24, 1, 3), (56, 2, 3), (120, 2, 4), (248, 3, 3), (504, 3, 4), (1016, 3, 5), (16, 0, -1), (48, 1, 4), (112, 2, 4), (240, 2, 5), (496, 3, 4), (1008, 3, 5), (32, 0, -1), (96, 1, 5), (224, 2, 5), (480, 2, 6), (992, 3, 5), (64, 0, -1), (192, 1, 6), (448, 2, 6), (960, 2, 7), (128, 0, -1), (384, 1, 7), (896, 2, 7), (256, 0, -1), (768, 1, 8), (512, 0, -1)]
theorem row_10 : bestS (setsOf (rowHnt 10)) (setN 0 (firstL 10)) = (4, 1) := (best_table (ts := setsOf (rowHnt 10)) (tab := rowTab10) (by decide +kernel) _ (1023, 4, 1) (by decide +kernel) (by decide +kernel)).1
theorem roe_10 : rowE 10 = true := by decide +kernel
def rowTab11 : List (Nat × Int × Int) := [(1, 0, -1), (3, 1, 0), (7, 2, 0), (15, 2, 1), (31, 3, 0), (63, 3, 1), (127, 3, 2), (255, 3, 3), (511, 4, 0), (1023, 4, 1), (2047, 4, 2), (2, 0, -1), (6, 1, 1), (14, 2, 1), (30, 2, 2), (62, 3, 1), (126, 3, 2), (254, 3, 3), (510, 3, 4), (1022, 4, 1), (2046, 4, 2), (4, 0, -1), (12, 1, 2), (28, 2, 2), (60, 2, 3), (124, 3, 2), (252, 3, 3), (508, 3, 4), (1020, 3, 5), (2044, 4, 2), (8, 0, -1), (24, 1, 3), (56, 2, 3), (120, 2, 4), (248, 3, 3), (504, 3, 4), (1016, 3, 5), (2040, 3, 6), (16, 0, -1), (48, 1, 4), (112, 2, 4), (240, 2, 5), (496, 3, 4), (1008, 3, 5), (2032, 3, 6), (32, 0, -1), (96, 1, 5), (224, 2, 5), (480, 2, 6), (992, 3, 5), (2016, 3, 6), (64, 0, -1), (192, 1, 6), (448, 2, 6), (960, 2, 7), (1984, 3, 6), (128, 0, -1), (384, 1, 7), (896, 2, 7), (1920, 2, 8), (256, 0, -1), (768, 1, 8), (1792, 2, 8), (512, 0, -1), (1536, 1, 9), (1024, 0, -1)]
theorem row_11 : bestS (setsOf (rowHnt 11)) (setN 0 (firstL 11)) = (4, 2) := (best_table (ts := setsOf (rowHnt 11)) (tab := rowTab11) (by decide +kernel) _ (2047, 4, 2) (by decide +kernel) (by decide +kernel)).1
theorem roe_11 : rowE 11 = true := by decide +kernel
def rowTab12 : List (Nat × Int × Int) := [(1, 0, -1), (3, 1, 0), (7, 2, 0), (15, 2, 1), (31, 3, 0), (63, 3, 1), (127, 3, 2), (255, 3, 3), (511, 4, 0), (1023, 4, 1), (2047, 4, 2), (4095, 4, 3), (2, 0, -1), (6, 1, 1), (14, 2, 1), (30, 2, 2), (62, 3, 1), (126, 3, 2), (254, 3, 3), (510, 3, 4), (1022, 4, 1), (2046, 4, 2), (4094, 4, 3), (4, 0, -1), (12, 1, 2), (28, 2, 2), (60, 2, 3), (124, 3, 2), (252, 3, 3), (508, 3, 4), (1020, 3, 5), (2044, 4, 2), (4092, 4, 3), (8, 0, -1), (24, 1, 3), (56, 2, 3), (120, 2, 4), (248, 3, 3), (504, 3, 4), (1016, 3, 5), (2040, 3, 6), (4088, 4, 3), (16, 0, -1), (48, 1, 4), (112, 2, 4), (240, 2, 5), (496, 3, 4), (1008, 3, 5), (2032, 3, 6), (4080, 3, 7), (32, 0, -1), (96, 1, 5), (224, 2, 5), (480, 2, 6), (992, 3, 5), (2016, 3, 6), (4064, 3, 7), (64, 0, -1), (192, 1, 6), (448, 2, 6), (960, 2, 7), (1984, 3, 6), (4032, 3, 7), (128, 0, -1), (384, 1, 7), (896, 2, 7), (1920, 2, 8), (3968, 3, 7), (256, 0, -1), (768, 1, 8), (1792, 2, 8), (3840, 2, 9), (512, 0, -1), (1536, 1, 9), (3584, 2, 9), (1024, 0, -1), (3072, 1, 10), (2048, 0, -1)]
theorem row_12 : bestS (setsOf (rowHnt 12)) (setN 0 (firstL 12)) = (4, 3) := (best_table (ts := setsOf (rowHnt 12)) (tab := rowTab12) (by decide +kernel) _ (4095, 4, 3) (by decide +kernel) (by decide +kernel)).1
theorem roe_12 : rowE 12 = true := by decide +kernel
theorem row_worst_of (m : Nat) (c t : Int) (h : rowE m = true) (hb : bestS (setsOf (rowHnt m)) (setN 0 (firstL m)) = (c, t)) (hc : 0 ≤ c) (he : c = clog m) : ∃ t, worstT (rowHnt m) (firstL m) = ((clog m : Int), t, 0) := by
  simp only [rowE, Bool.and_eq_true, decide_eq_true_eq] at h
  obtain ⟨⟨h1, h2⟩, h3⟩ := h
  refine ⟨t, ?_⟩
  unfold worstT
  have h3 : suspE (rowHnt m).suspects (-1) (firstL m) = 0 := h3
  rw [if_pos h1, if_neg h2, if_pos h3, hb, if_neg (by simp only; omega), he]
theorem row_worst (m : Nat) (h1 : 1 ≤ m) (h2 : m ≤ 12) : ∃ t, worstT (rowHnt m) (firstL m) = ((clog m : Int), t, 0) := by
  have : m = 1 ∨ m = 2 ∨ m = 3 ∨ m = 4 ∨ m = 5 ∨ m = 6 ∨ m = 7 ∨ m = 8 ∨ m = 9 ∨ m = 10 ∨ m = 11 ∨ m = 12 := by omega
  rcases this with rfl | rfl | rfl | rfl | rfl | rfl | rfl | rfl | rfl | rfl | rfl | rfl
  · exact row_worst_of 1 _ _ roe_1 row_1 (by decide) (by decide)
  · exact row_worst_of 2 _ _ roe_2 row_2 (by decide) (by decide)
  · exact row_worst_of 3 _ _ roe_3 row_3 (by decide) (by decide)
  · exact row_worst_of 4 _ _ roe_4 row_4 (by decide) (by decide)
  · exact row_worst_of 5 _ _ roe_5 row_5 (by decide) (by decide)
  · exact row_worst_of 6 _ _ roe_6 row_6 (by decide) (by decide)
  · exact row_worst_of 7 _ _ roe_7 row_7 (by decide) (by decide)
  · exact row_worst_of 8 _ _ roe_8 row_8 (by decide) (by decide)
  · exact row_worst_of 9 _ _ roe_9 row_9 (by decide) (by decide)
  · exact row_worst_of 10 _ _ roe_10 row_10 (by decide) (by decide)
  · exact row_worst_of 11 _ _ roe_11 row_11 (by decide) (by decide)
  · exact row_worst_of 12 _ _ roe_12 row_12 (by decide) (by decide)
end Go.Proofs.Ytgnpnfkncbnjnaa
namespace Go.Proofs.Ytgnpnfkncbnjnaa
open Go Go.Am
attribute [local congr] tr_congr does_congr all_congr
/-! ### Rows of suspects -/
theorem desc75 : cfg.desc 75 = some (.slice 84) := by kernel_rfl
theorem rows_walk (n : Int) (K : Nat) (hK : 6000 < K) : (acall cfg (K + 320) 6 [iV n] s0).Does fun x => x.1 = .bool true := by
  rw [call0 mget6 fget6]
  refine body_does rfl fun T hT' hA => ?_
  have a0 := hA 0 _ rfl
  have hT : T.length = 51 := hT'
  clear hA hT'
  have hm := fun s => mod_call n 12 (K + 318) s (by omega)
  have hr := mod_range n 12 (by omega)
  obtain ⟨m, hmm, h1, h2⟩ : ∃ m : Nat, 1 + modN n 12 = (m : Int) ∧ 1 ≤ m ∧ m ≤ 12 := ⟨(1 + modN n 12).toNat, by omega, by omega, by omega⟩
  have hw : wrapF .i64 (1 + modN n 12) = (m : Int) := by rw [wrap_i64 (by omega) (by omega), hmm]
  simp -implicitDefEqProofs only [redoH, redo1, go_sem, Int.reduceEq, Int.reduceNeg, Nat.reduceEqDiff, Nat.reduceLT, Nat.reduceAdd, Nat.reduceSub, Nat.reduceMul, Int.reduceLE, Int.reduceLT, Int.reduceToNat, Int.toNat_natCast, Nat.reduceLeDiff, Bool.not_true, Bool.not_false, a0, hT, hm, hw]
  simp only [does_bind]
  clear hm hw
  refine xl_does (fun k T s' => T.length = 51 ∧ nth T 0 = some (.int .i64 m) ∧ nth T 3 = some (.ptr [0] 0) ∧ ∃ (j n c : Nat), nth T 4 = some (.int .i64 ((j + 1 : Nat) : Int)) ∧ j + 1 ≤ m ∧ k = m - (j + 1) ∧ c < n + 1 ∧
    s' = ⟨ownH [c, 6, 0] 2 ((rowT j).map triV) [([0], .cells [.int .i64 m, ownV [c, 6, 0] ((rowT j).map triV)] true 0)], n + 1, [], false, []⟩) (k := m - 1) (by omega) ?_ ?_
  · exact ⟨by simp -implicitDefEqProofs only [redoH, redo1, go_sem, Int.reduceEq, Int.reduceNeg, Nat.reduceEqDiff, Nat.reduceLT, Nat.reduceAdd, Nat.reduceSub, Nat.reduceMul, Int.reduceLE, Int.reduceLT, Int.reduceToNat, Int.toNat_natCast, Nat.reduceLeDiff, Bool.not_true, Bool.not_false, hT], by simp -implicitDefEqProofs only [redoH, redo1, go_sem, Int.reduceEq, Int.reduceNeg, Nat.reduceEqDiff, Nat.reduceLT, Nat.reduceAdd, Nat.reduceSub, Nat.reduceMul, Int.reduceLE, Int.reduceLT, Int.reduceToNat, Int.toNat_natCast, Nat.reduceLeDiff, Bool.not_true, Bool.not_false, hT], by simp -implicitDefEqProofs only [redoH, redo1, go_sem, Int.reduceEq, Int.reduceNeg, Nat.reduceEqDiff, Nat.reduceLT, Nat.reduceAdd, Nat.reduceSub, Nat.reduceMul, Int.reduceLE, Int.reduceLT, Int.reduceToNat, Int.toNat_natCast, Nat.reduceLeDiff, Bool.not_true, Bool.not_false, hT], 0, 0, 0, by simp -implicitDefEqProofs only [redoH, redo1, go_sem, Int.reduceEq, Int.reduceNeg, Nat.reduceEqDiff, Nat.reduceLT, Nat.reduceAdd, Nat.reduceSub, Nat.reduceMul, Int.reduceLE, Int.reduceLT, Int.reduceToNat, Int.toNat_natCast, Nat.reduceLeDiff, Bool.not_true, Bool.not_false, hT]; rfl, h1, rfl, by omega, rfl⟩
  clear a0 hT
  rintro k T s' ⟨hT, a0, a3, j, n, c, a4, hj, rfl, hc, rfl⟩
  simp -implicitDefEqProofs only [redoH, redo1, go_sem, Int.reduceEq, Int.reduceNeg, Nat.reduceEqDiff, Nat.reduceLT, Nat.reduceAdd, Nat.reduceSub, Nat.reduceMul, Int.reduceLE, Int.reduceLT, Int.reduceToNat, Int.toNat_natCast, Nat.reduceLeDiff, Bool.not_true, Bool.not_false, a0, a3, a4, hT]
  simp only [does_bind]
  refine does_if (fun hlo => ?_) (fun hlo => ?_)
  · have hw1 : wrapF .i64 (((j + 1 : Nat) : Int) + 1) = ((j + 1 + 1 : Nat) : Int) := by rw [wrap_i64 (by omega) (by omega)]; simp
    have hf := fun s => first_call (j + 1) (K + 318) s (by omega) (by omega)
    have hjm : j + 1 + 1 ≤ m := by omega
    have hk1 : m - (j + 1 + 1) < m - (j + 1) := by omega
    have hnc : (n + 1 = c) = False := by simp; omega
    by_cases hrw : (rowT j).map triV = []
    · have hj0 : j = 0 := by
        have := congrArg List.length hrw
        simpa [rowT_len] using this
      subst hj0
      have hap := fun (p : Nm) (H : Heap) => append_abs (C := cfg.at 6) (sT := 75) (b := [c, 6, 0]) (l := []) (x := triV ⟨firstL 1, 1⟩) (H := H) (n := 0) (p := p) (jr := true) (j := []) (z := 2) desc75 tget84 rfl rfl rfl rfl rfl rfl (by decide) (fun hx => absurd rfl hx)
      simp only [ownV, dropTok, tokJ, triV, List.nil_append, List.length_nil] at hap
      rw [hrw]
      simp -implicitDefEqProofs only [redoH, redo1, go_sem, Int.reduceEq, Int.reduceNeg, Nat.reduceEqDiff, Nat.reduceLT, Nat.reduceAdd, Nat.reduceSub, Nat.reduceMul, Int.reduceLE, Int.reduceLT, Int.reduceToNat, Int.toNat_natCast, Nat.reduceLeDiff, Bool.not_true, Bool.not_false, a0, a3, a4, hT]
      simp only [does_bind]
      refine draw_mach [6, 8] [6, 8] (by kernel_rfl) ?_
      simp -implicitDefEqProofs only [redoH, redo1, go_sem, Int.reduceEq, Int.reduceNeg, Nat.reduceEqDiff, Nat.reduceLT, Nat.reduceAdd, Nat.reduceSub, Nat.reduceMul, Int.reduceLE, Int.reduceLT, Int.reduceToNat, Int.toNat_natCast, Nat.reduceLeDiff, Bool.not_true, Bool.not_false, a0, a3, a4, hT, hf, hap, desc75, hw1]
      exact ⟨m - 2, by omega, trivial, trivial, trivial, 1, n + 1, n + 1, rfl, hjm, rfl, by omega, rfl⟩
    · have hln : ((rowT j).map triV).length = j := by simp [rowT_len]
      have hsc : (rowT (j + 1)).map triV = (rowT j).map triV ++ [.agg [.lst ((firstL (j + 1)).map iV), .int .i64 1]] := by rw [rowT_succ, List.map_append]; rfl
      generalize (rowT j).map triV = row at *
      have o1 : ∀ b, ownV b row = .own b row := fun b => by cases row with | nil => exact absurd rfl hrw | cons a r => rfl
      have o2 : ∀ b y, ownV b (row ++ [y]) = .own b (row ++ [y]) := fun b y => by cases row <;> rfl
      have o3 : ∀ b j, tokJ row b j = (b, none) :: j := fun b j => by cases row with | nil => exact absurd rfl hrw | cons a r => rfl
      have o4 : ∀ b H, ownH b 2 row H = (b, .tok row.length 2) :: H := fun b H => by cases row with | nil => exact absurd rfl hrw | cons a r => rfl
      have o5 : ∀ b H, dropTok row b H = hdel H b := fun b H => by cases row with | nil => exact absurd rfl hrw | cons a r => rfl
      have o6 : ∀ b y H, ownH b 2 (row ++ [y]) H = (b, .tok (row.length + 1) 2) :: H := fun b y H => by cases row <;> simp [ownH]
      have hap := fun (p : Nm) => append_abs (C := cfg.at 6) (sT := 75) (b := [c, 6, 0]) (l := row) (x := triV ⟨firstL (j + 1), 1⟩) (H := [([c, 6, 0], .tok j 2), ([0], .cells [.int .i64 m, .own [c, 6, 0] row] true 0)]) (n := 0) (p := p) (jr := true) (j := []) (z := 2) desc75 tget84 rfl rfl rfl rfl rfl rfl (by rw [hln]; show (j + 1) * 32 ≤ _; omega) (fun _ => by rw [hln]; exact hget_cons_same ..)
      simp only [o1, o2, o3, o5, triV, hln] at hap
      rw [o4, o1, hln]
      simp -implicitDefEqProofs only [redoH, redo1, go_sem, Int.reduceEq, Int.reduceNeg, Nat.reduceEqDiff, Nat.reduceLT, Nat.reduceAdd, Nat.reduceSub, Nat.reduceMul, Int.reduceLE, Int.reduceLT, Int.reduceToNat, Int.toNat_natCast, Nat.reduceLeDiff, Bool.not_true, Bool.not_false, a0, a3, a4, hT]
      simp only [does_bind]
      refine draw_mach [6, 8] [6, 8] (by kernel_rfl) ?_
      simp -implicitDefEqProofs only [redoH, redo1, go_sem, Int.reduceEq, Int.reduceNeg, Nat.reduceEqDiff, Nat.reduceLT, Nat.reduceAdd, Nat.reduceSub, Nat.reduceMul, Int.reduceLE, Int.reduceLT, Int.reduceToNat, Int.toNat_natCast, Nat.reduceLeDiff, Bool.not_true, Bool.not_false, a0, a3, a4, hT, hf, hap, desc75, hw1, hnc]
      refine ⟨m - (j + 2), by omega, trivial, trivial, trivial, j + 1, n + 1, n + 1, rfl, hjm, rfl, by omega, ?_⟩
      rw [hsc, o2, o6, hln]
  · have hjm : j + 1 = m := by omega
    subst hjm
    have e0 : ∃ H0, ownH [c, 6, 0] 2 ((rowT j).map triV) [([0], .cells [.int .i64 ((j + 1 : Nat) : Int), ownV [c, 6, 0] ((rowT j).map triV)] true 0)] = H0 ∧ hget H0 [0] = some (.cells [.int .i64 ((j + 1 : Nat) : Int), ownV [c, 6, 0] ((rowT j).map triV)] true 0) := by
      refine ⟨_, rfl, ?_⟩
      cases (rowT j).map triV with
      | nil => rfl
      | cons a r => exact (hget_cons_ne _ _ (by simp)).trans (hget_cons_same ..)
    obtain ⟨H0, e1, e2⟩ := e0
    rw [e1]
    simp -implicitDefEqProofs only [redoH, redo1, go_sem, Int.reduceEq, Int.reduceNeg, Nat.reduceEqDiff, Nat.reduceLT, Nat.reduceAdd, Nat.reduceSub, Nat.reduceMul, Int.reduceLE, Int.reduceLT, Int.reduceToNat, Int.toNat_natCast, Nat.reduceLeDiff, Bool.not_true, Bool.not_false, a0, a3, a4, hT]
    simp only [does_bind]
    have hkm : clog (j + 1) ≤ 4 := by unfold clog; split; omega; split; omega; split; omega; split <;> omega
    refine xl_does (fun k T s' => T.length = 51 ∧ nth T 0 = some (.int .i64 ((j + 1 : Nat) : Int)) ∧ nth T 3 = some (.ptr [0] 0) ∧ s' = ⟨H0, n + 1, [], false, []⟩ ∧ ∃ i : Nat, nth T 5 = some (.int .i64 i) ∧ i ≤ clog (j + 1) ∧ k = clog (j + 1) - i) (k := clog (j + 1)) (by omega) ?_ ?_
    · exact ⟨by simp -implicitDefEqProofs only [redoH, redo1, go_sem, Int.reduceEq, Int.reduceNeg, Nat.reduceEqDiff, Nat.reduceLT, Nat.reduceAdd, Nat.reduceSub, Nat.reduceMul, Int.reduceLE, Int.reduceLT, Int.reduceToNat, Int.toNat_natCast, Nat.reduceLeDiff, Bool.not_true, Bool.not_false, hT], by simp -implicitDefEqProofs only [redoH, redo1, go_sem, Int.reduceEq, Int.reduceNeg, Nat.reduceEqDiff, Nat.reduceLT, Nat.reduceAdd, Nat.reduceSub, Nat.reduceMul, Int.reduceLE, Int.reduceLT, Int.reduceToNat, Int.toNat_natCast, Nat.reduceLeDiff, Bool.not_true, Bool.not_false, a0], by simp -implicitDefEqProofs only [redoH, redo1, go_sem, Int.reduceEq, Int.reduceNeg, Nat.reduceEqDiff, Nat.reduceLT, Nat.reduceAdd, Nat.reduceSub, Nat.reduceMul, Int.reduceLE, Int.reduceLT, Int.reduceToNat, Int.toNat_natCast, Nat.reduceLeDiff, Bool.not_true, Bool.not_false, a3], rfl, 0, by simp -implicitDefEqProofs only [redoH, redo1, go_sem, Int.reduceEq, Int.reduceNeg, Nat.reduceEqDiff, Nat.reduceLT, Nat.reduceAdd, Nat.reduceSub, Nat.reduceMul, Int.reduceLE, Int.reduceLT, Int.reduceToNat, Int.toNat_natCast, Nat.reduceLeDiff, Bool.not_true, Bool.not_false, hT]; rfl, by omega, rfl⟩
    clear a0 a3 a4 hT
    rintro k T s' ⟨hT, a0, a3, rfl, i, a5, hi, rfl⟩
    have hi0 : (0 : Int) ≤ i := by omega
    have hkk : i < clog (j + 1) → clog (j + 1) - (i + 1) < clog (j + 1) - i := fun h => by omega
    have hie : ¬ i < clog (j + 1) → i = clog (j + 1) := fun h => by omega
    have hw1 : wrapF .i64 ((i : Int) + 1) = ((i + 1 : Nat) : Int) := by rw [wrap_i64 (by omega) (by omega)]; simp
    have hlt : (((2 ^ i : Nat) : Int) < ((j + 1 : Nat) : Int)) ↔ i < clog (j + 1) := by
      have hi4 : i ≤ 4 := by omega
      rcases i with _ | _ | _ | _ | _ | i
      all_goals (unfold clog; try simp only [Nat.reducePow]; try omega)
      all_goals (split; omega; split; omega; split; omega; split <;> omega)
    have hb := bitI i (by omega) (by omega)
    rw [Int.toNat_natCast] at hb
    simp -implicitDefEqProofs only [redoH, redo1, go_sem, Int.reduceEq, Int.reduceNeg, Nat.reduceEqDiff, Nat.reduceLT, Nat.reduceAdd, Nat.reduceSub, Nat.reduceMul, Int.reduceLE, Int.reduceLT, Int.reduceToNat, Int.toNat_natCast, Nat.reduceLeDiff, Bool.not_true, Bool.not_false, a0, a3, a5, hT, hb, hi0]
    clear hb
    by_cases hlo2 : ((2 ^ i : Nat) : Int) < ((j + 1 : Nat) : Int)
    · have hi2 := hlt.1 hlo2
      simp -implicitDefEqProofs only [redoH, redo1, go_sem, Int.reduceEq, Int.reduceNeg, Nat.reduceEqDiff, Nat.reduceLT, Nat.reduceAdd, Nat.reduceSub, Nat.reduceMul, Int.reduceLE, Int.reduceLT, Int.reduceToNat, Int.toNat_natCast, Nat.reduceLeDiff, Bool.not_true, Bool.not_false, a0, a3, a5, hT, hlo2, hw1]
      exact ⟨clog (j + 1) - (i + 1), hkk hi2, trivial, trivial, trivial, trivial, i + 1, rfl, hi2, rfl⟩
    · have hic : i = clog (j + 1) := hie fun h => hlo2 (hlt.2 h)
      subst hic
      clear hw1
      obtain ⟨t, hwt⟩ := row_worst (j + 1) h1 h2
      have hwc := fun s => worst_call (rowHnt (j + 1)) (firstL (j + 1)) (K + 309) s (by omega) ⟨by show (rowT _).length ≤ _; rw [rowT_len]; omega, fun t ht => by
        obtain ⟨i, hi, rfl⟩ := List.mem_map.1 ht
        have := List.mem_range.1 hi
        exact ⟨by show (firstL (i + 1)).length < _; rw [firstL_length]; omega, by show (firstL (i + 1)).length ≤ _; rw [firstL_length]; omega⟩⟩ (by rw [firstL_length]; omega) (by rw [firstL_length]; omega)
      rw [hwt] at hwc
      simp only [hntV, t3V, rowHnt, Nat.add_sub_cancel] at hwc
      have haw := fun s => awake_all (K + 19) s
      have hf := fun s => first_call (j + 1) (K + 318) s (by omega) (by omega)
      simp -implicitDefEqProofs only [redoH, redo1, go_sem, Int.reduceEq, Int.reduceNeg, Nat.reduceEqDiff, Nat.reduceLT, Nat.reduceAdd, Nat.reduceSub, Nat.reduceMul, Int.reduceLE, Int.reduceLT, Int.reduceToNat, Int.toNat_natCast, Nat.reduceLeDiff, Bool.not_true, Bool.not_false, a0, a3, a5, hT, hlo2]
      simp only [does_bind]
      refine draw_mach [] [] (by kernel_rfl) ?_
      simp -implicitDefEqProofs only [redoH, redo1, go_sem, Int.reduceEq, Int.reduceNeg, Nat.reduceEqDiff, Nat.reduceLT, Nat.reduceAdd, Nat.reduceSub, Nat.reduceMul, Int.reduceLE, Int.reduceLT, Int.reduceToNat, Int.toNat_natCast, Nat.reduceLeDiff, Bool.not_true, Bool.not_false, a0, a3, a5, hT, e2, hf, hwc, haw, Try.results6]
theorem rows_yes (L : List (List AV)) (hl : L.length = [3].length) (hc : ∀ (i : Nat) t acs, [3][i]? = some t → L[i]? = some acs → Content Try.prog 12 t acs) :
    ∃ K, Yes (acall cfg K 6 (([3].zip L).map fun x => argOf Try.prog x.1 x.2) s0) := by
  match L, hl with
  | [cs], _ =>
    obtain ⟨n, rfl, _⟩ := arg_int 11 cs (hc 0 3 cs rfl rfl)
    refine ⟨6001 + 320, ⟨?_⟩⟩
    have h := (rows_walk n 6001 (by omega)).all
    exact h
end Go.Proofs.Ytgnpnfkncbnjnaa
namespace Go.Proofs.Ytgnpnfkncbnjnaa
open Go Go.Am Go.ChangeShapes Go.WideShapes Go.ChangeAt Go.RowKit
set_option maxRecDepth 100000 in
theorem rows_lifted (os : Os) (started : os.Started) (H : Type) (enc : TypeId × Value → H) :
    ReturnsInHanded {} Try.checked os 6 .any (Rows.pumpRowsSpec.pre6 enc Try.prog Try.f6 Rows.pumpRowsRow.domain false) (Rows.pumpRowsSpec.post enc Try.prog Try.f6 false true false false) := by
  refine returnsInHanded_of_change (C := Try.checked) Try.own started (by kernel_rfl) Try.func6
    (ChangeSpec.witness6 (enc := enc) (C := Try.checked) false ⟨#[], #[.int .i64 0], []⟩ 8 (by kernel_rfl) (by kernel_rfl) (by kernel_rfl) (by kernel_rfl)) ?_
  intro W base args ds gs before hval0 hW hcnd _
  have hW' := hW
  obtain ⟨p, q, hA0, hV, rfl, hfz, hnd⟩ := hW
  have hA : DataW.TrodAll enc Try.prog W 0 (fun _ => true) true Try.f6.params.toList args.toList ds p := hA0
  rw [Try.params6] at hA
  obtain ⟨rfl, rfl⟩ := trodVars_none hV
  simp only [List.append_nil] at hW'
  have hlen : ds.length = 1 := trod_len _ _ _ _ hA
  have hsup : (([3] : List TypeId).all fun t => suppB Try.prog 12 t) = true := by as_aux_lemma => kernel_rfl
  have hpar : (([3] : List TypeId).all fun t => Try.prog.readableRec t && Nat.blt t Try.prog.types.size) = true := by as_aux_lemma => kernel_rfl
  refine (calls_of_args (d := 12) cfgOk codesOk hA (fun t ht => List.all_eq_true.1 hsup t ht) (fun j t v e1 e2 => hval0 j t v (by rw [Try.params6]; simpa using e1) (by simpa using e2)) fun L hl hc => rows_yes L hl hc).mono fun e W' ⟨he, hb⟩ => ?_
  subst he
  exact ⟨_, rfl, law_post Try.laidOut (fun t ht => by rw [Try.params6] at ht; have := List.all_eq_true.1 hpar t ht; rw [Bool.and_eq_true, Nat.blt_eq] at this; exact this) rfl rfl Try.underlying4 hW' (by match ds, hlen with | [_], _ => rfl) hb⟩
set_option maxHeartbeats 4000000 in
theorem rows_closed : joinedFacts Try.prog 6 Try.f6 Rows.pumpRowsSpec Rows.pumpRowsRow = true := by
  refine joined_of Try.laidOut Try.rowed Try.noStops Try.noKnobs Try.plain Try.heard Try.enters Try.lifts Try.makes (by as_aux_lemma => kernel_rfl) (by as_aux_lemma => kernel_rfl) (by as_aux_lemma => kernel_rfl) (by as_aux_lemma => kernel_rfl) (by as_aux_lemma => kernel_rfl)
    (by as_aux_lemma => kernel_rfl) (by as_aux_lemma => kernel_rfl) (by as_aux_lemma => kernel_rfl) (by as_aux_lemma => kernel_rfl) ?_
  kernel_rfl
theorem rows_holds : Rows.PumpRowsSaid :=
  OpenClaim.holds_of_wide 6 Try.f6 rfl rfl rfl rfl rfl rfl rfl ⟨rfl, rfl, rfl, rfl, rfl⟩ rfl rfl rfl rfl rfl (by as_aux_lemma => kernel_rfl) Try.func6 rows_closed
    (of_decide_eq_true (by as_aux_lemma => kernel_rfl)) (by as_aux_lemma => unfold Func.isWrapper; first | (rw [if_pos (by decide +kernel)]; kernel_rfl) | (rw [if_neg (by decide +kernel)]; exact ⟨rfl, rfl⟩))
    (fun os started H enc _ => rows_lifted os started H enc)
end Go.Proofs.Ytgnpnfkncbnjnaa
