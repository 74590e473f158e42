/- The statement PumpSeals holds for every input, without further conditions. -/
import Derived.Test.YtgnpnfkncbnjnaaP4
import Derived.Test.YtgnpnfkncbnjnaaChecked
import Derived.Test.YtgnpnfkncbnjnaaRows
import Derived.ProofKit
import Derived.KernelRfl
set_option linter.unusedSimpArgs false
set_option linter.unusedVariables false
set_option maxHeartbeats 4000000
set_option maxRecDepth 100000
namespace Go.Proofs.Ytgnpnfkncbnjnaa
attribute [local go_sem_proc] Int.reduceEq Int.reduceNeg Nat.reduceEqDiff Nat.reduceLT Nat.reduceAdd Nat.reduceSub Nat.reduceMul Int.reduceLE Int.reduceLT Int.reduceToNat Nat.reduceLeDiff
attribute [local go_sem] Int.toNat_natCast Bool.not_true Bool.not_false
open Go Go.Am
attribute [local congr] Za Z6 Z7
theorem Zb1 : cfg.desc 73 = some (.slice 42) := by kernel_rfl
theorem bs73 (f : FuncId) (z : Bk) (s : St) : buildSliceA (cfg.at f) true 73 1 [(0, bkV z)] s = .ret (.lst [bkV z], s) := by
 simp -implicitDefEqProofs only [go_sem, Go.Am.buildSliceA]
theorem Z6u (v : Vac) (hp : v.pipes.length <= 1000000) (w : Int) (u : Nat) (K : Nat) (hK : v.pipes.length + 60 < K) :
  ∃ (l : List Bk) (w' : Int), (∀ s ∈ l, StgG 15 v.pipes.length s) /\ l.length <= 4 /\ ∀ (b : Nm) (H : Heap) (n : Nat) (p : Nm) (jr : Bool) (j : Delta), hget H b = some (.cells [.int .u64 w] true u) -> acall cfg (K + 12) 45 [.ptr b 0, vacV v] ⟨H, n, p, jr, j⟩ = .ret (ownV (p ++ [n]) (l.map bkV), match l with | [] => St.put ⟨H, n, p, jr, j⟩ b (.cells [.int .u64 w'] true u) | _ :: _ => (St.put ⟨H, n, p, jr, j⟩ b (.cells [.int .u64 w'] true u)).new (.tok l.length 4)) := by
 have key : ∃ (l : List Bk) (w' : Int), (∀ s ∈ l, StgG 15 v.pipes.length s) /\ l.length <= 4 /\ (bodyA (cfg.at 45) (acall cfg (K + 11)) (around cfg (K + 11)) (K + 11 + 1) Try.f45 [.ptr [0] 0, vacV v] ⟨[([0], .cells [.int .u64 w] true u)], 1, [], false, []⟩).Does fun x => ∃ c, x.1 = ownV [c + 1] (l.map bkV) /\ hget x.2.H [0] = some (.cells [.int .u64 w'] true u) /\ (l.map bkV ≠ [] -> hget x.2.H [c + 1] = some (.tok l.length 4)) := by
  suffices h : (bodyA (cfg.at 45) (acall cfg (K + 11)) (around cfg (K + 11)) (K + 11 + 1) Try.f45 [.ptr [0] 0, vacV v] ⟨[([0], .cells [.int .u64 w] true u)], 1, [], false, []⟩).Does fun x => ∃ (l : List Bk) (w' : Int), (∀ s ∈ l, StgG 15 v.pipes.length s) /\ l.length <= 4 /\ ∃ c, x.1 = ownV [c + 1] (l.map bkV) /\ hget x.2.H [0] = some (.cells [.int .u64 w'] true u) /\ (l.map bkV ≠ [] -> hget x.2.H [c + 1] = some (.tok l.length 4)) by
   obtain ⟨x, e, l, w', h1, h2, h3⟩ := h
   exact ⟨l, w', h1, h2, x, e, h3⟩
  refine Z9 rfl fun T hT' hA => ?_
  have a0 := hA 0 _ rfl
  have a1 := hA 1 _ rfl
  have hT : T.length = 20 := hT'
  clear hA hT'
  have ut1 := fun H m jr j hd => Js (H := H) (m := m) (u := u) (p := []) (jr := jr) (j := j) 5 (K + 9) hd (by decide)
  have d0 : isD u [([1], vacC v), ([0], .cells [.int .u64 w] true u)] := ⟨w, rfl⟩
  unfold vacV at a1
  unfold vacC at d0
  simp -implicitDefEqProofs (maxDischargeDepth := 9) only [go_sem, Z6j, Z1s, a0, a1, hT, ut1, d0]
  have r1 := Zy w 5 (by decide)
  generalize uptoN w 5 = tk at *
  obtain ⟨q, rfl⟩ : ∃ q : Nat, tk = q := ⟨tk.toNat, by omega⟩
  generalize nextW w = w1 at *
  clear ut1 d0
  simp only [Z3]
  refine Zj (fun k T s' => T.length = 20 /\ nth T 0 = some (.ptr [0] 0) /\ nth T 3 = some (.ptr [1] 0) /\ ∃ (i m c : Nat) (H : Heap) (row : List Bk) (w : Int), nth T 6 = some (.int .i64 i) /\ nth T 5 = some (ownV [c + 1] (row.map bkV)) /\ i + row.length <= 4 /\ k = i /\ s' = ⟨H, m + 2, [], false, []⟩ /\ hget H [0] = some (.cells [.int .u64 w] true u) /\ hget H [1] = some (vacC v) /\ (row.map bkV ≠ [] -> 1 <= c /\ c < m + 1 /\ hget H [c + 1] = some (.tok row.length 4)) /\ ∀ s ∈ row, StgG 15 v.pipes.length s) (k := q) (by omega) ?_ ?_
  ·exact ⟨by simp -implicitDefEqProofs only [go_sem, hT], by simp -implicitDefEqProofs only [go_sem, a0], by simp -implicitDefEqProofs only [go_sem, hT], q, 0, 0, _, [], w1, by simp -implicitDefEqProofs only [go_sem, hT], by simp -implicitDefEqProofs only [go_sem, hT] <;> rfl, by show q + 0 <= 4; omega, rfl, rfl, rfl, rfl, fun e => absurd rfl e, fun s hs => nomatch hs⟩
  clear a0 a1 hT T
  rintro k T s' ⟨hT, a0, a3, i, m, c, H, row, w, a6, a5, hi, rfl, rfl, g0, g1, gt, hrow⟩
  by_cases hil : (0 : Int) < (k : Int)
  ·obtain ⟨z, w2, hz, hso⟩ := Z2t v hp 15 (by decide) w u (K + 1) (by omega)
   have hs0 := fun H n p jr j h => hso [0] ⟨H, n, p, jr, j⟩ h
   have q1 : ∀ Y, hget (hset H [0] Y) [1] = hget H [1] := fun Y => hs11 (by decide)
   have q0 : ∀ Y, hget (hset H [0] Y) [0] = some Y := fun Y => hss g0
   have qc : ∀ Y, hget (hset H [0] Y) [c + 1] = hget H [c + 1] := fun Y => hs11 (by omega)
   have g1' := g1
   unfold vacC at g1
   have bs := fun s => bs73 45 z s
   have hroom : (row.length + 1) * ty42.bytes <= 140737488355328 := by show (row.length + 1) * 48 <= _; omega
   have hap := Yi (C := cfg.at 45) (sT := 73) (b := [c + 1]) (l := row.map bkV) (x := bkV z) (H := hset H [0] (.cells [.int .u64 w2] true u)) (n := m + 2) (p := []) (jr := false) (j := []) (z := 4) Zb1 Z7k rfl rfl rfl rfl rfl rfl (by rw [List.length_map]; exact hroom) (fun hx => by rw [List.length_map, qc]; exact (gt hx).2.2)
   have hown : ∀ b, ownV b (row.map bkV ++ [bkV z]) = .own b (row.map bkV ++ [bkV z]) := fun b => by cases row.map bkV <;> rfl
   simp only [List.nil_append, List.length_map] at hap
   rw [hown] at hap
   have hw1 : wrapF .i64 ((k : Int) - 1) = ((k - 1 : Nat) : Int) := by rw [Z5 (by omega) (by omega)]; omega
   have x0 : hget (dropTok (row.map bkV) [c + 1] (hset H [0] (.cells [.int .u64 w2] true u))) [0] = some (.cells [.int .u64 w2] true u) := by rw [Y3 _ _ (n11 (by omega))]; exact q0 _
   have x1 : hget (dropTok (row.map bkV) [c + 1] (hset H [0] (.cells [.int .u64 w2] true u))) [1] = some (vacC v) := by
    by_cases e : row.map bkV = []
    ·rw [e]; exact (q1 _).trans g1'
    ·rw [Y3 _ _ (n11 (by have := (gt e).1; omega))]; exact (q1 _).trans g1'
   generalize dropTok (row.map bkV) [c + 1] (hset H [0] (.cells [.int .u64 w2] true u)) = H2 at *
   have hrm : (row ++ [z]).map bkV = row.map bkV ++ [bkV z] := by simp
   have hk1 : k - 1 < k := by omega
   have hl1 : k - 1 + (row ++ [z]).length <= 4 := by rw [List.length_append]; show k - 1 + (row.length + 1) <= 4; omega
   simp only [bkV, vacV] at hs0 bs hap
   simp -implicitDefEqProofs only [go_sem, a0, a3, a5, a6, hT, hil, g1, g0, hs0, bs, hap, hw1]
   refine ⟨k - 1, hk1, trivial, trivial, trivial, k - 1, m + 1, m + 1, _, row ++ [z], w2, rfl, ?_, hl1, rfl, rfl, (hc11 (by omega)).trans x0, (hc11 (by omega)).trans x1, fun _ => ⟨by omega, by omega, ?_⟩, fun s hs => ?_⟩
   ·rw [hrm, hown]; rfl
   ·rw [List.length_append]; exact Z2 ..
   ·rcases List.mem_append.1 hs with hs | hs
    ·exact hrow s hs
    ·rw [List.mem_singleton] at hs; rw [hs]; exact hz
  ·simp -implicitDefEqProofs only [go_sem, a5, a6, hT, hil, Try.results45]
   exact ⟨row, w, hrow, by omega, c, rfl, g0, fun e => (gt e).2.2⟩
 obtain ⟨l, w', hl, hn, hd⟩ := key
 refine ⟨l, w', hl, hn, fun b H n p jr j hb => ?_⟩
 obtain ⟨⟨v1, s1⟩, e, c, hx1, hx2, hx3⟩ := hd
 simp only at hx1 hx2 hx3
 subst hx1
 have hlend : lendM 200 (namesVs false [.ptr b 0, vacV v] []) [] [] ⟨H, n, p, jr, j⟩ = .ret (([b], [.cells [.int .u64 w] true u]), ⟨H, n, p, jr, j⟩) := by
  show lendM (199 + 1) [b] [] [] _ = _
  rw [Ye 199 rfl hb]
  exact Zs 198 _ _ _
 have hra : renVs (zipN [b] (namesFrom [] 0 [b].length)) [.ptr b 0, vacV v] = some [.ptr [0] 0, vacV v] := by
  show renVs [(b, [0])] _ = _
  simp only [vacV, renVs, renV, lookN, Zf, X5, X6, X7, X8, X9]
 have hput : putAll [b] [.cells [.int .u64 w'] true u] ⟨H, n, p, jr, j⟩ = .ret ((), St.put ⟨H, n, p, jr, j⟩ b (.cells [.int .u64 w'] true u)) := by
  show ((putM b _).bind fun _ => putAll [] []) _ = _
  rw [Z8, Y7, hb]; rfl
 have hga : getAll s1.H [[0]] = some [.cells [.int .u64 w'] true u] := by simp only [getAll, hx2]
 have hbl : [b].length = 1 := rfl
 cases l with
 | nil =>
  refine Z07 (bs := [b]) (xs := [.cells [.int .u64 w] true u]) (xs0 := [.cells [.int .u64 w] true u]) (args' := [.ptr [0] 0, vacV v]) (ys' := [.cells [.int .u64 w'] true u]) (zs' := []) (s2 := St.put ⟨H, n, p, jr, j⟩ b (.cells [.int .u64 w'] true u)) Zgu Zgt hlend rfl rfl hra rfl ⟨_, e, [.cells [.int .u64 w'] true u], [[0]], [], hga, rfl, rfl, rfl, rfl, rfl⟩ hput rfl
 | cons a r =>
  have h3 := hx3 (by simp)
  refine Z07 (bs := [b]) (xs := [.cells [.int .u64 w] true u]) (xs0 := [.cells [.int .u64 w] true u]) (args' := [.ptr [0] 0, vacV v]) (ys' := [.cells [.int .u64 w'] true u]) (zs' := [.tok (a :: r).length 4]) (s2 := St.put ⟨H, n, p, jr, j⟩ b (.cells [.int .u64 w'] true u)) Zgu Zgt hlend rfl rfl hra rfl ⟨_, e, [.cells [.int .u64 w'] true u], [[0], [c + 1]], [.tok (a :: r).length 4], hga, ?_, ?_, ?_, rfl, rfl⟩ hput rfl
  ·show reachL s1.H (199 + 1) [[c + 1]] [[0]] [] = _
   have hm : memNm [c + 1] [[0]] = false := rfl
   rw [Xv, hm]
   simp only [h3]
   rfl
  ·rfl
  ·show renV [([0], b), ([c + 1], p ++ [n])] (.own [c + 1] (List.map bkV (a :: r))) = _
   have q1 : eqb [c + 1] [0] = false := rfl
   have q2 : flats (List.map bkV (a :: r)) = true := Zw (f := bkV) (fun z => by simp only [bkV, AV.flat, flats, fl_i]) _
   simp only [renV, q2, lookN, q1, Zf]
   rfl
end Go.Proofs.Ytgnpnfkncbnjnaa
namespace Go.Proofs.Ytgnpnfkncbnjnaa
open Go Go.Am
theorem Zee (k : Nat) (s : St) : acall cfg (k + 300) 39 [] s = .ret (.bool true, s) := by kernel_rfl
end Go.Proofs.Ytgnpnfkncbnjnaa
namespace Go.Proofs.Ytgnpnfkncbnjnaa
open Go Go.Am
def I64 (n : Int) : Prop := -9223372036854775808 <= n /\ n <= 9223372036854775807
def Arg {α : Type} (t : TypeId) (d : Nat) (cells : α -> List AV) (ok : α -> Prop) : Prop := ∀ cs, Content Try.prog d t cs -> ∃ a, cs = cells a /\ ok a
theorem Z9q (d : Nat) : Arg 3 (d + 1) (fun n => [iV n]) I64 := by
 intro cs h
 unfold Content at h
 rw [show Try.prog.underlying 3 = some (.int .i64) by kernel_rfl] at h
 obtain ⟨n, rfl, hn⟩ := h
 refine ⟨n, rfl, ?_⟩
 simp only [Lit.wf, Bool.and_eq_true, decide_eq_true_eq] at hn
 exact hn
theorem Zef {α : Type} {e z : Nat} {d : Nat} {cells : α -> List AV} {ok : α -> Prop} {f : α -> AV} (he : Arg e d cells ok) (hf : ∀ a, rowA z (cells a) = f a) : ∀ rows : List (List AV), (∀ r ∈ rows, r.length = z /\ Content Try.prog d e r) ->
  ∃ l : List α, rows.map (rowA z) = l.map f /\ l.length = rows.length /\ ∀ a ∈ l, ok a
 | [], _ => ⟨[], rfl, rfl, fun a h => by cases h⟩
 | r :: rows, h => by
  obtain ⟨a, rfl, ha⟩ := he r (h r List.mem_cons_self).2
  obtain ⟨l, h1, h2, h3⟩ := Zef he hf rows fun r hr => h r (List.mem_cons_of_mem _ hr)
  refine ⟨a :: l, by simp [h1, hf], by simp [h2], fun b hb => ?_⟩
  rcases List.mem_cons.1 hb with rfl | hb
  ·exact ha
  ·exact h3 b hb
theorem Zeg {α : Type} {t e z : Nat} {d : Nat} {cells : α -> List AV} {ok : α -> Prop} {f : α -> AV} (hu : Try.prog.underlying t = some (.slice e)) (hz : Try.prog.cellsOf e = z) (he : Arg e d cells ok) (hf : ∀ a, rowA z (cells a) = f a) :
  Arg t (d + 1) (fun l : List α => [.lst (l.map f)]) (fun l => l.length <= 9223372036854775807 /\ ∀ a ∈ l, ok a) := by
 intro cs h
 unfold Content at h
 rw [hu] at h
 obtain ⟨rows, rfl, hl, hr⟩ := h
 rw [hz] at hr ⊢
 obtain ⟨l, h1, h2, h3⟩ := Zef he hf rows hr
 refine ⟨l, by rw [h1], ?_, h3⟩
 rw [h2]; exact hl
theorem Arg.to {α β : Type} {t d : Nat} {c : α -> List AV} {k : α -> Prop} (h : Arg t d c k) (g : α -> β) {c' : β -> List AV} {k' : β -> Prop} (hc : ∀ a, c a = c' (g a)) (hk : ∀ a, k a -> k' (g a)) : Arg t d c' k' := fun cs hx => by
 obtain ⟨a, rfl, ha⟩ := h cs hx
 exact ⟨g a, hc a, hk a ha⟩
def Len {α : Type} (l : List α) : Prop := l.length <= 9223372036854775807
theorem Zgi (d : Nat) : Arg 22 (d + 2) (fun l : List Int => [.lst (l.map iV)]) (fun l => Len l /\ ∀ a ∈ l, I64 a) := Zeg (z := 1) (by kernel_rfl) (by kernel_rfl) (Z9q d) fun _ => rfl
def Tri.I (t : Tri) : Prop := (Len t.of /\ ∀ a ∈ t.of, I64 a) /\ I64 t.cost
def Hnt.I (h : Hnt) : Prop := I64 h.suspects /\ Len h.trials /\ ∀ t ∈ h.trials, t.I
def Rg.I (r : Rg) : Prop := I64 r.lo /\ I64 r.hi
def Rel.I (x : Rel) : Prop := I64 x.frm /\ x.rate.I
def Ves.I (x : Ves) : Prop := I64 x.vol /\ x.free.I /\ x.bound.I /\ Len x.bands /\ ∀ a ∈ x.bands, a.I
def Pip.I (x : Pip) : Prop := I64 x.a /\ I64 x.b /\ x.out.I /\ x.back.I
def Pmp.I (x : Pmp) : Prop := I64 x.at' /\ x.part.I
def Inl.I (x : Inl) : Prop := I64 x.at' /\ x.gas.I
def Gtr.I (x : Gtr) : Prop := I64 x.at' /\ x.part.I /\ x.room.I
def Vac.I (v : Vac) : Prop := (Len v.vessels /\ ∀ a ∈ v.vessels, a.I) /\ (Len v.pipes /\ ∀ a ∈ v.pipes, a.I) /\ (Len v.pumps /\ ∀ a ∈ v.pumps, a.I) /\ (Len v.leaks /\ ∀ a ∈ v.leaks, a.I) /\ (Len v.getters /\ ∀ a ∈ v.getters, a.I)
def Bk.I (s : Bk) : Prop := I64 s.ticks /\ I64 s.heat /\ (Len s.shut /\ ∀ a ∈ s.shut, I64 a)
def Gs.I (g : Gs) : Prop := (Len g.free /\ ∀ a ∈ g.free, a.I) /\ (Len g.bound /\ ∀ a ∈ g.bound, a.I) /\ (Len g.room /\ ∀ a ∈ g.room, a.I) /\ I64 g.most
end Go.Proofs.Ytgnpnfkncbnjnaa
namespace Go.Proofs.Ytgnpnfkncbnjnaa
open Go Go.Am
attribute [local congr] Za Z6 Z7
attribute [local go_sem] Go.Am.frozen Go.Am.freezeG Go.Am.freezeGs Go.Am.minmax
theorem VacG.lens {v : Vac} (h : VacG v) (K : Nat) (hK : 10 < K) : v.Lens K :=
 ⟨⟨by have := h.n4; omega, by have := h.n4; omega⟩, ⟨by have := h.np; omega, by have := h.np; omega⟩, ⟨by have := h.nm; omega, by have := h.nm; omega⟩, ⟨by have := h.nl; omega, by have := h.nl; omega⟩, ⟨by have := h.ng; omega, by have := h.ng; omega⟩, fun x hx => by have := (h.ves x hx).len; omega⟩
theorem Vac.I.lens {v : Vac} (h : v.I) (K : Nat) (h1 : v.vessels.length < K) (h2 : v.pipes.length < K) (h3 : v.pumps.length < K) (h4 : v.leaks.length < K) (h5 : v.getters.length < K) : v.Lens K :=
 ⟨⟨h1, h.1.1⟩, ⟨h2, h.2.1.1⟩, ⟨h3, h.2.2.1.1⟩, ⟨h4, h.2.2.2.1.1⟩, ⟨h5, h.2.2.2.2.1⟩, fun x hx => (h.1.2 x hx).2.2.2.1⟩
end Go.Proofs.Ytgnpnfkncbnjnaa
namespace Go.Proofs.Ytgnpnfkncbnjnaa
open Go Go.Am
attribute [local congr] Za Z6 Z7
attribute [local go_sem] Go.Am.frozen Go.Am.freezeG Go.Am.freezeGs
end Go.Proofs.Ytgnpnfkncbnjnaa
namespace Go.Proofs.Ytgnpnfkncbnjnaa
open Go Go.Am
attribute [local congr] Za Z6 Z7
attribute [local go_sem] Go.Am.frozen Go.Am.freezeG Go.Am.freezeGs
end Go.Proofs.Ytgnpnfkncbnjnaa
namespace Go.Proofs.Ytgnpnfkncbnjnaa
open Go Go.Am
attribute [local congr] Za Z6 Z7
attribute [local go_sem] Go.Am.frozen Go.Am.freezeG Go.Am.freezeGs
theorem GasG.gb {v : Vac} {g : Gs} (h : GasG v g) : GB v g :=
 ⟨⟨h.fl, h.bl, h.rl⟩, fun r hr => (h.f r hr).mono (by decide), fun r hr => (h.b r hr).mono (by decide), fun r hr => (h.r r hr).mono (by decide), by have := h.m; omega⟩
theorem Z5t {np : Int} : ∀ {l : List Int} {last : Int}, (∀ x ∈ l, 0 <= x /\ x < np) -> (∀ x ∈ l, last < x) -> List.Pairwise (· < ·) l -> shutE np last l = 0
 | [], _, _, _, _ => rfl
 | a :: r, last, h1, h2, h3 => by
  unfold shutE
  have ha := h1 a List.mem_cons_self
  rw [if_pos (Zz.2 (by omega)), if_neg (by have := h2 a List.mem_cons_self; omega)]
  rw [List.pairwise_cons] at h3
  exact Z5t (fun x hx => h1 x (List.mem_cons_of_mem _ hx)) h3.1 h3.2
theorem StgG.ok {k : Int} {v : Vac} {b : Bk} (h : StgG k v.pipes.length b) (hk : k <= 2000) : stageE v b = 0 := by
 unfold stageE
 rw [if_pos ⟨Zz.2 (by have := h.t; omega), Zz.2 (by have := h.h; omega)⟩]
 exact Z5t h.s (fun x hx => by have := (h.s x hx).1; omega) h.o
end Go.Proofs.Ytgnpnfkncbnjnaa
namespace Go.Proofs.Ytgnpnfkncbnjnaa
open Go Go.Am
attribute [local congr] Za Z6 Z7
attribute [local go_sem] Go.Am.frozen Go.Am.freezeG Go.Am.freezeGs
theorem Zeh {v : Vac} {l : List Bk} (hv : VB v) (hl : ∀ s ∈ l, StgG 15 v.pipes.length s) (hn : l.length <= 20) : runsE v l = 0 := by
 refine Zgg.2 ⟨Z1y.2 hv, hn, fun s hs => (hl s hs).ok (by decide), ?_⟩
 have : sumI Bk.ticks l <= 15 * l.length := Xy fun s hs => (hl s hs).t.2
 omega
end Go.Proofs.Ytgnpnfkncbnjnaa
namespace Go.Proofs.Ytgnpnfkncbnjnaa
open Go Go.Am
def gAt (v : Vac) (D : List Bk) (z : Bk) (t : Nat) : Gs := (List.replicate t z).foldl (tickT v) (runG v D)
theorem Zei {v : Vac} {g : Gs} {z : Bk} (t : Int) : tickT v g { z with ticks := t } = tickT v g z := rfl
theorem Zej (v : Vac) (D : List Bk) (z : Bk) (t : Nat) : runG v (D ++ [{ z with ticks := (t : Int) }]) = gAt v D z t := by
 unfold runG gAt
 rw [Z0b, List.foldl_append, Jd]
 show (List.replicate _ _ ++ flatT []).foldl _ _ = _
 rw [show flatT [] = [] from rfl, List.append_nil]
 show (List.replicate ((t : Int).toNat) { z with ticks := (t : Int) }).foldl _ _ = _
 rw [Int.toNat_natCast]
 show _ = (List.replicate t z).foldl (tickT v) (runG v D)
 unfold runG
 generalize (flatT D).foldl (tickT v) (beginG v) = g
 induction t generalizing g with
 | zero => rfl
 | succ n ih =>
  have key : ∀ (n : Nat) (g : Gs) (q : Int), (List.replicate n { z with ticks := q }).foldl (tickT v) g = (List.replicate n z).foldl (tickT v) g := by
   intro n
   induction n with
   | zero => intro g q; rfl
   | succ n ih => intro g q; rw [List.replicate_succ, List.replicate_succ, List.foldl_cons, List.foldl_cons, Zei, ih]
  exact key (n + 1) g _
theorem Zgj (v : Vac) (D : List Bk) (z : Bk) (t : Nat) : gAt v D z (t + 1) = tickT v (gAt v D z t) z := by
 unfold gAt
 rw [List.replicate_succ', List.foldl_append]
 rfl
theorem Zh0 {v : Vac} (hv : VB v) (D : List Bk) (z : Bk) (t : Nat) : GB v (gAt v D z t) := Z6t hv (Z6t hv (Z20 hv))
theorem Zh1 {v : Vac} {x : Nat} {limit : Int} {D : List Bk} {z : Bk} : ∀ (k t : Nat), t + k <= 1000000 ->
  (∃ n : Nat, t <= n /\ n <= t + k /\ prN v x (gAt v D z n) <= limit /\ (∀ m : Nat, t <= m -> m < n -> ¬ prN v x (gAt v D z m) <= limit) /\ chk (holdN v x limit) v t (gAt v D z t) (List.replicate k z) = .inr ((n : Int), gAt v D z n)) ∨
  ((∀ m : Nat, t <= m -> m <= t + k -> ¬ prN v x (gAt v D z m) <= limit) /\ ∃ p, chk (holdN v x limit) v t (gAt v D z t) (List.replicate k z) = .inl p)
 | 0, t, hk => by
  by_cases h : prN v x (gAt v D z t) <= limit
  ·left
   refine ⟨t, Nat.le_refl _, by omega, h, fun m h1 h2 => absurd h2 (by omega), ?_⟩
   unfold chk holdN
   rw [if_pos ⟨by omega, h⟩]
  ·right
   refine ⟨fun m h1 h2 => by rw [show m = t by omega]; exact h, ?_⟩
   unfold chk holdN
   rw [if_neg fun e => h e.2]
   exact ⟨_, rfl⟩
 | k + 1, t, hk => by
  by_cases h : prN v x (gAt v D z t) <= limit
  ·left
   refine ⟨t, Nat.le_refl _, by omega, h, fun m h1 h2 => absurd h2 (by omega), ?_⟩
   unfold chk holdN
   rw [if_pos ⟨by omega, h⟩]
  ·have hs : chk (holdN v x limit) v t (gAt v D z t) (List.replicate (k + 1) z) = chk (holdN v x limit) v ((t + 1 : Nat) : Int) (gAt v D z (t + 1)) (List.replicate k z) := by
    rw [List.replicate_succ, Zaz]
    unfold holdN
    rw [if_neg fun e => h e.2, Z5 (by omega) (by omega), Zgj]
    rfl
   rw [hs]
   rcases Zh1 k (t + 1) (by omega) with ⟨n, n1, n2, n3, n4, n5⟩ | ⟨n1, n2⟩
   ·left
    refine ⟨n, by omega, by omega, n3, fun m m1 m2 => ?_, n5⟩
    by_cases e : m = t
    ·rw [e]; exact h
    ·exact n4 m (by omega) m2
   ·right
    refine ⟨fun m m1 m2 => ?_, n2⟩
    by_cases e : m = t
    ·rw [e]; exact h
    ·exact n1 m (by omega) (by omega)
theorem Zk1 {v : Vac} {x : Nat} {limit : Int} {D : List Bk} {z : Bk} (h : ∀ s ∈ D ++ [z], stageE v s = 0) (hn : (D ++ [z]).length <= 20) :
  (∃ n : Nat, n <= z.ticks.toNat /\ prN v x (gAt v D z n) <= limit /\ (∀ m : Nat, m < n -> ¬ prN v x (gAt v D z m) <= limit) /\ holdV v x limit (D ++ [z]) = ((n : Int), 0)) ∨
  ((∀ m : Nat, m <= z.ticks.toNat -> ¬ prN v x (gAt v D z m) <= limit) /\ holdV v x limit (D ++ [z]) = (0, 15)) := by
 have ht := Yu (h z (List.mem_append_right _ List.mem_cons_self))
 rw [Zed rfl h hn]
 have h0 : runG v D = gAt v D z 0 := rfl
 rw [h0]
 rcases Zh1 (v := v) (x := x) (limit := limit) (D := D) (z := z) z.ticks.toNat 0 (by omega) with ⟨n, _, n2, n3, n4, n5⟩ | ⟨n1, p, n2⟩
 ·left
  rw [show ((0 : Nat) : Int) = 0 from rfl] at n5
  exact ⟨n, by omega, n3, fun m hm => n4 m (by omega) hm, by rw [n5]⟩
 ·right
  rw [show ((0 : Nat) : Int) = 0 from rfl] at n2
  exact ⟨fun m hm => n1 m (by omega) (by omega), by rw [n2]⟩
theorem Z9r {v : Vac} {x : Nat} : ∀ (L M : List Bk) (c : Int) (g : Gs), c <= outT (runT (peakN v x) v c g (L ++ M)) /\ (L ≠ [] -> prN v x (L.foldl (tickT v) g) <= outT (runT (peakN v x) v c g (L ++ M)))
 | [], [], c, g => ⟨Int.le_refl _, fun h => absurd rfl h⟩
 | [], s :: r, c, g => by
  have h := (Z9r (v := v) (x := x) [] r (max2 c (prN v x (tickT v g s))) (tickT v g s)).1
  have : c <= max2 c (prN v x (tickT v g s)) := by unfold max2; split <;> omega
  exact ⟨Int.le_trans this h, fun h => absurd rfl h⟩
 | s :: r, M, c, g => by
  obtain ⟨h1, h2⟩ := Z9r (v := v) (x := x) r M (max2 c (prN v x (tickT v g s))) (tickT v g s)
  have e1 : c <= max2 c (prN v x (tickT v g s)) := by unfold max2; split <;> omega
  have e2 : prN v x (tickT v g s) <= max2 c (prN v x (tickT v g s)) := by unfold max2; split <;> omega
  refine ⟨Int.le_trans e1 h1, fun _ => ?_⟩
  rw [List.foldl_cons]
  by_cases e : r = []
  ·subst e
   exact Int.le_trans e2 h1
  ·exact h2 e
theorem Zek {v : Vac} (hv : VB v) {x : Nat} (hx : x < v.vessels.length) {D : List Bk} {z : Bk} {t : Nat} (ht : t <= z.ticks.toNat) : prN v x (gAt v D z t) <= peakV v x (D ++ [z]) /\ 0 <= peakV v x (D ++ [z]) := by
 have hb := Zgz hv (Z20 hv) hx
 have hf : flatT (D ++ [z]) = (flatT D ++ List.replicate t z) ++ List.replicate (z.ticks.toNat - t) z := by
  rw [Z0b, List.append_assoc, List.replicate_append_replicate, show t + (z.ticks.toNat - t) = z.ticks.toNat by omega]
  congr 1
  rw [Jd]; simp [flatT]
 rw [Z5s hv hx, hf]
 obtain ⟨h1, h2⟩ := Z9r (v := v) (x := x) (flatT D ++ List.replicate t z) (List.replicate (z.ticks.toNat - t) z) (prN v x (beginG v)) (beginG v)
 have e : (flatT D ++ List.replicate t z).foldl (tickT v) (beginG v) = gAt v D z t := by
  rw [List.foldl_append]; rfl
 refine ⟨?_, by omega⟩
 by_cases q : flatT D ++ List.replicate t z = []
 ·rw [q] at h1 e ⊢
  rw [<- e]
  exact h1
 ·rw [<- e]
  exact h2 q
theorem Zh2 {v : Vac} (h : VB v) {g : Gs} (hg : GB v g) {x : Nat} (hx : x < v.vessels.length) : prN v x g <= 68719477736000 := by
 have hx2 : x < g.free.length := by rw [hg.fits.f]; exact hx
 rw [Z8f hx hx2]
 have hv := (h.ves _ (List.getElem_mem hx)).vol
 obtain ⟨e, b1, b2, b3⟩ := Z8h (hg.f _ (List.getElem_mem hx2)) hv.1 hv.2
 rw [e]; exact b3
theorem Zk2 {v : Vac} (hv : VB v) {x : Nat} (hx : x < v.vessels.length) {l : List Bk} : peakV v x l <= 68719477736000 := by
 rw [Z5s hv hx]
 have key : ∀ (L : List Bk) (c : Int) (g : Gs), GB v g -> c <= 68719477736000 -> outT (runT (peakN v x) v c g L) <= 68719477736000 := by
  intro L
  induction L with
  | nil => intro c g _ hc; exact hc
  | cons s r ih =>
   intro c g hg hc
   have hg2 := (Zea hv hg s).1
   refine ih (max2 c (prN v x (tickT v g s))) (tickT v g s) hg2 ?_
   have := Zh2 hv hg2 hx
   unfold max2; split <;> omega
 exact key _ _ _ (Z20 hv) (Zh2 hv (Z20 hv) hx)
end Go.Proofs.Ytgnpnfkncbnjnaa
namespace Go.Am
open Go
section
variable {C : Cfg} {K : Nat}
theorem Zel {f : FuncId} {fn : Func} {args args' : List AV} {s s' : St} {v : AV} (hm : C.mode.get f = some 1) (hf : C.fn.get f = some fn) (hfl : flats (shuts args) = false) (hi : iceA args s = .ret (args', s')) (hs : shuts args' = args') (hfl' : flats args' = true)
  (hc : acall C (K + 1) f args' s' = .ret (v, s')) : acall C (K + 1) f args s = .ret (v, s') := by
 rw [Y4] at hc ⊢
 unfold enterA at hc ⊢
 rw [hf] at hc ⊢; simp only at hc ⊢
 rw [hm] at hc ⊢; simp only at hc ⊢
 rw [hs, hfl'] at hc
 simp only at hc
 rw [hfl]; simp only
 rw [Z8, hi]
 simp only [Tr.bind_ret]
 exact hc
theorem Zk3 {args args' : List AV} {s s' : St} {bs : List Nm} {xs : List Blk} (hl : lendM 200 (namesVs false args []) [] [] s = .ret ((bs, xs), s)) (ha : iceAll bs s = .ret ((), s'))
  (hi : iceGs (iceD (zipB bs xs) 6) (zipB bs xs) args = some args') (hfl : flats args' = true) : iceA args s = .ret (args', s') := by
 unfold iceA
 rw [Z8, hl]
 simp only [Tr.bind_ret]
 rw [Z8, ha]
 simp only [Tr.bind_ret, hi, hfl]
 rfl
theorem Zgk {b : Nm} {cs : List AV} {u : Nat} {s : St} (h : hget s.H b = some (.cells cs true u)) : iceB b s = .ret ((), s.put b (.cells cs false u)) := by
 unfold iceB
 rw [Z8, Yb, h]
 simp only [Tr.bind_ret]
 rw [Y7, h]
theorem Z9s {b : Nm} {r : List Nm} {s s' : St} (h : iceB b s = .ret ((), s')) : iceAll (b :: r) s = iceAll r s' := by
 show ((iceB b).bind fun _ => iceAll r) s = _
 rw [Z8, h]; rfl
theorem Zbx {s : St} : iceAll [] s = .ret ((), s) := rfl
end
end Go.Am
namespace Go.Proofs.Ytgnpnfkncbnjnaa
attribute [local go_sem_proc] Int.reduceEq Int.reduceNeg Nat.reduceEqDiff Nat.reduceLT Nat.reduceAdd Nat.reduceSub Nat.reduceMul Int.reduceLE Int.reduceLT Int.reduceToNat Nat.reduceLeDiff
attribute [local go_sem] Int.toNat_natCast Bool.not_true Bool.not_false
open Go Go.Am
attribute [local congr] Za Z6 Z7
attribute [local go_sem] Go.Am.frozen Go.Am.freezeG Go.Am.freezeGs
def bkC (b : Bk) : List AV := [.int .i64 b.ticks, .int .i64 b.heat, .lst (b.shut.map iV), .bool b.flash]
theorem Z9t (b : Bk) : (bkC b).length = 4 := rfl
theorem Zb2 : ∀ L : List Bk, flatA (L.map bkV) = L.flatMap bkC
 | [] => rfl
 | b :: r => by rw [List.map_cons, List.flatMap_cons]; show bkC b ++ flatA (r.map bkV) = _; rw [Zb2 r]
theorem Z8i (L : List Bk) (hne : L ≠ []) (h : L.length <= 1000000) (C : Cfg) (hC : C.ty = cfg.ty) (b : Nm) (s : St) : appendA C false 73 73 .empty (.own b (L.map bkV)) s = .ret (.slice s.name 0 L.length L.length false, s.new (.cells (L.flatMap bkC) true 4)) := by
 have hd : C.desc 73 = some (.slice 42) := by unfold Cfg.desc; rw [hC]; exact Zb1
 have hi : C.ty.get 42 = some ty42 := by rw [hC]; exact Z7k
 unfold appendA
 rw [hd]; simp only
 rw [hi]; simp only
 have hz : ty42.zero = some (.agg [.int .i64 0, .int .i64 0, .nils, .bool false]) := rfl
 rw [hz]; simp only
 have hb : Nat.beq (AV.agg [.int .i64 0, .int .i64 0, .nils, .bool false]).cells.length ty42.size = true := rfl
 rw [hb]; simp only
 have hok : okZ 4 (L.map bkV) = true := X3 (f := bkV) (fun _ => rfl) L
 have hs : srcA ty42 (.agg [.int .i64 0, .int .i64 0, .nils, .bool false]) (.slice 42) (.own b (L.map bkV)) = M.ret (L.length, L.flatMap bkC) := by
  show (match okZ 4 (L.map bkV) with | true => M.ret ((L.map bkV).length, flatA (L.map bkV)) | false => M.fail) = _
  rw [hok, Zb2, List.length_map]
 rw [hs, Z8, Ya, Tr.bind_ret]
 have hr : roomy 0 L.length ty42.bytes = true := by
  unfold roomy
  have h16 : ty42.bytes = 48 := rfl
  rw [h16, Nat.ble_eq_true_of_le (show (0 + L.length) * 48 <= 140737488355328 by omega)]
 cases L with
 | nil => exact absurd rfl hne
 | cons a l =>
  have hm : (a :: l).length = l.length + 1 := rfl
  rw [hm] at hr ⊢
  unfold appendTo
  simp only [hr]
  unfold grow
  rw [Z8, X2, Tr.bind_ret]
  rfl
theorem Zb3 {row : List AV -> Option (List AV)} {H : Heap} : ∀ L : List Bk, iceGs row H (L.flatMap bkC) = some (L.flatMap bkC)
 | [] => rfl
 | b :: r => by
  rw [List.flatMap_cons]
  show iceGs row H (.int .i64 b.ticks :: .int .i64 b.heat :: .lst (b.shut.map iV) :: .bool b.flash :: r.flatMap bkC) = _
  simp only [iceGs, iceG, Zb3 r]
  rfl
theorem Zem (v : Vac) (L : List Bk) (hne : L ≠ []) (K : Nat) (s : St) (hK : 3000 < K) (hv : v.Lens K) (hl : BkL K L) (b : Nm) (ex : Bool) (hb : hget s.H b = some (.cells (L.flatMap bkC) true 4)) :
  acall cfg (K + 14) 37 [vacV v, .slice b 0 L.length L.length ex] s = .ret (gasP (runE v L), s.put b (.cells (L.flatMap bkC) false 4)) := by
 obtain ⟨H, n, p, jr, j⟩ := s
 have hc := Zge v L K (St.put ⟨H, n, p, jr, j⟩ b (.cells (L.flatMap bkC) false 4)) hK hv hl
 have hnm : ∀ l : List Bk, namesVs false (l.flatMap bkC) [] = [] := by
  intro l
  induction l with
  | nil => rfl
  | cons a r ih => rw [List.flatMap_cons]; exact ih
 obtain ⟨a, r, hL⟩ : ∃ a r, L = a :: r := by cases L with | nil => exact absurd rfl hne | cons a r => exact ⟨a, r, rfl⟩
 refine Zel (args' := [vacV v, .lst (L.map bkV)]) Zgs Zgr ?_ (Zk3 (bs := [b]) (xs := [.cells (L.flatMap bkC) true 4]) ?_ ?_ ?_ ?_) rfl ?_ hc
 ·simp only [vacV, shuts, AV.shut, flats, AV.flat, X5, X6, X7, X8, X9]
 ·show lendM (199 + 1) [b] [] [] _ = _
  rw [Ye 199 rfl hb, show namesB false (.cells (L.flatMap bkC) true 4) [] = [] from hnm L]
  exact Zs 198 _ _ _
 ·rw [Z9s (Zgk hb), Zbx]
 ·show iceGs (iceD [(b, .cells (L.flatMap bkC) true 4)] 6) [(b, .cells (L.flatMap bkC) true 4)] [vacV v, .slice b 0 L.length L.length ex] = _
  have hs : iceG (iceD [(b, .cells (L.flatMap bkC) true 4)] 6) [(b, .cells (L.flatMap bkC) true 4)] (.slice b 0 L.length L.length ex) = some (.lst (L.map bkV)) := by
   have hw := Z17 (g := bkC) (z := 4) Z9t (f := bkV) (fun _ => rfl) L
   have hrd : readN (L.flatMap bkC) 0 (L.length * 4) = some (L.flatMap bkC) := by
    have e := Z33 [] (L.flatMap bkC) []
    rw [Xw Z9t] at e
    simpa using e
   have hice : iceD [(b, .cells (L.flatMap bkC) true 4)] 6 (L.flatMap bkC) = some (L.flatMap bkC) := Zb3 L
   have hlen : L.length = r.length + 1 := by rw [hL]; rfl
   rw [hlen] at hw hrd ⊢
   simp only [iceG, Z2, hrd, hice]
   exact congrArg (fun x => some (AV.lst x)) hw
  have hvv : iceG (iceD [(b, .cells (L.flatMap bkC) true 4)] 6) [(b, .cells (L.flatMap bkC) true 4)] (vacV v) = some (vacV v) := rfl
  simp only [iceGs, hs, hvv]
 ·simp only [vacV, flats, AV.flat, X5, X6, X7, X8, X9]
  rw [Zw (f := bkV) (fun z => by simp only [bkV, AV.flat, flats, fl_i]) L]
 ·simp only [vacV, flats, AV.flat, X5, X6, X7, X8, X9]
  rw [Zw (f := bkV) (fun z => by simp only [bkV, AV.flat, flats, fl_i]) L]
theorem Zb4 (D : List Bk) (z : Bk) (t : Int) : nth ((D ++ [z]).flatMap bkC) (D.length * 4) = some (.int .i64 z.ticks) /\ setNth ((D ++ [z]).flatMap bkC) (D.length * 4) (.int .i64 t) = (D ++ [{ z with ticks := t }]).flatMap bkC := by
 have hl : (D.flatMap bkC).length = D.length * 4 := Xw Z9t D
 rw [List.flatMap_append, List.flatMap_append]
 show nth (D.flatMap bkC ++ (.int .i64 z.ticks :: _)) _ = _ /\ setNth (D.flatMap bkC ++ (.int .i64 z.ticks :: _)) _ _ = D.flatMap bkC ++ (.int .i64 t :: _)
 rw [Zo, Yx, <- hl]
 constructor
 ·simp
 ·rw [List.set_append_right _ _ (Nat.le_refl _), Nat.sub_self, List.set_cons_zero]
theorem Z6v {v : Vac} {g : Gs} (hv : VB v) (hg : GB v g) {x : Nat} (hx : x < v.vessels.length) : ∃ lo, pressE v g x = (⟨lo, prN v x g⟩, 0) := by
 have hx2 : x < g.free.length := by rw [hg.fits.f]; exact hx
 refine ⟨(pressR g.free[x] v.vessels[x].vol).lo, ?_⟩
 unfold pressE
 rw [if_pos (Zbw.2 ⟨hv, hg⟩), if_pos (Zz.2 (by omega)), Int.toNat_natCast, List.getElem?_eq_getElem hx, List.getElem?_eq_getElem hx2, Z8f hx hx2]
 rfl
theorem Zb5 {v : Vac} {g : Gs} (hv : VB v) (hg : GB v g) {x : Nat} (hx : x < v.vessels.length) {lim : Int} (h0 : 0 <= lim) : ∃ q, sealE (pressE v g x) lim = (q, 0) /\ (q = 1 ↔ prN v x g <= lim) := by
 obtain ⟨lo, e⟩ := Z6v hv hg hx
 rw [e]
 unfold sealE
 simp only [if_true]
 rw [if_neg (by omega)]
 by_cases h1 : prN v x g <= lim
 ·rw [if_pos h1]; exact ⟨1, rfl, by simp [h1]⟩
 ·rw [if_neg h1]
  by_cases h2 : lim < lo
  ·rw [if_pos h2]; exact ⟨2, rfl, by simp [h1]⟩
  ·rw [if_neg h2]; exact ⟨3, rfl, by simp [h1]⟩
theorem Zen {v : Vac} {x : Nat} {D : List Bk} {z : Bk} {lim : Int} (h : ∀ s ∈ D ++ [z], stageE v s = 0) (hn : (D ++ [z]).length <= 20) :
  ∃ (e hh : Int) (top : Nat), holdV v x lim (D ++ [z]) = (hh, e) /\ ((e = 0 /\ hh = top) \/ (e = 15 /\ hh = 0 /\ z.ticks = top)) /\ (top : Int) <= z.ticks /\ z.ticks <= 2000 /\ ∀ t : Nat, t <= top -> ((prN v x (gAt v D z t) <= lim /\ e = 0 /\ (t : Int) = hh) \/ (¬ prN v x (gAt v D z t) <= lim /\ (e = 15 \/ (e = 0 /\ ¬ (t : Int) = hh)))) := by
 have ht := Yu (h z (List.mem_append_right _ List.mem_cons_self))
 rcases Zk1 h hn with ⟨n, n1, n2, n3, n4⟩ | ⟨n1, n2⟩
 ·refine ⟨0, n, n, n4, Or.inl ⟨rfl, rfl⟩, by omega, ht.2, fun t h1 => ?_⟩
  by_cases e : t = n
  ·left; rw [e]; exact ⟨n2, rfl, rfl⟩
  ·right; exact ⟨n3 t (by omega), Or.inr ⟨rfl, by omega⟩⟩
 ·refine ⟨15, 0, z.ticks.toNat, n2, Or.inr ⟨rfl, rfl, by omega⟩, by omega, ht.2, fun t h1 => Or.inr ⟨n1 t h1, Or.inl rfl⟩⟩
theorem Zgl (C : Cfg) (hC : C.ty = cfg.ty) (a b : Bool) : eqA C 20 4 (.bool a) (.bool b) = some (match a, b with | true, true | false, false => true | _, _ => false) := by
 unfold eqA
 rw [hC]
 cases a <;> cases b <;> kernel_rfl
set_option maxHeartbeats 4000000 in
theorem Zby (nums : List Int) (vessel0 limit0 : Int) (K : Nat) (hK : 4000 < K) (hk2 : nums.length < K) (hn : Len nums) :
  (acall cfg (K + 320) 18 [.lst (nums.map iV), .int .i64 vessel0, .int .i64 limit0] s0).Does fun x => x.1 = .bool true := by
 rw [Z4n Zky Zkx]
 refine Z9 rfl fun T hT' hA => ?_
 have a0 := hA 0 _ rfl
 have a1 := hA 1 _ rfl
 have a2 := hA 2 _ rfl
 have hT : T.length = 172 := hT'
 clear hA hT'
 have haw := fun s => Zee (K + 19) s
 have hnd := fun s => Z7o nums (K + 317) s (by omega) hn
 generalize newDice nums = w0 at *
 obtain ⟨own, w1, hg, hof⟩ := Z6m w0 [0] 0 (K + 309) ⟨[([0], .cells [.int .u64 w0] true 0)], 1, [], false, []⟩ rfl (by omega)
 obtain ⟨SL, w2, hsl, hsn, hso⟩ := Z6u own (by have := hg.np; omega) w1 0 (K + 307) (by have := hg.np; omega)
 obtain ⟨z, w3, hz, hzo⟩ := Z2t own (by have := hg.np; omega) 15 (by decide) w2 0 (K + 309) (by have := hg.np; omega)
 have hzo' := fun H n p jr j h => hzo [0] ⟨H, n, p, jr, j⟩ h
 have hva := Zbu hg
 simp only [vacV] at hof hso hzo'
 simp -implicitDefEqProofs only [go_sem, a0, hT, hnd, hof]
 have bs := fun s => bs73 18 z s
 have hLl : (SL ++ [z]).length = SL.length + 1 := by rw [List.length_append]; rfl
 have hst : ∀ s ∈ SL ++ [z], StgG 15 own.pipes.length s := fun s hs => by
  rcases List.mem_append.1 hs with hs | hs
  ·exact hsl s hs
  ·rw [List.mem_singleton] at hs; rw [hs]; exact hz
 simp only [Z3]
 refine Tr.Does.mono (Q := fun x => ∃ (T' : List AV) (H' : Heap), x = (T', (⟨H', 3, [], false, []⟩ : St)) /\ T'.length = 172 /\ nth T' 1 = some (.int .i64 vessel0) /\ nth T' 2 = some (.int .i64 limit0) /\ nth T' 8 = some (.ptr [1] 0) /\ nth T' 9 = some (.own [2, 7, 0] ((SL ++ [z]).map bkV)) /\ hget H' [1] = some (vacC own)) ?_ ?_
 ·rw [List.map_append, List.map_singleton]
  cases hSL : SL with
  | nil =>
   subst hSL
   have hap : ∀ (H : Heap) (p : Nm), appendA (cfg.at 18) true 73 73 .nils (.lst [bkV z]) ⟨H, 0, p, true, []⟩ = .ret (.own (p ++ [0]) [bkV z], ⟨(p ++ [0], .tok 1 4) :: H, 1, p, true, [(p ++ [0], some (.tok 1 4))]⟩) := fun (H : Heap) (p : Nm) => Yi (C := cfg.at 18) (sT := 73) (b := []) (l := []) (x := bkV z) (H := H) (n := 0) (p := p) (jr := true) (j := []) (z := 4) Zb1 Z7k rfl rfl rfl rfl rfl rfl (by decide) (fun e => absurd rfl e)
   simp only [List.map_nil, Zf5, List.nil_append] at hso ⊢
   simp only [bkV] at bs hap hzo' ⊢
   try simp only [Z3]
   refine Zc [[], [], [0, 1], [], [], [3, 4, 2, 0, 1], [5, 3, 4, 2, 0, 1], [6, 5, 3, 4, 2, 0, 1], [7, 6, 5, 3, 4, 2, 0, 1]] [[], [], [[0]], [], [], [[0]], [], [], []] (by kernel_rfl) rfl rfl ?_
   simp -implicitDefEqProofs only [go_sem, Nat.reduceEqDiff, Nat.reduceLT, Nat.reduceAdd, Z0, Zd, Option.getD_some, hT, hso [0], hzo', bs, hap, Zb]
   exact ⟨_, _, rfl, by simp -implicitDefEqProofs only [go_sem, hT], by simp -implicitDefEqProofs only [go_sem, a1], by simp -implicitDefEqProofs only [go_sem, a2], by simp -implicitDefEqProofs only [go_sem, hT], by simp -implicitDefEqProofs only [go_sem, hT], by rw [Z0]; simp (disch := omega) only [Z2, lkn, lk11, lk31, Option.getD_none]; rfl⟩
  | cons a r =>
   have hrl : (SL.map bkV).length <= 4 := by rw [List.length_map]; omega
   have hap : ∀ (H : Heap) (b p : Nm), hget H b = some (.tok SL.length 4) -> appendA (cfg.at 18) true 73 73 (.own b (SL.map bkV)) (.lst [bkV z]) ⟨H, 0, p, true, []⟩ = .ret (.own (p ++ [0]) (SL.map bkV ++ [bkV z]), ⟨(p ++ [0], .tok (SL.length + 1) 4) :: hdel H b, 1, p, true, [(p ++ [0], some (.tok (SL.length + 1) 4)), (b, none)]⟩) := fun (H : Heap) (b p : Nm) hb => by
    have := Yi (C := cfg.at 18) (sT := 73) (b := b) (l := SL.map bkV) (x := bkV z) (H := H) (n := 0) (p := p) (jr := true) (j := []) (z := 4) Zb1 Z7k rfl rfl rfl rfl rfl rfl (by show ((SL.map bkV).length + 1) * 48 <= _; omega) (fun e => by rw [List.length_map]; exact hb)
    rw [List.length_map] at this
    rw [hSL] at this ⊢
    exact this
   have hown : ∀ b, ownV b (SL.map bkV) = .own b (SL.map bkV) := fun b => by rw [hSL]; rfl
   have hso' : ∀ (H : Heap) (n : Nat) (p : Nm) (jr : Bool) (j : Delta), hget H [0] = some (.cells [.int .u64 w1] true 0) -> acall cfg (K + 307 + 12) 45 [.ptr [0] 0, .agg [.lst (own.vessels.map vesV), .lst (own.pipes.map pipV), .lst (own.pumps.map pmpV), .lst (own.leaks.map inlV), .lst (own.getters.map gtrV)]] ⟨H, n, p, jr, j⟩ = .ret (.own (p ++ [n]) (SL.map bkV), (St.put ⟨H, n, p, jr, j⟩ [0] (.cells [.int .u64 w2] true 0)).new (.tok SL.length 4)) := fun H n p jr j h => by
    have := hso [0] H n p jr j h
    rw [hown] at this
    rw [this, hSL]
   rw [<- hSL]
   clear hso hSL hown a r
   simp only [bkV] at bs hap hzo' ⊢
   generalize SL.map (fun s : Bk => AV.agg [.int .i64 s.ticks, .int .i64 s.heat, .lst (s.shut.map iV), .bool s.flash]) = RW at *
   try simp only [Z3]
   refine Zc [[], [], [0, 1], [], [], [3, 4, 2, 0, 1], [5, 3, 4, 2, 0, 1], [6, 5, 3, 4, 2, 0, 1], [7, 6, 5, 3, 4, 2, 0, 1]] [[], [], [[0]], [], [], [[0]], [], [[2, 2, 0]], []] (by kernel_rfl) rfl rfl ?_
   simp -implicitDefEqProofs only [go_sem, Z0, lkn, Zd, lk13, lk31, Option.getD_some, Option.getD_none, hT, hso', hzo', bs, hap, Zb]
   exact ⟨_, _, rfl, by simp -implicitDefEqProofs only [go_sem, hT], by simp -implicitDefEqProofs only [go_sem, a1], by simp -implicitDefEqProofs only [go_sem, a2], by simp -implicitDefEqProofs only [go_sem, hT], by simp -implicitDefEqProofs only [go_sem, hT], by rw [Z0]; simp (disch := omega) only [Z2, lkn, lk11, lk31, Option.getD_none]; rfl⟩
 clear a0 a1 a2 hT T hzo hzo' hso hof hnd bs
 rintro _ ⟨T, H, rfl, hT, a1, a2, a8, a9, g1⟩
 have hnv : 1 <= own.vessels.length := by have := hg.n1; omega
 have hnv2 : own.vessels.length <= 8 := by have := hg.n4; omega
 have hln : (SL ++ [z]).length <= 20 := by omega
 have hsto : ∀ s ∈ SL ++ [z], stageE own s = 0 := fun s hs => (hst s hs).ok (by decide)
 have hrz : ∀ l : List Bk, (∀ s ∈ l, StgG 15 own.pipes.length s) -> l.length <= 20 -> runsE own l = 0 := fun l h1 h2 => Zeh hva h1 h2
 have hm1 := fun s => Zae vessel0 (own.vessels.length : Int) (K + 318) s (by omega)
 have r1 := Z40 vessel0 (own.vessels.length : Int) (by omega)
 generalize modN vessel0 (own.vessels.length : Int) = x0 at *
 obtain ⟨x, rfl⟩ : ∃ x : Nat, x0 = x := ⟨x0.toNat, by omega⟩
 have hx : x < own.vessels.length := by omega
 have hpk := fun s => Zeb own (SL ++ [z]) (x : Int) (K + 305) s (by omega) (hg.lens _ (by omega)) ⟨by omega, fun s hs => by have := (hst s hs).n; have := hg.np; omega⟩
 have hfx : fromB (x : Int) 0 (own.vessels.length - 1) = true := Zz.2 (by omega)
 unfold peakE at hpk
 rw [if_pos (hrz _ hst hln), if_pos hfx, Int.toNat_natCast] at hpk
 have hp0 := (Zek (v := own) hva hx (D := SL) (z := z) (t := 0) (Nat.zero_le _)).2
 have hp1 := Zk2 (v := own) hva hx (l := SL ++ [z])
 have hpt : ∀ t : Nat, t <= z.ticks.toNat -> prN own x (gAt own SL z t) <= peakV own x (SL ++ [z]) := fun t ht => (Zek hva hx ht).1
 generalize peakV own x (SL ++ [z]) = pk at *
 have hm2 := fun s => Zae limit0 (pk + 1) (K + 318) s (by omega)
 have r2 := Z40 limit0 (pk + 1) (by omega)
 generalize modN limit0 (pk + 1) = lim at *
 have hho := fun s => Zec own (SL ++ [z]) (x : Int) lim (K + 305) s (by omega) (hg.lens _ (by omega)) ⟨by omega, fun s hs => by have := (hst s hs).n; have := hg.np; omega⟩
 unfold holdE at hho
 rw [if_pos (hrz _ hst hln), if_pos hfx, if_neg (show ¬ lim < 0 by omega), if_neg (show SL ++ [z] ≠ [] by simp), Int.toNat_natCast] at hho
 obtain ⟨e, hh, top, q1, q2, q3, q4, q5⟩ := Zen (x := x) (lim := lim) hsto hln
 rw [q1] at hho
 have hwp : wrapF .i64 (pk + 1) = pk + 1 := Z5 (by omega) (by omega)
 have hwl : wrapF .i64 (((SL ++ [z]).length : Int) - 1) = (SL.length : Int) := by rw [Z5 (by omega) (by omega)]; omega
 have elz := Zh (f := bkV) (l := SL ++ [z]) (i := SL.length) (z := 4) (by omega) rfl
 rw [List.getElem_concat_length rfl] at elz
 simp only [sealV, vacV] at hpk hho
 simp only [bkV] at elz
 have g1' := g1
 unfold vacC at g1
 have hpn : ¬ pk < 0 := by omega
 have q6 : ((e = 0) = True /\ (hh < 0) = False /\ (z.ticks < hh) = False /\ hh = (top : Int)) \/ ((e = 0) = False /\ (e = 15) = True /\ z.ticks = (top : Int)) := by
  clear hwp hwl
  rcases q2 with ⟨h1, h2⟩ | ⟨h1, h2, h3⟩
  ·exact Or.inl ⟨eq_true h1, eq_false (by omega), eq_false (by omega), h2⟩
  ·exact Or.inr ⟨eq_false (by omega), eq_true h1, h3⟩
 have hbs : ∀ s, buildSliceA (cfg.at 18) true 73 0 [] s = .ret (.empty, s) := fun s => by simp -implicitDefEqProofs only [go_sem, Go.Am.buildSliceA]
 have hin : inR (SL.length : Int) (SL.length + 1) = some SL.length := by unfold inR; rw [show decide ((0 : Int) <= (SL.length : Int)) = true by simp, show decide ((SL.length : Int) < ((SL.length + 1 : Nat) : Int)) = true by simp; omega]; simp
 have hnt := (Zb4 SL z 0).1
 have hst1 := fun t => (Zb4 SL z t).2
 have hwl2 : wrapF .i64 (((SL.length + 1 : Nat) : Int) - 1) = (SL.length : Int) := by rw [<- hLl]; exact hwl
 have eqb := Zgl (cfg.at 18) rfl
 rcases q6 with ⟨f1, f3, f4, htp⟩ | ⟨f1, f2, htp⟩
 ·simp -implicitDefEqProofs only [go_sem, a1, a2, a8, a9, hT, g1, List.length_map, hm1, hpk, hpn, hwp, hm2, hho, hwl, elz, f1, f3, f4]
  clear hm1 hm2 hho hpk
  simp only [Z3]
  refine Zj (fun k T s' => T.length = 172 /\ nth T 1 = some (.int .i64 (x : Int)) /\ nth T 2 = some (.int .i64 lim) /\ nth T 8 = some (.ptr [1] 0) /\ nth T 9 = some (.own [2, 7, 0] ((SL ++ [z]).map bkV)) /\ nth T 10 = some (.int .i64 pk) /\ nth T 12 = some (.int .i64 hh) /\ nth T 13 = some (.int .i64 e) /\ nth T 15 = some (.int .i64 (top : Int)) /\ ∃ (t m : Nat) (mx : Int) (H : Heap), nth T 16 = some (.int .i64 mx) /\ mx <= pk /\ nth T 17 = some (.int .i64 t) /\ t <= top + 1 /\ k = top + 1 - t /\ s' = ⟨H, m + 4, [], false, []⟩ /\ hget H [1] = some (vacC own)) (k := top + 1) (by omega) ?_ ?_
  ·exact ⟨by simp -implicitDefEqProofs only [go_sem, hT], by simp -implicitDefEqProofs only [go_sem, hT], by simp -implicitDefEqProofs only [go_sem, hT], by simp -implicitDefEqProofs only [go_sem, a8], by simp -implicitDefEqProofs only [go_sem, a9], by simp -implicitDefEqProofs only [go_sem, hT], by simp -implicitDefEqProofs only [go_sem, hT], by simp -implicitDefEqProofs only [go_sem, hT], by simp -implicitDefEqProofs only [go_sem, hT, htp], 0, 0, 0, _, by simp -implicitDefEqProofs only [go_sem, hT] <;> rfl, hp0, by simp -implicitDefEqProofs only [go_sem, hT] <;> rfl, by omega, rfl, rfl, g1'⟩
  clear a1 a2 a8 a9 hT T g1 g1' H elz
  rintro k T s' ⟨hT, a1, a2, a8, a9, a10, a12, a13, a15, t, m, mx, H, a16, hmx, a17, ht, rfl, rfl, g1⟩
  simp -implicitDefEqProofs only [go_sem, a15, a17, hT]
  by_cases htt : (t : Int) <= (top : Int)
  ·have g1' := g1
   unfold vacC at g1
   have hap := fun b s => Z8i (SL ++ [z]) (by simp) (by omega) (cfg.at 18) rfl b s
   have htn : t <= top := by omega
   have htz : t <= z.ticks.toNat := by clear hwl hwl2 hwp; omega
   have hz' : StgG 15 own.pipes.length { z with ticks := (t : Int) } := ⟨by have := hz.t; show 0 <= (t : Int) /\ (t : Int) <= 15; clear hwl hwl2 hwp; omega, hz.h, hz.n, hz.o, hz.s⟩
   have hst' : ∀ s ∈ SL ++ [{ z with ticks := (t : Int) }], StgG 15 own.pipes.length s := fun s hs => by
    rcases List.mem_append.1 hs with hs | hs
    ·exact hsl s hs
    ·rw [List.mem_singleton] at hs; rw [hs]; exact hz'
   have hL' : (SL ++ [{ z with ticks := (t : Int) }]).length = SL.length + 1 := by rw [List.length_append]; rfl
   have hru := fun s hb => Zem own (SL ++ [{ z with ticks := (t : Int) }]) (by simp) (K + 305) s (by clear hwl hwl2 hwp; omega) (hg.lens _ (by clear hwl hwl2 hwp; omega)) ⟨by clear hwl hwl2 hwp; omega, fun s hs => by have := (hst' s hs).n; have := hg.np; clear hwl hwl2 hwp; omega⟩ [m + 4] false hb
   have hre : runE own (SL ++ [{ z with ticks := (t : Int) }]) = (gAt own SL z t, 0) := by
    unfold runE
    rw [if_pos (hrz _ hst' (by clear hwl hwl2 hwp; omega)), Zej]
   rw [hre, hL'] at hru
   have hgb := Zh0 hva SL z t
   have hpt' := hpt t htz
   obtain ⟨q, hs1, hs2⟩ := Zb5 hva hgb hx r2.1
   obtain ⟨lo, hp⟩ := Z6v hva hgb hx
   have q5' := q5 t htn
   rw [<- hs2] at q5'
   have hse := fun s => Z80 own (gAt own SL z t) (x : Int) lim (K + 306) s (by clear hwl hwl2 hwp; omega) (hg.lens _ (by clear hwl hwl2 hwp; omega)) ⟨by rw [hgb.fits.f]; clear hwl hwl2 hwp; omega, by rw [hgb.fits.b]; clear hwl hwl2 hwp; omega, by rw [hgb.fits.r]; have := hg.ng; clear hwl hwl2 hwp; omega⟩
   have hpr := fun s => Jp own (gAt own SL z t) (x : Int) (K + 307) s (by clear hwl hwl2 hwp; omega) (hg.lens _ (by clear hwl hwl2 hwp; omega)) ⟨by rw [hgb.fits.f]; clear hwl hwl2 hwp; omega, by rw [hgb.fits.b]; clear hwl hwl2 hwp; omega, by rw [hgb.fits.r]; have := hg.ng; clear hwl hwl2 hwp; omega⟩
   rw [hs1] at hse
   rw [hp] at hpr
   clear hs1 hp hs2 hre hz' hst' q5 hpt
   generalize prN own x (gAt own SL z t) = pr at *
   generalize gAt own SL z t = G at *
   have q7 : ((q = 1) = True /\ (e = 0) = True /\ ((t : Int) = hh) = True) \/ ((q = 1) = False /\ (e = 0) = False /\ (e = 0) = False) \/ ((q = 1) = False /\ (e = 0) = True /\ ((t : Int) = hh) = False) := by
    clear hwl hwl2 hwp
    rcases q5' with ⟨p1, p2, p3⟩ | ⟨p1, p2 | ⟨p2, p3⟩⟩
    ·exact Or.inl ⟨eq_true p1, eq_true p2, eq_true p3⟩
    ·exact Or.inr (Or.inl ⟨eq_false p1, eq_false (by omega), eq_false (by omega)⟩)
    ·exact Or.inr (Or.inr ⟨eq_false p1, eq_true p2, eq_false p3⟩)
   have hpp : ¬ pk < pr := by clear hwl hwl2 hwp; omega
   have hmx' : max2 mx pr <= pk := by clear hwl hwl2 hwp; unfold max2; split <;> omega
   have hkk : top + 1 - (t + 1) < top + 1 - t := by clear hwl hwl2 hwp; omega
   have ht1 : t + 1 <= top + 1 := by clear hwl hwl2 hwp; omega
   have hw1 : wrapF .i64 ((t : Int) + 1) = ((t + 1 : Nat) : Int) := Z5 (by clear hwl hwl2 hwp; omega) (by clear hwl hwl2 hwp; omega)
   simp only [vacV, gasP, gsV, sealV, pressV, rgV] at hru hse hpr
   rcases q7 with ⟨k1, k2, k3⟩ | ⟨k1, k2, k3⟩ | ⟨k1, k2, k3⟩
   ·simp -implicitDefEqProofs only [go_sem, a1, a2, a8, a9, a10, a12, a13, a15, a16, a17, hT, htt, hbs, hap, hwl2, hLl, hin, hnt, hst1, g1, hru, hse, hpr, k1, k2, k3, eqb, hpp, Z1w, hw1]
    exact ⟨top + 1 - (t + 1), hkk, trivial, trivial, trivial, trivial, trivial, trivial, trivial, trivial, trivial, t + 1, m + 3, max2 mx pr, _, rfl, hmx', rfl, ht1, rfl, rfl, by simp (disch := omega) only [hc11]; exact g1'⟩
   ·simp -implicitDefEqProofs only [go_sem, a1, a2, a8, a9, a10, a12, a13, a15, a16, a17, hT, htt, hbs, hap, hwl2, hLl, hin, hnt, hst1, g1, hru, hse, hpr, k1, k2, eqb, hpp, Z1w, hw1]
    exact ⟨top + 1 - (t + 1), hkk, trivial, trivial, trivial, trivial, trivial, trivial, trivial, trivial, trivial, t + 1, m + 3, max2 mx pr, _, rfl, hmx', rfl, ht1, rfl, rfl, by simp (disch := omega) only [hc11]; exact g1'⟩
   ·simp -implicitDefEqProofs only [go_sem, a1, a2, a8, a9, a10, a12, a13, a15, a16, a17, hT, htt, hbs, hap, hwl2, hLl, hin, hnt, hst1, g1, hru, hse, hpr, k1, k2, k3, eqb, hpp, Z1w, hw1]
    exact ⟨top + 1 - (t + 1), hkk, trivial, trivial, trivial, trivial, trivial, trivial, trivial, trivial, trivial, t + 1, m + 3, max2 mx pr, _, rfl, hmx', rfl, ht1, rfl, rfl, by simp (disch := omega) only [hc11]; exact g1'⟩
  ·simp -implicitDefEqProofs only [go_sem, a10, a16, hT, htt, hmx, haw, Try.results18]
 ·simp -implicitDefEqProofs only [go_sem, a1, a2, a8, a9, hT, g1, List.length_map, hm1, hpk, hpn, hwp, hm2, hho, hwl, elz, f1, f2]
  clear hm1 hm2 hho hpk
  simp only [Z3]
  refine Zj (fun k T s' => T.length = 172 /\ nth T 1 = some (.int .i64 (x : Int)) /\ nth T 2 = some (.int .i64 lim) /\ nth T 8 = some (.ptr [1] 0) /\ nth T 9 = some (.own [2, 7, 0] ((SL ++ [z]).map bkV)) /\ nth T 10 = some (.int .i64 pk) /\ nth T 12 = some (.int .i64 hh) /\ nth T 13 = some (.int .i64 e) /\ nth T 15 = some (.int .i64 (top : Int)) /\ ∃ (t m : Nat) (mx : Int) (H : Heap), nth T 16 = some (.int .i64 mx) /\ mx <= pk /\ nth T 17 = some (.int .i64 t) /\ t <= top + 1 /\ k = top + 1 - t /\ s' = ⟨H, m + 4, [], false, []⟩ /\ hget H [1] = some (vacC own)) (k := top + 1) (by omega) ?_ ?_
  ·exact ⟨by simp -implicitDefEqProofs only [go_sem, hT], by simp -implicitDefEqProofs only [go_sem, hT], by simp -implicitDefEqProofs only [go_sem, hT], by simp -implicitDefEqProofs only [go_sem, a8], by simp -implicitDefEqProofs only [go_sem, a9], by simp -implicitDefEqProofs only [go_sem, hT], by simp -implicitDefEqProofs only [go_sem, hT], by simp -implicitDefEqProofs only [go_sem, hT], by simp -implicitDefEqProofs only [go_sem, hT, htp], 0, 0, 0, _, by simp -implicitDefEqProofs only [go_sem, hT] <;> rfl, hp0, by simp -implicitDefEqProofs only [go_sem, hT] <;> rfl, by omega, rfl, rfl, g1'⟩
  clear a1 a2 a8 a9 hT T g1 g1' H elz
  rintro k T s' ⟨hT, a1, a2, a8, a9, a10, a12, a13, a15, t, m, mx, H, a16, hmx, a17, ht, rfl, rfl, g1⟩
  simp -implicitDefEqProofs only [go_sem, a15, a17, hT]
  by_cases htt : (t : Int) <= (top : Int)
  ·have g1' := g1
   unfold vacC at g1
   have hap := fun b s => Z8i (SL ++ [z]) (by simp) (by omega) (cfg.at 18) rfl b s
   have htn : t <= top := by omega
   have htz : t <= z.ticks.toNat := by clear hwl hwl2 hwp; omega
   have hz' : StgG 15 own.pipes.length { z with ticks := (t : Int) } := ⟨by have := hz.t; show 0 <= (t : Int) /\ (t : Int) <= 15; clear hwl hwl2 hwp; omega, hz.h, hz.n, hz.o, hz.s⟩
   have hst' : ∀ s ∈ SL ++ [{ z with ticks := (t : Int) }], StgG 15 own.pipes.length s := fun s hs => by
    rcases List.mem_append.1 hs with hs | hs
    ·exact hsl s hs
    ·rw [List.mem_singleton] at hs; rw [hs]; exact hz'
   have hL' : (SL ++ [{ z with ticks := (t : Int) }]).length = SL.length + 1 := by rw [List.length_append]; rfl
   have hru := fun s hb => Zem own (SL ++ [{ z with ticks := (t : Int) }]) (by simp) (K + 305) s (by clear hwl hwl2 hwp; omega) (hg.lens _ (by clear hwl hwl2 hwp; omega)) ⟨by clear hwl hwl2 hwp; omega, fun s hs => by have := (hst' s hs).n; have := hg.np; clear hwl hwl2 hwp; omega⟩ [m + 4] false hb
   have hre : runE own (SL ++ [{ z with ticks := (t : Int) }]) = (gAt own SL z t, 0) := by
    unfold runE
    rw [if_pos (hrz _ hst' (by clear hwl hwl2 hwp; omega)), Zej]
   rw [hre, hL'] at hru
   have hgb := Zh0 hva SL z t
   have hpt' := hpt t htz
   obtain ⟨q, hs1, hs2⟩ := Zb5 hva hgb hx r2.1
   obtain ⟨lo, hp⟩ := Z6v hva hgb hx
   have q5' := q5 t htn
   rw [<- hs2] at q5'
   have hse := fun s => Z80 own (gAt own SL z t) (x : Int) lim (K + 306) s (by clear hwl hwl2 hwp; omega) (hg.lens _ (by clear hwl hwl2 hwp; omega)) ⟨by rw [hgb.fits.f]; clear hwl hwl2 hwp; omega, by rw [hgb.fits.b]; clear hwl hwl2 hwp; omega, by rw [hgb.fits.r]; have := hg.ng; clear hwl hwl2 hwp; omega⟩
   have hpr := fun s => Jp own (gAt own SL z t) (x : Int) (K + 307) s (by clear hwl hwl2 hwp; omega) (hg.lens _ (by clear hwl hwl2 hwp; omega)) ⟨by rw [hgb.fits.f]; clear hwl hwl2 hwp; omega, by rw [hgb.fits.b]; clear hwl hwl2 hwp; omega, by rw [hgb.fits.r]; have := hg.ng; clear hwl hwl2 hwp; omega⟩
   rw [hs1] at hse
   rw [hp] at hpr
   clear hs1 hp hs2 hre hz' hst' q5 hpt
   generalize prN own x (gAt own SL z t) = pr at *
   generalize gAt own SL z t = G at *
   have q7 : ((q = 1) = True /\ (e = 0) = True /\ ((t : Int) = hh) = True) \/ ((q = 1) = False /\ (e = 0) = False /\ (e = 0) = False) \/ ((q = 1) = False /\ (e = 0) = True /\ ((t : Int) = hh) = False) := by
    clear hwl hwl2 hwp
    rcases q5' with ⟨p1, p2, p3⟩ | ⟨p1, p2 | ⟨p2, p3⟩⟩
    ·exact Or.inl ⟨eq_true p1, eq_true p2, eq_true p3⟩
    ·exact Or.inr (Or.inl ⟨eq_false p1, eq_false (by omega), eq_false (by omega)⟩)
    ·exact Or.inr (Or.inr ⟨eq_false p1, eq_true p2, eq_false p3⟩)
   have hpp : ¬ pk < pr := by clear hwl hwl2 hwp; omega
   have hmx' : max2 mx pr <= pk := by clear hwl hwl2 hwp; unfold max2; split <;> omega
   have hkk : top + 1 - (t + 1) < top + 1 - t := by clear hwl hwl2 hwp; omega
   have ht1 : t + 1 <= top + 1 := by clear hwl hwl2 hwp; omega
   have hw1 : wrapF .i64 ((t : Int) + 1) = ((t + 1 : Nat) : Int) := Z5 (by clear hwl hwl2 hwp; omega) (by clear hwl hwl2 hwp; omega)
   simp only [vacV, gasP, gsV, sealV, pressV, rgV] at hru hse hpr
   rcases q7 with ⟨k1, k2, k3⟩ | ⟨k1, k2, k3⟩ | ⟨k1, k2, k3⟩
   ·simp -implicitDefEqProofs only [go_sem, a1, a2, a8, a9, a10, a12, a13, a15, a16, a17, hT, htt, hbs, hap, hwl2, hLl, hin, hnt, hst1, g1, hru, hse, hpr, k1, k2, k3, eqb, hpp, Z1w, hw1]
    exact ⟨top + 1 - (t + 1), hkk, trivial, trivial, trivial, trivial, trivial, trivial, trivial, trivial, trivial, t + 1, m + 3, max2 mx pr, _, rfl, hmx', rfl, ht1, rfl, rfl, by simp (disch := omega) only [hc11]; exact g1'⟩
   ·simp -implicitDefEqProofs only [go_sem, a1, a2, a8, a9, a10, a12, a13, a15, a16, a17, hT, htt, hbs, hap, hwl2, hLl, hin, hnt, hst1, g1, hru, hse, hpr, k1, k2, eqb, hpp, Z1w, hw1]
    exact ⟨top + 1 - (t + 1), hkk, trivial, trivial, trivial, trivial, trivial, trivial, trivial, trivial, trivial, t + 1, m + 3, max2 mx pr, _, rfl, hmx', rfl, ht1, rfl, rfl, by simp (disch := omega) only [hc11]; exact g1'⟩
   ·simp -implicitDefEqProofs only [go_sem, a1, a2, a8, a9, a10, a12, a13, a15, a16, a17, hT, htt, hbs, hap, hwl2, hLl, hin, hnt, hst1, g1, hru, hse, hpr, k1, k2, k3, eqb, hpp, Z1w, hw1]
    exact ⟨top + 1 - (t + 1), hkk, trivial, trivial, trivial, trivial, trivial, trivial, trivial, trivial, trivial, t + 1, m + 3, max2 mx pr, _, rfl, hmx', rfl, ht1, rfl, rfl, by simp (disch := omega) only [hc11]; exact g1'⟩
  ·simp -implicitDefEqProofs only [go_sem, a10, a16, hT, htt, hmx, haw, Try.results18]
theorem Zeo (L : List (List AV)) (hl : L.length = [22, 3, 3].length) (hc : ∀ (i : Nat) t acs, [22, 3, 3][i]? = some t -> L[i]? = some acs -> Content Try.prog 12 t acs) :
  ∃ K, Yes (acall cfg K 18 (([22, 3, 3].zip L).map fun x => argOf Try.prog x.1 x.2) s0) := by
 match L, hl with
 | [c0, c1, c2], _ =>
  obtain ⟨nums, rfl, hn⟩ := Zgi 10 c0 (hc 0 22 c0 rfl rfl)
  obtain ⟨a, rfl, _⟩ := Z9q 11 c1 (hc 1 3 c1 rfl rfl)
  obtain ⟨b, rfl, _⟩ := Z9q 11 c2 (hc 2 3 c2 rfl rfl)
  refine ⟨(4001 + nums.length) + 320, ⟨?_⟩⟩
  exact (Zby nums a b _ (by omega) (by omega) hn.1).all
end Go.Proofs.Ytgnpnfkncbnjnaa
namespace Go.Am
open Go Go.RowKit
section
variable {H0 : Type} {enc : TypeId × Value -> H0} {P : Program} {w : World} {held : Bool}
theorem Zb6 : ∀ (ts : List TypeId) (vs : List Value) (ds : List (DataW H0)) (ps : List MemPlace), DataW.TrodAll enc P w 0 (fun _ => true) held ts vs ds ps -> ds.length = ts.length
 | [], [], [], ps, _ => rfl
 | t :: ts, v :: vs, d :: ds, ps, h => by
  obtain ⟨p, q, _, h2, _⟩ := h
  simp [Zb6 ts vs ds q h2]
 | [], [], _ :: _, _, h => h.elim
 | [], _ :: _, [], _, h => h.elim
 | [], _ :: _, _ :: _, _, h => h.elim
 | _ :: _, [], [], _, h => h.elim
 | _ :: _, [], _ :: _, _, h => h.elim
 | _ :: _, _ :: _, [], _, h => h.elim
end
end Go.Am
namespace Go.Proofs.Ytgnpnfkncbnjnaa
open Go Go.Am
theorem Try.laidOut : laidOutB Try.prog = true := by kernel_rfl
theorem Try.own : ownKnob Try.prog.godebug = none := by kernel_rfl
theorem Try.rowed : mapsRowed Try.prog = true := by kernel_rfl
theorem Try.noStops : (Try.prog.stops == []) = true := by kernel_rfl
theorem Try.noKnobs : (Try.prog.stopKnobs == []) = true := by kernel_rfl
theorem Try.plain : (Rows.pumpKnownRow.plainKeys == Try.prog.plainKeys) = true := by kernel_rfl
theorem Try.heard : Try.prog.stopsHeard = true := by kernel_rfl
theorem Try.enters : Try.prog.mayEnter = true := by kernel_rfl
theorem Try.lifts : (Rows.pumpKnownRow.lifted == Try.prog.liftsFinal) = true := by kernel_rfl
theorem Try.makes : (Try.prog.make == some Rows.pumpKnownRow.make) = true := by kernel_rfl
end Go.Proofs.Ytgnpnfkncbnjnaa
namespace Go.Proofs.Ytgnpnfkncbnjnaa
open Go.Am
theorem tok1 : TyOk Try.prog 1 ty1 := Zg (by kernel_rfl) (by kernel_rfl)
theorem tok2 : TyOk Try.prog 2 ty2 := Zg (by kernel_rfl) (by kernel_rfl)
theorem tok3 : TyOk Try.prog 3 ty3 := Zg (by kernel_rfl) (by kernel_rfl)
theorem tok4 : TyOk Try.prog 4 ty4 := Zg (by kernel_rfl) (by kernel_rfl)
theorem tok5 : TyOk Try.prog 5 ty5 := Zg (by kernel_rfl) (by kernel_rfl)
theorem tok9 : TyOk Try.prog 9 ty9 := Zg (by kernel_rfl) (by kernel_rfl)
theorem Zrl : TyOk Try.prog 22 ty22 := Zg (by kernel_rfl) (by kernel_rfl)
theorem Zrm : TyOk Try.prog 23 ty23 := Zg (by kernel_rfl) (by kernel_rfl)
theorem Zrn : TyOk Try.prog 26 ty26 := Zg (by kernel_rfl) (by kernel_rfl)
theorem Zro : TyOk Try.prog 33 ty33 := Zg (by kernel_rfl) (by kernel_rfl)
theorem Zrp : TyOk Try.prog 34 ty34 := Zg (by kernel_rfl) (by kernel_rfl)
theorem Zrq : TyOk Try.prog 35 ty35 := Zg (by kernel_rfl) (by kernel_rfl)
theorem Zrr : TyOk Try.prog 36 ty36 := Zg (by kernel_rfl) (by kernel_rfl)
theorem Zrs : TyOk Try.prog 37 ty37 := Zg (by kernel_rfl) (by kernel_rfl)
theorem Zrt : TyOk Try.prog 39 ty39 := Zg (by kernel_rfl) (by kernel_rfl)
theorem Zru : TyOk Try.prog 42 ty42 := Zg (by kernel_rfl) (by kernel_rfl)
theorem Zrv : TyOk Try.prog 47 ty47 := Zg (by kernel_rfl) (by kernel_rfl)
theorem Zrw : TyOk Try.prog 50 ty50 := Zg (by kernel_rfl) (by kernel_rfl)
theorem Zrx : TyOk Try.prog 56 ty56 := Zg (by kernel_rfl) (by kernel_rfl)
theorem Zry : TyOk Try.prog 61 ty61 := Zg (by kernel_rfl) (by kernel_rfl)
theorem Zrz : TyOk Try.prog 69 ty69 := Zg (by kernel_rfl) (by kernel_rfl)
theorem Zs0 : TyOk Try.prog 71 ty71 := Zg (by kernel_rfl) (by kernel_rfl)
theorem Zs1 : TyOk Try.prog 73 ty73 := Zg (by kernel_rfl) (by kernel_rfl)
theorem Zs2 : TyOk Try.prog 75 ty75 := Zg (by kernel_rfl) (by kernel_rfl)
theorem Zs3 : TyOk Try.prog 77 ty77 := Zg (by kernel_rfl) (by kernel_rfl)
theorem Zs4 : TyOk Try.prog 84 ty84 := Zg (by kernel_rfl) (by kernel_rfl)
theorem Zml : TyOk Try.prog 128 ty128 := Zg (by kernel_rfl) (by kernel_rfl)
theorem Zmm : TyOk Try.prog 130 ty130 := Zg (by kernel_rfl) (by kernel_rfl)
theorem Zmn : TyOk Try.prog 132 ty132 := Zg (by kernel_rfl) (by kernel_rfl)
theorem Zmo : TyOk Try.prog 138 ty138 := Zg (by kernel_rfl) (by kernel_rfl)
theorem Zmp : TyOk Try.prog 140 ty140 := Zg (by kernel_rfl) (by kernel_rfl)
theorem Zmq : TyOk Try.prog 142 ty142 := Zg (by kernel_rfl) (by kernel_rfl)
theorem Zmr : TyOk Try.prog 148 ty148 := Zg (by kernel_rfl) (by kernel_rfl)
theorem Zms : TyOk Try.prog 151 ty151 := Zg (by kernel_rfl) (by kernel_rfl)
theorem Zmt : TyOk Try.prog 154 ty154 := Zg (by kernel_rfl) (by kernel_rfl)
theorem Zmu : TyOk Try.prog 155 ty155 := Zg (by kernel_rfl) (by kernel_rfl)
theorem Zmv : TyOk Try.prog 158 ty158 := Zg (by kernel_rfl) (by kernel_rfl)
theorem Zmw : TyOk Try.prog 162 ty162 := Zg (by kernel_rfl) (by kernel_rfl)
theorem Zmx : TyOk Try.prog 163 ty163 := Zg (by kernel_rfl) (by kernel_rfl)
theorem Zmy : TyOk Try.prog 168 ty168 := Zg (by kernel_rfl) (by kernel_rfl)
theorem Zmz : TyOk Try.prog 169 ty169 := Zg (by kernel_rfl) (by kernel_rfl)
theorem Zn0 : TyOk Try.prog 170 ty170 := Zg (by kernel_rfl) (by kernel_rfl)
theorem Zn1 : TyOk Try.prog 171 ty171 := Zg (by kernel_rfl) (by kernel_rfl)
theorem Zn2 : TyOk Try.prog 172 ty172 := Zg (by kernel_rfl) (by kernel_rfl)
theorem Zn3 : TyOk Try.prog 174 ty174 := Zg (by kernel_rfl) (by kernel_rfl)
theorem Zn4 : TyOk Try.prog 176 ty176 := Zg (by kernel_rfl) (by kernel_rfl)
theorem Zn5 : TyOk Try.prog 181 ty181 := Zg (by kernel_rfl) (by kernel_rfl)
theorem Zn6 : TyOk Try.prog 190 ty190 := Zg (by kernel_rfl) (by kernel_rfl)
theorem Zn7 : TyOk Try.prog 191 ty191 := Zg (by kernel_rfl) (by kernel_rfl)
theorem Zn8 : TyOk Try.prog 193 ty193 := Zg (by kernel_rfl) (by kernel_rfl)
theorem Zn9 : TyOk Try.prog 210 ty210 := Zg (by kernel_rfl) (by kernel_rfl)
theorem Zna : TyOk Try.prog 211 ty211 := Zg (by kernel_rfl) (by kernel_rfl)
theorem Znb : TyOk Try.prog 212 ty212 := Zg (by kernel_rfl) (by kernel_rfl)
theorem Znc : TyOk Try.prog 214 ty214 := Zg (by kernel_rfl) (by kernel_rfl)
theorem Znd : TyOk Try.prog 215 ty215 := Zg (by kernel_rfl) (by kernel_rfl)
theorem Zne : TyOk Try.prog 220 ty220 := Zg (by kernel_rfl) (by kernel_rfl)
theorem Znf : TyOk Try.prog 226 ty226 := Zg (by kernel_rfl) (by kernel_rfl)
theorem Zng : TyOk Try.prog 230 ty230 := Zg (by kernel_rfl) (by kernel_rfl)
theorem Znh : TyOk Try.prog 231 ty231 := Zg (by kernel_rfl) (by kernel_rfl)
theorem Zs5 : Try.prog.funcs[18]? = some Try.f18 /\ (Try.f18.name == "runtime.NumGoroutine") = false := ⟨Try.func18, by kernel_rfl⟩
theorem Zs6 : Try.prog.funcs[20]? = some Try.f20 /\ (Try.f20.name == "runtime.NumGoroutine") = false := ⟨Try.func20, by kernel_rfl⟩
theorem Zs7 : Try.prog.funcs[23]? = some Try.f23 /\ (Try.f23.name == "runtime.NumGoroutine") = false := ⟨Try.func23, by kernel_rfl⟩
theorem Zs8 : Try.prog.funcs[24]? = some Try.f24 /\ (Try.f24.name == "runtime.NumGoroutine") = false := ⟨Try.func24, by kernel_rfl⟩
theorem Zs9 : Try.prog.funcs[25]? = some Try.f25 /\ (Try.f25.name == "runtime.NumGoroutine") = false := ⟨Try.func25, by kernel_rfl⟩
theorem Zsa : Try.prog.funcs[34]? = some Try.f34 /\ (Try.f34.name == "runtime.NumGoroutine") = false := ⟨Try.func34, by kernel_rfl⟩
theorem Zsb : Try.prog.funcs[35]? = some Try.f35 /\ (Try.f35.name == "runtime.NumGoroutine") = false := ⟨Try.func35, by kernel_rfl⟩
theorem Zsc : Try.prog.funcs[36]? = some Try.f36 /\ (Try.f36.name == "runtime.NumGoroutine") = false := ⟨Try.func36, by kernel_rfl⟩
theorem Zsd : Try.prog.funcs[37]? = some Try.f37 /\ (Try.f37.name == "runtime.NumGoroutine") = false := ⟨Try.func37, by kernel_rfl⟩
theorem Zse : Try.prog.funcs[38]? = some Try.f38 /\ (Try.f38.name == "runtime.NumGoroutine") = false := ⟨Try.func38, by kernel_rfl⟩
theorem Zsf : Try.prog.funcs[39]? = some Try.f39 /\ (Try.f39.name == "runtime.NumGoroutine") = false := ⟨Try.func39, by kernel_rfl⟩
theorem Zsg : Try.prog.funcs[41]? = some Try.f41 /\ (Try.f41.name == "runtime.NumGoroutine") = false := ⟨Try.func41, by kernel_rfl⟩
theorem Zsh : Try.prog.funcs[44]? = some Try.f44 /\ (Try.f44.name == "runtime.NumGoroutine") = false := ⟨Try.func44, by kernel_rfl⟩
theorem Zsi : Try.prog.funcs[45]? = some Try.f45 /\ (Try.f45.name == "runtime.NumGoroutine") = false := ⟨Try.func45, by kernel_rfl⟩
theorem Zsj : Try.prog.funcs[49]? = some Try.f49 /\ (Try.f49.name == "runtime.NumGoroutine") = false := ⟨Try.func49, by kernel_rfl⟩
theorem Zsk : Try.prog.funcs[58]? = some Try.f58 /\ (Try.f58.name == "runtime.NumGoroutine") = false := ⟨Try.func58, by kernel_rfl⟩
theorem Zsl : Try.prog.funcs[65]? = some Try.f65 /\ (Try.f65.name == "runtime.NumGoroutine") = false := ⟨Try.func65, by kernel_rfl⟩
theorem Zsm : Try.prog.funcs[67]? = some Try.f67 /\ (Try.f67.name == "runtime.NumGoroutine") = false := ⟨Try.func67, by kernel_rfl⟩
theorem Zsn : Try.prog.funcs[72]? = some Try.f72 /\ (Try.f72.name == "runtime.NumGoroutine") = false := ⟨Try.func72, by kernel_rfl⟩
theorem Zso : Try.prog.funcs[73]? = some Try.f73 /\ (Try.f73.name == "runtime.NumGoroutine") = false := ⟨Try.func73, by kernel_rfl⟩
theorem Zsp : Try.prog.funcs[76]? = some Try.f76 /\ (Try.f76.name == "runtime.NumGoroutine") = false := ⟨Try.func76, by kernel_rfl⟩
theorem Zsq : Try.prog.funcs[83]? = some Try.f83 /\ (Try.f83.name == "runtime.NumGoroutine") = false := ⟨Try.func83, by kernel_rfl⟩
theorem Zsr : Try.prog.funcs[84]? = some Try.f84 /\ (Try.f84.name == "runtime.NumGoroutine") = false := ⟨Try.func84, by kernel_rfl⟩
theorem Zss : Try.prog.funcs[85]? = some Try.f85 /\ (Try.f85.name == "runtime.NumGoroutine") = false := ⟨Try.func85, by kernel_rfl⟩
theorem Zst : Try.prog.funcs[87]? = some Try.f87 /\ (Try.f87.name == "runtime.NumGoroutine") = false := ⟨Try.func87, by kernel_rfl⟩
theorem Zsu : Try.prog.funcs[88]? = some Try.f88 /\ (Try.f88.name == "runtime.NumGoroutine") = false := ⟨Try.func88, by kernel_rfl⟩
theorem Zsv : Try.prog.funcs[94]? = some Try.f94 /\ (Try.f94.name == "runtime.NumGoroutine") = false := ⟨Try.func94, by kernel_rfl⟩
theorem Zsw : Try.prog.funcs[95]? = some Try.f95 /\ (Try.f95.name == "runtime.NumGoroutine") = false := ⟨Try.func95, by kernel_rfl⟩
theorem Zsx : Try.prog.funcs[97]? = some Try.f97 /\ (Try.f97.name == "runtime.NumGoroutine") = false := ⟨Try.func97, by kernel_rfl⟩
theorem Zsy : Try.prog.funcs[98]? = some Try.f98 /\ (Try.f98.name == "runtime.NumGoroutine") = false := ⟨Try.func98, by kernel_rfl⟩
theorem Zsz : Try.prog.funcs[99]? = some Try.f99 /\ (Try.f99.name == "runtime.NumGoroutine") = false := ⟨Try.func99, by kernel_rfl⟩
theorem Zni : Try.prog.funcs[100]? = some Try.f100 /\ (Try.f100.name == "runtime.NumGoroutine") = false := ⟨Try.func100, by kernel_rfl⟩
theorem Znj : Try.prog.funcs[101]? = some Try.f101 /\ (Try.f101.name == "runtime.NumGoroutine") = false := ⟨Try.func101, by kernel_rfl⟩
theorem Znk : Try.prog.funcs[102]? = some Try.f102 /\ (Try.f102.name == "runtime.NumGoroutine") = false := ⟨Try.func102, by kernel_rfl⟩
theorem Znl : Try.prog.funcs[103]? = some Try.f103 /\ (Try.f103.name == "runtime.NumGoroutine") = false := ⟨Try.func103, by kernel_rfl⟩
theorem Znm : Try.prog.funcs[104]? = some Try.f104 /\ (Try.f104.name == "runtime.NumGoroutine") = false := ⟨Try.func104, by kernel_rfl⟩
theorem Znn : Try.prog.funcs[105]? = some Try.f105 /\ (Try.f105.name == "runtime.NumGoroutine") = false := ⟨Try.func105, by kernel_rfl⟩
theorem Zno : Try.prog.funcs[106]? = some Try.f106 /\ (Try.f106.name == "runtime.NumGoroutine") = false := ⟨Try.func106, by kernel_rfl⟩
theorem Znp : Try.prog.funcs[107]? = some Try.f107 /\ (Try.f107.name == "runtime.NumGoroutine") = false := ⟨Try.func107, by kernel_rfl⟩
theorem Znq : Try.prog.funcs[108]? = some Try.f108 /\ (Try.f108.name == "runtime.NumGoroutine") = false := ⟨Try.func108, by kernel_rfl⟩
theorem Znr : Try.prog.funcs[109]? = some Try.f109 /\ (Try.f109.name == "runtime.NumGoroutine") = false := ⟨Try.func109, by kernel_rfl⟩
theorem Zns : Try.prog.funcs[110]? = some Try.f110 /\ (Try.f110.name == "runtime.NumGoroutine") = false := ⟨Try.func110, by kernel_rfl⟩
theorem Znt : Try.prog.funcs[111]? = some Try.f111 /\ (Try.f111.name == "runtime.NumGoroutine") = false := ⟨Try.func111, by kernel_rfl⟩
theorem Znu : Try.prog.funcs[112]? = some Try.f112 /\ (Try.f112.name == "runtime.NumGoroutine") = false := ⟨Try.func112, by kernel_rfl⟩
theorem Znv : Try.prog.funcs[113]? = some Try.f113 /\ (Try.f113.name == "runtime.NumGoroutine") = false := ⟨Try.func113, by kernel_rfl⟩
theorem Znw : Try.prog.funcs[114]? = some Try.f114 /\ (Try.f114.name == "runtime.NumGoroutine") = false := ⟨Try.func114, by kernel_rfl⟩
theorem Znx : Try.prog.funcs[115]? = some Try.f115 /\ (Try.f115.name == "runtime.NumGoroutine") = false := ⟨Try.func115, by kernel_rfl⟩
theorem Zny : Try.prog.funcs[116]? = some Try.f116 /\ (Try.f116.name == "runtime.NumGoroutine") = false := ⟨Try.func116, by kernel_rfl⟩
theorem Znz : Try.prog.funcs[117]? = some Try.f117 /\ (Try.f117.name == "runtime.NumGoroutine") = false := ⟨Try.func117, by kernel_rfl⟩
theorem Zo0 : Try.prog.funcs[118]? = some Try.f118 /\ (Try.f118.name == "runtime.NumGoroutine") = false := ⟨Try.func118, by kernel_rfl⟩
theorem Zo1 : Try.prog.funcs[126]? = some Try.f126 /\ (Try.f126.name == "runtime.NumGoroutine") = false := ⟨Try.func126, by kernel_rfl⟩
theorem Zo2 : Try.prog.funcs[131]? = some Try.f131 /\ (Try.f131.name == "runtime.NumGoroutine") = false := ⟨Try.func131, by kernel_rfl⟩
theorem Zo3 : Try.prog.funcs[133]? = some Try.f133 /\ (Try.f133.name == "runtime.NumGoroutine") = false := ⟨Try.func133, by kernel_rfl⟩
theorem Zo4 : Try.prog.funcs[147]? = some Try.f147 /\ (Try.f147.name == "runtime.NumGoroutine") = false := ⟨Try.func147, by kernel_rfl⟩
theorem Zo5 : Try.prog.funcs[148]? = some Try.f148 /\ (Try.f148.name == "runtime.NumGoroutine") = false := ⟨Try.func148, by kernel_rfl⟩
theorem Zo6 : Try.prog.funcs[149]? = some Try.f149 /\ (Try.f149.name == "runtime.NumGoroutine") = false := ⟨Try.func149, by kernel_rfl⟩
theorem Zo7 : Try.prog.funcs[150]? = some Try.f150 /\ (Try.f150.name == "runtime.NumGoroutine") = false := ⟨Try.func150, by kernel_rfl⟩
theorem Zo8 : Try.prog.funcs[151]? = some Try.f151 /\ (Try.f151.name == "runtime.NumGoroutine") = false := ⟨Try.func151, by kernel_rfl⟩
theorem Zo9 : Try.prog.funcs[152]? = some Try.f152 /\ (Try.f152.name == "runtime.NumGoroutine") = false := ⟨Try.func152, by kernel_rfl⟩
theorem Zoa : Try.prog.funcs[153]? = some Try.f153 /\ (Try.f153.name == "runtime.NumGoroutine") = false := ⟨Try.func153, by kernel_rfl⟩
theorem Zob : Try.prog.funcs[154]? = some Try.f154 /\ (Try.f154.name == "runtime.NumGoroutine") = false := ⟨Try.func154, by kernel_rfl⟩
theorem Zoc : Try.prog.funcs[155]? = some Try.f155 /\ (Try.f155.name == "runtime.NumGoroutine") = false := ⟨Try.func155, by kernel_rfl⟩
theorem Zod : Try.prog.funcs[156]? = some Try.f156 /\ (Try.f156.name == "runtime.NumGoroutine") = false := ⟨Try.func156, by kernel_rfl⟩
theorem Zoe : Try.prog.funcs[157]? = some Try.f157 /\ (Try.f157.name == "runtime.NumGoroutine") = false := ⟨Try.func157, by kernel_rfl⟩
theorem Zof : Try.prog.funcs[158]? = some Try.f158 /\ (Try.f158.name == "runtime.NumGoroutine") = false := ⟨Try.func158, by kernel_rfl⟩
theorem Zog : Try.prog.funcs[159]? = some Try.f159 /\ (Try.f159.name == "runtime.NumGoroutine") = false := ⟨Try.func159, by kernel_rfl⟩
theorem Zoh : Try.prog.funcs[164]? = some Try.f164 /\ (Try.f164.name == "runtime.NumGoroutine") = false := ⟨Try.func164, by kernel_rfl⟩
theorem Zoi : Try.prog.funcs[165]? = some Try.f165 /\ (Try.f165.name == "runtime.NumGoroutine") = false := ⟨Try.func165, by kernel_rfl⟩
theorem Zoj : Try.prog.funcs[171]? = some Try.f171 /\ (Try.f171.name == "runtime.NumGoroutine") = false := ⟨Try.func171, by kernel_rfl⟩
theorem Zok : Try.prog.funcs[178]? = some Try.f178 /\ (Try.f178.name == "runtime.NumGoroutine") = false := ⟨Try.func178, by kernel_rfl⟩
theorem Zol : Try.prog.funcs[179]? = some Try.f179 /\ (Try.f179.name == "runtime.NumGoroutine") = false := ⟨Try.func179, by kernel_rfl⟩
theorem Zom : Try.prog.funcs[180]? = some Try.f180 /\ (Try.f180.name == "runtime.NumGoroutine") = false := ⟨Try.func180, by kernel_rfl⟩
theorem Zon : Try.prog.funcs[181]? = some Try.f181 /\ (Try.f181.name == "runtime.NumGoroutine") = false := ⟨Try.func181, by kernel_rfl⟩
theorem Zt0 : AllNT (fun t i => TyOk Try.prog t i) tyT := ⟨Zmo, ⟨Zrt, ⟨Zrm, ⟨tok4, ⟨tok2, ⟨tok1, trivial, trivial⟩, ⟨tok3, trivial, trivial⟩⟩, ⟨tok9, ⟨tok5, trivial, trivial⟩, ⟨Zrl, trivial, trivial⟩⟩⟩, ⟨Zrq, ⟨Zro, ⟨Zrn, trivial, trivial⟩, ⟨Zrp, trivial, trivial⟩⟩, ⟨Zrs, ⟨Zrr, trivial, trivial⟩, trivial⟩⟩⟩, ⟨Zs1, ⟨Zrx, ⟨Zrv, ⟨Zru, trivial, trivial⟩, ⟨Zrw, trivial, trivial⟩⟩, ⟨Zrz, ⟨Zry, trivial, trivial⟩, ⟨Zs0, trivial, trivial⟩⟩⟩, ⟨Zml, ⟨Zs3, ⟨Zs2, trivial, trivial⟩, ⟨Zs4, trivial, trivial⟩⟩, ⟨Zmn, ⟨Zmm, trivial, trivial⟩, trivial⟩⟩⟩⟩, ⟨Zn3, ⟨Zmw, ⟨Zms, ⟨Zmq, ⟨Zmp, trivial, trivial⟩, ⟨Zmr, trivial, trivial⟩⟩, ⟨Zmu, ⟨Zmt, trivial, trivial⟩, ⟨Zmv, trivial, trivial⟩⟩⟩, ⟨Zn0, ⟨Zmy, ⟨Zmx, trivial, trivial⟩, ⟨Zmz, trivial, trivial⟩⟩, ⟨Zn2, ⟨Zn1, trivial, trivial⟩, trivial⟩⟩⟩, ⟨Znb, ⟨Zn7, ⟨Zn5, ⟨Zn4, trivial, trivial⟩, ⟨Zn6, trivial, trivial⟩⟩, ⟨Zn9, ⟨Zn8, trivial, trivial⟩, ⟨Zna, trivial, trivial⟩⟩⟩, ⟨Znf, ⟨Znd, ⟨Znc, trivial, trivial⟩, ⟨Zne, trivial, trivial⟩⟩, ⟨Znh, ⟨Zng, trivial, trivial⟩, trivial⟩⟩⟩⟩⟩
theorem Zt1 : AllNT (fun f fn => Try.prog.funcs[f]? = some fn /\ (fn.name == "runtime.NumGoroutine") = false) fnT := ⟨Znn, ⟨Zsn, ⟨Zse, ⟨Zs9, ⟨Zs7, ⟨Zs6, ⟨Zs5, trivial, trivial⟩, trivial⟩, ⟨Zs8, trivial, trivial⟩⟩, ⟨Zsc, ⟨Zsb, ⟨Zsa, trivial, trivial⟩, trivial⟩, ⟨Zsd, trivial, trivial⟩⟩⟩, ⟨Zsj, ⟨Zsh, ⟨Zsg, ⟨Zsf, trivial, trivial⟩, trivial⟩, ⟨Zsi, trivial, trivial⟩⟩, ⟨Zsl, ⟨Zsk, trivial, trivial⟩, ⟨Zsm, trivial, trivial⟩⟩⟩⟩, ⟨Zsw, ⟨Zss, ⟨Zsq, ⟨Zsp, ⟨Zso, trivial, trivial⟩, trivial⟩, ⟨Zsr, trivial, trivial⟩⟩, ⟨Zsu, ⟨Zst, trivial, trivial⟩, ⟨Zsv, trivial, trivial⟩⟩⟩, ⟨Znj, ⟨Zsz, ⟨Zsy, ⟨Zsx, trivial, trivial⟩, trivial⟩, ⟨Zni, trivial, trivial⟩⟩, ⟨Znl, ⟨Znk, trivial, trivial⟩, ⟨Znm, trivial, trivial⟩⟩⟩⟩⟩, ⟨Zo6, ⟨Znx, ⟨Zns, ⟨Znq, ⟨Znp, ⟨Zno, trivial, trivial⟩, trivial⟩, ⟨Znr, trivial, trivial⟩⟩, ⟨Znv, ⟨Znu, ⟨Znt, trivial, trivial⟩, trivial⟩, ⟨Znw, trivial, trivial⟩⟩⟩, ⟨Zo2, ⟨Zo0, ⟨Znz, ⟨Zny, trivial, trivial⟩, trivial⟩, ⟨Zo1, trivial, trivial⟩⟩, ⟨Zo4, ⟨Zo3, trivial, trivial⟩, ⟨Zo5, trivial, trivial⟩⟩⟩⟩, ⟨Zof, ⟨Zob, ⟨Zo9, ⟨Zo8, ⟨Zo7, trivial, trivial⟩, trivial⟩, ⟨Zoa, trivial, trivial⟩⟩, ⟨Zod, ⟨Zoc, trivial, trivial⟩, ⟨Zoe, trivial, trivial⟩⟩⟩, ⟨Zok, ⟨Zoi, ⟨Zoh, ⟨Zog, trivial, trivial⟩, trivial⟩, ⟨Zoj, trivial, trivial⟩⟩, ⟨Zom, ⟨Zol, trivial, trivial⟩, ⟨Zon, trivial, trivial⟩⟩⟩⟩⟩⟩
theorem Zt2 : CfgOk Try.prog cfg := Zf1 Zt1 Zt0 (by kernel_rfl)
theorem Zk4 : CodesOk cfg := Zbg (by kernel_rfl)
end Go.Proofs.Ytgnpnfkncbnjnaa
namespace Go.Proofs.Ytgnpnfkncbnjnaa
open Go Go.Am Go.ChangeShapes Go.WideShapes Go.ChangeAt Go.RowKit
set_option maxRecDepth 100000 in
theorem Z8j (os : Os) (started : os.Started) (H : Type) (enc : TypeId × Value -> H) :
  ReturnsInHanded {} Try.checked os 18 .any (Rows.pumpSealsSpec.pre6 enc Try.prog Try.f18 Rows.pumpSealsRow.domain false) (Rows.pumpSealsSpec.post enc Try.prog Try.f18 false true false false) := by
 refine returnsInHanded_of_change (C := Try.checked) Try.own started (by kernel_rfl) Try.func18
  (ChangeSpec.witness6 (enc := enc) (C := Try.checked) false ⟨#[], #[.slice none 0 0, .int .i64 0, .int .i64 0], []⟩ 8 (by kernel_rfl) (by kernel_rfl) (by kernel_rfl) (by kernel_rfl)) ?_
 intro W base args ds gs before hval0 hW hcnd _
 have hW' := hW
 obtain ⟨p, q, hA0, hV, rfl, hfz, hnd⟩ := hW
 have hA : DataW.TrodAll enc Try.prog W 0 (fun _ => true) true Try.f18.params.toList args.toList ds p := hA0
 rw [Try.params18] at hA
 obtain ⟨rfl, rfl⟩ := trodVars_none hV
 simp only [List.append_nil] at hW'
 have hlen : ds.length = 3 := Zb6 _ _ _ _ hA
 have hsup : (([22, 3, 3] : List TypeId).all fun t => suppB Try.prog 12 t) = true := by as_aux_lemma => kernel_rfl
 have hpar : (([22, 3, 3] : List TypeId).all fun t => Try.prog.readableRec t && Nat.blt t Try.prog.types.size) = true := by as_aux_lemma => kernel_rfl
 refine (Z6c (d := 12) Zt2 Zk4 hA (fun t ht => List.all_eq_true.1 hsup t ht) (fun j t v e1 e2 => hval0 j t v (by rw [Try.params18]; simpa using e1) (by simpa using e2)) fun L hl hc => Zeo L hl hc).mono fun e W' ⟨he, hb⟩ => ?_
 subst he
 exact ⟨_, rfl, Zf2 Try.laidOut (fun t ht => by rw [Try.params18] at ht; have := List.all_eq_true.1 hpar t ht; rw [Bool.and_eq_true, Nat.blt_eq] at this; exact this) rfl rfl Try.underlying4 hW' (by match ds, hlen with | [_, _, _], _ => rfl) hb⟩
set_option maxHeartbeats 4000000 in
theorem Z8k : joinedFacts Try.prog 18 Try.f18 Rows.pumpSealsSpec Rows.pumpSealsRow = true := by
 refine Zda Try.laidOut Try.rowed Try.noStops Try.noKnobs Try.plain Try.heard Try.enters Try.lifts Try.makes (by as_aux_lemma => kernel_rfl) (by as_aux_lemma => kernel_rfl) (by as_aux_lemma => kernel_rfl) (by as_aux_lemma => kernel_rfl) (by as_aux_lemma => kernel_rfl)
  (by as_aux_lemma => kernel_rfl) (by as_aux_lemma => kernel_rfl) (by as_aux_lemma => kernel_rfl) (by as_aux_lemma => kernel_rfl) ?_
 kernel_rfl
theorem seals_holds : Rows.PumpSealsSaid :=
 OpenClaim.holds_of_wide 18 Try.f18 rfl rfl rfl rfl rfl rfl rfl ⟨rfl, rfl, rfl, rfl, rfl⟩ rfl rfl rfl rfl rfl (by as_aux_lemma => kernel_rfl) Try.func18 Z8k
  (of_decide_eq_true (by as_aux_lemma => kernel_rfl)) (by as_aux_lemma => unfold Func.isWrapper; first | (rw [if_pos (by decide +kernel)]; kernel_rfl) | (rw [if_neg (by decide +kernel)]; exact ⟨rfl, rfl⟩))
  (fun os started H enc _ => Z8j os started H enc)
end Go.Proofs.Ytgnpnfkncbnjnaa
