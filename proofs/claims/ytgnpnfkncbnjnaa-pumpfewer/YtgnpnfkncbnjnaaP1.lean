/- The statement PumpFewer holds for every input, without further conditions: a part of its proof (an abstract machine for the loaded code, its soundness, and what the functions answer in it). -/
import Derived.Test.YtgnpnfkncbnjnaaP0
import Derived.Maps.RangeRun
import Derived.MapKept
import Derived.OwnWalkIn
import Derived.RangeFuncRecord
import Derived.OrdersIn
import Derived.LoopNIn
set_option linter.unusedSimpArgs false
set_option linter.unusedVariables false
namespace Go.Am
open Go
section
variable {P : Program} {C : Cfg} {ρ : Rho} {s : St} {w : World}
theorem Z7q {b : Nm} {cs l : List AV} {rw_ : Bool} {u : Nat} (hr : HR ρ s.H w) (hx : hget s.H b = some (.cells cs rw_ u)) {o n : Nat} (h : readN cs o n = some l) {p : Place} (hp : ρ b = some p) :
  ∃ vs, VRs ρ l vs /\ vs.length = n /\ (∀ c ∈ l, c.sc = true) /\ ∀ w' : World, w'.heap = w.heap -> (loadCells ⟨p.blk, p.off + o, none⟩ n).run P w' = .ok ⟨vs⟩ w' := by
 obtain ⟨q, hq, hbo⟩ := hr.blocks _ _ hx
 rw [hp] at hq; obtain rfl := Option.some.inj hq
 obtain ⟨_, ccs, e, fr, ho, _, _, hc⟩ := hbo
 obtain ⟨vs, h1, h2, h3, h4⟩ := Yd hc h
 refine ⟨vs, h1, h2, h4, fun w' hw => ?_⟩
 have := run_loadCells_list (P := P) w' ⟨p.blk, p.off + o, none⟩ vs (fun j v hv => by rw [Yj]; simp [World.cell?, hw, ho, h3 j v hv])
 rw [h2] at this; exact this
theorem Z4x {l : List AV} {vs : List Value} (hv : VRs ρ l vs) (hs : ∀ c ∈ l, c.sc = true) : ∀ v ∈ vs, v.oneCell' = true := by
 intro v hm
 obtain ⟨i, hi⟩ := List.mem_iff_getElem?.1 hm
 have hlt : i < l.length := by rw [VRs.length _ _ hv]; exact (List.getElem?_eq_some_iff.1 hi).1
 obtain ⟨c, hc⟩ := Ym hlt
 obtain ⟨u, hu, hr⟩ := VRs.nth _ _ hv i c hc
 rw [hi] at hu; obtain rfl := Option.some.inj hu
 exact Z7e (hs c (Xt hc)) hr
theorem Z5x (ρ : Rho) : ∀ l : List UInt8, VRs ρ (bytesAV l) (l.map fun b => Value.int .u8 b.toNat) /\ (∀ c ∈ bytesAV l, c.sc = true)
 | [] => ⟨by simp [bytesAV, VRs], by simp [bytesAV]⟩
 | b :: r => by
  obtain ⟨h1, h2⟩ := Z5x ρ r
  refine ⟨by simp only [bytesAV, List.map_cons, VRs]; exact ⟨_, _, rfl, by simp [VR], h1⟩, ?_⟩
  intro c hc
  rcases List.mem_cons.1 hc with rfl | hc
  ·rfl
  ·exact h2 c hc
theorem Z5y {z : Nat} : ∀ {l : List AV}, okZ z l = true -> ∀ e ∈ l, e.cells.length = z
 | [], _, e, he => by simp at he
 | a :: r, h, e, he => by
  unfold okZ at h
  cases hb : Nat.beq a.cells.length z with
  | false => rw [hb] at h; cases h
  | true =>
   rw [hb] at h
   rcases List.mem_cons.1 he with rfl | he
   ·exact Nat.eq_of_beq_eq_true hb
   ·exact Z5y h e he
theorem Z0x {ρ : Rho} : ∀ {l : List AV} {vs : List Value}, VRs ρ l vs -> (∀ a ∈ l, a.okc = true) -> VRs ρ (flatA l) (vs.flatMap vcells) /\ ∀ c ∈ flatA l, c.sc = true
 | [], vs, h, _ => by simp only [VRs] at h; subst h; simp [flatA, VRs]
 | a :: r, vs, h, h2 => by
  simp only [VRs] at h
  obtain ⟨v, t, rfl, h1, h3⟩ := h
  obtain ⟨g1, g2⟩ := Z15 h1 (h2 a List.mem_cons_self)
  obtain ⟨k1, k2⟩ := Z0x h3 fun a ha => h2 a (List.mem_cons_of_mem _ ha)
  rw [List.flatMap_cons]
  refine ⟨VRs.append _ _ _ _ g1 k1, fun c hc => ?_⟩
  rcases List.mem_append.1 hc with hc | hc
  ·exact g2 c hc
  ·exact k2 c hc
theorem Y3 {z : Nat} : ∀ {vs : List Value}, (∀ v ∈ vs, (vcells v).length = z) -> (vs.flatMap vcells).length = vs.length * z
 | [], _ => by simp
 | v :: r, h => by
  rw [List.flatMap_cons, List.length_append, h v List.mem_cons_self, Y3 fun u hu => h u (List.mem_cons_of_mem _ hu), List.length_cons, Nat.succ_mul, Nat.add_comm]
theorem Z3a (hr : HR ρ s.H w) {z : Nat} {l : List AV} {a : Option Addr} {c : Nat} (hl : l ≠ [] -> ∃ blk off z, a = some ⟨blk, off, none⟩ /\ 1 <= z /\ FR ρ blk off z l) (hz : okZ z l = true) :
  ∃ vs, VRs ρ l vs /\ (∀ a ∈ l, a.okc = true) /\ (∀ v ∈ vs, (vcells v).length = z) /\ vs.length = l.length /\ ∀ w' : World, w'.heap = w.heap -> (Builtin.firstCells z l.length (.slice a l.length c)).run P w' = .ok ⟨vs.flatMap vcells⟩ w' := by
 by_cases hne : l = []
 ·subst hne
  refine ⟨[], by simp [VRs], by simp, by simp, rfl, fun w' _ => ?_⟩
  cases a with
  | none => simp [Builtin.firstCells]
  | some a =>
   have := run_loadCells_list (P := P) w' a [] (by simp)
   simp only [Builtin.firstCells, List.length_nil, Nat.zero_mul]; exact this
 ·obtain ⟨blk, off, z', rfl, hz1, hf⟩ := hl hne
  obtain ⟨vs, g1, g2, g3, g4⟩ := hf.elim
  have hzz : z' = z := by
   cases l with
   | nil => exact absurd rfl hne
   | cons b r => rw [<- (g2 b List.mem_cons_self).2]; exact Z5y hz b List.mem_cons_self
  subst hzz
  have hvl : vs.length = l.length := (VRs.length _ _ g1).symm
  refine ⟨vs, g1, fun a ha => (g2 a ha).1, g3, hvl, fun w' hw => ?_⟩
  have := run_loadCells_list (P := P) w' ⟨blk, off, none⟩ (vs.flatMap vcells) (fun j v hv => by
   obtain ⟨ccs, e, fr, ho, hc⟩ := hr.frz _ _ _ (g4 j v hv)
   rw [Yj]; simp [World.cell?, hw, ho, hc])
  rw [Y3 g3, hvl] at this
  simp only [Builtin.firstCells]; exact this
theorem Z7r (hr : HR ρ s.H w) {z : Nat} {x : AV} {cx : Value} (hx : VR ρ x cx) {Q : (Nat × List AV) × St -> Prop} (h : (elemsA z x s).All Q) :
  ∃ m l vs, Q ((m, l), s) /\ (Builtin.lenOf cx).run P w = .ok m w /\ (∀ w' : World, w'.heap = w.heap -> (Builtin.firstCells z m cx).run P w' = .ok ⟨vs⟩ w') /\ VRs ρ l vs /\ (∀ c ∈ l, c.sc = true) /\ vs.length = m * z := by
 unfold elemsA at h
 cases x <;> (try simp only at h) <;> try exact h.elim
 case nils =>
  simp only [VR] at hx; subst hx
  exact ⟨0, [], [], h, by simp [Builtin.lenOf], fun w' _ => by simp [Builtin.firstCells], by simp [VRs], by simp, by simp⟩
 case empty =>
  simp only [VR] at hx; obtain ⟨a, rfl⟩ := hx
  refine ⟨0, [], [], h, by simp [Builtin.lenOf], fun w' _ => ?_, by simp [VRs], by simp, by simp⟩
  cases a with
  | none => simp [Builtin.firstCells]
  | some a =>
   have := run_loadCells_list (P := P) w' a [] (by simp)
   simp only [Builtin.firstCells, Nat.zero_mul]; exact this
 case lst l =>
  simp only [VR] at hx; obtain ⟨a, c, rfl, h1, h2⟩ := hx
  cases hz : okZ z l with
  | false => rw [hz] at h; exact h.elim
  | true =>
   rw [hz] at h
   obtain ⟨vs, g1, g2, g3, g4, g5⟩ := Z3a (P := P) (c := c) hr h2 hz
   obtain ⟨k1, k2⟩ := Z0x g1 g2
   exact ⟨_, _, _, h, by simp [Builtin.lenOf], g5, k1, k2, by rw [Y3 g3, g4]⟩
 case own b l =>
  simp only [VR] at hx; obtain ⟨p, c, hp, rfl, h1, h2, h3, h4, h5⟩ := hx
  cases hz : okZ z l with
  | false => rw [hz] at h; exact h.elim
  | true =>
   rw [hz] at h
   obtain ⟨vs, g1, g2, g3, g4, g5⟩ := Z3a (P := P) (c := c) hr (fun _ => ⟨_, _, _, rfl, h2, h5⟩) hz
   obtain ⟨k1, k2⟩ := Z0x g1 g2
   exact ⟨_, _, _, h, by simp [Builtin.lenOf], g5, k1, k2, by rw [Y3 g3, g4]⟩
 case str t =>
  simp only [VR] at hx; subst hx
  cases hz : Nat.beq z 1 with
  | false => rw [hz] at h; exact h.elim
  | true =>
   rw [hz] at h
   have hz1 := Nat.eq_of_beq_eq_true hz; subst hz1
   obtain ⟨h1, h2⟩ := Z5x ρ t.data.toList
   refine ⟨_, _, _, h, by simp [Builtin.lenOf], fun w' _ => ?_, h1, h2, ?_⟩
   ·have : t.extract 0 t.size = t := by simp
    simp only [Builtin.firstCells, this, Sem.run_pure]
    congr 1
    apply Array.ext'; simp
   ·simp
 case slice b o n c ex =>
  simp only [VR] at hx
  obtain ⟨p, o', c', hp, aa, rfl, ha, h1, h2, h3, h4, h5⟩ := hx
  cases n with
  | zero =>
   simp only at h
   exact ⟨0, [], [], h, by simp [Builtin.lenOf], fun w' _ => by
    have := run_loadCells_list (P := P) w' aa [] (by simp)
    simp only [Builtin.firstCells, Nat.zero_mul]; exact this, by simp [VRs], by simp, by simp⟩
  | succ n =>
   obtain rfl := ha (by omega)
   simp only at h
   obtain ⟨y, hy, hq⟩ := (Zo _ _ _).1 ((M.all_bind _ _ _ _).1 h)
   cases y with
   | cells cs rw_ u =>
    simp only at hq
    cases hn : readN cs o ((n + 1) * z) with
    | none => rw [hn] at hq; exact hq.elim
    | some l =>
     rw [hn] at hq
     obtain ⟨vs, g1, g2, g3, g4⟩ := Z7q (P := P) hr hy hn hp
     refine ⟨_, _, vs, hq, by simp [Builtin.lenOf], fun w' hw => ?_, g1, g3, g2⟩
     simp only [Builtin.firstCells, h1 (by omega)]
     exact g4 w' hw
   | _ => exact hq.elim
inductive Src (P : Program) (w : World) (u : TypeId) (i : TypeInfo) (cx : Value) (m : Nat) (news : List Value) : Prop
 | seq (d : TypeDesc) (hut : P.underlying u = some d) (hd : isSeq d = true) (hlen : (Builtin.lenOf cx).run P w = .ok m w) (hnew : ∀ w' : World, w'.heap = w.heap -> (Builtin.firstCells i.size m cx).run P w' = .ok ⟨news⟩ w')
 | zero (k k' : IntKind) (l : Int) (z : Value) (hut : P.underlying u = some (.int k)) (hx : cx = .int k' l) (h0 : 0 <= IntKind.i64.wrap l) (hm : m = (IntKind.i64.wrap l).toNat) (hb : m * i.bytes <= 140737488355328) (hz : i.zero = some z) (hs : z.cells.size = i.size) (hn : news = (Builtin.zeroCells z.cells m).toList)
theorem X6 (t u ty e : TypeId) (i : TypeInfo) (z : Value) (ht : P.underlying t = some (.slice e)) (hi : P.info? e = some i) (hz : i.zero = some z)
  (base : Option Addr) (n c m : Nat) (cx : Value) (news olds : List Value) (hsrc : Src P w u i cx m news) (hold : (Builtin.firstCells i.size n (.slice base n c)).run P w.drew = .ok ⟨olds⟩ w.drew)
  (hg : c < n + m) (hroom : (n + m) * i.bytes <= 140737488355328) (hb : 1 <= i.bytes) :
  (Builtin.append_ #[t, u] ty #[.slice base n c, cx]).run P w = .ok (.slice (some ⟨w.heap.size, 0, none⟩) (n + m) (grownCap w (n + m) c e))
    (w.drew.alloc (.cells ⟨(olds ++ news) ++ (Builtin.zeroCells z.cells (grownCap w (n + m) c e - (n + m))).toList⟩ e)) := by
 have hn : ¬ (n + m <= c) := by omega
 have hsm : n + m <= 140737488355328 := by have := Nat.mul_le_mul_left (n + m) hb; omega
 have h63' : ¬ (9223372036854775807 < ((n : Int) + (m : Int))) := by omega
 have h48' : ¬ (281474976710656 < Builtin.nextslicecap (n + m) c * i.bytes) := by have := growslice_fits (bytes := i.bytes) hg hroom; omega
 cases hsrc with
 | seq d hut hd hlen hnew =>
  have hnew := hnew w.drew rfl
  unfold Builtin.append_
  cases d <;> first | (simp [isSeq] at hd; done) | (simp [Go.run_underlying ht, Go.run_underlying hut, sizeOf, typeInfo, zeroValue, hi, hz, hlen, hn, h63', h48', Question.forced, hnew, hold, newRow, grownCap]; congr 2; apply Array.ext'; simp)
 | zero k k' l z' hut hx h0 hm hbb hz' hs hnn =>
  rw [hz] at hz'; obtain rfl := Option.some.inj hz'
  subst hx
  obtain ⟨q, hq⟩ : ∃ q, q = IntKind.i64.wrap l := ⟨_, rfl⟩
  rw [<- hq] at h0 hm
  have hqm : (q.toNat : Int) = q := Int.toNat_of_nonneg h0
  have h1 : ¬ q < 0 := by omega
  have h2 : ¬ (281474976710656 < q * (i.bytes : Int)) := by
   rw [<- hqm, <- hm]
   have : ((m * i.bytes : Nat) : Int) <= 140737488355328 := by omega
   rw [Int.natCast_mul] at this; omega
  have hap : ∀ w' : World, (if m * i.size = 0 then (pure #[] : Sem (Array Value)) else pure (Builtin.zeroCells z.cells m)).run P w' = .ok ⟨news⟩ w' := by
   intro w'
   have hl : news.length = m * i.size := by rw [hnn, Array.length_toList, size_zeroCells, hs]
   by_cases hc : m * i.size = 0
   ·rw [if_pos hc]; have := List.eq_nil_of_length_eq_zero (hl.trans hc); subst this; rfl
   ·rw [if_neg hc, hnn]; rfl
  have hq' : IntKind.i64.wrap l = q := hq.symm
  have hmm : q.toNat = m := hm.symm
  have h63'' : ¬ (IntKind.i64.max < ((n + m : Nat) : Int)) := by simp [IntKind.max, IntKind.signed, IntKind.bits]; omega
  have hap' := hap w.drew
  have hmx : ¬ (9223372036854775807 < (n : Int) + max q 0) := by omega
  unfold Builtin.append_
  by_cases hc : m * i.size = 0
  ·rw [if_pos hc] at hap'
   simp at hap'
   have hc' : m = 0 \/ i.size = 0 := Nat.mul_eq_zero.1 hc
   simp [Go.run_underlying ht, Go.run_underlying hut, sizeOf, typeInfo, zeroValue, hi, hz, asInt, asIntOf, hq', h1, h2, hmm, hn, h63', hmx, h48', Question.forced, hold, newRow, grownCap, hc, hap']
   try (congr 2; apply Array.ext'; simp)
  ·rw [if_neg hc] at hap'
   simp at hap'
   have hc' : ¬ (m = 0 \/ i.size = 0) := fun h => hc (Nat.mul_eq_zero.2 h)
   simp [Go.run_underlying ht, Go.run_underlying hut, sizeOf, typeInfo, zeroValue, hi, hz, asInt, asIntOf, hq', h1, h2, hmm, hn, h63', hmx, h48', Question.forced, hold, newRow, grownCap, hc, hap']
   try (congr 2; apply Array.ext'; simp)
theorem Zs (t u ty e : TypeId) (i : TypeInfo) (ht : P.underlying t = some (.slice e)) (hi : P.info? e = some i)
  (base : Option Addr) (n c m : Nat) (cx : Value) (news : List Value) (hsrc : Src P w u i cx m news) (hg : n + m <= c) {w' : World} (hst : ∀ a, base = some a -> (storeCells (a.add (n * i.size)) news).run P w = .ok () w') (h0 : base = none -> w' = w) :
  (Builtin.append_ #[t, u] ty #[.slice base n c, cx]).run P w = .ok (.slice base (n + m) c) w' := by
 cases hsrc with
 | seq d hut hd hlen hnew =>
  have hnew := hnew w rfl
  unfold Builtin.append_
  cases base with
  | none =>
   obtain rfl := h0 rfl
   cases d <;> first | (simp [isSeq] at hd; done) | simp [Go.run_underlying ht, Go.run_underlying hut, sizeOf, typeInfo, hi, hlen, hg, hnew]
  | some a =>
   have := hst a rfl
   cases d <;> first | (simp [isSeq] at hd; done) | simp [Go.run_underlying ht, Go.run_underlying hut, sizeOf, typeInfo, hi, hlen, hg, hnew, this]
 | zero k k' l z' hut hx hge hm hbb hz hs hnn =>
  subst hx
  obtain ⟨q, hq⟩ : ∃ q, q = IntKind.i64.wrap l := ⟨_, rfl⟩
  rw [<- hq] at hge hm
  have hqm : (q.toNat : Int) = q := Int.toNat_of_nonneg hge
  have h1 : ¬ q < 0 := by omega
  have h2 : ¬ (281474976710656 < q * (i.bytes : Int)) := by
   rw [<- hqm, <- hm]
   have : ((m * i.bytes : Nat) : Int) <= 140737488355328 := by omega
   rw [Int.natCast_mul] at this; omega
  have hq' : IntKind.i64.wrap l = q := hq.symm
  have hmm : q.toNat = m := hm.symm
  have hl : news.length = m * i.size := by rw [hnn, Array.length_toList, size_zeroCells, hs]
  unfold Builtin.append_
  by_cases hc : m * i.size = 0
  ·have hnil := List.eq_nil_of_length_eq_zero (hl.trans hc)
   subst hnil
   have hc' : m = 0 \/ i.size = 0 := Nat.mul_eq_zero.1 hc
   cases base with
   | none =>
    obtain rfl := h0 rfl
    simp [Go.run_underlying ht, Go.run_underlying hut, sizeOf, typeInfo, zeroValue, hi, hz, asInt, asIntOf, hq', h1, h2, hmm, hg, hc]
   | some a =>
    have := hst a rfl
    simp [Go.run_underlying ht, Go.run_underlying hut, sizeOf, typeInfo, zeroValue, hi, hz, asInt, asIntOf, hq', h1, h2, hmm, hg, hc, this]
  ·have hc' : ¬ (m = 0 \/ i.size = 0) := fun h => hc (Nat.mul_eq_zero.2 h)
   cases base with
   | none =>
    obtain rfl := h0 rfl
    simp [Go.run_underlying ht, Go.run_underlying hut, sizeOf, typeInfo, zeroValue, hi, hz, asInt, asIntOf, hq', h1, h2, hmm, hg, hc]
   | some a =>
    have := hst a rfl
    rw [hnn] at this
    simp [Go.run_underlying ht, Go.run_underlying hut, sizeOf, typeInfo, zeroValue, hi, hz, asInt, asIntOf, hq', h1, h2, hmm, hg, hc, this]
theorem Z7s (hr : HR ρ s.H w) (hf : Fr ρ s) {k cap z : Nat} {l : List AV} {vs rest : List Value} (hv : VRs ρ l vs) (hs : ∀ c ∈ l, c.sc = true) (hcap : k <= cap) (hl : vs.length = k * z) (hrest : rest.length = (cap - k) * z) (e : TypeId) {Q : AV × St -> Prop} (h : (newM (.cells l true z) |>.bind (fun i => M.ret (.slice i 0 k k false)) <| s).All Q) :
  ∃ v s' ρ' cv, Q (v, s') /\ cv = .slice (some ⟨w.heap.size, 0, none⟩) k cap /\ Stp ρ s w ρ' s' (w.drew.alloc (.cells ⟨vs ++ rest⟩ e)) /\ HR ρ' s'.H (w.drew.alloc (.cells ⟨vs ++ rest⟩ e)) /\ VR ρ' v cv := by
 have hr' : HR ρ s.H w.drew := hr.world rfl
 obtain ⟨k1, k2⟩ := Z3t hr' hf hv hs e z rest
 have hst : Stp ρ s w ρ s w.drew := (Stp.refl ρ s w).world rfl ⟨rfl, rfl, rfl⟩
 refine ⟨_, _, _, _, h, rfl, hst.trans k1, k2, ?_⟩
 simp only [VR]
 refine ⟨_, 0, cap, Rho.upd_same .., _, rfl, fun _ => rfl, fun _ => rfl, fun h => (by cases h), Nat.le_refl _, hcap, ?_⟩
 intro _
 have h1 : (cap - k) * z + k * z = cap * z := by rw [<- Nat.add_mul]; congr 1; omega
 simp only [List.length_append, hl, hrest]
 omega
theorem Z2i {old new : List AV} {o' nz : Nat} {ccs : Array Value} {ovs nvs : List Value} (ho : VRs ρ old ovs) (hos : ∀ c ∈ old, c.sc = true) (hol : ovs.length = nz) (hov : ∀ j v, ovs[j]? = some v -> ccs[o' + j]? = some v)
  (hnv : VRs ρ new nvs) (hns : ∀ c ∈ new, c.sc = true) (hfit : o' + nz + nvs.length <= ccs.size) :
  CellsR ρ (old ++ new) o' (ccs.toList.take (o' + nz) ++ nvs ++ ccs.toList.drop (o' + nz + nvs.length)).toArray := by
 intro i c hi
 obtain ⟨v, h1, h2⟩ := VRs.nth _ _ (VRs.append _ _ _ _ ho hnv) i c hi
 refine ⟨(List.mem_append.1 (Xt hi)).elim (hos c) (hns c), v, ?_, h2⟩
 have e1 : (ccs.toList.take (o' + nz)).length = o' + nz := by simp; omega
 rw [List.getElem?_toArray, List.append_assoc]
 by_cases hlt : i < nz
 ·rw [List.getElem?_append_left (by omega)] at h1 ⊢
  rw [List.getElem?_take, if_pos (by omega)]
  simpa using hov i v h1
 ·rw [List.getElem?_append_right (by omega)] at h1 ⊢
  have hn := (List.getElem?_eq_some_iff.1 h1).1
  rw [e1, List.getElem?_append_left (by omega)]
  rw [<- h1]; congr 1; omega
theorem Z0t (zs : List Value) (n : Nat) : (Builtin.zeroCells ⟨zs⟩ n).toList = repeatV zs n := by
 unfold Builtin.zeroCells
 by_cases hz : 0 < zs.length
 ·rw [<- Z1c zs hz n]
  simp [Array.toList_range]
 ·have h0 : zs.length = 0 := by omega
  have := List.eq_nil_of_length_eq_zero h0
  subst this
  rw [List.eq_nil_of_length_eq_zero (l := repeatV [] n) (by rw [Zy]; simp)]
  simp
theorem Z7t (hr : HR ρ s.H w) {u : TypeId} {i : TI} {j : TypeInfo} {z : AV} {zv : Value} {zs : List Value} {d : TypeDesc} {x : AV} {cx : Value} (hx : VR ρ x cx) (huu : P.underlying u = some d) (hjs : j.size = i.size) (hjb : j.bytes = i.bytes)
  (hzv : j.zero = some zv) (hzcells : zv.cells = ⟨zs⟩) (hzs : VRs ρ z.cells zs) (hzsc : ∀ c ∈ z.cells, c.sc = true) (hzl : zs.length = i.size) {Q : (Nat × List AV) × St -> Prop} (h : (srcA i z d x s).All Q) :
  ∃ m l vs, Q ((m, l), s) /\ Src P w u j cx m vs /\ VRs ρ l vs /\ (∀ c ∈ l, c.sc = true) /\ vs.length = m * i.size := by
 unfold srcA at h
 cases hd : isSeq d with
 | true =>
  rw [hd] at h
  obtain ⟨m, l, vs, h1, h2, h3, h4, h5, h6⟩ := Z7r (P := P) (w := w) hr hx h
  exact ⟨m, l, vs, h1, .seq d huu hd h2 (by rw [hjs]; exact h3), h4, h5, h6⟩
 | false =>
  rw [hd] at h
  cases d <;> (try simp only at h) <;> try exact h.elim
  rename_i k
  cases x <;> (try simp only at h) <;> try exact h.elim
  rename_i k' l
  simp only [VR] at hx; subst hx
  cases h0 : decide (0 <= wrapF .i64 l) with
  | false => rw [h0] at h; exact h.elim
  | true =>
   cases hb : Nat.ble ((wrapF .i64 l).toNat * i.bytes) 140737488355328 with
   | false => rw [h0, hb] at h; exact h.elim
   | true =>
    rw [h0, hb] at h
    rw [Y2] at h h0 hb
    obtain ⟨g1, g2⟩ := Jx hzs hzsc (IntKind.i64.wrap l).toNat
    have e : (Builtin.zeroCells zv.cells (IntKind.i64.wrap l).toNat).toList = repeatV zs (IntKind.i64.wrap l).toNat := by rw [hzcells]; exact Z0t _ _
    refine ⟨_, _, _, h, .zero k k' l zv huu rfl (of_decide_eq_true h0) rfl (by rw [hjb]; exact Nat.le_of_ble_eq_true hb) hzv (by rw [hzcells, hjs]; simpa using hzl) rfl, ?_, g2, ?_⟩
    ·rw [e]; exact g1
    ·rw [Array.length_toList, size_zeroCells, hzcells]; simp [hzl]
theorem Z9x (hr : HR ρ s.H w) {u : TypeId} {i : TI} {j : TypeInfo} {z : AV} {zv : Value} {zs : List Value} {d : TypeDesc} {x : AV} {cx : Value} (hx : VR ρ x cx) (huu : P.underlying u = some d) (hjs : j.size = i.size) (hjb : j.bytes = i.bytes)
  (hzv : j.zero = some zv) (hzcells : zv.cells = ⟨zs⟩) (hzs : VRs ρ z.cells zs) (hzsc : ∀ c ∈ z.cells, c.sc = true) (hzl : zs.length = i.size) {Q : (Nat × List AV) × St -> Prop} (h : (srcF i z d x s).All Q) :
  ∃ m l vs, Q ((m, l), s) /\ Src P w u j cx m (vs.flatMap vcells) /\ VRs ρ l vs /\ (∀ a ∈ l, a.okc = true) /\ (∀ v ∈ vs, (vcells v).length = i.size) /\ l.length = m := by
 have hrest : ((srcA i z d x).bind (fun y => M.ret (y.1, rowsA i.size y.1 y.2)) s).All Q -> ∃ m l vs, Q ((m, l), s) /\ Src P w u j cx m (vs.flatMap vcells) /\ VRs ρ l vs /\ (∀ a ∈ l, a.okc = true) /\ (∀ v ∈ vs, (vcells v).length = i.size) /\ l.length = m := by
  intro h
  obtain ⟨m, l, us, h1, h2, h3, h4, h5⟩ := Z7t (P := P) (w := w) hr hx huu hjs hjb hzv hzcells hzs hzsc hzl ((M.all_bind _ _ _ _).1 h)
  obtain ⟨vs, g1, g2, g3, g4, g5⟩ := Jy m h3 h4 h5
  exact ⟨m, _, vs, h1, by rw [g4]; exact h2, g1, g2, g3, g5⟩
 unfold srcF at h
 cases hd : isSeq d with
 | false => rw [hd] at h; cases x <;> exact hrest h
 | true =>
  rw [hd] at h
  cases x <;> (try (exact hrest h))
  case lst l =>
   simp only at h
   simp only [VR] at hx; obtain ⟨a, c, rfl, h1, h2⟩ := hx
   cases hz : okZ i.size l with
   | false => rw [hz] at h; exact h.elim
   | true =>
    rw [hz] at h
    obtain ⟨vs, g1, g2, g3, g4, g5⟩ := Z3a (P := P) (c := c) hr h2 hz
    exact ⟨_, _, vs, h, .seq d huu hd (by simp [Builtin.lenOf]) (by rw [hjs]; exact g5), g1, g2, g3, rfl⟩
  case own b l =>
   simp only at h
   simp only [VR] at hx; obtain ⟨p, c, hp, rfl, h1, h2, h3, h4, h5⟩ := hx
   cases hz : okZ i.size l with
   | false => rw [hz] at h; exact h.elim
   | true =>
    rw [hz] at h
    obtain ⟨vs, g1, g2, g3, g4, g5⟩ := Z3a (P := P) (c := c) hr (fun _ => ⟨_, _, _, rfl, h2, h5⟩) hz
    exact ⟨_, _, vs, h, .seq d huu hd (by simp [Builtin.lenOf]) (by rw [hjs]; exact g5), g1, g2, g3, rfl⟩
theorem Z6o (hr : HR ρ s.H w) (hf : Fr ρ s) {cap z : Nat} {l : List AV} {vs rest : List Value} (hv : VRs ρ l vs) (ho : ∀ a ∈ l, a.okc = true) (hlen : ∀ v ∈ vs, (vcells v).length = z) (hne : l ≠ []) (hz : 1 <= z) (hcap : l.length <= cap) (hrest : rest.length = (cap - l.length) * z) (e : TypeId) {Q : AV × St -> Prop} (h : (growF l z s).All Q) :
  ∃ v s' ρ' cv, Q (v, s') /\ cv = .slice (some ⟨w.heap.size, 0, none⟩) l.length cap /\ Stp ρ s w ρ' s' (w.drew.alloc (.cells ⟨vs.flatMap vcells ++ rest⟩ e)) /\ HR ρ' s'.H (w.drew.alloc (.cells ⟨vs.flatMap vcells ++ rest⟩ e)) /\ VR ρ' v cv := by
 have hr' : HR ρ s.H w.drew := hr.world rfl
 have hst : Stp ρ s w ρ s w.drew := (Stp.refl ρ s w).world rfl ⟨rfl, rfl, rfl⟩
 obtain ⟨ccs, hccs⟩ : ∃ ccs : Array Value, ccs = ⟨vs.flatMap vcells ++ rest⟩ := ⟨_, rfl⟩
 have hvl : vs.length = l.length := (VRs.length _ _ hv).symm
 have hfl := Y3 hlen
 have h1 : (cap - l.length) * z + l.length * z = cap * z := by rw [<- Nat.add_mul]; congr 1; omega
 have hsz : ccs.size = cap * z := by
  rw [hccs]
  show (vs.flatMap vcells ++ rest).length = _
  rw [List.length_append, hfl, hrest, hvl]; omega
 rw [<- hccs]
 obtain ⟨k1, k2⟩ := Jw hr' hf (.tok l.length z) (.cells ccs e) ⟨w.heap.size, 0, ccs.size, z⟩ rfl ⟨rfl, hz, ccs, e, rfl, rfl⟩ (fun m l e h => by cases h)
 have hnm : (ρ.upd s.name ⟨w.heap.size, 0, ccs.size, z⟩) s.name = some ⟨w.heap.size, 0, ccs.size, z⟩ := Rho.upd_same ..
 have hgt : hget (s.new (.tok l.length z)).H s.name = some (.tok l.length z) := Z6 ..
 have hob : (w.drew.alloc (.cells ccs e)).heap[w.heap.size]? = some (.cells ccs e (0, 0)) := by show (w.heap.push _)[w.heap.size]? = some _; simp
 obtain ⟨j1, j2⟩ := Z5u k2 hgt hnm 0 (l.length * z) (by simp) hob
 refine ⟨_, _, _, _, h, rfl, (hst.trans k1).trans j1, j2, ?_⟩
 simp only [VR]
 refine ⟨_, cap, hnm, rfl, hne, hz, hcap, by simp [hsz], ?_⟩
 refine FR.intro (VRs.mono (k1.ext.trans j1.ext) _ _ hv) ho hlen fun k x hk => ?_
 have hlt := (List.getElem?_eq_some_iff.1 hk).1
 rw [hfl, hvl] at hlt
 rw [Nat.zero_add, Rho.ice_in _ (Nat.zero_le _) hlt, hccs]
 simpa [List.getElem?_append_left (List.getElem?_eq_some_iff.1 hk).1] using hk
theorem Z4y (hr : HR ρ s.H w) (hfr : Fr ρ s) {t u ty e : TypeId} {i : TI} {j : TypeInfo} {zv : Value} {v : AV} {cv cx : Value} (hv : VR ρ v cv) (hut : P.underlying t = some (.slice e)) (hj : P.info? e = some j) (hjs : j.size = i.size) (hjb : j.bytes = i.bytes) (hzv : j.zero = some zv) (hzl : ∀ k, (Builtin.zeroCells zv.cells k).toList.length = k * i.size)
  {m : Nat} {es : List AV} {vs : List Value} (hsrc : Src P w u j cx m (vs.flatMap vcells)) (hes : VRs ρ es vs) (heo : ∀ a ∈ es, a.okc = true) (hel : ∀ v ∈ vs, (vcells v).length = i.size) (hm : es.length = m) {Q : AV × St -> Prop} (hQ : (appendF i v m es s).All Q) :
  ∃ v' s' ρ' w' cv', Q (v', s') /\ (Builtin.append_ #[t, u] ty #[cv, cx]).run P w = .ok cv' w' /\ Stp ρ s w ρ' s' w' /\ HR ρ' s'.H w' /\ VR ρ' v' cv' := by
 have hvl : vs.length = m := by rw [<- hm]; exact (VRs.length _ _ hes).symm
 unfold appendF at hQ
 cases hm0 : Nat.beq m 0 with
 | true =>
  rw [hm0] at hQ; simp only at hQ
  have hm' := Nat.eq_of_beq_eq_true hm0
  subst hm'
  have hnil : vs = [] := List.eq_nil_of_length_eq_zero hvl
  subst hnil
  have hsame : ∀ (a : Option Addr) (n c : Nat), n <= c -> (Builtin.append_ #[t, u] ty #[.slice a n c, cx]).run P w = .ok (.slice a n c) w := fun a n c h =>
   Zs (P := P) (w := w) t u ty e j hut hj a n c 0 cx _ hsrc (by omega) (w' := w) (fun a _ => by simp [storeCells]) (fun _ => rfl)
  cases v <;> (try simp only at hQ) <;> try exact hQ.elim
  case nils => simp only [VR] at hv; subst hv; exact ⟨_, _, ρ, w, _, hQ, hsame _ _ _ (Nat.le_refl _), Stp.refl _ _ _, hr, by simp [VR]⟩
  case empty => simp only [VR] at hv; obtain ⟨a, rfl⟩ := hv; exact ⟨_, _, ρ, w, _, hQ, hsame _ _ _ (Nat.le_refl _), Stp.refl _ _ _, hr, by simp only [VR]; exact ⟨a, rfl⟩⟩
  case lst l => simp only [VR] at hv; obtain ⟨a, c, rfl, h1, h2⟩ := hv; exact ⟨_, _, ρ, w, _, hQ, hsame _ _ _ h1, Stp.refl _ _ _, hr, by simp only [VR]; exact ⟨a, c, rfl, h1, h2⟩⟩
  case own b l => simp only [VR] at hv; obtain ⟨p, c, hp, rfl, h1, h2, h3, h4⟩ := hv; exact ⟨_, _, ρ, w, _, hQ, hsame _ _ _ h3, Stp.refl _ _ _, hr, by simp only [VR]; exact ⟨p, c, hp, rfl, h1, h2, h3, h4⟩⟩
 | false =>
  rw [hm0] at hQ; simp only at hQ
  have hmpos : 1 <= m := by
   rcases Nat.eq_zero_or_pos m with h | h
   ·subst h; simp at hm0
   ·exact h
  cases hz : Nat.ble 1 i.size with
  | false => rw [hz] at hQ; exact hQ.elim
  | true =>
   rw [hz] at hQ; simp only at hQ
   have hz1 := Nat.le_of_ble_eq_true hz
   have hgrow : ∀ (base : Option Addr) (n c : Nat) (old : List AV) (ovs : List Value) (s1 : St), HR ρ s1.H w -> Fr ρ s1 -> Stp ρ s w ρ s1 w -> VRs ρ old ovs -> (∀ a ∈ old, a.okc = true) -> (∀ v ∈ ovs, (vcells v).length = i.size) -> old.length = n ->
     (Builtin.firstCells j.size n (.slice base n c)).run P w.drew = .ok ⟨ovs.flatMap vcells⟩ w.drew -> c < n + m -> roomy n m i.bytes = true -> (growF (old ++ es) i.size s1).All Q ->
     ∃ v' s' ρ' w' cv', Q (v', s') /\ (Builtin.append_ #[t, u] ty #[.slice base n c, cx]).run P w = .ok cv' w' /\ Stp ρ s w ρ' s' w' /\ HR ρ' s'.H w' /\ VR ρ' v' cv' := by
    intro base n c old ovs s1 hr1 hf1 hst ho hos hol hon hold hg hroom hq
    have hr1' : (n + m) * i.bytes <= 140737488355328 /\ 1 <= i.bytes := by
     unfold roomy at hroom
     cases h1 : Nat.ble ((n + m) * i.bytes) 140737488355328 <;> cases h2 : Nat.ble 1 i.bytes <;> simp only [h1, h2] at hroom <;> try (cases hroom; done)
     exact ⟨Nat.le_of_ble_eq_true h1, Nat.le_of_ble_eq_true h2⟩
    have hrun := X6 (P := P) (w := w) t u ty e j zv hut hj hzv base n c m cx (vs.flatMap vcells) (ovs.flatMap vcells) hsrc hold hg (by rw [hjb]; exact hr1'.1) (by rw [hjb]; exact hr1'.2)
    have hlen : (old ++ es).length = n + m := by rw [List.length_append, hon, hm]
    obtain ⟨v', s', ρ', cv', g1, rfl, g3, g4, g5⟩ := Z6o (rest := (Builtin.zeroCells zv.cells (grownCap w (n + m) c e - (n + m))).toList) hr1 hf1 (VRs.append _ _ _ _ ho hes) (fun a ha => (List.mem_append.1 ha).elim (hos a) (heo a)) (z := i.size) (fun v hv => (List.mem_append.1 hv).elim (hol v) (hel v)) (fun h => by rw [h] at hlen; simp at hlen; omega) hz1 (cap := grownCap w (n + m) c e) (by rw [hlen]; exact grownCap_ge _ _ _ _) (by rw [hlen]; exact hzl _) e hq
    rw [List.flatMap_append] at g3 g4
    rw [hlen] at g5
    exact ⟨v', s', ρ', _, _, g1, hrun, hst.trans g3, g4, g5⟩
   cases v <;> (try simp only at hQ) <;> try exact hQ.elim
   case nils =>
    simp only [VR] at hv; subst hv
    cases hroom : roomy 0 m i.bytes with
    | false => rw [hroom] at hQ; exact hQ.elim
    | true =>
     rw [hroom] at hQ
     exact hgrow none 0 0 [] [] s hr hfr (Stp.refl _ _ _) (by simp [VRs]) (by simp) (by simp) rfl (by simp [Builtin.firstCells]) (by omega) hroom hQ
   case empty =>
    simp only [VR] at hv; obtain ⟨a, rfl⟩ := hv
    cases hroom : roomy 0 m i.bytes with
    | false => rw [hroom] at hQ; exact hQ.elim
    | true =>
     rw [hroom] at hQ
     refine hgrow a 0 0 [] [] s hr hfr (Stp.refl _ _ _) (by simp [VRs]) (by simp) (by simp) rfl ?_ (by omega) hroom hQ
     cases a with
     | none => simp [Builtin.firstCells]
     | some a =>
      have := run_loadCells_list (P := P) w.drew a [] (by simp)
      simp only [Builtin.firstCells, Nat.zero_mul]; exact this
   case own b l =>
    simp only [VR] at hv; obtain ⟨p, c, hp, rfl, h1, h2, h3, h4, h5⟩ := hv
    obtain ⟨y, hy, hQ⟩ := (Zo _ _ _).1 ((M.all_bind _ _ _ _).1 hQ)
    cases y with
    | tok n z =>
     simp only at hQ
     cases hb1 : Nat.beq n l.length with
     | false => rw [hb1] at hQ; exact hQ.elim
     | true =>
      cases hb2 : Nat.beq z i.size with
      | false => rw [hb1, hb2] at hQ; exact hQ.elim
      | true =>
       cases hroom : roomy l.length m i.bytes with
       | false => rw [hb1, hb2, hroom] at hQ; exact hQ.elim
       | true =>
        rw [hb1, hb2, hroom] at hQ; simp only at hQ
        obtain rfl := Nat.eq_of_beq_eq_true hb1
        obtain rfl := Nat.eq_of_beq_eq_true hb2
        obtain ⟨_, hQ⟩ := (Z5s _ _ _).1 ((M.all_bind _ _ _ _).1 hQ)
        obtain ⟨q, hq', hbo⟩ := hr.blocks _ _ hy
        rw [hp] at hq'; obtain rfl := Option.some.inj hq'
        obtain ⟨hpu, _, ccs, ce, hob, htot⟩ := hbo
        rw [hpu] at h5 h4
        obtain ⟨ovs, g1, g2, g3, g4⟩ := h5.elim
        have hol : ovs.length = l.length := (VRs.length _ _ g1).symm
        by_cases hlt : c < l.length + m
        ·refine hgrow _ l.length c l ovs (s.del b) (hr.delT hy) hfr (Z5t b) g1 (fun a ha => (g2 a ha).1) g3 rfl ?_ hlt hroom hQ
         have := run_loadCells_list (P := P) w.drew ⟨p.blk, p.off, none⟩ (ovs.flatMap vcells) (fun k v hv => by
          obtain ⟨ccs', e', fr', ho', hc'⟩ := hr.frz _ _ _ (g4 k v hv)
          rw [Yj]
          show World.cell? w.drew _ = some v
          have : w.drew.heap = w.heap := rfl
          simp [World.cell?, this, ho', hc'])
         rw [Y3 g3, hol] at this
         rw [hjs]; simp only [Builtin.firstCells]; exact this
        ·
         have hfl : (vs.flatMap vcells).length = m * i.size := by rw [Y3 hel, hvl]
         have hmul : (l.length + m) * i.size <= c * i.size := Nat.mul_le_mul_right _ (by omega)
         rw [Nat.add_mul] at hmul
         have hfit : p.off + l.length * i.size + (vs.flatMap vcells).length <= ccs.size := by rw [hfl, <- htot]; omega
         have hones : ∀ x ∈ vs.flatMap vcells, x.oneCell' = true := by
          obtain ⟨f1, f2⟩ := Z0x hes heo
          exact Z4x f1 f2
         have hst := run_storeCells_at P p.blk (p.off + l.length * i.size) ce (vs.flatMap vcells) 0 ccs w hob (by omega) hones
         simp only [Nat.add_zero] at hst
         have hrun := Zs (P := P) (w := w) t u ty e j hut hj (some ⟨p.blk, p.off, none⟩) l.length c m cx _ hsrc (by omega) (w' := _) (fun a ha => by
          obtain rfl := Option.some.inj ha
          rw [Yj, hjs]; exact hst) (fun h => by cases h)
         obtain ⟨ccs', hccs'⟩ : ∃ ccs' : Array Value, ccs' = (ccs.toList.take (p.off + l.length * i.size) ++ vs.flatMap vcells ++ ccs.toList.drop (p.off + l.length * i.size + (vs.flatMap vcells).length)).toArray := ⟨_, rfl⟩
         rw [<- hccs'] at hrun
         have e1 : (ccs.toList.take (p.off + l.length * i.size)).length = p.off + l.length * i.size := by simp; omega
         have hsz' : ccs'.size = ccs.size := by rw [hccs']; simp only [List.size_toArray, List.length_append, e1, List.length_drop, Array.length_toList]; omega
         have hlow : ∀ k, k < p.off + l.length * i.size -> ccs'[k]? = ccs[k]? := by
          intro k hk
          rw [hccs', List.getElem?_toArray, List.append_assoc, List.getElem?_append_left (by omega), List.getElem?_take, if_pos hk]
          simp
         have hmid : ∀ k x, (vs.flatMap vcells)[k]? = some x -> ccs'[p.off + l.length * i.size + k]? = some x := by
          intro k x hk
          have := (List.getElem?_eq_some_iff.1 hk).1
          rw [hccs', List.getElem?_toArray, List.append_assoc, List.getElem?_append_right (by omega), e1, List.getElem?_append_left (by omega), <- hk]
          congr 1; omega
         have hob' : (w.setRow p.blk ccs').heap[p.blk]? = some (.cells ccs' ce (0, 0)) := Xv hob
         obtain ⟨k1, k2⟩ := Z9s (m := l.length + m) hr hfr hy hp hob hob' hlow hsz' (by omega) (fun c hcn => setRow_other w _ c _ hcn) (by simp) (Jo _ _ _)
         have hnm : (ρ.upd s.name p) s.name = some p := Rho.upd_same ..
         have hgt : hget ((s.del b).new (.tok (l.length + m) i.size)).H s.name = some (.tok (l.length + m) i.size) := Z6 ..
         obtain ⟨j1, j2⟩ := Z5u k2 hgt hnm (p.off + l.length * i.size) (p.off + (l.length + m) * i.size) (Nat.le_refl _) hob'
         have hlen : (l ++ es).length = l.length + m := by rw [List.length_append, hm]
         have hQ' : Q (.own s.name (l ++ es), (s.del b).new (.tok (l.length + m) i.size)) := by
          rw [<- hlen]; exact hQ
         refine ⟨_, _, _, _, _, hQ', hrun, k1.trans j1, j2, ?_⟩
         have hx := k1.ext.trans j1.ext
         simp only [VR]
         refine ⟨p, c, hnm, by rw [hlen], by simp [h1], by omega, by omega, by rw [hpu]; exact h4, ?_⟩
         rw [hpu]
         refine FR.append (FR.mono hx _ _ _ _ h5) (FR.intro (VRs.mono hx _ _ hes) heo hel fun k x hk => ?_)
         have hk' := (List.getElem?_eq_some_iff.1 hk).1
         rw [Rho.ice_in _ (by omega) (by rw [Nat.add_mul]; omega)]
         exact hmid k x hk
    | _ => exact hQ.elim
set_option maxHeartbeats 2000000 in
theorem Z6p (hC : CfgOk P C) (hr : HR ρ s.H w) (hfr : Fr ρ s) {fz : Bool} {t u ty : TypeId} {v x : AV} {cv cx : Value} (hv : VR ρ v cv) (hx : VR ρ x cx) :
  ValSim P ρ s w (appendA C fz t u v x) (Builtin.append_ #[t, u] ty #[cv, cx]) := by
 intro Q hQ
 unfold appendA at hQ
 cases hdt : C.desc t with
 | none => rw [hdt] at hQ; exact hQ.elim
 | some dt =>
  cases hdu : C.desc u with
  | none => rw [hdt, hdu] at hQ; cases dt <;> exact hQ.elim
  | some d =>
   rw [hdt, hdu] at hQ
   cases dt <;> (try simp only at hQ) <;> try exact hQ.elim
   rename_i e
   cases hi : C.ty.get e with
   | none => rw [hi] at hQ; exact hQ.elim
   | some i =>
     rw [hi] at hQ; simp only at hQ
     cases hz : i.zero with
     | none => rw [hz] at hQ; exact hQ.elim
     | some z =>
      rw [hz] at hQ; simp only at hQ
      cases hzl : Nat.beq z.cells.length i.size with
      | false => rw [hzl] at hQ; exact hQ.elim
      | true =>
       rw [hzl] at hQ; simp only at hQ
       have hut : P.underlying t = some (.slice e) := by obtain ⟨j, hj, hjd⟩ := Xu hC hdt; rw [(hC.ty t j hj).under, hjd]
       have huu : P.underlying u = some d := by obtain ⟨j, hj, hjd⟩ := Xu hC hdu; rw [(hC.ty u j hj).under, hjd]
       obtain ⟨j, hj, hjs, hjb, hjz⟩ := (hC.ty e i hi).info
       obtain ⟨zv, hzv, hzc⟩ := hjz z hz
       obtain ⟨hzr, hzo⟩ := Yc ρ zv z hzc
       obtain ⟨zs, hzcells, hzs, hzsc, _⟩ := Xg hzo hzr
       have hzl' : zs.length = i.size := by rw [<- VRs.length _ _ hzs]; exact Nat.eq_of_beq_eq_true hzl
       have hgl : ∀ k, (Builtin.zeroCells zv.cells k).toList.length = k * i.size := by
        intro k; rw [Array.length_toList, size_zeroCells, hzcells]; simp [hzl']
       have hfz : (fz = true /\ openRow v = true -> False) \/ ((srcF i z d x).bind (fun y => appendF i v y.1 y.2) s).All Q := by
        cases fz <;> cases hov : openRow v <;> simp only [hov] at hQ
        ·exact .inl fun h => by cases h.1
        ·exact .inl fun h => by cases h.1
        ·exact .inl fun h => by cases h.2
        ·exact .inr hQ
       rcases hfz with hfz | hQF
       rotate_left
       ·obtain ⟨m, es, vs, hQ', hsrc, g1, g2, g3, g4⟩ := Z9x (P := P) (w := w) hr hx huu hjs hjb hzv hzcells hzs hzsc hzl' ((M.all_bind _ _ _ _).1 hQF)
        exact Z4y hr hfr hv hut hj hjs hjb hzv hgl hsrc g1 g2 g3 g4 hQ'
       replace hQ : ((srcA i z d x).bind (fun y => appendTo i v y.1 y.2) s).All Q := by
        cases fz with
        | false => exact hQ
        | true =>
         cases hov : openRow v with
         | true => exact (hfz ⟨rfl, hov⟩).elim
         | false => rw [hov] at hQ; exact hQ
       clear hfz hgl
       obtain ⟨m, new, nvs, hQ', hsrc, hnv, hns, hnl⟩ := Z7t (P := P) (w := w) hr hx huu hjs hjb hzv hzcells hzs hzsc hzl' ((M.all_bind _ _ _ _).1 hQ)
       clear hQ
       have hQ := hQ'
       clear hQ'
       have hgl : ∀ k, (Builtin.zeroCells zv.cells k).toList.length = k * i.size := by
        intro k; rw [Array.length_toList, size_zeroCells, hzcells]; simp [hzl']
       have hgrow : ∀ (base : Option Addr) (n c : Nat) (old : List AV) (ovs : List Value) (s1 : St), HR ρ s1.H w -> Fr ρ s1 -> Stp ρ s w ρ s1 w -> VRs ρ old ovs -> (∀ c ∈ old, c.sc = true) -> ovs.length = n * i.size ->
         (Builtin.firstCells j.size n (.slice base n c)).run P w.drew = .ok ⟨ovs⟩ w.drew -> c < n + m -> roomy n m i.bytes = true -> (grow old new (n + m) i.size s1).All Q ->
         ∃ v' s' ρ' w' cv', Q (v', s') /\ (Builtin.append_ #[t, u] ty #[.slice base n c, cx]).run P w = .ok cv' w' /\ Stp ρ s w ρ' s' w' /\ HR ρ' s'.H w' /\ VR ρ' v' cv' := by
        intro base n c old ovs s1 hr1 hf1 hst ho hos hol hold hg hroom hq
        have hr1' : (n + m) * i.bytes <= 140737488355328 /\ 1 <= i.bytes := by
         unfold roomy at hroom
         cases h1 : Nat.ble ((n + m) * i.bytes) 140737488355328 <;> cases h2 : Nat.ble 1 i.bytes <;> simp only [h1, h2] at hroom <;> try (cases hroom; done)
         exact ⟨Nat.le_of_ble_eq_true h1, Nat.le_of_ble_eq_true h2⟩
        have hrun := X6 (P := P) (w := w) t u ty e j zv hut hj hzv base n c m cx nvs ovs hsrc hold hg (by rw [hjb]; exact hr1'.1) (by rw [hjb]; exact hr1'.2)
        obtain ⟨v', s', ρ', cv', g1, rfl, g3, g4, g5⟩ := Z7s hr1 hf1 (VRs.append _ _ _ _ ho hnv) (fun c hc => (List.mem_append.1 hc).elim (hos c) (hns c)) (k := n + m) (cap := grownCap w (n + m) c e) (z := i.size) (grownCap_ge _ _ _ _) (by rw [List.length_append, hol, hnl, Nat.add_mul]) (hgl _) e hq
        exact ⟨v', s', ρ', _, _, g1, hrun, hst.trans g3, g4, g5⟩
       unfold appendTo at hQ
       cases v <;> (try simp only at hQ) <;> try exact hQ.elim
       case nils =>
        simp only [VR] at hv; subst hv
        cases m with
        | zero =>
         simp only at hQ
         have hrun := Zs (P := P) (w := w) t u ty e j hut hj none 0 0 0 cx nvs hsrc (Nat.le_refl _) (w' := w) (fun _ h => by cases h) (fun _ => rfl)
         exact ⟨_, _, ρ, w, _, hQ, hrun, Stp.refl _ _ _, hr, by simp [VR]⟩
        | succ m =>
         simp only at hQ
         cases hroom : roomy 0 (m + 1) i.bytes with
         | false => rw [hroom] at hQ; exact hQ.elim
         | true =>
          rw [hroom] at hQ; simp only at hQ
          refine hgrow none 0 0 [] [] s hr hfr (Stp.refl _ _ _) (by simp [VRs]) (by simp) (by simp) (by simp [Builtin.firstCells]) (by omega) hroom ?_
          rw [Nat.zero_add]; exact hQ
       case empty =>
        simp only [VR] at hv; obtain ⟨a, rfl⟩ := hv
        cases m with
        | zero =>
         simp only at hQ
         have hnn : nvs = [] := List.eq_nil_of_length_eq_zero (by simpa using hnl)
         subst hnn
         have hrun := Zs (P := P) (w := w) t u ty e j hut hj a 0 0 0 cx [] hsrc (Nat.le_refl _) (w' := w) (fun _ h => by simp [storeCells]) (fun _ => rfl)
         exact ⟨_, _, ρ, w, _, hQ, hrun, Stp.refl _ _ _, hr, by simp only [VR]; exact ⟨a, rfl⟩⟩
        | succ m =>
         simp only at hQ
         cases hroom : roomy 0 (m + 1) i.bytes with
         | false => rw [hroom] at hQ; exact hQ.elim
         | true =>
          rw [hroom] at hQ; simp only at hQ
          refine hgrow a 0 0 [] [] s hr hfr (Stp.refl _ _ _) (by simp [VRs]) (by simp) (by simp) ?_ (by omega) hroom ?_
          ·cases a with
           | none => simp [Builtin.firstCells]
           | some a =>
            have := run_loadCells_list (P := P) w.drew a [] (by simp)
            simp only [Builtin.firstCells, Nat.zero_mul]; exact this
          ·rw [Nat.zero_add]; exact hQ
       case slice b o n c ex =>
        simp only [VR] at hv
        obtain ⟨p, o', c', hp, aa, rfl, ha, h1, h2, h3, h4, h5⟩ := hv
        cases m with
        | zero =>
         simp only at hQ
         have hnn : nvs = [] := List.eq_nil_of_length_eq_zero (by simpa using hnl)
         subst hnn
         have hrun := Zs (P := P) (w := w) t u ty e j hut hj (some aa) n c' 0 cx [] hsrc (by omega) (w' := w) (fun a _ => by simp [storeCells]) (fun h => by cases h)
         exact ⟨_, _, ρ, w, _, hQ, hrun, Stp.refl _ _ _, hr, by simp only [VR]; exact ⟨p, o', c', hp, aa, rfl, ha, h1, h2, h3, h4, h5⟩⟩
        | succ m =>
         simp only at hQ
         obtain ⟨y, hy, hQ⟩ := (Zo _ _ _).1 ((M.all_bind _ _ _ _).1 hQ)
         cases y with
         | cells cs rw_ uu =>
          cases hroom : roomy n (m + 1) i.bytes with
          | false => rw [hroom] at hQ; exact hQ.elim
          | true =>
           rw [hroom] at hQ; simp only at hQ
           have hold : ∀ old, oldA cs o n i.size = some old -> ∃ ovs, VRs ρ old ovs /\ (∀ c ∈ old, c.sc = true) /\ ovs.length = n * i.size /\ ∀ w' : World, w'.heap = w.heap -> (Builtin.firstCells j.size n (.slice (some aa) n c')).run P w' = .ok ⟨ovs⟩ w' := by
            intro old ho
            unfold oldA at ho
            cases n with
            | zero =>
             simp only [Option.some.injEq] at ho; subst ho
             exact ⟨[], by simp [VRs], by simp, by simp, fun w' _ => by
              have := run_loadCells_list (P := P) w' aa [] (by simp)
              simp only [Builtin.firstCells, Nat.zero_mul]; exact this⟩
            | succ n =>
             simp only at ho
             rw [ha (by omega)]
             obtain ⟨vs, g1, g2, g3, g4⟩ := Z7q (P := P) hr hy ho hp
             exact ⟨vs, g1, g3, g2, fun w' hw => by simp only [Builtin.firstCells, h1 (by omega), hjs]; exact g4 w' hw⟩
           cases ho : oldA cs o n i.size with
           | none => rw [ho] at hQ; exact hQ.elim
           | some old =>
            rw [ho] at hQ; simp only at hQ
            obtain ⟨ovs, o1, o2, o3, o4⟩ := hold old ho
            cases ex with
            | true =>
             simp only at hQ
             have hc' : c' = c := h2 rfl
             subst hc'
             cases hle : Nat.ble (n + (m + 1)) c' with
             | false =>
              rw [hle] at hQ; simp only at hQ
              have hlt : c' < n + (m + 1) := by
               rcases Nat.lt_or_ge c' (n + (m + 1)) with h | h
               ·exact h
               ·rw [Nat.ble_eq_true_of_le h] at hle; cases hle
              exact hgrow _ n c' old ovs s hr hfr (Stp.refl _ _ _) o1 o2 o3 (o4 w.drew rfl) hlt hroom hQ
             | true =>
              have hle' := Nat.le_of_ble_eq_true hle
              obtain rfl := ha (by omega)
              rw [hle] at hQ; simp only at hQ
              cases rw_ with
              | false => exact hQ.elim
              | true =>
               cases hw : writeN cs (o + n * i.size) new with
               | none => rw [hw] at hQ; exact hQ.elim
               | some cs' =>
                rw [hw] at hQ; simp only at hQ
                obtain ⟨_, hq⟩ := (Y1 _ _ _ _).1 ((M.all_bind _ _ _ _).1 hQ)
                obtain ⟨w', g1, g2, g3⟩ := Z19 (P := P) hr hy hp hw hnv hns (Z4x hnv hns)
                have hoo : o' = p.off + o := h1 (by omega)
                have hrun := Zs (P := P) (w := w) t u ty e j hut hj (some ⟨p.blk, o', none⟩) n c' (m + 1) cx nvs hsrc hle' (w' := w') (fun a ha => by
                 obtain rfl := Option.some.inj ha
                 rw [Yj, hoo, hjs, Nat.add_assoc]; exact g1) (fun h => by cases h)
                exact ⟨_, _, ρ, w', _, hq, hrun, g2, g3, by simp only [VR]; exact ⟨p, o', c', hp, _, rfl, fun _ => rfl, h1, fun _ => rfl, hle', Nat.le_refl _, h5⟩⟩
            | false =>
             simp only at hQ
             cases rw_ with
             | false => exact hQ.elim
             | true =>
              cases hu1 : Nat.beq uu i.size with
              | false => rw [hu1] at hQ; exact hQ.elim
              | true =>
               cases hu2 : Nat.ble 1 uu with
               | false => rw [hu1, hu2] at hQ; exact hQ.elim
               | true =>
                rw [hu1, hu2] at hQ; simp only at hQ
                obtain ⟨_, hq⟩ := (Z5s _ _ _).1 ((M.all_bind _ _ _ _).1 hQ)
                have hus : uu = i.size := Nat.eq_of_beq_eq_true hu1
                have hu0 : 1 <= uu := Nat.le_of_ble_eq_true hu2
                subst hus
                by_cases hlt : c' < n + (m + 1)
                ·have hfr' : Fr ρ (s.del b) := hfr
                 exact hgrow _ n c' old ovs (s.del b) (hr.del hy) hfr' (Z5t b) o1 o2 o3 (o4 w.drew rfl) hlt hroom hq
                ·
                 obtain rfl := ha (by omega)
                 obtain ⟨q, hq', hbo⟩ := hr.blocks _ _ hy
                 rw [hp] at hq'; obtain rfl := Option.some.inj hq'
                 obtain ⟨hpu, ccs, ce, fr, hob, htot, hfz, hcc⟩ := hbo
                 obtain rfl := hfz
                 have h6 := h5 (by omega)
                 have hmul : (n + (m + 1)) * p.unit <= c' * p.unit := Nat.mul_le_mul_right _ (by omega)
                 have hfit : o' + n * i.size + nvs.length <= ccs.size := by
                  rw [hnl, <- htot]
                  rw [hpu, Nat.add_mul] at hmul
                  rw [hpu] at h6
                  omega
                 have hst := run_storeCells_at P p.blk (o' + n * i.size) ce nvs 0 ccs w hob (by omega) (Z4x hnv hns)
                 simp only [Nat.add_zero] at hst
                 have hrun := Zs (P := P) (w := w) t u ty e j hut hj (some ⟨p.blk, o', none⟩) n c' (m + 1) cx nvs hsrc (by omega) (w' := _) (fun a ha => by
                  obtain rfl := Option.some.inj ha
                  rw [Yj, hjs]; exact hst) (fun h => by cases h)
                 have hst2 := Z7c (w' := w.setRow p.blk (ccs.toList.take (o' + n * i.size) ++ nvs ++ ccs.toList.drop (o' + n * i.size + nvs.length)).toArray) hr hfr (q := ⟨p.blk, o', p.total, p.unit⟩) (cs' := old ++ new) (u' := i.size) hy hp rfl (Xv hob) (fun c hcn => setRow_other w _ c _ hcn) (by simp) (Jo _ _ _) (by
                  have hcr : CellsR ρ (old ++ new) o' (ccs.toList.take (o' + n * i.size) ++ nvs ++ ccs.toList.drop (o' + n * i.size + nvs.length)).toArray := by
                   unfold oldA at ho
                   cases n with
                   | zero =>
                    simp only [Option.some.injEq] at ho; subst ho
                    exact Z2i (old := []) (ovs := []) (by simp [VRs]) (by simp) (by simp) (by simp) hnv hns hfit
                   | succ n =>
                    simp only at ho
                    obtain ⟨us, f1, f2, f3, f4⟩ := Yd hcc ho
                    have hoo := h1 (by omega)
                    exact Z2i f1 f4 f2 (fun j v hj => by rw [hoo]; exact f3 j v hj) hnv hns hfit
                  have hext := Rho.upd_ext (ρ := ρ) ⟨p.blk, o', p.total, p.unit⟩ (Yt hfr)
                  refine ⟨hpu, _, ce, (0, 0), rfl, ?_, rfl, ?_⟩
                  rotate_left
                  ·exact hcr.mono hext
                  ·simp [htot]; omega)
                 refine ⟨_, _, _, _, _, hq, hrun, hst2.1, ?_, ?_⟩
                 ·exact hst2.2
                 ·simp only [VR]
                  refine ⟨_, o', c', Rho.upd_same .., _, rfl, fun _ => rfl, fun _ => by simp, fun h => (by cases h), Nat.le_refl _, by omega, fun _ => h6⟩
         | _ => exact hQ.elim
end
end Go.Am
namespace Go.Am
open Go
open Go.ChangeMaps (setBlock)
open Go.MapKept
section
variable {P : Program} {C : Cfg} {ρ : Rho} {s : St} {w : World}
theorem Jz {d : TypeDesc} {k : AV} {ck : Value} (h : keyKind d k = true) (hk : VR ρ k ck) : IsKey d ck := by
 cases d <;> cases k <;> simp only [keyKind] at h <;> (try (cases h; done)) <;> (simp only [VR] at hk; subst hk; first | trivial | simpa [IsKey] using h)
theorem Z4z {a b : AV} {ca cb : Value} {r : Bool} (h : eqSame a b = some r) (ha : VR ρ a ca) (hb : VR ρ b cb) {d : TypeDesc} (hd : keyKind d a = true) : Instr.sameNow d ca cb = some r /\ (r = true -> cb = ca) := by
 cases a <;> cases b <;> simp only [eqSame] at h <;> try (cases h; done)
 case int.int k n k' n' =>
  simp only [VR] at ha hb; subst ha; subst hb
  cases hk : decide (k = k') with
  | false => rw [hk] at h; cases h
  | true =>
   rw [hk] at h; simp only [Option.some.injEq] at h; subst h
   simp only [decide_eq_true_eq] at hk; subst hk
   cases d <;> simp only [keyKind] at hd <;> try (cases hd; done)
   exact ⟨by simp only [Instr.sameNow, if_true]; rfl, fun h => by simp at h; rw [h]⟩
 case bool.bool x y =>
  simp only [VR] at ha hb; subst ha; subst hb
  cases d <;> simp only [keyKind] at hd <;> try (cases hd; done)
  simp only [Option.some.injEq] at h; subst h
  cases x <;> cases y <;> simp [Instr.sameNow]
 case str.str x y =>
  simp only [VR] at ha hb; subst ha; subst hb
  cases d <;> simp only [keyKind] at hd <;> try (cases hd; done)
  simp only [Option.some.injEq] at h; subst h
  exact ⟨by simp [Instr.sameNow], fun h => by rw [(bytes_beq x y).1 h]⟩
theorem Z3b {k : AV} {ck : Value} (hk : VR ρ k ck) {d : TypeDesc} (hd : keyKind d k = true) : ∀ (es : List (AV × AV)) (l : List MapEntry), EntsR ρ es l -> ∀ (i : Nat) (r : Option (Nat × AV)), findA k es i = some r ->
  (r = none -> Instr.findNow d ck l i = some none) /\ ∀ j v, r = some (j, v) -> ∃ x, i <= j /\ Instr.findNow d ck l i = some (some (j, x.val)) /\ l[j - i]? = some x /\ x.key = ck /\ VR ρ v x.val
 | [], l, he, i, r, h => by
  simp only [EntsR] at he; subst he
  simp only [findA, Option.some.injEq] at h; subst h
  exact ⟨fun _ => rfl, fun j v h => by cases h⟩
 | e :: es, l, he, i, r, h => by
  simp only [EntsR] at he
  obtain ⟨x, t, rfl, h1, h2, h3⟩ := he
  unfold findA at h
  cases hs : eqSame k e.1 with
  | none => rw [hs] at h; cases h
  | some b =>
   obtain ⟨g1, g2⟩ := Z4z hs hk h1 hd
   rw [hs] at h
   cases b with
   | true =>
    simp only [Option.some.injEq] at h; subst h
    refine ⟨fun h => by (cases h), fun j v h => ?_⟩
    simp only [Option.some.injEq, Prod.mk.injEq] at h
    obtain ⟨rfl, rfl⟩ := h
    exact ⟨x, Nat.le_refl _, by simp [Instr.findNow, g1], by simp, g2 rfl, h2⟩
   | false =>
    simp only at h
    obtain ⟨k1, k2⟩ := Z3b hk hd es t h3 (i + 1) r h
    refine ⟨fun h => by simp [Instr.findNow, g1, k1 h], fun j v h => ?_⟩
    obtain ⟨y, y1, y2, y3, y4, y5⟩ := k2 j v h
    refine ⟨y, by omega, by simp [Instr.findNow, g1, y2], ?_, y4, y5⟩
    rw [show j - i = (j - (i + 1)) + 1 by omega, List.getElem?_cons_succ]; exact y3
theorem EntsR.length {ρ : Rho} : ∀ {es : List (AV × AV)} {l : List MapEntry}, EntsR ρ es l -> es.length = l.length
 | [], l, h => by simp only [EntsR] at h; subst h; rfl
 | e :: r, l, h => by simp only [EntsR] at h; obtain ⟨x, t, rfl, _, _, h3⟩ := h; simp [EntsR.length h3]
theorem EntsR.nth {ρ : Rho} : ∀ {es : List (AV × AV)} {l : List MapEntry}, EntsR ρ es l -> ∀ (i : Nat) x, l[i]? = some x -> ∃ e, Am.nth es i = some e /\ VR ρ e.1 x.key /\ VR ρ e.2 x.val
 | [], l, h, i, x, hx => by simp only [EntsR] at h; subst h; simp at hx
 | e :: r, l, h, i, x, hx => by
  simp only [EntsR] at h; obtain ⟨y, t, rfl, h1, h2, h3⟩ := h
  cases i with
  | zero => simp at hx; subst hx; exact ⟨e, by simp, h1, h2⟩
  | succ i => simp only [List.getElem?_cons_succ] at hx; rw [Zv]; exact EntsR.nth h3 i x hx
theorem EntsR.append {ρ : Rho} : ∀ {es es' : List (AV × AV)} {l l' : List MapEntry}, EntsR ρ es l -> EntsR ρ es' l' -> EntsR ρ (es ++ es') (l ++ l')
 | [], es', l, l', h, h' => by simp only [EntsR] at h; subst h; exact h'
 | e :: r, es', l, l', h, h' => by
  simp only [EntsR] at h; obtain ⟨y, t, rfl, h1, h2, h3⟩ := h
  simp only [List.cons_append, EntsR]; exact ⟨y, _, rfl, h1, h2, EntsR.append h3 h'⟩
theorem EntsR.set {ρ : Rho} : ∀ {es : List (AV × AV)} {l : List MapEntry}, EntsR ρ es l -> ∀ (i : Nat) (e : AV × AV) (x : MapEntry), VR ρ e.1 x.key -> VR ρ e.2 x.val -> EntsR ρ (setNth es i e) (l.set i x)
 | [], l, h, i, e, x, _, _ => by simp only [EntsR] at h; subst h; simp [EntsR]
 | a :: r, l, h, i, e, x, he1, he2 => by
  simp only [EntsR] at h; obtain ⟨y, t, rfl, h1, h2, h3⟩ := h
  cases i with
  | zero => simp only [Jk, List.set_cons_zero, EntsR]; exact ⟨x, t, rfl, he1, he2, h3⟩
  | succ i => simp only [Jl, List.set_cons_succ, EntsR]; exact ⟨y, _, rfl, h1, h2, EntsR.set h3 i e x he1 he2⟩
theorem EntsR.dropAt {ρ : Rho} : ∀ {es : List (AV × AV)} {l : List MapEntry}, EntsR ρ es l -> ∀ i : Nat, EntsR ρ (Am.dropAt es i) (l.eraseIdx i)
 | [], l, h, i => by simp only [EntsR] at h; subst h; simp [Am.dropAt, EntsR]
 | a :: r, l, h, i => by
  simp only [EntsR] at h; obtain ⟨y, t, rfl, h1, h2, h3⟩ := h
  cases i with
  | zero => simpa [Am.dropAt] using h3
  | succ i => simp only [Am.dropAt, List.eraseIdx_cons_succ, EntsR]; exact ⟨y, _, rfl, h1, h2, EntsR.dropAt h3 i⟩
theorem undc (hC : CfgOk P C) {t : TypeId} {d : TypeDesc} (h : C.desc t = some d) : P.underlying t = some d := by
 obtain ⟨i, hi, hid⟩ := Xu hC h
 rw [(hC.ty t i hi).under, hid]
theorem Z1e {t kt et : TypeId} {kd : TypeDesc} {cx ck : Value} {l : Array MapEntry} (hu : P.underlying t = some (.map kt et)) (hkd : P.underlying kt = some kd) (hik : IsKey kd ck)
  (hl : (cx = .map none /\ l = #[]) \/ ∃ r clock, cx = .map (some r) /\ w.heap[r]? = some (.map l clock)) {a : Option (Nat × Value)} (ha : Instr.findNow kd ck l.toList 0 = some a)
  {v : Value} {b : Bool} (hz : (a = none /\ (zeroValue et).run P w = .ok v w /\ b = false) \/ (∃ j, a = some (j, v)) /\ b = true) (ok : Bool) :
  (Instr.lookup t cx ck ok).run P w = .ok (if ok then .tuple #[v, .bool b] else v) w := by
 have hck := MapKept.run_checkKey (w := w) hkd hik l.isEmpty 9999
 have hfk := MapKept.run_findKey (w := w) hkd ha
 rcases hl with ⟨rfl, rfl⟩ | ⟨r, clock, rfl, ho⟩
 ·rcases hz with ⟨rfl, hz, rfl⟩ | ⟨⟨j, rfl⟩, rfl⟩
  ·simp [Instr.lookup, Go.run_underlying hu, hz] at hck hfk ⊢
   simp [hck, hfk, hz]
  ·simp [Instr.lookup, Go.run_underlying hu] at hck hfk ⊢
   simp [hck, hfk]
 ·have hg := MapKept.run_getObj_map (P := P) ho
  rcases hz with ⟨rfl, hz, rfl⟩ | ⟨⟨j, rfl⟩, rfl⟩
  ·simp only [Instr.lookup, Sem.run_bind, Go.run_underlying hu, Result.andThen_ok, hg, Sem.run_pure, hck, hfk, hz]
  ·simp only [Instr.lookup, Sem.run_bind, Go.run_underlying hu, Result.andThen_ok, hg, Sem.run_pure, hck, hfk]
theorem Z6q (hC : CfgOk P C) (hr : HR ρ s.H w) {t : TypeId} {x k : AV} {cx ck : Value} (hx : VR ρ x cx) (hk : VR ρ k ck) (ok : Bool) : ValSim P ρ s w (lookupA C t x k ok) (Instr.lookup t cx ck ok) := by
 intro Q hQ
 unfold lookupA at hQ
 cases hd : C.desc t with
 | none => rw [hd] at hQ; exact hQ.elim
 | some d =>
  rw [hd] at hQ
  cases d <;> (try simp only at hQ) <;> try exact hQ.elim
  rename_i kt et
  have hes : ∃ es l, ((cx = .map none /\ l = #[]) \/ ∃ r clock, cx = .map (some r) /\ w.heap[r]? = some (.map l clock)) /\ EntsR ρ es l.toList /\
    ((match C.desc kt, C.ty.get et with
   | some kd, some i => (match keyKind kd k, findA k es 0 with
    | true, some (some (_, v)) => M.ret (okd ok v true)
    | true, some none => (match i.zero with | some z => M.ret (okd ok z false) | none => M.fail)
    | _, _ => M.fail)
   | _, _ => M.fail : M AV) s).All Q := by
   have hQ' := (M.all_bind _ _ _ _).1 hQ
   clear hQ
   unfold entriesA at hQ'
   cases x <;> (try simp only at hQ') <;> try exact hQ'.elim
   ·simp only [VR] at hx; subst hx
    exact ⟨[], #[], .inl ⟨rfl, rfl⟩, by simp [EntsR], hQ'⟩
   ·rename_i b
    simp only [VR] at hx
    obtain ⟨p, hp, rfl⟩ := hx
    obtain ⟨y, hy, hq⟩ := (Zo _ _ _).1 ((M.all_bind _ _ _ _).1 hQ')
    obtain ⟨q, hq', hbo⟩ := hr.blocks _ _ hy
    rw [hp] at hq'; obtain rfl := Option.some.inj hq'
    cases y with
    | map es fz =>
     obtain ⟨ents, clock, ho, he, _⟩ := hbo
     exact ⟨es, ents, .inr ⟨_, clock, rfl, ho⟩, he, hq⟩
    | _ => exact hq.elim
  obtain ⟨es, l, hl, he, hQ'⟩ := hes
  cases hkd : C.desc kt with
  | none => rw [hkd] at hQ'; exact hQ'.elim
  | some kd =>
   cases hie : C.ty.get et with
   | none => rw [hkd, hie] at hQ'; exact hQ'.elim
   | some i =>
    rw [hkd, hie] at hQ'; simp only at hQ'
    cases hkk : keyKind kd k with
    | false => rw [hkk] at hQ'; exact hQ'.elim
    | true =>
     cases hf : findA k es 0 with
     | none => rw [hkk, hf] at hQ'; exact hQ'.elim
     | some r =>
      rw [hkk, hf] at hQ'
      obtain ⟨f1, f2⟩ := Z3b hk hkk es l.toList he 0 r hf
      have hik := Jz hkk hk
      cases r with
      | none =>
       cases hz : i.zero with
       | none => simp only [hz] at hQ'; exact hQ'.elim
       | some z =>
        simp only [hz] at hQ'
        obtain ⟨zv, hzv, hzc⟩ := Yo hC hie hz w
        obtain ⟨hzr, hzo⟩ := Yc ρ zv z hzc
        refine ⟨_, s, ρ, w, _, hQ', Z1e (undc hC hd) (undc hC hkd) hik hl (f1 rfl) (.inl ⟨rfl, hzv, rfl⟩) ok, Stp.refl _ _ _, hr, ?_⟩
        cases ok
        ·simpa [okd] using hzr
        ·simp only [okd, if_true, VR]; exact ⟨[zv, .bool false], rfl, by simp only [VRs]; exact ⟨_, _, rfl, hzr, _, _, rfl, by simp [VR], rfl⟩⟩
      | some jv =>
       obtain ⟨j, v⟩ := jv
       simp only at hQ'
       obtain ⟨y, y1, y2, y3, y4, y5⟩ := f2 j v rfl
       refine ⟨_, s, ρ, w, _, hQ', Z1e (undc hC hd) (undc hC hkd) hik hl y2 (.inr ⟨⟨j, rfl⟩, rfl⟩) ok, Stp.refl _ _ _, hr, ?_⟩
       cases ok
       ·simpa [okd] using y5
       ·simp only [okd, if_true, VR]; exact ⟨[y.val, .bool true], rfl, by simp only [VRs]; exact ⟨_, _, rfl, y5, _, _, rfl, by simp [VR], rfl⟩⟩
theorem Borns.push {clock : Nat} {l : List MapEntry} {x : MapEntry} (h : Borns clock l) (hx : x.born = clock) : Borns (clock + 1) (l ++ [x]) := by
 obtain ⟨h1, h2⟩ := h
 refine ⟨?_, ?_⟩
 ·simp only [List.map_append, List.map_cons, List.map_nil, List.pairwise_append]
  refine ⟨h1, by simp, ?_⟩
  intro a ha b hb
  obtain ⟨y, hy, rfl⟩ := List.mem_map.1 ha
  simp at hb; subst hb
  rw [hx]; exact h2 y hy
 ·intro y hy
  rcases List.mem_append.1 hy with hy | hy
  ·exact Nat.lt_succ_of_lt (h2 y hy)
  ·simp at hy; subst hy; omega
theorem Borns.set {clock : Nat} {l : List MapEntry} {i : Nat} {x y : MapEntry} (h : Borns clock l) (hx : l[i]? = some x) (hy : y.born = x.born) : Borns clock (l.set i y) := by
 obtain ⟨h1, h2⟩ := h
 have hm : (l.set i y).map (·.born) = l.map (·.born) := by
  apply List.ext_getElem?
  intro j
  rw [List.getElem?_map, List.getElem?_map, List.getElem?_set]
  by_cases e : i = j
  ·subst e; obtain ⟨hlt, hxx⟩ := List.getElem?_eq_some_iff.1 hx; simp [hlt, hy, hxx]
  ·simp [e]
 refine ⟨by rw [hm]; exact h1, ?_⟩
 intro z hz
 rcases List.mem_or_eq_of_mem_set hz with h | rfl
 ·exact h2 z h
 ·rw [hy]; exact h2 x (List.mem_of_getElem? hx)
theorem Z6r (hC : CfgOk P C) (hr : HR ρ s.H w) {t : TypeId} {x k v : AV} {cx ck cv : Value} (hx : VR ρ x cx) (hk : VR ρ k ck) (hv : VR ρ v cv) : UnitSim P ρ s w (done (updateA C t x k v)) (Instr.mapUpdate t cx ck cv) := by
 intro Q hQ
 unfold done updateA at hQ
 have hQ2 := (M.all_bind _ _ _ _).1 hQ
 clear hQ
 have hQ := hQ2
 clear hQ2
 cases hd : C.desc t with
 | none => rw [hd] at hQ; exact hQ.elim
 | some d =>
  rw [hd] at hQ
  cases d <;> (try simp only at hQ) <;> try exact hQ.elim
  rename_i kt et
  cases x <;> (try simp only at hQ) <;> try exact hQ.elim
  rename_i b
  simp only [VR] at hx
  obtain ⟨p, hp, rfl⟩ := hx
  obtain ⟨y, hy, hq⟩ := (Zo _ _ _).1 ((M.all_bind _ _ _ _).1 hQ)
  clear hQ
  obtain ⟨q, hq', hbo⟩ := hr.blocks _ _ hy
  rw [hp] at hq'; obtain rfl := Option.some.inj hq'
  cases y with
  | map es fz =>
   obtain ⟨ents, clock, ho, he, hb⟩ := hbo
   cases fz with
   | true => exact hq.elim
   | false =>
    cases hkd : C.desc kt with
    | none => rw [hkd] at hq; exact hq.elim
    | some kd =>
     rw [hkd] at hq; simp only at hq
     cases hkk : keyKind kd k with
     | false => rw [hkk] at hq; exact hq.elim
     | true =>
      cases hok : v.okc with
      | false => rw [hkk, hok] at hq; exact hq.elim
      | true =>
       cases hf : findA k es 0 with
       | none => rw [hkk, hok, hf] at hq; exact hq.elim
       | some r =>
        rw [hkk, hok, hf] at hq
        obtain ⟨f1, f2⟩ := Z3b hk hkk es ents.toList he 0 r hf
        have hik := Jz hkk hk
        have hck := MapKept.run_checkKey (P := P) (w := w) (undc hC hkd) hik false 9999
        have hput : ∀ (es' : List (AV × AV)) (ents' : Array MapEntry) (clock' : Nat), EntsR ρ es' ents'.toList -> Borns clock' ents'.toList ->
          Stp ρ s w ρ (s.put b (.map es' false)) (setBlock w p.blk (.map ents' clock')) /\ HR ρ (s.put b (.map es' false)).H (setBlock w p.blk (.map ents' clock')) := by
         intro es' ents' clock' h1 h2
         have hh := MapKept.heap_set (o' := Obj.map ents' clock') ho
         exact J4 hr hy rfl rfl hp hh.1 hh.2 (by simp [setBlock]) ⟨rfl, rfl, rfl⟩ ⟨ents', clock', rfl, h1, h2⟩ (fun m l e h => by cases h) (fun es h => by cases h)
        cases r with
        | none =>
         simp only at hq
         obtain ⟨_, hq⟩ := (Y1 _ _ _ _).1 hq
         have hfk := MapKept.run_findKey (P := P) (w := w) (undc hC hkd) (f1 rfl)
         obtain ⟨k1, k2⟩ := hput (es ++ [(k, v)]) (ents.push { key := ck, val := cv, born := clock }) (clock + 1) (by
          rw [Array.toList_push]; exact EntsR.append he (by simp only [EntsR]; exact ⟨_, _, rfl, hk, hv, rfl⟩)) (by rw [Array.toList_push]; exact hb.push rfl)
         refine ⟨_, _, ρ, _, (), hq, ?_, k1, k2, rfl⟩
         simp [Instr.mapUpdate, Go.run_underlying (undc hC hd), MapKept.run_getObj_map ho, hck, hfk, MapKept.run_setObj_map _ ho, setBlock]
        | some jv =>
         obtain ⟨j, v0⟩ := jv
         simp only at hq
         obtain ⟨_, hq⟩ := (Y1 _ _ _ _).1 hq
         obtain ⟨y, y1, y2, y3, y4, y5⟩ := f2 j v0 rfl
         have hfk := MapKept.run_findKey (P := P) (w := w) (undc hC hkd) y2
         rw [Nat.sub_zero] at y3
         obtain ⟨k1, k2⟩ := hput (setNth es j (k, v)) (ents.modify j fun e => { e with key := ck, val := cv }) clock (by
          have : (ents.modify j fun e => { e with key := ck, val := cv }).toList = ents.toList.set j { y with key := ck, val := cv } := by
           apply List.ext_getElem?
           intro i
           rw [Array.toList_modify, List.getElem?_modify, List.getElem?_set]
           by_cases e : j = i
           ·subst e
            have hlt := (List.getElem?_eq_some_iff.1 y3).1
            simp [y3]
            simpa using hlt
           ·simp [e]
          rw [this]
          exact EntsR.set he j (k, v) _ hk hv) (by
          have : (ents.modify j fun e => { e with key := ck, val := cv }).toList = ents.toList.set j { y with key := ck, val := cv } := by
           apply List.ext_getElem?
           intro i
           rw [Array.toList_modify, List.getElem?_modify, List.getElem?_set]
           by_cases e : j = i
           ·subst e
            have hlt := (List.getElem?_eq_some_iff.1 y3).1
            simp [y3]
            simpa using hlt
           ·simp [e]
          rw [this]
          exact hb.set y3 rfl)
         refine ⟨_, _, ρ, _, (), hq, ?_, k1, k2, rfl⟩
         have hkey : ((ents[j]?).map (·.key)).getD ck = ck := by
          have : ents[j]? = some y := by simpa using y3
          rw [this]; exact y4
         simp [Instr.mapUpdate, Go.run_underlying (undc hC hd), MapKept.run_getObj_map ho, hck, hfk, hkey, MapKept.run_keyThatStays hik, MapKept.run_setObj_map _ ho, setBlock]
  | _ => exact hq.elim
end
end Go.Am
namespace Go.Am
open Go
open Go.ChangeMaps (setBlock)
open Go.MapKept
section
variable {P : Program} {C : Cfg} {ρ : Rho} {s : St} {w : World}
theorem Zay (hC : CfgOk P C) (hr : HR ρ s.H w) {t ty : TypeId} {ts : List TypeId} {d : TypeDesc} (hd : C.desc t = some d) {x : AV} {cx : Value} (hx : VR ρ x cx) (hl : hasLen d x = true) : ValSim P ρ s w (lenA x) (Builtin.len_ ⟨t :: ts⟩ ty #[cx]) := by
 have hu := Go.run_underlying (w := w) (undc hC hd)
 intro Q hQ
 unfold lenA at hQ
 cases d <;> cases x <;> simp only [hasLen] at hl <;> (try (cases hl; done)) <;> simp only at hQ
 case string.str t' =>
  simp only [VR] at hx; subst hx
  exact ⟨_, s, ρ, w, .int .i64 t'.size, hQ, by simp [Builtin.len_, hu, goInt], Stp.refl _ _ _, hr, by simp [VR]⟩
 case slice.nils =>
  simp only [VR] at hx; subst hx
  exact ⟨_, s, ρ, w, .int .i64 0, hQ, by simp [Builtin.len_, hu, goInt], Stp.refl _ _ _, hr, by simp [VR]⟩
 case slice.slice b o n c ex =>
  simp only [VR] at hx
  obtain ⟨p, o', c', hp, a, rfl, _⟩ := hx
  exact ⟨_, s, ρ, w, .int .i64 n, hQ, by simp [Builtin.len_, hu, goInt], Stp.refl _ _ _, hr, by simp [VR]⟩
 case slice.empty =>
  simp only [VR] at hx; obtain ⟨a, rfl⟩ := hx
  exact ⟨_, s, ρ, w, .int .i64 0, hQ, by simp [Builtin.len_, hu, goInt], Stp.refl _ _ _, hr, by simp [VR]⟩
 case slice.lst l =>
  simp only [VR] at hx
  obtain ⟨a, c, rfl, _⟩ := hx
  exact ⟨_, s, ρ, w, .int .i64 l.length, hQ, by simp [Builtin.len_, hu, goInt], Stp.refl _ _ _, hr, by simp [VR]⟩
 case slice.own b l =>
  simp only [VR] at hx
  obtain ⟨p, c, _, rfl, _⟩ := hx
  exact ⟨_, s, ρ, w, .int .i64 l.length, hQ, by simp [Builtin.len_, hu, goInt], Stp.refl _ _ _, hr, by simp [VR]⟩
 case map.nilm =>
  simp only [VR] at hx; subst hx
  exact ⟨_, s, ρ, w, .int .i64 0, hQ, by simp [Builtin.len_, hu, goInt], Stp.refl _ _ _, hr, by simp [VR]⟩
 case map.map b =>
  simp only [VR] at hx
  obtain ⟨p, hp, rfl⟩ := hx
  obtain ⟨y, hy, hq⟩ := (Zo _ _ _).1 ((M.all_bind _ _ _ _).1 hQ)
  obtain ⟨q, hq', hbo⟩ := hr.blocks _ _ hy
  rw [hp] at hq'; obtain rfl := Option.some.inj hq'
  cases y with
  | map es fz =>
   obtain ⟨ents, clock, ho, he, _⟩ := hbo
   have hn : es.length = ents.size := by rw [he.length]; simp
   exact ⟨_, s, ρ, w, .int .i64 ents.size, hq, by simp [Builtin.len_, hu, MapKept.run_getObj_map ho, goInt], Stp.refl _ _ _, hr, by simp [VR, hn]⟩
  | _ => exact hq.elim
theorem Z7u {k : IntKind} : ∀ (r : List AV) (cr : List Value) (a : Int), VRs ρ r cr -> ∀ v, minmax true (.int k a) r = some v -> ∃ cv, (cr.foldlM Builtin.max2 (.int k a)).run P w = .ok cv w /\ VR ρ v cv
 | [], cr, a, h, v, hv => by simp [VRs] at h; subst h; simp [minmax] at hv; subst hv; exact ⟨.int k a, by simp, by simp [VR]⟩
 | y :: r, cr, a, h, v, hv => by
  simp only [VRs] at h
  obtain ⟨cy, t, rfl, h1, h2⟩ := h
  unfold minmax at hv
  cases y <;> (try simp only at hv) <;> try (cases hv; done)
  rename_i k' b
  simp only [VR] at h1; subst h1
  cases hk : decide (k = k') with
  | false => rw [hk] at hv; cases hv
  | true =>
   rw [hk] at hv; simp only at hv
   have : (Builtin.max2 (.int k a) (.int k' b)).run P w = .ok (.int k (match decide (a < b) with | true => b | false => a)) w := by
    simp only [Builtin.max2, Sem.run_pure]
    congr 2
    by_cases hlt : a < b <;> simp [hlt]
   obtain ⟨cv, g1, g2⟩ := Z7u (k := k) r t _ h2 v hv
   exact ⟨cv, by simp only [List.foldlM_cons, Sem.run_bind, this, Result.andThen_ok]; exact g1, g2⟩
theorem Z7v {k : IntKind} : ∀ (r : List AV) (cr : List Value) (a : Int), VRs ρ r cr -> ∀ v, minmax false (.int k a) r = some v -> ∃ cv, (cr.foldlM Builtin.min2 (.int k a)).run P w = .ok cv w /\ VR ρ v cv
 | [], cr, a, h, v, hv => by simp [VRs] at h; subst h; simp [minmax] at hv; subst hv; exact ⟨.int k a, by simp, by simp [VR]⟩
 | y :: r, cr, a, h, v, hv => by
  simp only [VRs] at h
  obtain ⟨cy, t, rfl, h1, h2⟩ := h
  unfold minmax at hv
  cases y <;> (try simp only at hv) <;> try (cases hv; done)
  rename_i k' b
  simp only [VR] at h1; subst h1
  cases hk : decide (k = k') with
  | false => rw [hk] at hv; cases hv
  | true =>
   rw [hk] at hv; simp only at hv
   have : (Builtin.min2 (.int k a) (.int k' b)).run P w = .ok (.int k (match decide (b < a) with | true => b | false => a)) w := by
    simp only [Builtin.min2, Sem.run_pure]
    congr 2
    by_cases hlt : b < a <;> simp [hlt]
   obtain ⟨cv, g1, g2⟩ := Z7v (k := k) r t _ h2 v hv
   exact ⟨cv, by simp only [List.foldlM_cons, Sem.run_bind, this, Result.andThen_ok]; exact g1, g2⟩
theorem Z2j (hr : HR ρ s.H w) (hf : Fr ρ s) (x : Blk) (o : Obj) {Q : AV × St -> Prop} (hq : Q (.ptr s.name 0, s.new x))
  (hb : BO (ρ.upd s.name ⟨w.heap.size, 0, 0, 0⟩) ⟨w.heap.size, 0, 0, 0⟩ (some o) x)
  (hm : ∀ m left last, x = .mapIter m left last -> (∃ es, hget s.H m = some (.map es true)) /\ ∀ pm, ρ m = some pm -> MI ρ left last (some o) w.heap[pm.blk]?)
  {r : Sem Value} (hrun : r.run P w = .ok (.pointer (some ⟨w.heap.size, 0, none⟩)) (w.alloc o)) :
  ∃ v s' ρ' w' cv, Q (v, s') /\ r.run P w = .ok cv w' /\ Stp ρ s w ρ' s' w' /\ HR ρ' s'.H w' /\ VR ρ' v cv := by
 obtain ⟨h1, h2⟩ := Jw hr hf x o ⟨w.heap.size, 0, 0, 0⟩ rfl hb hm
 exact ⟨_, _, _, _, _, hq, hrun, h1, h2, by simp only [VR]; exact ⟨_, Rho.upd_same .., rfl⟩⟩
theorem Z7w (hC : CfgOk P C) (hr : HR ρ s.H w) (hf : Fr ρ s) {t : TypeId} {x : AV} {cx : Value} (hx : VR ρ x cx) : ValSim P ρ s w (rangeA C t x) (Instr.range t cx) := by
 intro Q hQ
 unfold rangeA at hQ
 cases hd : C.desc t with
 | none => rw [hd] at hQ; exact hQ.elim
 | some d =>
  have hu := Go.run_underlying (w := w) (undc hC hd)
  rw [hd] at hQ
  cases d <;> (try simp only at hQ) <;> (try exact hQ.elim) <;> cases x <;> (try simp only at hQ) <;> try exact hQ.elim
  case string.str v =>
   simp only [VR] at hx; subst hx
   exact Z2j hr hf (.strIter v 0) (.stringIter v 0) hQ ⟨rfl, rfl⟩ (fun m l e h => by cases h) (by simp [Instr.range, hu])
  case map.map kt et m =>
   simp only [VR] at hx
   obtain ⟨p, hp, rfl⟩ := hx
   obtain ⟨y, hy, hq⟩ := (Zo _ _ _).1 ((M.all_bind _ _ _ _).1 hQ)
   obtain ⟨q, hq', hbo⟩ := hr.blocks _ _ hy
   rw [hp] at hq'; obtain rfl := Option.some.inj hq'
   cases y with
   | map es fz =>
    obtain ⟨_, hq⟩ := (Y1 _ _ _ _).1 ((M.all_bind _ _ _ _).1 hq)
    obtain ⟨ents, clock, ho, he, hb⟩ := hbo
    obtain ⟨k1, k2⟩ := J4 (y := .map es true) (w' := w) (o := .map ents clock) hr hy rfl rfl hp ho (fun _ _ => rfl) rfl (Same.refl _) ⟨ents, clock, rfl, he, hb⟩ (fun m l e h => by cases h) (fun es' h => by cases h; exact ⟨rfl, ho⟩)
    have hf' : Fr ρ (s.put m (.map es true)) := hf
    have hall : ents.toList.filter (fun e => !(#[] : Array Nat).contains e.born) = ents.toList := by
     rw [List.filter_eq_self]; simp
    have hMI : MI ρ es none (some (.mapIter (some p.blk) clock #[] clock)) w.heap[p.blk]? := ⟨p.blk, ents, clock, #[], rfl, ho, by rw [hall]; exact he, fun e h => by cases h⟩
    have hpn : (ρ.upd (s.put m (.map es true)).name ⟨w.heap.size, 0, 0, 0⟩) m = some p := by
     have hfree := Yt hf'
     rw [Rho.upd_ne]
     ·exact hp
     ·exact fun e => by rw [<- e, hp] at hfree; cases hfree
    obtain ⟨v, s', ρ', w', cv, g1, g2, g3, g4, g5⟩ := Z2j (P := P) (r := Instr.range t (.map (some p.blk))) k2 hf' (.mapIter m es none) (.mapIter (some p.blk) clock #[] clock) hq
     ⟨rfl, p, clock, #[], hpn, rfl⟩
     (fun m' l e h => by
      cases h
      refine ⟨⟨es, Z4 _ hy⟩, fun pm hpm => ?_⟩
      rw [hp] at hpm; obtain rfl := Option.some.inj hpm
      exact hMI) (by simp [Instr.range, hu, MapKept.run_getObj_map ho])
    exact ⟨v, s', ρ', w', cv, g1, g2, k1.trans g3, g4, g5⟩
   | _ => exact hq.elim
theorem Z7x {l : List MapEntry} (h : (l.map (·.born)).Nodup) : ∀ (i : Nat) (e : MapEntry), l[i]? = some e -> l.filter (fun x => !(x.born == e.born)) = l.eraseIdx i := by
 induction l with
 | nil => intro i e h; simp at h
 | cons a r ih =>
  intro i e he
  simp only [List.map_cons, List.nodup_cons] at h
  cases i with
  | zero =>
   simp at he; subst he
   rw [List.eraseIdx_cons_zero, List.filter_cons]
   simp only [beq_self_eq_true, Bool.not_true, Bool.false_eq_true, if_false]
   rw [List.filter_eq_self]
   intro x hx
   have : x.born ≠ a.born := fun hh => h.1 (hh ▸ List.mem_map_of_mem hx)
   simp [this]
  | succ i =>
   simp only [List.getElem?_cons_succ] at he
   have hm := List.mem_of_getElem? he
   have hne : a.born ≠ e.born := fun hh => h.1 (hh ▸ List.mem_map_of_mem hm)
   rw [List.eraseIdx_cons_succ, List.filter_cons, ih h.2 i e he]
   simp [hne]
theorem Borns.nodup {c : Nat} {l : List MapEntry} (h : Borns c l) : (l.map (·.born)).Nodup := h.1.imp (fun h => Nat.ne_of_lt h)
theorem Z9y (hr : HR ρ s.H w) {x : AV} {cx : Value} (hx : VR ρ x cx) (str : Bool) (ty : TypeId) : ValSim P ρ s w (nextA x str) (Instr.next cx str ty) := by
 intro Q hQ
 unfold nextA at hQ
 cases x <;> (try simp only at hQ) <;> try exact hQ.elim
 rename_i r o
 cases o with
 | succ o => exact hQ.elim
 | zero =>
  simp only [VR] at hx
  obtain ⟨p, hp, rfl⟩ := hx
  simp only at hQ
  obtain ⟨y, hy, hq⟩ := (Zo _ _ _).1 ((M.all_bind _ _ _ _).1 hQ)
  clear hQ
  obtain ⟨q, hq', hbo⟩ := hr.blocks _ _ hy
  rw [hp] at hq'; obtain rfl := Option.some.inj hq'
  cases y with
  | strIter t pos =>
   obtain ⟨h0, ho⟩ := hbo
   cases str with
   | false => exact hq.elim
   | true =>
    simp only at hq
    have hg : (getObj p.blk).run P w = .ok (.stringIter t pos) w := by simp [getObj, Sem.run, ho]
    cases hlt : Nat.blt pos t.size with
    | false =>
     rw [hlt] at hq
     have hn : ¬ pos < t.size := fun h => by (have h1 : Nat.blt pos t.size = true := by rw [Nat.blt_eq]; exact h); rw [h1] at hlt; cases hlt
     refine ⟨_, s, ρ, w, .tuple #[.bool false], hq, ?_, Stp.refl _ _ _, hr, by simp [VR, VRs]⟩
     simp only [h0, Instr.next, Sem.run_bind, hg, Result.andThen_ok, if_neg hn, Sem.run_pure]
    | true =>
     rw [hlt] at hq
     have hn : pos < t.size := by rw [Nat.blt_eq] at hlt; exact hlt
     obtain ⟨_, hq⟩ := (Y1 _ _ _ _).1 ((M.all_bind _ _ _ _).1 hq)
     have hs : (setObj p.blk (.stringIter t (pos + (Utf8.decode t pos).2))).run P w = .ok () (setBlock w p.blk (.stringIter t (pos + (Utf8.decode t pos).2))) := by simp [setObj, Sem.run, ho, setBlock]
     have hh := MapKept.heap_set (o' := Obj.stringIter t (pos + (Utf8.decode t pos).2)) ho
     obtain ⟨k1, k2⟩ := J4 (y := .strIter t (pos + (Utf8.decode t pos).2)) (w' := setBlock w p.blk (.stringIter t (pos + (Utf8.decode t pos).2))) hr hy rfl rfl hp hh.1 hh.2 (by simp [setBlock]) ⟨rfl, rfl, rfl⟩ ⟨h0, rfl⟩ (fun m l e h => by cases h) (fun es h => by cases h)
     refine ⟨_, _, ρ, _, .tuple #[.bool true, goInt pos, .int .i32 (Utf8.decode t pos).1], hq, ?_, k1, k2, ?_⟩
     ·simp only [h0, Instr.next, Sem.run_bind, hg, Result.andThen_ok, if_pos hn, hs, Sem.run_pure]
     ·simp [VR, VRs, goInt]
  | mapIter m left last =>
   obtain ⟨h0, _⟩ := hbo
   cases str with
   | true => exact hq.elim
   | false =>
    simp only at hq
    obtain ⟨ym, hym, hq⟩ := (Zo _ _ _).1 ((M.all_bind _ _ _ _).1 hq)
    obtain ⟨⟨es, hes⟩, hmi⟩ := hr.iter _ _ _ _ hy
    rw [hym] at hes; obtain rfl := Option.some.inj hes
    obtain ⟨pm, hpm, ents0, clock0, hom0, hents0, hborn⟩ := hr.blocks _ _ hym
    obtain ⟨mb, ents, clock, seen, ho, hom, hleft, hlast⟩ := hmi p pm hp hpm
    rw [hom0] at hom; obtain ⟨rfl, rfl⟩ : ents0 = ents /\ clock0 = clock := by simpa using hom
    have hmb : mb = pm.blk := by
     obtain ⟨q, hq2, _, pm', _, _, hpm', ho'⟩ := hr.blocks _ _ hy
     rw [hp] at hq2; obtain rfl := Option.some.inj hq2
     rw [hpm] at hpm'; obtain rfl := Option.some.inj hpm'
     rw [ho] at ho'; simp at ho'; exact ho'.1
    subst hmb
    have hrun := run_next_at (P := P) w ty p.blk pm.blk clock0 clock0 seen ents0 clock0 ho hom0 hborn.2 (Nat.le_refl _)
    have hll : (leftOf ents0 seen).toList = ents0.toList.filter (fun e => !seen.contains e.born) := by simp [leftOf]
    have hone : ∀ (w1 : World) (i : Nat) (e : MapEntry), (w1 = w \/ w1 = w.drew) -> (leftOf ents0 seen).toList[i]? = some e -> ∃ a, nth left i = some a /\ VR ρ a.1 e.key /\ VR ρ a.2 e.val /\
      Stp ρ s w ρ (s.put r (.mapIter m (dropAt left i) (some a))) (setBlock w1 p.blk (.mapIter (some pm.blk) clock0 (seen.push e.born) clock0)) /\
      HR ρ (s.put r (.mapIter m (dropAt left i) (some a))).H (setBlock w1 p.blk (.mapIter (some pm.blk) clock0 (seen.push e.born) clock0)) := by
     intro w1 i e hw1 he
     rw [hll] at he
     obtain ⟨a, ha, ha1, ha2⟩ := hleft.nth i e he
     refine ⟨a, ha, ha1, ha2, ?_⟩
     have hheap : w1.heap = w.heap := by rcases hw1 with rfl | rfl <;> rfl
     have hsame : Same w w1 := by rcases hw1 with rfl | rfl <;> exact ⟨rfl, rfl, rfl⟩
     have hh := MapKept.heap_set (o' := Obj.mapIter (some pm.blk) clock0 (seen.push e.born) clock0) ho
     have hnd : ((ents0.toList.filter (fun e => !seen.contains e.born)).map (·.born)).Nodup := (List.filter_sublist.map _).nodup hborn.nodup
     have hmem : e ∈ ents0.toList := (List.mem_filter.1 (List.mem_of_getElem? he)).1
     refine J4 hr hy rfl rfl hp ?_ ?_ ?_ ?_ ⟨h0, pm, clock0, seen.push e.born, hpm, rfl⟩ ?_ (fun es h => by cases h)
     ·simp only [setBlock, hheap]; exact hh.1
     ·intro c hc; simp only [setBlock, hheap]; exact hh.2 c hc
     ·simp [setBlock, hheap]
     ·exact hsame.trans ⟨rfl, rfl, rfl⟩
     ·intro m' l' e' h
      cases h
      refine ⟨⟨es, hym⟩, fun pm' hpm' => ?_⟩
      rw [hpm] at hpm'; obtain rfl := Option.some.inj hpm'
      refine ⟨pm.blk, ents0, clock0, seen.push e.born, rfl, hom0, ?_, ?_⟩
      ·have hf : ents0.toList.filter (fun x => !(seen.push e.born).contains x.born) = (ents0.toList.filter (fun e => !seen.contains e.born)).eraseIdx i := by
        rw [<- Z7x hnd i e he, List.filter_filter]
        apply List.filter_congr
        intro x _
        simp [Bool.and_comm]
        rfl
       rw [hf]; exact hleft.dropAt i
      ·intro e' he'
       simp only [Option.some.injEq] at he'; subst he'
       exact ⟨e.born, e, by simp, find_born e ents0.toList hborn.nodup hmem, ha1, ha2⟩
    rcases hrun with ⟨hz, hrun⟩ | ⟨e, hmem, w1, hw1, hrun⟩
    ·
     have hnil : left = [] := by
      have := hleft.length
      rw [<- hll] at this
      exact List.eq_nil_of_length_eq_zero (by rw [this]; simpa using hz)
     subst hnil
     simp only at hq
     refine ⟨_, s, ρ, w, .tuple #[.bool false], hq, ?_, Stp.refl _ _ _, hr, by simp [VR, VRs]⟩
     rw [h0]; exact hrun
    ·obtain ⟨i, hi⟩ := List.mem_iff_getElem?.1 hmem
     obtain ⟨a, ha, ha1, ha2, k1, k2⟩ := hone w1 i e hw1 hi
     have hlt := Yi ha
     have hrun' : (Instr.next (.pointer (some ⟨p.blk, p.off + 0, none⟩)) false ty).run P w = .ok (.tuple #[.bool true, e.key, e.val]) (setBlock w1 p.blk (.mapIter (some pm.blk) clock0 (seen.push e.born) clock0)) := by rw [h0]; exact hrun
     have fin : Q (.tuple [.bool true, a.1, a.2], s.put r (.mapIter m (dropAt left i) (some a))) -> ∃ v s' ρ' w' cv, Q (v, s') /\ (Instr.next (.pointer (some ⟨p.blk, p.off + 0, none⟩)) false ty).run P w = .ok cv w' /\ Stp ρ s w ρ' s' w' /\ HR ρ' s'.H w' /\ VR ρ' v cv := fun hq => by
      refine ⟨_, _, ρ, _, _, hq, hrun', k1, k2, ?_⟩
      simp only [VR]
      refine ⟨[.bool true, e.key, e.val], rfl, ?_⟩
      simp only [VRs]
      exact ⟨_, _, rfl, by simp [VR], _, _, rfl, ha1, _, _, rfl, ha2, rfl⟩
     cases left with
     | nil => simp at hlt
     | cons x l1 =>
      cases l1 with
      | nil =>
       have hi0 : i = 0 := by simp at hlt; omega
       subst hi0
       simp only [Yg, Option.some.injEq] at ha; subst ha
       simp only at hq
       obtain ⟨_, hq⟩ := (Y1 _ _ _ _).1 ((M.all_bind _ _ _ _).1 hq)
       exact fin hq
      | cons y l2 =>
       simp only at hq
       have hq := (Z2z _ _ _).1 ((M.all_bind _ _ _ _).1 hq) i hlt
       simp only [ha] at hq
       obtain ⟨_, hq⟩ := (Y1 _ _ _ _).1 ((M.all_bind _ _ _ _).1 hq)
       exact fin hq
  | _ => cases str <;> exact hq.elim
theorem Z7y (hr : HR ρ s.H w) {x : AV} {cx : Value} (hx : VR ρ x cx) : ValSim P ρ s w (entryA x) (Instr.entry cx) := by
 intro Q hQ
 unfold entryA at hQ
 cases x <;> (try simp only at hQ) <;> try exact hQ.elim
 rename_i r o
 cases o with
 | succ o => exact hQ.elim
 | zero =>
  simp only [VR] at hx
  obtain ⟨p, hp, rfl⟩ := hx
  simp only at hQ
  obtain ⟨y, hy, hq⟩ := (Zo _ _ _).1 ((M.all_bind _ _ _ _).1 hQ)
  clear hQ
  obtain ⟨q, hq', hbo⟩ := hr.blocks _ _ hy
  rw [hp] at hq'; obtain rfl := Option.some.inj hq'
  cases y with
  | mapIter m left last =>
   obtain ⟨h0, _⟩ := hbo
   cases last with
   | none => exact hq.elim
   | some a =>
    simp only at hq
    obtain ⟨ym, hym, hq⟩ := (Zo _ _ _).1 ((M.all_bind _ _ _ _).1 hq)
    obtain ⟨⟨es, hes⟩, hmi⟩ := hr.iter _ _ _ _ hy
    rw [hym] at hes; obtain rfl := Option.some.inj hes
    obtain ⟨pm, hpm, ents0, clock0, hom0, hents0, hborn⟩ := hr.blocks _ _ hym
    obtain ⟨mb, ents, clock, seen, ho, hom, hleft, hlast⟩ := hmi p pm hp hpm
    rw [hom0] at hom; obtain ⟨rfl, rfl⟩ : ents0 = ents /\ clock0 = clock := by simpa using hom
    have hmb : mb = pm.blk := by
     obtain ⟨q, hq2, _, pm', _, _, hpm', ho'⟩ := hr.blocks _ _ hy
     rw [hp] at hq2; obtain rfl := Option.some.inj hq2
     rw [hpm] at hpm'; obtain rfl := Option.some.inj hpm'
     rw [ho] at ho'; simp at ho'; exact ho'.1
    subst hmb
    obtain ⟨st, y, g1, g2, g3, g4⟩ := hlast a rfl
    refine ⟨_, s, ρ, w, .tuple #[y.key, y.val], hq, ?_, Stp.refl _ _ _, hr, ?_⟩
    ·rw [h0]
     have gg1 : (getObj p.blk).run P w = .ok (.mapIter (some pm.blk) clock0 seen clock0) w := by simp [getObj, Sem.run, ho]
     have gg2 := MapKept.run_getObj_map (P := P) hom0
     have gg3 : ents0.find? (fun x => x.born == st) = some y := by rw [<- Array.find?_toList]; exact g2
     simp [Instr.entry, gg1, gg2, g1, gg3]
    ·simp only [VR]
     refine ⟨[y.key, y.val], rfl, ?_⟩
     simp only [VRs]
     exact ⟨_, _, rfl, g3, _, _, rfl, g4, rfl⟩
  | _ => exact hq.elim
theorem Z1f (hr : HR ρ s.H w) (hf : Fr ρ s) {t : TypeId} {h : Option Value} (hh : h = none \/ ∃ k n, h = some (.int k n) /\ ∃ kt et, P.underlying t = some (.map kt et)) : ValSim P ρ s w ((newM (.map [] false)).bind fun i => M.ret (.map i)) (Instr.makeMap t h) := by
 intro Q hQ
 obtain ⟨k1, k2⟩ := Jw hr hf (.map [] false) (.map #[] 0) ⟨w.heap.size, 0, 0, 0⟩ rfl ⟨#[], 0, rfl, by simp [EntsR], by simp [Borns]⟩ (fun m l e h => by cases h)
 refine ⟨_, _, _, _, .map (some w.heap.size), hQ, ?_, k1, k2, by simp only [VR]; exact ⟨_, Rho.upd_same .., rfl⟩⟩
 rcases hh with rfl | ⟨k, n, rfl, kt, et, hu⟩
 ·simp [Instr.makeMap]
 ·simp [Instr.makeMap, Go.run_underlying hu, asInt, asIntOf]
end
end Go.Am
namespace Go.Am
open Go
open Go.MapKept
def Fw (F : Fence) : Prop := F = Fence.wide \/ ∃ l, F = Fence.wide.inRound l
theorem Fw.fn {F : Fence} (h : Fw F) (f : FuncId) : F.fn f := by rcases h with rfl | ⟨l, rfl⟩ <;> trivial
theorem Fw.depth {F : Fence} (h : Fw F) : F.depth = none := by rcases h with rfl | ⟨l, rfl⟩ <;> rfl
theorem Fw.calls {F : Fence} (h : Fw F) {n : Nat} {P : Program} {f : FuncId} {args : Array Value} {w : World} {R : Ending -> World -> Prop} (hc : CallsIn Fence.wide n P f args w R) : CallsIn F n P f args w R := by
 rcases h with rfl | ⟨l, rfl⟩
 ·exact hc
 ·exact hc
theorem Fw.round {F : Fence} (h : Fw F) {n : Nat} {P : Program} {l : Nat} {f : FuncId} {tmps : Array Value} {a b : Code} {w : World} {R : Ending -> World -> Prop} (hc : RoundIn Fence.wide n P l f tmps a b w R) : RoundIn F n P l f tmps a b w R := by
 rcases h with rfl | ⟨l, rfl⟩
 ·exact hc
 ·exact hc
def EndR (R : AV × St -> Prop) (ρ : Rho) (s : St) (w : World) (e : Ending) (w' : World) : Prop :=
 ∃ v s' ρ' cv, e = .returned cv /\ R (v, s') /\ Stp ρ s w ρ' s' w' /\ HR ρ' s'.H w' /\ VR ρ' v cv
def CallOk (P : Program) (call : FuncId -> List AV -> M AV) : Prop :=
 ∀ (f : FuncId) (args : List AV) (s : St) (w : World) (ρ : Rho) (cargs : List Value) (R : AV × St -> Prop), HR ρ s.H w -> Fr ρ s -> VRs ρ args cargs -> (call f args s).All R ->
  (∃ fn, P.funcs[f]? = some fn /\ (fn.name == "runtime.NumGoroutine") = false /\ fn.body.isSome = true) /\ ∀ n, CallsIn Fence.wide n P f ⟨cargs⟩ w (EndR R ρ s w)
def RndOk (P : Program) (rnd : Nm -> List AV -> M AV) : Prop :=
 ∀ (l : Nm) (args : List AV) (s : St) (w : World) (ρ : Rho) (cargs : List Value) (R : AV × St -> Prop) (p : Place), HR ρ s.H w -> Fr ρ s -> VRs ρ args cargs -> ρ l = some p -> (rnd l args s).All R ->
  ∃ f tmps assign body, (Instr.yield p.blk ⟨cargs⟩).run P w = .ok (.round p.blk f tmps assign body) w /\ ∀ n, RoundIn Fence.wide n P p.blk f tmps assign body w (EndR R ρ s w)
section
variable {P : Program} {C : Cfg} {call : FuncId -> List AV -> M AV} {rnd : Nm -> List AV -> M AV} {F : Fence} {n : Nat} {ρ : Rho} {s : St} {w : World} {T : List AV} {a : Act} {o : Oper} {next : Act -> World -> Prop} {Q : Exit -> Act -> World -> Prop} {R : AV × St -> Prop}
abbrev NextOk (o : Oper) (a : Act) (next : Act -> World -> Prop) (R : AV × St -> Prop) (ρ : Rho) (s : St) (w : World) : Prop :=
 ∀ v s' ρ' w' cv, R (v, s') -> Stp ρ s w ρ' s' w' -> HR ρ' s'.H w' -> VR ρ' v cv -> next (a.put o.dst cv) w'
theorem Zq (hF : Fw F) (hnd : ∀ c, o.op ≠ .defer c) {r : Sem Value} {m : M AV} (he : execOp a.eval o = (do pure (.value (<- r)))) (hs : ValSim P ρ s w m r) (hm : (m s).All R) (hN : NextOk o a next R ρ s w) : o.wpIn F n P a w next Q := by
 obtain ⟨v, s', ρ', w', cv, h1, h2, h3, h4, h5⟩ := hs _ hm
 refine ⟨fun f _ => hF.fn f, ?_⟩
 rw [Oper.semAt_plain F _ _ hnd, he]
 simp only [Sem.run_bind, h2, Result.andThen_ok, Sem.run_pure, Oper.uponIn]
 exact hN v s' ρ' w' cv h1 h3 h4 h5
theorem Zt (hF : Fw F) (hnd : ∀ c, o.op ≠ .defer c) (hr : HR ρ s.H w) {r : Sem Value} {v : AV} (he : execOp a.eval o = (do pure (.value (<- r)))) (hs : ∃ cv, r.run P w = .ok cv w /\ VR ρ v cv) (hm : R (v, s)) (hN : NextOk o a next R ρ s w) : o.wpIn F n P a w next Q :=
 Zq hF hnd he (ValSim.of hr (o := some v) (fun v' hv => by cases hv; exact hs)) (by exact hm) hN
theorem Z3w (hF : Fw F) (hnd : ∀ c, o.op ≠ .defer c) {r : Sem Unit} {m : M AV} (he : execOp a.eval o = (do r; pure .skip)) (hs : UnitSim P ρ s w m r) (hm : (m s).All R) (hN : NextOk o a next R ρ s w) : o.wpIn F n P a w next Q := by
 obtain ⟨v, s', ρ', w', cv, h1, h2, h3, h4, h5⟩ := hs _ hm
 refine ⟨fun f _ => hF.fn f, ?_⟩
 rw [Oper.semAt_plain F _ _ hnd, he]
 simp only [Sem.run_bind, h2, Result.andThen_ok, Sem.run_pure, Oper.uponIn]
 exact hN v s' ρ' w' undef h1 h3 h4 (by subst h5; simp [VR])
theorem Zi {x : Operand} {f : AV -> M AV} (h : (ev1 T x f s).All R) : ∃ v, evA T x = some v /\ (f v s).All R := by
 unfold ev1 at h
 cases hx : evA T x with
 | none => rw [hx] at h; exact h.elim
 | some v => rw [hx] at h; exact ⟨v, rfl, h⟩
theorem Z9z (hF : Fw F) (hcall : CallOk P call) (hrnd : RndOk P rnd) (hr : HR ρ s.H w) (hf : Fr ρ s) {c : Call} (hop : o.op = .call c) {g : Operand} (hg : c.callee = .value g) {fv : AV} {args : List AV} {cargs : List Value} (hfv : VR ρ fv (a.eval g)) (hargs : VRs ρ args cargs) (hcargs : c.args.map a.eval = ⟨cargs⟩)
  (hm : (callA call rnd fv args s).All R) (hN : NextOk o a next R ρ s w) : o.wpIn F n P a w next Q := by
 refine ⟨fun f _ => hF.fn f, ?_⟩
 rw [Oper.semAt_plain F _ _ (fun c' h => by rw [hop] at h; cases h)]
 have hex : execOp a.eval o = (do let d <- resolve a.eval c o.type; invoke d.target d.args) := by simp only [execOp, hop]
 rw [hex]
 unfold callA at hm
 cases fv <;> (try simp only at hm) <;> try exact hm.elim
 case func f caps =>
  simp only [VR] at hfv
  obtain ⟨cs, hfe, hcs⟩ := hfv
  obtain ⟨⟨fn, h1, h2, h3⟩, hc⟩ := hcall f (args ++ caps) s w ρ (cargs ++ cs) R hr hf (VRs.append _ _ _ _ hargs hcs) hm
  have h3' : fn.body.isNone = false := by cases hb : fn.body <;> simp_all
  have hrun : (do let d <- resolve a.eval c o.type; invoke d.target d.args : Sem Next).run P w = .ok (.enter f ⟨cargs ++ cs⟩) w := by
   simp only [resolve, hg, hfe, hcargs, Deferred.ofValue, Sem.run_bind, Sem.run_pure, Result.andThen_ok, invoke, callFunc, run_program, h1, h2, h3']
   simp
  rw [hrun]
  simp only [Oper.uponIn]
  refine ⟨fun h => (by rw [hF.depth] at h; cases h), hF.calls ?_⟩
  refine CallsIn.mono (hc (n - 1)) fun e w' he => ?_
  obtain ⟨v, s', ρ', cv, rfl, g1, g2, g3, g4⟩ := he
  exact hN v s' ρ' w' cv g1 g2 g3 g4
 case yield l =>
  simp only [VR] at hfv
  obtain ⟨p, hp, hfe⟩ := hfv
  obtain ⟨f, tmps, assign, body, hy, hro⟩ := hrnd l args s w ρ cargs R p hr hf hargs hp hm
  have hrun : (do let d <- resolve a.eval c o.type; invoke d.target d.args : Sem Next).run P w = .ok (.round p.blk f tmps assign body) w := by
   simp only [resolve, hg, hfe, hcargs, Deferred.ofValue, Sem.run_bind, Sem.run_pure, Result.andThen_ok, invoke]
   simpa using hy
  rw [hrun]
  simp only [Oper.uponIn]
  refine ⟨fun h => (by rw [hF.depth] at h; cases h), hF.round ?_⟩
  refine RoundIn.mono (hro (n - 1)) fun e w' he => ?_
  obtain ⟨v, s', ρ', cv, rfl, g1, g2, g3, g4⟩ := he
  exact hN v s' ρ' w' cv g1 g2 g3 g4
theorem Y6 (hF : Fw F) {c : Call} {b : Builtin} (hop : o.op = .call c) (hb : c.callee = .builtin b) {args : Array Value} (hargs : c.args.map a.eval = args) {r : Sem Value} {m : M AV}
  (he : ∀ consts, builtin b c.argTypes o.type consts args = (do pure (.value (<- r)))) (hs : ValSim P ρ s w m r) (hm : (m s).All R) (hN : NextOk o a next R ρ s w) : o.wpIn F n P a w next Q := by
 obtain ⟨v, s', ρ', w', cv, h1, h2, h3, h4, h5⟩ := hs _ hm
 refine ⟨fun f _ => hF.fn f, ?_⟩
 rw [Oper.semAt_plain F _ _ (fun c' h => by rw [hop] at h; cases h)]
 have hex : execOp a.eval o = (do let d <- resolve a.eval c o.type; invoke d.target d.args) := by simp only [execOp, hop]
 rw [hex]
 simp only [resolve, hb, hargs, Sem.run_bind, Sem.run_pure, Result.andThen_ok, invoke, he, h2, Oper.uponIn]
 exact hN v s' ρ' w' cv h1 h3 h4 h5
theorem Z3x {mx : Bool} {x : AV} {r : List AV} {t : List TypeId} {ty : TypeId} {cx : Value} {cr : List Value} {v : AV} (h : (match x with | .int .. => minmax mx x r | _ => none) = some v) (hx : VR ρ x cx) (hr' : VRs ρ r cr) :
  ∃ cv, (if mx then Builtin.max_ ⟨t⟩ ty ⟨cx :: cr⟩ else Builtin.min_ ⟨t⟩ ty ⟨cx :: cr⟩).run P w = .ok cv w /\ VR ρ v cv := by
 cases x <;> simp only at h <;> try (cases h; done)
 rename_i k i
 simp only [VR] at hx; subst hx
 cases mx
 ·exact Z7v r cr i hr' v h
 ·exact Z7u r cr i hr' v h
theorem Z50 {fz : Bool} (hC : CfgOk P C) (hF : Fw F) (hr : HR ρ s.H w) (hf : Fr ρ s) {c : Call} {b : Builtin} (hop : o.op = .call c) (hb : c.callee = .builtin b) {args : List AV} {cargs : List Value} (hargs : VRs ρ args cargs) (hcargs : c.args.map a.eval = ⟨cargs⟩)
  (hm : (builtinA C fz b c.argTypes.toList args s).All R) (hN : NextOk o a next R ρ s w) : o.wpIn F n P a w next Q := by
 obtain ⟨tl, htl⟩ : ∃ tl, c.argTypes = ⟨tl⟩ := ⟨c.argTypes.toList, rfl⟩
 rw [htl] at hm
 unfold builtinA at hm
 split at hm
 ·
  rename_i x
  simp only [VRs] at hargs
  obtain ⟨cx, _, rfl, hx, rfl⟩ := hargs
  cases tl with
  | nil => exact hm.elim
  | cons t ts =>
   simp only at hm
   cases hd : C.desc t with
   | none => rw [hd] at hm; exact hm.elim
   | some d =>
    rw [hd] at hm; simp only at hm
    cases hl : hasLen d x with
    | false => rw [hl] at hm; exact hm.elim
    | true =>
     rw [hl] at hm
     exact Y6 hF hop hb hcargs (fun consts => by rw [htl]; rfl) (Zay hC hr hd hx hl) hm hN
 ·
  rename_i x
  simp only [VRs] at hargs
  obtain ⟨cx, _, rfl, hx, rfl⟩ := hargs
  cases tl with
  | nil => cases x <;> exact hm.elim
  | cons t ts =>
   cases x <;> (try simp only at hm) <;> try exact hm.elim
   case nils =>
    simp only [VR] at hx; subst hx
    cases hd : C.desc t with
    | none => rw [hd] at hm; exact hm.elim
    | some d =>
     rw [hd] at hm
     cases d <;> (try simp only at hm) <;> try exact hm.elim
     exact Y6 hF hop hb hcargs (fun consts => by rw [htl]; rfl) (ValSim.ret hr (cv := .int .i64 0) (by simp [Builtin.cap_, Go.run_underlying (undc hC hd), goInt]) (by simp [VR])) hm hN
   case slice b0 o0 n0 c0 ex =>
    cases ex with
    | false => exact hm.elim
    | true =>
     simp only [VR] at hx
     obtain ⟨p, o', c', hp, a, rfl, _, _, hcc, _⟩ := hx
     obtain rfl := hcc trivial
     simp only at hm
     cases hd : C.desc t with
     | none => rw [hd] at hm; exact hm.elim
     | some d =>
      rw [hd] at hm
      cases d <;> (try simp only at hm) <;> try exact hm.elim
      exact Y6 hF hop hb hcargs (fun consts => by rw [htl]; rfl) (ValSim.ret hr (cv := .int .i64 c') (by simp [Builtin.cap_, Go.run_underlying (undc hC hd), goInt]) (by simp [VR])) hm hN
 ·
  rename_i v x
  simp only [VRs] at hargs
  obtain ⟨cv, _, rfl, hv, cx, _, rfl, hx, rfl⟩ := hargs
  cases tl with
  | nil => exact hm.elim
  | cons t tl => cases tl with
   | nil => exact hm.elim
   | cons u tl => cases tl with
    | cons _ _ => exact hm.elim
    | nil => exact Y6 hF hop hb hcargs (fun consts => by rw [htl]; rfl) (Z6p hC hr hf hv hx) hm hN
 ·
  rename_i x r
  simp only [VRs] at hargs
  obtain ⟨cx, cr, rfl, hx, hcr⟩ := hargs
  exact Y6 (r := Builtin.max_ ⟨tl⟩ o.type ⟨cx :: cr⟩) hF hop hb hcargs (fun consts => by rw [htl]; rfl) (ValSim.of hr fun v hv => Z3x (t := tl) (ty := o.type) (mx := true) hv hx hcr) hm hN
 ·rename_i x r
  simp only [VRs] at hargs
  obtain ⟨cx, cr, rfl, hx, hcr⟩ := hargs
  exact Y6 (r := Builtin.min_ ⟨tl⟩ o.type ⟨cx :: cr⟩) hF hop hb hcargs (fun consts => by rw [htl]; rfl) (ValSim.of hr fun v hv => Z3x (t := tl) (ty := o.type) (mx := false) hv hx hcr) hm hN
 ·exact hm.elim
theorem Zc5 {t e : TypeId} (hut : ∀ w : World, (underlying t).run P w = .ok (.slice e) w) (av : Option Addr) (n c d : Nat) : (Op.equalIn (d + 1) t (.slice av n c) (.slice none 0 0)).run P w = .ok av.isNone w := by
 cases av <;> simp [Op.equalIn, hut]
theorem Zaz {op : BinOp} {t e : TypeId} {x y : Operand} (hut : ∀ w : World, (underlying t).run P w = .ok (.slice e) w) {av : Option Addr} {n c : Nat} (neg : Bool) (ho : op = (if neg then .neq else .eql)) :
  (do eqGuard op t x y (.slice av n c) (.slice none 0 0); binOp op t (.slice av n c) (.slice none 0 0) : Sem Value).run P w = .ok (.bool (negB neg av.isNone)) w := by
 have h : (Op.equal t (.slice av n c) (.slice none 0 0)).run P w = .ok av.isNone w := Zc5 hut av n c 9999
 cases neg with
 | false =>
  obtain rfl : op = .eql := by simpa using ho
  simp [eqGuard, binOp, h, negB]
 | true =>
  obtain rfl : op = .neq := by simpa using ho
  simp [eqGuard, binOp, h, negB, Z1b]
theorem Zb0 {v : AV} {cv : Value} (hv : VR ρ v cv) (hi : iceRow v = true) : ∃ (av : Option Addr) (len cap : Nat), cv = .slice av len cap /\ ∀ (neg : Bool) (R : AV × St -> Prop), (nilTest neg v s).All R -> R (.bool (negB neg av.isNone), s) := by
 cases v <;> simp only [iceRow] at hi <;> try (cases hi; done)
 case empty =>
  simp only [VR] at hv; obtain ⟨av, rfl⟩ := hv
  refine ⟨av, 0, 0, rfl, fun neg R hn => ?_⟩
  have hn : ((askM 2).bind (fun i => M.ret (.bool (negB neg (Nat.beq i 0)))) s).All R := hn
  have hn := (Z2z _ _ _).1 ((M.all_bind _ _ _ _).1 hn)
  cases av with
  | none => exact hn 0 (by omega)
  | some _ => exact hn 1 (by omega)
 case lst l =>
  simp only [VR] at hv; obtain ⟨av, c, rfl, _, hl⟩ := hv
  refine ⟨av, l.length, c, rfl, fun neg R hn => ?_⟩
  cases l with
  | nil =>
   have hn : ((askM 2).bind (fun i => M.ret (.bool (negB neg (Nat.beq i 0)))) s).All R := hn
   have hn := (Z2z _ _ _).1 ((M.all_bind _ _ _ _).1 hn)
   cases av with
   | none => exact hn 0 (by omega)
   | some _ => exact hn 1 (by omega)
  | cons y r => obtain ⟨_, _, _, rfl, _⟩ := hl (by simp); exact hn
 case own b l =>
  simp only [VR] at hv; obtain ⟨p, c, _, rfl, _⟩ := hv
  exact ⟨_, l.length, c, rfl, fun neg R hn => hn⟩
theorem Z6s {op : BinOp} {t : TypeId} {v u : AV} (h : (binM C op t v u s).All R) : (u = .nils /\ iceRow v = true /\ (∃ e, C.desc t = some (.slice e)) /\ (nilOp op v s).All R) \/ (M.of (binA C op t v u) s).All R := by
 unfold binM at h
 cases u <;> (try exact .inr h)
 cases hi : iceRow v with
 | false => rw [hi] at h; exact .inr h
 | true =>
  cases hd : C.desc t with
  | none => rw [hi, hd] at h; exact .inr h
  | some d => rw [hi, hd] at h; cases d <;> first | exact .inr h | exact .inl ⟨rfl, rfl, ⟨_, rfl⟩, h⟩
theorem Zak (hC : CfgOk P C) (hF : Fw F) (hcall : CallOk P call) (hrnd : RndOk P rnd) (hr : HR ρ s.H w) (hf : Fr ρ s) (hT : VRs ρ T a.tmps.toList)
  (hm : (opA C call rnd T o s).All R) (hN : NextOk o a next R ρ s w) : o.wpIn F n P a w next Q := by
 unfold opA at hm
 have hof : ∀ {x : Option AV}, (M.of x s).All R -> ∃ v, x = some v /\ R (v, s) := fun h => (M.all_of _ _ _).1 h
 cases hop : o.op <;> rw [hop] at hm <;> (try simp only at hm) <;> try exact hm.elim
 case move x =>
  obtain ⟨v, hv, hq⟩ := hof hm
  exact Zt (r := pure (a.eval x)) hF (by rw [hop]; simp) hr (by simp only [execOp, hop]; rfl) ⟨_, by simp, Zh hT hv⟩ hq hN
 case assign x =>
  obtain ⟨v, hv, hq⟩ := hof hm
  exact Zt (r := pure (a.eval x)) hF (by rw [hop]; simp) hr (by simp only [execOp, hop]; rfl) ⟨_, by simp, Zh hT hv⟩ hq hN
 case pick c x y =>
  cases hc : evA T c with
  | none => rw [hc] at hm; exact hm.elim
  | some cv =>
   rw [hc] at hm
   cases cv <;> (try simp only at hm) <;> try exact hm.elim
   rename_i t
   obtain ⟨v, hv, hq⟩ := hof hm
   have hcv := Zh hT hc
   simp only [VR] at hcv
   refine Zt (r := do pure (if <- asBool (a.eval c) then a.eval x else a.eval y)) hF (by rw [hop]; simp) hr (by simp only [execOp, hop, Sem.bind_assoc']; simp) ⟨if t then a.eval x else a.eval y, by rw [hcv]; simp [asBool], ?_⟩ hq hN
   cases t
   ·exact Zh hT hv
   ·exact Zh hT hv
 case alloc t =>
  cases hi : C.ty.get t with
  | none => rw [hi] at hm; exact hm.elim
  | some i =>
   rw [hi] at hm; simp only at hm
   cases hz : i.zero with
   | none => rw [hz] at hm; exact hm.elim
   | some z =>
    rw [hz] at hm; simp only at hm
    obtain ⟨zv, hzv, hzc⟩ := Yo hC hi hz w
    obtain ⟨hzr, hzo⟩ := Yc ρ zv z hzc
    exact Zq (r := Instr.alloc t true (.tuple #[])) hF (by rw [hop]; simp) (by simp only [execOp, hop]) (Z3u hr hf hzr hzo t (by simp [Instr.alloc, hzv, newVar, newRow])) hm hN
 case box t x =>
  obtain ⟨v, hv, hq⟩ := Zi hm
  cases hok : v.okc with
  | false => rw [hok] at hq; exact hq.elim
  | true =>
   rw [hok] at hq
   exact Zq (r := Instr.box t (a.eval x)) hF (by rw [hop]; simp) (by simp only [execOp, hop]) (Z3u hr hf (Zh hT hv) hok t (by simp [Instr.box, newVar, newRow])) hq hN
 case build t ps =>
  cases hp : partsA T ps.toList with
  | none => rw [hp] at hm; exact hm.elim
  | some l =>
   rw [hp] at hm
   obtain ⟨v, hv, hq⟩ := hof hm
   have hpr := Z37 hT ps.toList l hp
   exact Zt (r := Instr.build t (ps.map fun x => (x.1, a.eval x.2))) hF (by rw [hop]; simp) hr (by simp only [execOp, hop]) (Z7o hC (by rw [Array.toList_map]; exact hpr) hv) hq hN
 case buildSlice t k ps =>
  cases hp : partsA T ps.toList with
  | none => rw [hp] at hm; exact hm.elim
  | some l =>
   rw [hp] at hm
   have hpr := Z37 hT ps.toList l hp
   exact Zq (r := Instr.buildSlice t k (ps.map fun x => (x.1, a.eval x.2))) hF (by rw [hop]; simp) (by simp only [execOp, hop]) (Z25 hC hr hf (by rw [Array.toList_map]; exact hpr)) hm hN
 case load t x =>
  obtain ⟨v, hv, hq⟩ := Zi hm
  cases v <;> (try simp only at hq) <;> try exact hq.elim
  ·exact Zq (r := Instr.loadAt t (a.eval x)) hF (by rw [hop]; simp) (by simp only [execOp, hop]) (Z9t hC hr (Zh hT hv)) hq hN
  ·exact Zq (r := Instr.loadAt t (a.eval x)) hF (by rw [hop]; simp) (by simp only [execOp, hop]) (Z7f hC hr (Zh hT hv)) hq hN
 case store t x y =>
  obtain ⟨v, hv, hq⟩ := Zi hm
  obtain ⟨u, hu, hq⟩ := Zi hq
  cases v <;> (try simp only at hq) <;> try exact hq.elim
  exact Z3w (r := Instr.storeAt t (a.eval x) (a.eval y)) hF (by rw [hop]; simp) (by simp only [execOp, hop]) (Z7g hC hr (Zh hT hv) (Zh hT hu)) hq hN
 case nilCheck x =>
  obtain ⟨v, hv, hq⟩ := Zi hm
  have hcv := Zh hT hv
  cases hok : isOk v with
  | false => rw [hok] at hq; exact hq.elim
  | true =>
   rw [hok] at hq
   refine Zt (r := pure (a.eval x)) hF (by rw [hop]; simp) hr ?_ ⟨_, by simp, hcv⟩ hq hN
   simp only [execOp, hop]
   cases v <;> simp only [isOk] at hok <;> (try (cases hok; done)) <;> simp only [VR] at hcv
   ·obtain ⟨p, hp, he⟩ := hcv; rw [he]; rfl
   ·obtain ⟨b, o, he, _⟩ := hcv; rw [he]; rfl
   ·obtain ⟨cs, he, _⟩ := hcv; rw [he]; rfl
   ·obtain ⟨p, hp, he⟩ := hcv; rw [he]; rfl
 case binOp op t x y q =>
  obtain ⟨v, hv, hq⟩ := Zi hm
  obtain ⟨u, hu, hq⟩ := Zi hq
  have plain : (M.of (binA C op t v u) s).All R -> o.wpIn F n P a w next Q := by
   intro hq
   obtain ⟨r, hr', hq⟩ := hof hq
   exact Zt (r := do eqGuard op t x y (a.eval x) (a.eval y); binOp op t (a.eval x) (a.eval y)) hF (by rw [hop]; simp) hr (by simp only [execOp, hop]) (Zax hC hr' (Zh hT hv) (Zh hT hu) x y) hq hN
  rcases Z6s hq with ⟨rfl, hice, ⟨e0, hd⟩, hq⟩ | hq
  ·have hcu := Zh hT hu
   simp only [VR] at hcu
   have hut : ∀ w : World, (underlying t).run P w = .ok (.slice e0) w := fun w => Yn hC hd w
   obtain ⟨av, len, cap, e, hk⟩ := Zb0 (s := s) (Zh hT hv) hice
   have hrun : ∀ neg, op = (if neg then .neq else .eql) -> (do eqGuard op t x y (a.eval x) (a.eval y); binOp op t (a.eval x) (a.eval y) : Sem Value).run P w = .ok (.bool (negB neg av.isNone)) w := by
    intro neg ho
    rw [e, hcu]
    exact Zaz hut neg ho
   unfold nilOp at hq
   cases op <;> (try exact hq.elim)
   ·exact Zt (v := .bool (negB false av.isNone)) (r := do eqGuard .eql t x y (a.eval x) (a.eval y); binOp .eql t (a.eval x) (a.eval y)) hF (by rw [hop]; simp) hr (by simp only [execOp, hop]) ⟨_, hrun false rfl, by simp [VR]⟩ (hk false _ hq) hN
   ·exact Zt (v := .bool (negB true av.isNone)) (r := do eqGuard .neq t x y (a.eval x) (a.eval y); binOp .neq t (a.eval x) (a.eval y)) hF (by rw [hop]; simp) hr (by simp only [execOp, hop]) ⟨_, hrun true rfl, by simp [VR]⟩ (hk true _ hq) hN
  ·exact plain hq
 case unOp op t x =>
  obtain ⟨v, hv, hq⟩ := Zi hm
  obtain ⟨r, hr', hq⟩ := hof hq
  exact Zt (r := Op.unary op (a.eval x)) hF (by rw [hop]; simp) hr (by simp only [execOp, hop]) (Zc3 hr' (Zh hT hv)) hq hN
 case convert t u x =>
  obtain ⟨v, hv, hq⟩ := Zi hm
  obtain ⟨r, hr', hq⟩ := hof hq
  exact Zt (r := convert t u (a.eval x)) hF (by rw [hop]; simp) hr (by simp only [execOp, hop]) (Z9v hC hr' (Zh hT hv)) hq hN
 case makeFunc fn first caps =>
  cases fn <;> (try simp only at hm) <;> try exact hm.elim
  rename_i f
  obtain ⟨fl, rfl⟩ : ∃ fl, first = ⟨fl⟩ := ⟨first.toList, rfl⟩
  cases fl with
  | cons _ _ => exact hm.elim
  | nil =>
   cases hl : evs T caps.toList with
   | none => simp only [hl] at hm; exact hm.elim
   | some l =>
    simp only [hl] at hm
    have hv := Z7d hT caps.toList l hl
    refine Zt (r := Instr.makeFunc (.func f) ((⟨[]⟩ : Array Operand).map a.eval) (caps.map a.eval)) hF (by rw [hop]; simp) hr (by simp only [execOp, hop]) ⟨.func (.func f) #[] ⟨caps.toList.map a.eval⟩, ?_, by simp only [VR]; exact ⟨_, rfl, hv⟩⟩ hm hN
    simp only [Instr.makeFunc, Sem.run_pure]
    congr 2
    all_goals (apply Array.ext'; simp)
 case makeMap t r =>
  cases r with
  | none => exact Zq (r := Instr.makeMap t none) hF (by rw [hop]; simp) (by simp only [execOp, hop]; rfl) (Z1f hr hf (.inl rfl)) hm hN
  | some x =>
   simp only at hm
   obtain ⟨v, hv, hq⟩ := Zi hm
   have hcv := Zh hT hv
   cases v <;> (try simp only at hq) <;> try exact hq.elim
   cases hd : C.desc t with
   | none => rw [hd] at hq; exact hq.elim
   | some d =>
    rw [hd] at hq
    cases d <;> (try simp only at hq) <;> try exact hq.elim
    simp only [VR] at hcv
    exact Zq (r := Instr.makeMap t (some (a.eval x))) hF (by rw [hop]; simp) (by simp only [execOp, hop]; rfl) (Z1f hr hf (.inr ⟨_, _, by rw [hcv], _, _, undc hC hd⟩)) hq hN
 case makeSlice t l c =>
  obtain ⟨v, hv, hq⟩ := Zi hm
  obtain ⟨u, hu, hq⟩ := Zi hq
  exact Zq (r := Instr.makeSlice t (a.eval l) (a.eval c)) hF (by rw [hop]; simp) (by simp only [execOp, hop]) (Z39 hC hr hf (Zh hT hv) (Zh hT hu)) hq hN
 case slice t x lo hi mx =>
  obtain ⟨v, hv, hq⟩ := Zi hm
  cases h1 : optA T lo with
  | none => rw [h1] at hq; exact hq.elim
  | some l1 =>
   cases h2 : optA T hi with
   | none => rw [h1, h2] at hq; exact hq.elim
   | some l2 =>
    cases h3 : optA T mx with
    | none => rw [h1, h2, h3] at hq; exact hq.elim
    | some l3 =>
     rw [h1, h2, h3] at hq
     exact Zq (r := Instr.sliceAt t (a.eval x) (lo.map a.eval) (hi.map a.eval) (mx.map a.eval)) hF (by rw [hop]; simp) (by simp only [execOp, hop]) (Z7k hC hr (Zh hT hv) (Z4w hT h1) (Z4w hT h2) (Z4w hT h3)) hq hN
 case fieldAddr t x f =>
  obtain ⟨v, hv, hq⟩ := Zi hm
  obtain ⟨r, hr', hq⟩ := hof hq
  exact Zt (r := Instr.fieldAt t (a.eval x) f) hF (by rw [hop]; simp) hr (by simp only [execOp, hop]) (Z36 hC (Zh hT hv) hr') hq hN
 case field t x f =>
  obtain ⟨v, hv, hq⟩ := Zi hm
  obtain ⟨r, hr', hq⟩ := hof hq
  exact Zt (r := Instr.field t (a.eval x) f) hF (by rw [hop]; simp) hr (by simp only [execOp, hop]) (Z7m hC (Zh hT hv) hr') hq hN
 case indexAddr t x i =>
  obtain ⟨v, hv, hq⟩ := Zi hm
  obtain ⟨u, hu, hq⟩ := Zi hq
  obtain ⟨r, hr', hq⟩ := hof hq
  exact Zt (r := Instr.indexAt t (a.eval x) (a.eval i)) hF (by rw [hop]; simp) hr (by simp only [execOp, hop]) (Z35 hC (Zh hT hv) (Zh hT hu) hr') hq hN
 case index t x i =>
  obtain ⟨v, hv, hq⟩ := Zi hm
  obtain ⟨u, hu, hq⟩ := Zi hq
  obtain ⟨r, hr', hq⟩ := hof hq
  exact Zt (r := Instr.index t (a.eval x) (a.eval i)) hF (by rw [hop]; simp) hr (by simp only [execOp, hop]) (Z7l hC (Zh hT hv) (Zh hT hu) hr') hq hN
 case lookup t x k ok =>
  obtain ⟨v, hv, hq⟩ := Zi hm
  obtain ⟨u, hu, hq⟩ := Zi hq
  exact Zq (r := Instr.lookup t (a.eval x) (a.eval k) ok) hF (by rw [hop]; simp) (by simp only [execOp, hop]) (Z6q hC hr (Zh hT hv) (Zh hT hu) ok) hq hN
 case mapUpdate t x k y =>
  obtain ⟨v, hv, hq⟩ := Zi hm
  obtain ⟨u, hu, hq⟩ := Zi hq
  obtain ⟨z, hz, hq⟩ := Zi hq
  exact Z3w (r := Instr.mapUpdate t (a.eval x) (a.eval k) (a.eval y)) hF (by rw [hop]; simp) (by simp only [execOp, hop]) (Z6r hC hr (Zh hT hv) (Zh hT hu) (Zh hT hz)) hq hN
 case range t x =>
  obtain ⟨v, hv, hq⟩ := Zi hm
  exact Zq (r := Instr.range t (a.eval x)) hF (by rw [hop]; simp) (by simp only [execOp, hop]) (Z7w hC hr hf (Zh hT hv)) hq hN
 case next it str =>
  obtain ⟨v, hv, hq⟩ := Zi hm
  exact Zq (r := Instr.next (a.eval it) str o.type) hF (by rw [hop]; simp) (by simp only [execOp, hop]) (Z9y hr (Zh hT hv) str o.type) hq hN
 case entry it =>
  obtain ⟨v, hv, hq⟩ := Zi hm
  exact Zq (r := Instr.entry (a.eval it)) hF (by rw [hop]; simp) (by simp only [execOp, hop]) (Z7y hr (Zh hT hv)) hq hN
 case extract x i =>
  obtain ⟨v, hv, hq⟩ := Zi hm
  have hcv := Zh hT hv
  cases v <;> (try simp only at hq) <;> try exact hq.elim
  rename_i vs
  obtain ⟨r, hr', hq⟩ := hof hq
  simp only [VR] at hcv
  obtain ⟨cs, he, hcs⟩ := hcv
  obtain ⟨cv, h1, h2⟩ := VRs.nth _ _ hcs i r hr'
  refine Zt (r := Instr.extract (a.eval x) i) hF (by rw [hop]; simp) hr (by simp only [execOp, hop]) ⟨cv, ?_, h2⟩ hq hN
  rw [he]; simp [Instr.extract, h1]
 case call c =>
  cases hl : evs T c.args.toList with
  | none => rw [hl] at hm; exact hm.elim
  | some args =>
   rw [hl] at hm; simp only at hm
   have hv := Z7d hT c.args.toList args hl
   have hcargs : c.args.map a.eval = ⟨c.args.toList.map a.eval⟩ := by apply Array.ext'; simp
   cases hg : c.callee with
   | builtin b => rw [hg] at hm; exact Z50 hC hF hr hf hop hg hv hcargs hm hN
   | value g =>
    rw [hg] at hm
    obtain ⟨fv, hfv, hq⟩ := Zi hm
    have hv' : VRs ρ (shutArgs C.cur args) (c.args.toList.map a.eval) := by
     unfold shutArgs
     cases C.cur with
     | none => exact hv
     | some _ => exact VRs.shut _ _ hv
    exact Z9z hF hcall hrnd hr hf hop hg (Zh hT hfv) hv' hcargs hq hN
   | invoke _ _ => rw [hg] at hm; exact hm.elim
end
end Go.Am
namespace Go.Am
open Go
noncomputable section
theorem Zr (n : Nat) : ∀ l : List Nat, memN n l = true ↔ n ∈ l
 | [] => by simp [memN]
 | m :: r => by
  unfold memN
  cases h : Nat.beq n m with
  | true => have := Nat.eq_of_beq_eq_true h; subst this; simp
  | false =>
   have hne : n ≠ m := fun e => by subst e; rw [Nat.beq_refl] at h; cases h
   simp [Zr n r, hne]
theorem Z00 {a b : Bool} (h : orB a b = true) : a = true \/ b = true := by cases a <;> simp_all [orB]
theorem J7 {a : Bool} (h : notB' a = true) : a = false := by cases a <;> simp_all [notB']
structure RegOk (ops : List Oper) (B : List (List Nat)) : Prop where
 edge : ∀ i o, nth ops i = some o -> ∀ e ∈ o.after.toList, solid e = true -> e.on ∈ pre B i
 from' : ∀ i o, nth ops i = some o -> ∀ m, m ∈ pre B i ↔ ∃ e ∈ o.after.toList, solid e = true /\ (m = e.on \/ m ∈ pre B e.on)
 back : ∀ i o, nth ops i = some o -> ∀ j ∈ pre B i, j < i /\ ∀ k ∈ pre B j, k ∈ pre B i
 dst : ∀ i o, nth ops i = some o -> ∀ k q, nth ops k = some q -> k ≠ i -> ∀ d, q.dst = some d -> o.dst ≠ some d /\ (k ∈ pre B i \/ i ∈ pre B k \/ d ∉ looksL ops o)
theorem Z7z {ops : List Oper} {i : Nat} {o : Oper} (h : nth ops i = some o) : (o, i) ∈ ops.zipIdx := by
 rw [Zm] at h
 rw [List.mem_zipIdx_iff_getElem?]
 exact h
theorem Z5z (m n : Nat) (l : List Nat) : m ∈ addN n l ↔ m = n \/ m ∈ l := by
 unfold addN
 cases h : memN n l with
 | true =>
  have := (Zr n l).1 h
  simp only
  constructor
  ·exact .inr
  ·rintro (rfl | h2)
   ·exact this
   ·exact h2
 | false => simp
theorem Z2k (m : Nat) : ∀ (l l' : List Nat), m ∈ addAll l l' ↔ m ∈ l \/ m ∈ l'
 | [], l' => by simp [addAll]
 | n :: r, l' => by unfold addAll; rw [Z5z, Z2k m r l', List.mem_cons, or_assoc]
theorem Jp (B : List (List Nat)) (m : Nat) : ∀ l : List Edge, m ∈ predsOf B l ↔ ∃ e ∈ l, solid e = true /\ (m = e.on \/ m ∈ pre B e.on)
 | [] => by simp [predsOf]
 | e :: r => by
  unfold predsOf
  cases hs : solid e with
  | false =>
   simp only
   rw [Jp B m r]
   constructor
   ·rintro ⟨e', h1, h2⟩; exact ⟨e', List.mem_cons_of_mem _ h1, h2⟩
   ·rintro ⟨e', h1, h2⟩
    rcases List.mem_cons.1 h1 with rfl | h1
    ·rw [hs] at h2; cases h2.1
    ·exact ⟨e', h1, h2⟩
  | true =>
   simp only
   rw [Z5z, Z2k, Jp B m r]
   constructor
   ·rintro (rfl | h | ⟨e', h1, h2⟩)
    ·exact ⟨e, List.mem_cons_self, hs, .inl rfl⟩
    ·exact ⟨e, List.mem_cons_self, hs, .inr h⟩
    ·exact ⟨e', List.mem_cons_of_mem _ h1, h2⟩
   ·rintro ⟨e', h1, h2, h3⟩
    rcases List.mem_cons.1 h1 with rfl | h1
    ·rcases h3 with h3 | h3
     ·exact .inl h3
     ·exact .inr (.inl h3)
    ·exact .inr (.inr ⟨e', h1, h2, h3⟩)
theorem Yz : ∀ (l : List Oper) (acc : List (List Nat)) (n : Nat), n < acc.length -> nth (predsAll acc l) n = nth acc n
 | [], acc, n, _ => rfl
 | o :: r, acc, n, h => by
  unfold predsAll
  rw [Yz r _ n (by simp; omega), Zm, Zm, List.getElem?_append_left h]
theorem Z80 : ∀ (l : List Oper) (acc : List (List Nat)) (i : Nat) (o : Oper), nth l i = some o -> (∀ e ∈ o.after.toList, solid e = true -> e.on < acc.length + i) ->
  ∀ m, m ∈ pre (predsAll acc l) (acc.length + i) ↔ ∃ e ∈ o.after.toList, solid e = true /\ (m = e.on \/ m ∈ pre (predsAll acc l) e.on)
 | [], acc, i, o, h, _ => by simp at h
 | a :: r, acc, i, o, h, hb => by
  intro m
  cases i with
  | zero =>
   simp only [Yg, Option.some.injEq] at h; subst h
   have h1 : pre (predsAll acc (a :: r)) (acc.length + 0) = predsOf acc a.after.toList := by
    unfold pre predsAll
    rw [Yz r _ _ (by simp), Zm]; simp
   rw [h1, Jp]
   constructor
   ·rintro ⟨e, h1, h2, h3⟩
    refine ⟨e, h1, h2, ?_⟩
    unfold pre at h3 ⊢
    rw [Yz _ _ _ (hb e h1 h2)]; exact h3
   ·rintro ⟨e, h1, h2, h3⟩
    refine ⟨e, h1, h2, ?_⟩
    unfold pre at h3 ⊢
    rw [Yz _ _ _ (hb e h1 h2)] at h3; exact h3
  | succ i =>
   simp only [Zv] at h
   have hl : (acc ++ [predsOf acc a.after.toList]).length + i = acc.length + (i + 1) := by simp; omega
   have := Z80 r (acc ++ [predsOf acc a.after.toList]) i o h (fun e h1 h2 => by rw [hl]; exact hb e h1 h2) m
   rw [hl] at this
   exact this
theorem Z6t {ops : List Oper} (h : regOk ops = true) : RegOk ops (predsAll [] ops) := by
 unfold regOk at h
 rw [List.all_eq_true] at h
 have h1 : ∀ i o, nth ops i = some o -> regOk1 ops (predsAll [] ops) (pre (predsAll [] ops) i) (looksL ops o) (o, i) = true := fun i o ho => h _ (Z7z ho)
 have hb : ∀ i o, nth ops i = some o -> ∀ e ∈ o.after.toList, solid e = true -> e.on < i := by
  intro i o ho e he hs
  have := h1 i o ho
  simp only [regOk1, Bool.and_eq_true, List.all_eq_true] at this
  rcases Z00 (this.1 e he) with h2 | h2
  ·rw [J7 h2] at hs; cases hs
  ·rw [Nat.blt_eq] at h2; exact h2
 have hm : ∀ i o, nth ops i = some o -> ∀ m, m ∈ pre (predsAll [] ops) i ↔ ∃ e ∈ o.after.toList, solid e = true /\ (m = e.on \/ m ∈ pre (predsAll [] ops) e.on) := by
  intro i o ho
  have := Z80 ops [] i o ho (fun e h1 h2 => by simp; exact hb i o ho e h1 h2)
  simpa using this
 have hin : ∀ i o, nth ops i = some o -> ∀ j, j < i -> ∃ q, nth ops j = some q := fun i o ho j hj => Ym (by have := Yi ho; omega)
 have hback : ∀ i, ∀ o, nth ops i = some o -> ∀ j ∈ pre (predsAll [] ops) i, j < i /\ ∀ k ∈ pre (predsAll [] ops) j, k ∈ pre (predsAll [] ops) i := by
  intro i
  induction i using Nat.strongRecOn with
  | _ i ih =>
   intro o ho j hj
   obtain ⟨e, he, hs, hx⟩ := (hm i o ho j).1 hj
   have hlt := hb i o ho e he hs
   obtain ⟨q, hq⟩ := hin i o ho e.on hlt
   rcases hx with rfl | hx
   ·exact ⟨hlt, fun k hk => (hm i o ho k).2 ⟨e, he, hs, .inr hk⟩⟩
   ·obtain ⟨g1, g2⟩ := ih e.on hlt q hq j hx
    exact ⟨by omega, fun k hk => (hm i o ho k).2 ⟨e, he, hs, .inr (g2 k hk)⟩⟩
 refine ⟨fun i o ho e he hs => (hm i o ho e.on).2 ⟨e, he, hs, .inl rfl⟩, hm, hback, ?_⟩
 intro i o ho k q hq hne d hd
 have := h1 i o ho
 simp only [regOk1, Bool.and_eq_true, List.all_eq_true] at this
 have h2 := this.2 _ (Z7z hq)
 simp only [hd] at h2
 have hk : Nat.beq k i = false := by cases hh : Nat.beq k i with | false => rfl | true => exact absurd (Nat.eq_of_beq_eq_true hh) hne
 have hdst : isDst d o.dst = false ↔ o.dst ≠ some d := by
  cases hod : o.dst with
  | none => simp [isDst]
  | some t =>
   simp only [isDst]
   constructor
   ·intro h e; simp at e; subst e; rw [Nat.beq_refl] at h; cases h
   ·intro h; cases hh : Nat.beq d t with | false => rfl | true => exact absurd (by rw [Nat.eq_of_beq_eq_true hh]) h
 rcases Z00 h2 with h3 | h3
 ·have h4 := J7 h3
  cases h5 : isDst d o.dst with
  | true => rw [h5] at h4; cases h4
  | false =>
   rw [h5] at h4
   refine ⟨hdst.1 h5, .inr (.inr fun hmem => ?_)⟩
   rw [(Zr _ _).2 hmem] at h4; cases h4
 ·rcases Z00 h3 with h4 | h4
  ·rw [hk] at h4; cases h4
  ·simp only [Bool.and_eq_true] at h4
   rcases Z00 h4.1 with h5 | h5
   ·rcases Z00 h4.2 with h6 | h6
    ·exact ⟨hdst.1 (J7 h5), .inl ((Zr _ _).1 h6)⟩
    ·exact ⟨hdst.1 (J7 h5), .inr (.inl ((Zr _ _).1 h6))⟩
   ·cases h5
theorem Z81 {T T' : List AV} {l : List Operand} (h : ∀ t ∈ tmpsOf l, nth T t = nth T' t) : ∀ x ∈ l, evA T x = evA T' x := by
 induction l with
 | nil => intro x hx; cases hx
 | cons y r ih =>
  have hr : ∀ t ∈ tmpsOf r, nth T t = nth T' t := fun t ht => h t (by unfold tmpsOf; cases y <;> first | exact ht | exact List.mem_cons_of_mem _ ht)
  intro x hx
  rcases List.mem_cons.1 hx with rfl | hx
  ·cases x with
   | tmp t => exact h t (by unfold tmpsOf; exact List.mem_cons_self)
   | _ => rfl
  ·exact ih hr x hx
theorem Z01 {T T' : List AV} : ∀ (l : List Operand), (∀ x ∈ l, evA T x = evA T' x) -> evs T l = evs T' l
 | [], _ => rfl
 | x :: r, h => by unfold evs; rw [h x List.mem_cons_self, Z01 r fun y hy => h y (List.mem_cons_of_mem _ hy)]
theorem Xw {T T' : List AV} : ∀ (l : List (Nat × Operand)), (∀ x ∈ l.map (·.2), evA T x = evA T' x) -> partsA T l = partsA T' l
 | [], _ => rfl
 | (i, x) :: r, h => by unfold partsA; rw [h x (by simp), Xw r fun y hy => h y (by simp only [List.map_cons, List.mem_cons]; exact .inr hy)]
theorem Zb {T T' : List AV} {x : Operand} {f g : AV -> M AV} (h : evA T x = evA T' x) (hf : f = g) : ev1 T x f = ev1 T' x g := by unfold ev1; rw [h, hf]
theorem Z82 {C : Cfg} {call : FuncId -> List AV -> M AV} {rnd : Nm -> List AV -> M AV} {T T' : List AV} {o : Oper} (h : ∀ t ∈ tmpsOf (opReads o.op), nth T t = nth T' t) : opA C call rnd T o = opA C call rnd T' o := by
 have he := Z81 h
 unfold opA
 cases hop : o.op <;> rw [hop] at he <;> simp only [opReads] at he <;> simp only <;> try rfl
 case move x => rw [he x (by simp)]
 case assign x => rw [he x (by simp)]
 case pick c a b =>
  rw [he c (by simp)]
  cases evA T' c with
  | none => rfl
  | some v =>
   cases v <;> try rfl
   rename_i t
   cases t
   ·exact congrArg M.of (he b (by simp))
   ·exact congrArg M.of (he a (by simp))
 case box t x => exact Zb (he x (by simp)) rfl
 case build t ps => rw [Xw _ he]
 case buildSlice t n ps => rw [Xw _ he]
 case load t x => exact Zb (he x (by simp)) rfl
 case store t x y => exact Zb (he x (by simp)) (by funext p; exact Zb (he y (by simp)) rfl)
 case nilCheck x => exact Zb (he x (by simp)) rfl
 case binOp op t x y q => exact Zb (he x (by simp)) (by funext p; exact Zb (he y (by simp)) rfl)
 case unOp op t x => exact Zb (he x (by simp)) rfl
 case convert a b x => exact Zb (he x (by simp)) rfl
 case makeFunc fn first caps => rw [Z01 _ he]
 case makeMap t r =>
  cases r with
  | none => rfl
  | some x => exact Zb (he x (by simp)) rfl
 case makeSlice t l c => exact Zb (he l (by simp)) (by funext p; exact Zb (he c (by simp)) rfl)
 case slice t x lo hi mx =>
  have h1 : optA T lo = optA T' lo := by cases lo with | none => rfl | some y => (show (match evA T y with | some v => some (some v) | none => none) = (match evA T' y with | some v => some (some v) | none => none); rw [he y (by simp)])
  have h2 : optA T hi = optA T' hi := by cases hi with | none => rfl | some y => (show (match evA T y with | some v => some (some v) | none => none) = (match evA T' y with | some v => some (some v) | none => none); rw [he y (by simp)])
  have h3 : optA T mx = optA T' mx := by cases mx with | none => rfl | some y => (show (match evA T y with | some v => some (some v) | none => none) = (match evA T' y with | some v => some (some v) | none => none); rw [he y (by simp)])
  exact Zb (he x (by simp)) (by rw [h1, h2, h3])
 case fieldAddr t x f => exact Zb (he x (by simp)) rfl
 case field t x f => exact Zb (he x (by simp)) rfl
 case indexAddr t x i => exact Zb (he x (by simp)) (by funext p; exact Zb (he i (by simp)) rfl)
 case index t x i => exact Zb (he x (by simp)) (by funext p; exact Zb (he i (by simp)) rfl)
 case lookup t x k ok => exact Zb (he x (by simp)) (by funext p; exact Zb (he k (by simp)) rfl)
 case mapUpdate t m k x => exact Zb (he m (by simp)) (by funext p; exact Zb (he k (by simp)) (by funext q; exact Zb (he x (by simp)) rfl))
 case range t x => exact Zb (he x (by simp)) rfl
 case next it s => exact Zb (he it (by simp)) rfl
 case entry it => exact Zb (he it (by simp)) rfl
 case extract x i => exact Zb (he x (by simp)) rfl
 case call c =>
  cases hc : c.callee with
  | builtin b => rw [hc] at he; simp only at he; rw [Z01 _ he]
  | value f =>
   rw [hc] at he; simp only at he
   rw [Z01 _ fun x hx => he x (List.mem_cons_of_mem _ hx)]
   cases evs T' c.args.toList with
   | none => rfl
   | some l => exact Zb (he f (by simp)) rfl
  | invoke a b => cases evs T c.args.toList <;> cases evs T' c.args.toList <;> rfl
theorem Z3c {ops : List Oper} {T T' : List AV} {o : Oper} (h : ∀ t ∈ guardTmp ops o, nth T t = nth T' t) : wantedA ops T o = wantedA ops T' o := by
 unfold wantedA
 unfold guardTmp at h
 cases hg : o.guard with
 | none => rfl
 | some jw =>
  obtain ⟨j, w⟩ := jw
  rw [hg] at h; simp only at h ⊢
  cases hj : nth ops j with
  | none => rfl
  | some g =>
   rw [hj] at h; simp only at h ⊢
   cases hd : g.dst with
   | none => rfl
   | some d => rw [hd] at h; simp only at h ⊢; rw [h d (by simp)]
theorem Zb1 {C : Cfg} {call : FuncId -> List AV -> M AV} {rnd : Nm -> List AV -> M AV} {ops : List Oper} {T T' : List AV} {o : Oper} (h : ∀ t ∈ looksL ops o, nth T t = nth T' t) :
  opA C call rnd T o = opA C call rnd T' o /\ wantedA ops T o = wantedA ops T' o :=
 ⟨Z82 fun t ht => h t (List.mem_append_left _ ht), Z3c fun t ht => h t (List.mem_append_right _ ht)⟩
theorem Z3y {ρ : Rho} {ops : List Oper} {arr : Array Oper} (harr : arr.toList = ops) {T : List AV} {a : Act} (hT : VRs ρ T a.tmps.toList) (o : Oper) : Region.wanted o (yielded arr a.tmps) = wantedA ops T o := by
 unfold Region.wanted wantedA
 cases hg : o.guard with
 | none => rfl
 | some jw =>
  obtain ⟨j, w⟩ := jw
  simp only
  have hj : arr[j]? = nth ops j := by rw [Zm, <- harr]; simp
  unfold yielded
  rw [hj]
  cases hn : nth ops j with
  | none => simp
  | some g =>
   simp only [Option.bind_some]
   cases hd : g.dst with
   | none => simp
   | some d =>
    simp only [Option.bind_some]
    cases ht : nth T d with
    | none =>
     have : a.tmps[d]? = none := by
      have hl := VRs.length _ _ hT
      rw [Zm] at ht
      have := List.getElem?_eq_none_iff.1 ht
      rw [Array.getElem?_eq_none_iff]; simp at hl; omega
     simp [this]
    | some v =>
     obtain ⟨cv, h1, h2⟩ := VRs.nth _ _ hT d v ht
     have h1' : a.tmps[d]? = some cv := by simpa using h1
     rw [h1']
     cases v <;> simp only [VR] at h2
     case bool b => subst h2; cases b <;> cases w <;> rfl
     all_goals (first
      | (subst h2; rfl)
      | (obtain ⟨p, _, rfl⟩ := h2; rfl)
      | (obtain ⟨p, o', c', _, a, rfl, _⟩ := h2; rfl)
      | (obtain ⟨cs, rfl, _⟩ := h2; rfl)
      | (obtain ⟨cs, rfl⟩ := h2; rfl)
      | (obtain ⟨a, c, rfl, _⟩ := h2; rfl)
      | (obtain ⟨p, c, _, rfl, _⟩ := h2; rfl))
end
end Go.Am
namespace Go.Am
open Go
noncomputable section
def TP (p : Nat -> Bool) : Nat -> List Oper -> List AV -> List AV -> List AV
 | k, o :: r, v :: vs, T => TP p (k + 1) r vs (if p k = true then putT T o.dst v else T)
 | _, _, _, T => T
theorem Z51 (T : List AV) (d : Option Tmp) (v : AV) : (putT T d v).length = T.length := by cases d <;> simp [putT, Xe]
theorem Z60 (T : List AV) (d : Option Tmp) (v : AV) (t : Nat) : nth (putT T d v) t = if d = some t then (if t < T.length then some v else none) else nth T t := by
 cases d with
 | none => simp [putT]
 | some d =>
  simp only [putT, Zm, Y7, Option.some.injEq]
  by_cases h : d = t
  ·subst h
   rw [if_pos rfl, List.getElem?_set]
   by_cases hl : d < T.length <;> simp [hl]
  ·rw [if_neg h, List.getElem?_set_ne h]
theorem Z61 {p q : Nat -> Bool} {t : Nat} : ∀ (ops : List Oper) (k : Nat) (vs T T' : List AV), (∀ i o, nth ops i = some o -> o.dst = some t -> p (k + i) = q (k + i)) -> nth T t = nth T' t -> T.length = T'.length ->
  nth (TP p k ops vs T) t = nth (TP q k ops vs T') t
 | [], k, vs, T, T', _, h, _ => by simpa [TP] using h
 | o :: r, k, [], T, T', _, h, _ => by simpa [TP] using h
 | o :: r, k, v :: vs, T, T', ha, h, hl => by
  unfold TP
  refine Z61 r (k + 1) vs _ _ (fun i q' hi hd => ?_) ?_ ?_
  ·have := ha (i + 1) q' (by rw [Zv]; exact hi) hd
   rw [show k + 1 + i = k + (i + 1) by omega]; exact this
  ·have h0 := ha 0 o (by simp)
   rw [Nat.add_zero] at h0
   by_cases hd : o.dst = some t
   ·rw [h0 hd]
    by_cases hq : q k = true
    ·simp only [hq, if_true, Z60, hd, hl]
    ·simp only [hq]; exact h
   ·by_cases hp : p k = true <;> by_cases hq : q k = true <;> simp [hp, hq, Z60, hd, h]
  ·by_cases hp : p k = true <;> by_cases hq : q k = true <;> simp [hp, hq, Z51, hl]
theorem Z52 (p : Nat -> Bool) : ∀ (ops : List Oper) (k : Nat) (vs T : List AV), (∀ i, k <= i -> p i = false) -> TP p k ops vs T = T
 | [], k, vs, T, _ => by simp [TP]
 | o :: r, k, [], T, _ => by simp [TP]
 | o :: r, k, v :: vs, T, h => by
  unfold TP
  rw [h k (Nat.le_refl _)]
  exact Z52 p r (k + 1) vs T fun i hi => h i (by omega)
theorem Z62 : ∀ (ops : List Oper) (k : Nat) (vs T : List AV), putsT ops vs T = TP (fun _ => true) k ops vs T
 | [], k, vs, T => by simp [TP, putsT]
 | o :: r, k, [], T => by simp [TP, putsT]
 | o :: r, k, v :: vs, T => by unfold TP putsT; rw [Z62 r (k + 1)]; simp
theorem Z2l : ∀ (ops : List Oper) (n k : Nat) (vs T : List AV), putsT (ops.take n) vs T = TP (fun i => decide (i < k + n)) k ops vs T
 | [], n, k, vs, T => by simp [TP, putsT]
 | o :: r, 0, k, vs, T => by
  rw [List.take_zero, Z52 _ _ _ _ _ (fun i hi => by simp; omega)]
  simp [putsT]
 | o :: r, n + 1, k, [], T => by simp [TP, putsT]
 | o :: r, n + 1, k, v :: vs, T => by
  rw [List.take_succ_cons]
  unfold TP putsT
  rw [Z2l r n (k + 1) vs]
  rw [show k + 1 + n = k + (n + 1) by omega]
  simp
section
variable {C : Cfg} {call : FuncId -> List AV -> M AV} {rnd : Nm -> List AV -> M AV}
theorem Z3z {ops : List Oper} {s : St} {B : List (List Nat)} : ∀ (l : List Oper) (i : Nat) (T vs0 : List AV) (ds0 : List Delta) (x : List AV × List Delta), drawPass C call rnd ops s B i l T vs0 ds0 = some x -> ds0.length = i ->
  ∃ vs1 ds1, x.1 = vs0 ++ vs1 /\ x.2 = ds0 ++ ds1 /\ vs1.length = l.length /\ ds1.length = l.length /\ ∀ k o, nth l k = some o ->
   (wantedA ops (putsT (l.take k) vs1 T) o = true -> ∃ v d, nth vs1 k = some v /\ nth ds1 k = some d /\ one (opA C call rnd (putsT (l.take k) vs1 T) o (opSt s (i + k) (overlay s.H (pre B (i + k)) 0 (ds0 ++ ds1.take k)))) = some (v, d)) /\
   (wantedA ops (putsT (l.take k) vs1 T) o = false -> nth vs1 k = some .undef /\ nth ds1 k = some [])
 | [], i, T, vs0, ds0, x, h, _ => by
  simp only [drawPass, Option.some.injEq] at h; subst h
  exact ⟨[], [], by simp, by simp, rfl, rfl, fun k o h => by simp at h⟩
 | o :: r, i, T, vs0, ds0, x, h, hl => by
  unfold drawPass at h
  have fin : ∀ (v : AV) (d : Delta), drawPass C call rnd ops s B (i + 1) r (putT T o.dst v) (vs0 ++ [v]) (ds0 ++ [d]) = some x ->
    ((wantedA ops T o = true -> one (opA C call rnd T o (opSt s i (overlay s.H (pre B i) 0 ds0))) = some (v, d)) /\ (wantedA ops T o = false -> v = .undef /\ d = [])) ->
    ∃ vs1 ds1, x.1 = vs0 ++ vs1 /\ x.2 = ds0 ++ ds1 /\ vs1.length = (o :: r).length /\ ds1.length = (o :: r).length /\ ∀ k q, nth (o :: r) k = some q ->
     (wantedA ops (putsT ((o :: r).take k) vs1 T) q = true -> ∃ v d, nth vs1 k = some v /\ nth ds1 k = some d /\ one (opA C call rnd (putsT ((o :: r).take k) vs1 T) q (opSt s (i + k) (overlay s.H (pre B (i + k)) 0 (ds0 ++ ds1.take k)))) = some (v, d)) /\
     (wantedA ops (putsT ((o :: r).take k) vs1 T) q = false -> nth vs1 k = some .undef /\ nth ds1 k = some []) := by
   intro v d h' h0
   obtain ⟨vs1, ds1, h1, h2, h3, h4, h5⟩ := Z3z r (i + 1) _ _ _ x h' (by simp [hl])
   refine ⟨v :: vs1, d :: ds1, by rw [h1]; simp, by rw [h2]; simp, by simp [h3], by simp [h4], ?_⟩
   intro k q hq
   cases k with
   | zero =>
    simp only [Yg, Option.some.injEq] at hq; subst hq
    have e : putsT ((o :: r).take 0) (v :: vs1) T = T := by simp [putsT]
    rw [e]
    refine ⟨fun hw => ⟨v, d, by simp, by simp, by simpa using h0.1 hw⟩, fun hw => by simp [h0.2 hw]⟩
   | succ k =>
    rw [Zv] at hq
    have e : putsT ((o :: r).take (k + 1)) (v :: vs1) T = putsT (r.take k) vs1 (putT T o.dst v) := by simp [putsT]
    rw [e]
    obtain ⟨g1, g2⟩ := h5 k q hq
    have e2 : i + 1 + k = i + (k + 1) := by omega
    refine ⟨fun hw => ?_, fun hw => by simpa using g2 hw⟩
    obtain ⟨v', d', k1, k2, k3⟩ := g1 hw
    rw [e2] at k3
    exact ⟨v', d', by simpa using k1, by simpa using k2, by simpa using k3⟩
  cases hw : wantedA ops T o with
  | false =>
   rw [hw] at h
   exact fin .undef [] h ⟨fun h => (by rw [hw] at h; cases h), fun _ => ⟨rfl, rfl⟩⟩
  | true =>
   rw [hw] at h
   simp only at h
   cases ho : one (opA C call rnd T o (opSt s i (overlay s.H ((nth B i).getD []) 0 ds0))) with
   | none => rw [ho] at h; cases h
   | some y =>
    rw [ho] at h
    exact fin y.1 y.2 h ⟨fun _ => ho, fun h => (by rw [hw] at h; cases h)⟩
end
end
end Go.Am
namespace Go.Am
open Go
noncomputable section
theorem J8 (B : List (List Nat)) (i : Nat) (b : Nm) : ∀ (ws : List (List Nm)) (k : Nat), b ∈ rivals B i k ws ↔ ∃ j w, nth ws j = some w /\ b ∈ w /\ i ≠ k + j /\ k + j ∉ pre B i /\ i ∉ pre B (k + j)
 | [], k => by simp [rivals]
 | w :: r, k => by
  have hr := J8 B i b r (k + 1)
  have hstep : (∃ j w', nth (w :: r) j = some w' /\ b ∈ w' /\ i ≠ k + j /\ k + j ∉ pre B i /\ i ∉ pre B (k + j)) ↔ (b ∈ w /\ i ≠ k /\ k ∉ pre B i /\ i ∉ pre B k) \/ b ∈ rivals B i (k + 1) r := by
   rw [hr]
   constructor
   ·rintro ⟨j, w', h1, h2⟩
    cases j with
    | zero => simp only [Yg, Option.some.injEq] at h1; subst h1; exact .inl (by simpa using h2)
    | succ j => rw [Zv] at h1; exact .inr ⟨j, w', h1, by rw [show k + 1 + j = k + (j + 1) by omega]; exact h2⟩
   ·rintro (h | ⟨j, w', h1, h2⟩)
    ·exact ⟨0, w, by simp, by simpa using h⟩
    ·exact ⟨j + 1, w', by rw [Zv]; exact h1, by rw [show k + 1 + j = k + (j + 1) by omega] at h2; exact h2⟩
  rw [hstep]
  cases w with
  | nil => rw [show rivals B i k ([] :: r) = rivals B i (k + 1) r from rfl]; simp
  | cons c cs =>
   rw [show rivals B i k ((c :: cs) :: r) = (match Nat.beq i k, memN k ((nth B i).getD []), memN i ((nth B k).getD []) with | false, false, false => (c :: cs) | _, _, _ => []) ++ rivals B i (k + 1) r from rfl]
   rw [List.mem_append]
   refine or_congr ?_ Iff.rfl
   cases h1 : Nat.beq i k with
   | true => have := Nat.eq_of_beq_eq_true h1; subst this; simp
   | false =>
    have hne : i ≠ k := fun e => by subst e; rw [Nat.beq_refl] at h1; cases h1
    cases h2 : memN k ((nth B i).getD []) with
    | true => have := (Zr _ _).1 h2; simp [pre, this]
    | false =>
     have h2' : k ∉ pre B i := fun h => Bool.noConfusion (h2.symm.trans ((Zr _ _).2 h))
     cases h3 : memN i ((nth B k).getD []) with
     | true => have := (Zr _ _).1 h3; simp [pre, this]
     | false =>
      have h3' : i ∉ pre B k := fun h => Bool.noConfusion (h3.symm.trans ((Zr _ _).2 h))
      simp [hne, h2', h3']
section
variable {C : Cfg} {call : FuncId -> List AV -> M AV} {rnd : Nm -> List AV -> M AV}
theorem Z2m {ops : List Oper} {s : St} {B : List (List Nat)} {ds : List Delta} {ws : List (List Nm)} : ∀ (l : List Oper) (vs : List AV) (T : List AV) (i : Nat), drawCheck C call rnd ops s B ds ws T i l vs = true ->
  ∀ k o, nth l k = some o -> wantedA ops (putsT (l.take k) vs T) o = true -> rivals B (i + k) 0 ws = [] \/ isRet (opA C call rnd (putsT (l.take k) vs T) o (opSt s (i + k) (hide (overlay s.H (pre B (i + k)) 0 ds) (rivals B (i + k) 0 ws)))) = true
 | [], vs, T, i, h, k, o, ho, hw => by simp at ho
 | a :: r, [], T, i, h, k, o, ho, hw => by cases h
 | a :: r, v :: vs, T, i, h, k, o, ho, hw => by
  unfold drawCheck at h
  have next : ∀ (h' : drawCheck C call rnd ops s B ds ws (putT T a.dst v) (i + 1) r vs = true) k', k = k' + 1 -> rivals B (i + k) 0 ws = [] \/ isRet (opA C call rnd (putsT ((a :: r).take k) (v :: vs) T) o (opSt s (i + k) (hide (overlay s.H (pre B (i + k)) 0 ds) (rivals B (i + k) 0 ws)))) = true := by
   rintro h' k' rfl
   rw [Zv] at ho
   have e : putsT ((a :: r).take (k' + 1)) (v :: vs) T = putsT (r.take k') vs (putT T a.dst v) := by simp [putsT]
   rw [e] at hw ⊢
   have := Z2m r vs _ (i + 1) h' k' o ho hw
   rw [show i + 1 + k' = i + (k' + 1) by omega] at this
   exact this
  cases hv : rivals B i 0 ws with
  | nil =>
   rw [hv] at h
   cases k with
   | zero => exact .inl hv
   | succ k => exact next h k rfl
  | cons b bs =>
   rw [hv] at h; simp only at h
   cases hwa : wantedA ops T a with
   | false =>
    rw [hwa] at h
    cases k with
    | zero =>
     simp only [Yg, Option.some.injEq] at ho; subst ho
     have e : putsT ((a :: r).take 0) (v :: vs) T = T := by simp [putsT]
     rw [e, hwa] at hw; cases hw
    | succ k => exact next h k rfl
   | true =>
    rw [hwa] at h; simp only at h
    cases hi : isRet (opA C call rnd T a (opSt s i (hide (overlay s.H ((nth B i).getD []) 0 ds) (b :: bs)))) with
    | false => rw [hi] at h; cases h
    | true =>
     rw [hi] at h
     cases k with
     | zero =>
      simp only [Yg, Option.some.injEq] at ho; subst ho
      have e : putsT ((a :: r).take 0) (v :: vs) T = T := by simp [putsT]
      rw [e]
      refine .inr ?_
      rw [Nat.add_zero, hv]; exact hi
     | succ k => exact next h k rfl
end
end
end Go.Am
namespace Go.Am
open Go
noncomputable section
structure Run (C : Cfg) (call : FuncId -> List AV -> M AV) (rnd : Nm -> List AV -> M AV) (ops : List Oper) (B : List (List Nat)) (s : St) (T : List AV) (vs : List AV) (ds : List Delta) : Prop where
 vlen : vs.length = ops.length
 dlen : ds.length = ops.length
 go : ∀ i o, nth ops i = some o -> wantedA ops (TP (fun j => decide (j < i)) 0 ops vs T) o = true ->
  ∃ v d, nth vs i = some v /\ nth ds i = some d /\ one (opA C call rnd (TP (fun j => decide (j < i)) 0 ops vs T) o (opSt s i (hide (overlay s.H (pre B i) 0 ds) (rivals B i 0 (olds s 0 ds))))) = some (v, d)
 no : ∀ i o, nth ops i = some o -> wantedA ops (TP (fun j => decide (j < i)) 0 ops vs T) o = false -> nth vs i = some .undef /\ nth ds i = some []
theorem Z02 (p : Nat -> Bool) (b : Nm) : ∀ (ds ds' : List Delta) (k : Nat) (h : Option Blk), mg p b k (ds ++ ds') h = mg p b (k + ds.length) ds' (mg p b k ds h)
 | [], ds', k, h => by simp [mg]
 | d :: r, ds', k, h => by
  show mg p b (k + 1) (r ++ ds') _ = _
  rw [Z02 p b r ds' (k + 1), show k + 1 + r.length = k + (d :: r).length by simp; omega]
  rfl
theorem Z40 (p : Nat -> Bool) (b : Nm) : ∀ (ds : List Delta) (k : Nat) (h : Option Blk), (∀ i, k <= i -> p i = false) -> mg p b k ds h = h
 | [], k, h, _ => rfl
 | d :: r, k, h, hp => by
  unfold mg
  rw [hp k (Nat.le_refl _)]
  exact Z40 p b r (k + 1) h fun i hi => hp i (by omega)
theorem Z1g {α : Type} : ∀ {l : List (List α)}, allNil l = true -> ∀ w ∈ l, w = []
 | [], _, w, h => by cases h
 | x :: r, hn, w, h => by
  cases x with
  | cons a b => cases hn
  | nil =>
   rcases List.mem_cons.1 h with rfl | h
   ·rfl
   ·exact Z1g (l := r) hn w h
section
variable {C : Cfg} {call : FuncId -> List AV -> M AV} {rnd : Nm -> List AV -> M AV}
theorem Z83 (hc : ∀ f args, Nice (call f args)) (hr : ∀ l args, Nice (rnd l args)) {t t' : Tr (AV × St)} (hs : TrSub t t') (h : isRet t = true) {x : AV × Delta} (hx : one t' = some x) : one t = some x := by
 cases t with
 | ret y =>
  obtain ⟨s', rfl, hsub⟩ := TrSub.ret_inv (a := y.1) (s := y.2) hs
  simp only [one, Option.some.injEq] at hx ⊢
  rw [<- hx, hsub.j]
 | fail => cases h
 | ask _ _ => cases h
theorem Z53 (hc : ∀ f args, Nice (call f args)) (hr : ∀ l args, Nice (rnd l args)) {ops : List Oper} (hreg : RegOk ops (predsAll [] ops)) {s : St} {T : List AV} {R : List AV × St -> Prop} (h : (drawA C call rnd ops T s).All R) :
  ∃ vs ds, Run C call rnd ops (predsAll [] ops) s T vs ds /\ R (TP (fun _ => true) 0 ops vs T, drawEnd s (allD ds)) := by
 unfold drawA at h
 cases hp : drawPass C call rnd ops s (predsAll [] ops) 0 ops T [] [] with
 | none => rw [hp] at h; exact h.elim
 | some x =>
  rw [hp] at h; simp only at h
  obtain ⟨vs, ds, h1, h2, h3, h4, h5⟩ := Z3z ops 0 T [] [] x hp rfl
  simp only [List.nil_append, Nat.zero_add] at h1 h2 h5
  rw [h1, h2] at h
  have htp : ∀ k, putsT (ops.take k) vs T = TP (fun j => decide (j < k)) 0 ops vs T := fun k => by rw [Z2l ops k 0]; simp
  have hov : ∀ i o, nth ops i = some o -> ∀ b, hget (overlay s.H (pre (predsAll [] ops) i) 0 (ds.take i)) b = hget (overlay s.H (pre (predsAll [] ops) i) 0 ds) b := by
   intro i o ho b
   rw [Zj s.H, Zj s.H]
   have e := Z02 (fun j => memN j (pre (predsAll [] ops) i)) b (ds.take i) (ds.drop i) 0 (hget s.H b)
   rw [List.take_append_drop] at e
   rw [e]
   refine (Z40 _ b _ _ _ fun j hj => ?_).symm
   have hi : i <= ds.length := by have := Yi ho; omega
   rw [List.length_take, Nat.min_eq_left hi] at hj
   cases hm : memN j (pre (predsAll [] ops) i) with
   | false => rfl
   | true => have := (hreg.back i o ho j ((Zr _ _).1 hm)).1; omega
  have key : (∀ i o, nth ops i = some o -> wantedA ops (putsT (ops.take i) vs T) o = true -> rivals (predsAll [] ops) i 0 (olds s 0 ds) = [] \/ isRet (opA C call rnd (putsT (ops.take i) vs T) o (opSt s i (hide (overlay s.H (pre (predsAll [] ops) i) 0 ds) (rivals (predsAll [] ops) i 0 (olds s 0 ds))))) = true) -> Run C call rnd ops (predsAll [] ops) s T vs ds := by
   intro hk
   refine ⟨h3, h4, ?_, ?_⟩
   ·intro i o ho hw
    rw [<- htp] at hw ⊢
    obtain ⟨v, d, g1, g2, g3⟩ := (h5 i o ho).1 hw
    refine ⟨v, d, g1, g2, ?_⟩
    have hsub : TrSub (opA C call rnd (putsT (ops.take i) vs T) o (opSt s i (overlay s.H (pre (predsAll [] ops) i) 0 (ds.take i)))) (opA C call rnd (putsT (ops.take i) vs T) o (opSt s i (overlay s.H (pre (predsAll [] ops) i) 0 ds))) :=
     (Nice.opA hc hr _ o).mono _ _ (J3 (Sub.refl s) i fun b x hx => by rw [<- hov i o ho b]; exact hx)
    have g4 := TrSub.one hsub g3
    rcases hk i o ho hw with hn | hret
    ·rw [hn]; exact g4
    ·have hsub2 : TrSub (opA C call rnd (putsT (ops.take i) vs T) o (opSt s i (hide (overlay s.H (pre (predsAll [] ops) i) 0 ds) (rivals (predsAll [] ops) i 0 (olds s 0 ds))))) (opA C call rnd (putsT (ops.take i) vs T) o (opSt s i (overlay s.H (pre (predsAll [] ops) i) 0 ds))) :=
      (Nice.opA hc hr _ o).mono _ _ (J3 (Sub.refl s) i fun b x hx => by rw [X4] at hx; by_cases hb : b ∈ rivals (predsAll [] ops) i 0 (olds s 0 ds) <;> simp [hb] at hx; exact hx)
     exact Z83 hc hr hsub2 hret g4
   ·intro i o ho hw
    rw [<- htp] at hw
    exact (h5 i o ho).2 hw
  rw [Z62 ops 0] at h
  cases hn : allNil (olds s 0 ds) with
  | true =>
   rw [hn] at h
   refine ⟨vs, ds, key fun i o ho hw => .inl ?_, h⟩
   rw [List.eq_nil_iff_forall_not_mem]
   intro b hb
   obtain ⟨j, w, hj, hbw, _⟩ := (J8 _ _ _ _ _).1 hb
   rw [Z1g hn w (Xt hj)] at hbw; cases hbw
  | false =>
   rw [hn] at h; simp only at h
   cases hck : drawCheck C call rnd ops s (predsAll [] ops) ds (olds s 0 ds) T 0 ops vs with
   | false => rw [hck] at h; exact h.elim
   | true =>
    rw [hck] at h
    refine ⟨vs, ds, key fun i o ho hw => ?_, h⟩
    have := Z2m ops vs T 0 hck i o ho hw
    simpa using this
end
end
end Go.Am
namespace Go.Am
open Go
noncomputable section
def OwnI (s : St) (i : Nat) (b : Nm) : Prop := ∃ r, b = s.pre ++ s.n :: i :: r
theorem OwnI.inj {s : St} {i k : Nat} {b : Nm} (h : OwnI s i b) (h' : OwnI s k b) : i = k := by
 obtain ⟨r, h⟩ := h; obtain ⟨q, h'⟩ := h'
 rw [h] at h'
 have := (Xs h').2
 simp at this; exact this.1
def Wr (ds : List Delta) (i : Nat) (b : Nm) : Prop := ∃ d, nth ds i = some d /\ ∃ e ∈ d, e.1 = b
def hidden (s : St) (B : List (List Nat)) (ds : List Delta) (i : Nat) : Heap := hide (overlay s.H (pre B i) 0 ds) (rivals B i 0 (olds s 0 ds))
def Frh (s : St) : Prop := ∀ i b, OwnI s i b -> hget s.H b = none
section
variable {C : Cfg} {call : FuncId -> List AV -> M AV} {rnd : Nm -> List AV -> M AV} {ops : List Oper} {B : List (List Nat)} {s : St} {T vs : List AV} {ds : List Delta}
theorem Run.ids (hc : ∀ f args, Nice (call f args)) (hr : ∀ l args, Nice (rnd l args)) (h : Run C call rnd ops B s T vs ds) {i : Nat} {b : Nm} (hw : Wr ds i b) : OwnI s i b \/ ∃ x, hget (hidden s B ds i) b = some x := by
 obtain ⟨d, hd, e, he, rfl⟩ := hw
 obtain ⟨o, ho⟩ := Ym (show i < ops.length by rw [<- h.dlen]; exact Yi hd)
 cases hwa : wantedA ops (TP (fun j => decide (j < i)) 0 ops vs T) o with
 | false => have := (h.no i o ho hwa).2; rw [hd] at this; cases this; cases he
 | true =>
  obtain ⟨v, d', g1, g2, g3⟩ := h.go i o ho hwa
  rw [hd] at g2; obtain rfl := Option.some.inj g2
  obtain ⟨t, ht, hj⟩ := Z0v g3
  have hjr := (Nice.opA (C := C) hc hr (TP (fun j => decide (j < i)) 0 ops vs T) o).jr (opSt s i (hidden s B ds i))
  unfold hidden at hjr
  rw [ht] at hjr
  obtain ⟨d', d1, _, d3⟩ := JrR.j (hjr : JrR _ t) rfl
  have hd' : d' = d := by rw [<- show t.j = d from hj, d1]; exact (List.append_nil d').symm
  rw [<- hd'] at he
  rcases d3 e he with ⟨m, q, hb, hm⟩ | ⟨z, hz⟩
  ·refine .inl ⟨m :: q, ?_⟩
   rw [hb]; show (s.pre ++ [s.n, i]) ++ m :: q = _; simp
  ·exact .inr ⟨z, hz⟩
theorem Xi {i : Nat} {b : Nm} {x : Blk} (h : hget (hidden s B ds i) b = some x) : b ∉ rivals B i 0 (olds s 0 ds) /\ hget (overlay s.H (pre B i) 0 ds) b = some x := by
 unfold hidden at h
 rw [X4] at h
 by_cases hb : b ∈ rivals B i 0 (olds s 0 ds)
 ·simp [hb] at h
 ·simp only [hb, if_false] at h; exact ⟨hb, h⟩
theorem Z0p {ps : List Nat} {b : Nm} {x : Blk} (h : hget (overlay s.H ps 0 ds) b = some x) : (∃ j, j ∈ ps /\ Wr ds j b) \/ hget s.H b = some x := by
 rw [Zj s.H] at h
 rcases Z4s _ _ _ _ _ _ h with ⟨j, d, h1, h2, h3⟩ | h
 ·rw [Nat.zero_add] at h2
  exact .inl ⟨j, (Zr _ _).1 h2, d, by rw [Zm]; exact h1, h3⟩
 ·exact .inr h
theorem Run.own (hc : ∀ f args, Nice (call f args)) (hr : ∀ l args, Nice (rnd l args)) (hreg : RegOk ops B) (hf : Frh s) (h : Run C call rnd ops B s T vs ds) {i : Nat} {b : Nm} (hb : OwnI s i b) : ∀ k, Wr ds k b -> k = i \/ i ∈ pre B k := by
 intro k
 induction k using Nat.strongRecOn with
 | _ k ih =>
  intro hw
  rcases h.ids hc hr hw with ho | ⟨x, hx⟩
  ·exact .inl (ho.inj hb)
  ·rcases Z0p (Xi hx).2 with ⟨j, hj, hwj⟩ | hx
   ·obtain ⟨d, hd, _⟩ := hw
    obtain ⟨o, ho⟩ := Ym (show k < ops.length by rw [<- h.dlen]; exact Yi hd)
    obtain ⟨g1, g2⟩ := hreg.back k o ho j hj
    rcases ih j g1 hwj with rfl | hij
    ·exact .inr hj
    ·exact .inr (g2 i hij)
   ·rw [hf i b hb] at hx; cases hx
end
end
end Go.Am
namespace Go.Am
open Go
noncomputable section
theorem Z41 : ∀ (ns b : Nm), isPre ns b = true ↔ ∃ r, b = ns ++ r
 | [], b => by simp [isPre]
 | a :: x, [] => by simp [isPre]
 | a :: x, c :: y => by
  unfold isPre
  cases h : Nat.beq a c with
  | true => have := Nat.eq_of_beq_eq_true h; subst this; simp [Z41 x y]
  | false =>
   have hne : a ≠ c := fun e => by subst e; rw [Nat.beq_refl] at h; cases h
   simp [Ne.symm hne]
theorem J9 (ns b : Nm) : ∀ d : Delta, b ∈ oldIds ns d ↔ (∃ e ∈ d, e.1 = b) /\ ¬ ∃ r, b = ns ++ r
 | [] => by simp [oldIds]
 | (i, x) :: r => by
  unfold oldIds
  have hp := Z41 ns i
  cases h : isPre ns i with
  | true =>
   simp only
   rw [J9 ns b r]
   have hi := hp.1 h
   constructor
   ·rintro ⟨⟨e, h1, h2⟩, h3⟩; exact ⟨⟨e, List.mem_cons_of_mem _ h1, h2⟩, h3⟩
   ·rintro ⟨⟨e, h1, h2⟩, h3⟩
    rcases List.mem_cons.1 h1 with rfl | h1
    ·exact absurd (h2 ▸ hi) h3
    ·exact ⟨⟨e, h1, h2⟩, h3⟩
  | false =>
   simp only
   have hi : ¬ ∃ r, i = ns ++ r := fun hh => by rw [hp.2 hh] at h; cases h
   rw [List.mem_cons, J9 ns b r]
   constructor
   ·rintro (rfl | ⟨⟨e, h1, h2⟩, h3⟩)
    ·exact ⟨⟨(b, x), List.mem_cons_self, rfl⟩, hi⟩
    ·exact ⟨⟨e, List.mem_cons_of_mem _ h1, h2⟩, h3⟩
   ·rintro ⟨⟨e, h1, h2⟩, h3⟩
    rcases List.mem_cons.1 h1 with rfl | h1
    ·exact .inl h2.symm
    ·exact .inr ⟨⟨e, h1, h2⟩, h3⟩
theorem Z0y (s : St) : ∀ (ds : List Delta) (i k : Nat), nth (olds s i ds) k = (nth ds k).map (oldIds (s.pre ++ [s.n, i + k]))
 | [], i, k => by simp [olds]
 | d :: r, i, 0 => by simp [olds]
 | d :: r, i, k + 1 => by unfold olds; rw [Zv, Zv, Z0y s r (i + 1) k, show i + 1 + k = i + (k + 1) by omega]
theorem Z84 {s : St} {B : List (List Nat)} {ds : List Delta} {i : Nat} {b : Nm} : b ∈ rivals B i 0 (olds s 0 ds) ↔ ∃ k, Wr ds k b /\ ¬ OwnI s k b /\ i ≠ k /\ k ∉ pre B i /\ i ∉ pre B k := by
 rw [J8]
 have hown : ∀ k, (∃ r, b = (s.pre ++ [s.n, k]) ++ r) ↔ OwnI s k b := fun k => by
  unfold OwnI; simp
 constructor
 ·rintro ⟨k, w, h1, h2, h3⟩
  rw [Nat.zero_add] at h3
  rw [Z0y, Nat.zero_add] at h1
  cases hd : nth ds k with
  | none => rw [hd] at h1; cases h1
  | some d =>
   rw [hd] at h1; simp only [Option.map_some, Option.some.injEq] at h1; subst h1
   obtain ⟨g1, g2⟩ := (J9 _ _ _).1 h2
   exact ⟨k, ⟨d, hd, g1⟩, fun ho => g2 ((hown k).2 ho), h3⟩
 ·rintro ⟨k, ⟨d, hd, g1⟩, g2, h3⟩
  refine ⟨k, oldIds (s.pre ++ [s.n, k]) d, by rw [Z0y, hd, Nat.zero_add]; rfl, (J9 _ _ _).2 ⟨g1, fun ho => g2 ((hown k).1 ho)⟩, by rw [Nat.zero_add]; exact h3⟩
end
end Go.Am
namespace Go.Am
open Go
noncomputable section
section
variable {C : Cfg} {call : FuncId -> List AV -> M AV} {rnd : Nm -> List AV -> M AV} {ops : List Oper} {B : List (List Nat)} {s : St} {T vs : List AV} {ds : List Delta}
theorem Run.ord (hc : ∀ f args, Nice (call f args)) (hr : ∀ l args, Nice (rnd l args)) (hreg : RegOk ops B) (hf : Frh s) (h : Run C call rnd ops B s T vs ds) {i k : Nat} {b : Nm} (hi : Wr ds i b) (hk : Wr ds k b) (hne : i ≠ k) : k ∈ pre B i \/ i ∈ pre B k := by
 by_cases h1 : k ∈ pre B i
 ·exact .inl h1
 ·by_cases h2 : i ∈ pre B k
  ·exact .inr h2
  ·exfalso
   by_cases ho : OwnI s k b
   ·rcases h.own hc hr hreg hf ho i hi with e | e
    ·exact hne e
    ·exact h1 e
   ·have hriv : b ∈ rivals B i 0 (olds s 0 ds) := Z84.2 ⟨k, hk, ho, hne, h1, h2⟩
    rcases h.ids hc hr hi with ho | ⟨x, hx⟩
    ·rcases h.own hc hr hreg hf ho k hk with e | e
     ·exact hne e.symm
     ·exact h2 e
    ·exact (Xi hx).1 hriv
theorem Run.seen (hc : ∀ f args, Nice (call f args)) (hr : ∀ l args, Nice (rnd l args)) (hreg : RegOk ops B) (hf : Frh s) (h : Run C call rnd ops B s T vs ds) {i k : Nat} {b : Nm} {x : Blk} (hin : i < ops.length) (hx : hget (hidden s B ds i) b = some x) (hk : Wr ds k b) (hne : i ≠ k) (hik : i ∉ pre B k) : k ∈ pre B i := by
 by_cases h1 : k ∈ pre B i
 ·exact h1
 ·exfalso
  obtain ⟨hnr, hov⟩ := Xi hx
  by_cases ho : OwnI s k b
  ·rcases Z0p hov with ⟨j, hj, hwj⟩ | hs
   ·rcases h.own hc hr hreg hf ho j hwj with rfl | e
    ·exact h1 hj
    ·obtain ⟨o, hoo⟩ := Ym hin
     exact h1 ((hreg.back i o hoo j hj).2 k e)
   ·rw [hf k b ho] at hs; cases hs
  ·exact hnr (Z84.2 ⟨k, hk, ho, hne, h1, hik⟩)
end
end
end Go.Am
namespace Go.Am
open Go
noncomputable section
theorem Z63 {d : Delta} {b : Nm} (h : ¬ ∃ e ∈ d, e.1 = b) : lkD d b = none := by
 cases hl : lkD d b with
 | none => rfl
 | some y => exact absurd (Z4r hl) h
theorem Xj {p q : Nat -> Bool} {b : Nm} : ∀ (ds : List Delta) (k : Nat) (h : Option Blk), (∀ j d, nth ds j = some d -> (∃ e ∈ d, e.1 = b) -> p (k + j) = q (k + j)) -> mg p b k ds h = mg q b k ds h
 | [], k, h, _ => rfl
 | d :: r, k, h, ha => by
  unfold mg
  have h1 : (if p k = true then (lkD d b).getD h else h) = (if q k = true then (lkD d b).getD h else h) := by
   by_cases hw : ∃ e ∈ d, e.1 = b
   ·have := ha 0 d (by simp) hw; rw [Nat.add_zero] at this; rw [this]
   ·rw [Z63 hw]; by_cases hp : p k = true <;> by_cases hq : q k = true <;> simp [hp, hq]
  rw [h1]
  refine Xj r (k + 1) _ fun j d' hj hw => ?_
  have := ha (j + 1) d' (by rw [Zv]; exact hj) hw
  rw [show k + 1 + j = k + (j + 1) by omega]; exact this
section
variable {C : Cfg} {call : FuncId -> List AV -> M AV} {rnd : Nm -> List AV -> M AV} {ops : List Oper} {B : List (List Nat)} {s : St} {T vs : List AV} {ds : List Delta}
def Closed (ops : List Oper) (B : List (List Nat)) (S : Nat -> Bool) : Prop := ∀ i, i < ops.length -> S i = true -> ∀ j ∈ pre B i, S j = true
theorem Run.sub (hc : ∀ f args, Nice (call f args)) (hr : ∀ l args, Nice (rnd l args)) (hreg : RegOk ops B) (hf : Frh s) (h : Run C call rnd ops B s T vs ds) {S : Nat -> Bool} (hS : Closed ops B S) {i : Nat} (hin : i < ops.length) (hi : S i = false) (hp : ∀ j ∈ pre B i, S j = true) {b : Nm} {x : Blk} (hx : hget (hidden s B ds i) b = some x) :
  mg S b 0 ds (hget s.H b) = some x := by
 have hov := (Xi hx).2
 rw [Zj s.H] at hov
 rw [<- hov]
 refine Xj ds 0 _ fun k d hk hw => ?_
 rw [Nat.zero_add]
 have hkw : Wr ds k b := ⟨d, hk, hw⟩
 have hkl : k < ops.length := by rw [<- h.dlen]; exact Yi hk
 cases hSk : S k with
 | true =>
  have hne : i ≠ k := fun e => by subst e; rw [hi] at hSk; cases hSk
  have := h.seen hc hr hreg hf hin hx hkw hne (fun hik => by have := hS k hkl hSk i hik; rw [hi] at this; cases this)
  exact ((Zr _ _).2 this).symm
 | false =>
  cases hm : memN k (pre B i) with
  | false => rfl
  | true => have := hp k ((Zr _ _).1 hm); rw [hSk] at this; cases this
theorem Run.step (hc : ∀ f args, Nice (call f args)) (hr : ∀ l args, Nice (rnd l args)) (hreg : RegOk ops B) (hf : Frh s) (h : Run C call rnd ops B s T vs ds) {S S' : Nat -> Bool} (hS : Closed ops B S) {i : Nat} (hin : i < ops.length) (hi : S i = false) (hi' : S' i = true) (hs : ∀ k, k ≠ i -> S' k = S k) {d : Delta} (hd : nth ds i = some d) (b : Nm) :
  mg S' b 0 ds (hget s.H b) = (lkD d b).getD (mg S b 0 ds (hget s.H b)) := by
 by_cases hw : ∃ e ∈ d, e.1 = b
 ·obtain ⟨e, he, heb⟩ := hw
  obtain ⟨y, hy⟩ := Zat he
  rw [heb] at hy
  rw [hy]
  have hlt : i < ds.length := Yi hd
  have hsplit : ds = ds.take i ++ (d :: ds.drop (i + 1)) := by
   rw [Zm] at hd
   obtain ⟨hlt, hd⟩ := List.getElem?_eq_some_iff.1 hd
   rw [<- hd, <- List.drop_eq_getElem_cons hlt, List.take_append_drop]
  have h2 := Z02 S' b (ds.take i) (d :: ds.drop (i + 1)) 0 (hget s.H b)
  rw [<- hsplit] at h2
  rw [h2]
  have hl : 0 + (ds.take i).length = i := by simp; omega
  rw [hl]
  unfold mg
  rw [hi', if_pos rfl, hy]
  simp only [Option.getD_some]
  have : mg S' b (i + 1) (ds.drop (i + 1)) y = mg (fun _ => false) b (i + 1) (ds.drop (i + 1)) y := by
   refine Xj _ _ _ fun j d' hj hw' => ?_
   have hj' : nth ds (i + 1 + j) = some d' := by rw [Zm, List.getElem?_drop] at hj; rw [Zm]; exact hj
   cases hSk : S' (i + 1 + j) with
   | false => rfl
   | true =>
    exfalso
    have hne : i ≠ i + 1 + j := by omega
    rw [hs _ (Ne.symm hne)] at hSk
    have hkl : i + 1 + j < ops.length := by rw [<- h.dlen]; exact Yi hj'
    obtain ⟨o, ho⟩ := Ym hin
    rcases h.ord hc hr hreg hf (i := i) (k := i + 1 + j) (b := b) ⟨d, hd, e, he, heb⟩ ⟨d', hj', hw'⟩ hne with g | g
    ·have := (hreg.back i o ho _ g).1; omega
    ·have := hS _ hkl hSk i g; rw [hi] at this; cases this
  rw [this, Z40 _ _ _ _ _ fun _ _ => rfl]
 ·rw [Z63 hw]
  simp only [Option.getD_none]
  refine Xj ds 0 _ fun k d' hk hw' => ?_
  rw [Nat.zero_add]
  by_cases e : k = i
  ·subst e; rw [hd] at hk; cases hk; exact absurd hw' hw
  ·exact hs k e
theorem Run.all (h : Run C call rnd ops B s T vs ds) {S : Nat -> Bool} (hS : ∀ i, i < ops.length -> S i = true) (b : Nm) : mg S b 0 ds (hget s.H b) = hget (redoH s.H (allD ds)) b := by
 rw [Z14 b ds 0]
 refine Xj ds 0 _ fun k d hk _ => ?_
 rw [Nat.zero_add]; exact hS k (by rw [<- h.dlen]; exact Yi hk)
end
end
end Go.Am
namespace Go.Am
open Go
noncomputable section
theorem HR.congr {ρ : Rho} {H H' : Heap} {w : World} (he : ∀ b, hget H b = hget H' b) (h : HR ρ H w) : HR ρ H' w :=
 ⟨fun b x hb => h.blocks b x (by rw [he]; exact hb), fun b b' x x' p p' h1 h2 => h.sep b b' x x' p p' (by rw [he]; exact h1) (by rw [he]; exact h2),
  fun b m l e hb => let ⟨⟨es, h1⟩, h2⟩ := h.iter b m l e (by rw [he]; exact hb); ⟨⟨es, by rw [<- he]; exact h1⟩, h2⟩, h.frz, fun b x p hb => h.fsep b x p (by rw [he]; exact hb)⟩
theorem Img.congr {ρ : Rho} {H H' : Heap} (he : ∀ b, hget H b = hget H' b) {c : Nat} (h : Img ρ H c) : Img ρ H' c := by
 obtain ⟨b, x, p, h1, h2, h3, h4⟩ := h; exact ⟨b, x, p, by rw [<- he]; exact h1, h2, h3, h4⟩
structure Cst (ρ : Rho) (H : Heap) (w : World) (ρ' : Rho) (H' : Heap) (w' : World) : Prop where
 ext : Ext ρ ρ'
 same : Same w w'
 size : w.heap.size <= w'.heap.size
 unch : ∀ c, c < w.heap.size -> ¬ Img ρ H c -> w'.heap[c]? = w.heap[c]?
 img : ∀ c, c < w.heap.size -> Img ρ' H' c -> Img ρ H c
 fzl : ∀ c k v, ρ'.fz c k = some v -> ρ.fz c k = none -> c < w.heap.size -> Img ρ H c
theorem Stp.cst {ρ ρ' : Rho} {s s' : St} {w w' : World} (h : Stp ρ s w ρ' s' w') : Cst ρ s.H w ρ' s'.H w' := ⟨h.ext, h.same, h.size, h.unch, h.img, h.fzl⟩
theorem Cst.refl (ρ : Rho) (H : Heap) (w : World) : Cst ρ H w ρ H w := ⟨Ext.refl _, Same.refl _, Nat.le_refl _, fun _ _ _ => rfl, fun _ _ h => h, fun _ _ _ h h' => (by rw [h] at h'; cases h')⟩
theorem Cst.trans {ρ ρ' ρ'' : Rho} {H H' H'' : Heap} {w w' w'' : World} (h : Cst ρ H w ρ' H' w') (k : Cst ρ' H' w' ρ'' H'' w'') : Cst ρ H w ρ'' H'' w'' :=
 ⟨h.ext.trans k.ext, h.same.trans k.same, Nat.le_trans h.size k.size,
  fun c hc hn => (k.unch c (Nat.lt_of_lt_of_le hc h.size) (fun hi => hn (h.img c hc hi))).trans (h.unch c hc hn),
  fun c hc hi => h.img c hc (k.img c (Nat.lt_of_lt_of_le hc h.size) hi), fun c i v hv hn hc => by
   cases e : ρ'.fz c i with
   | none => exact h.img c hc (k.fzl c i v hv e (Nat.lt_of_lt_of_le hc h.size))
   | some u => exact h.fzl c i u e hn hc⟩
theorem Cst.congr {ρ ρ' : Rho} {H H1 H' H1' : Heap} {w w' : World} (h : Cst ρ H w ρ' H' w') (e : ∀ b, hget H b = hget H1 b) (e' : ∀ b, hget H' b = hget H1' b) : Cst ρ H1 w ρ' H1' w' :=
 ⟨h.ext, h.same, h.size, fun c hc hn => h.unch c hc fun hi => hn (hi.congr e), fun c hc hi => (h.img c hc (hi.congr fun b => (e' b).symm)).congr e, fun c k v hv hn hc => (h.fzl c k v hv hn hc).congr e⟩
def mgH (p : Nat -> Bool) : Nat -> List Delta -> Heap -> Heap
 | _, [], H => H
 | k, d :: r, H => mgH p (k + 1) r (if p k = true then redoH H d else H)
theorem X0 (p : Nat -> Bool) (b : Nm) : ∀ (ds : List Delta) (k : Nat) (H : Heap), hget (mgH p k ds H) b = mg p b k ds (hget H b)
 | [], k, H => rfl
 | d :: r, k, H => by
  unfold mgH mg
  rw [X0 p b r (k + 1)]
  by_cases h : p k = true
  ·simp only [h, if_true]; rw [Z8]
  ·simp only [h]; rfl
end
end Go.Am
namespace Go.Am
open Go
noncomputable section
theorem Z42 (e : Edge) : Region.binds .any e = solid e := by
 unfold Region.binds solid
 cases e.ground <;> rfl
theorem Z85 (T : List AV) {d d' : Option Tmp} (v v' : AV) (h : ∀ t, d = some t -> d' ≠ some t) : putT (putT T d v) d' v' = putT (putT T d' v') d v := by
 cases d with
 | none => rfl
 | some t =>
  cases d' with
  | none => rfl
  | some t' =>
   have hne : t ≠ t' := fun e => h t rfl (by rw [e])
   simp only [putT, Y7]
   exact List.set_comm _ _ hne
theorem Z86 (p : Nat -> Bool) (d : Option Tmp) (v : AV) : ∀ (ops : List Oper) (k : Nat) (vs T : List AV), (∀ o ∈ ops, ∀ t, d = some t -> o.dst ≠ some t) -> TP p k ops vs (putT T d v) = putT (TP p k ops vs T) d v
 | [], k, vs, T, _ => by simp [TP]
 | o :: r, k, [], T, _ => by simp [TP]
 | o :: r, k, u :: vs, T, h => by
  have hr : ∀ q ∈ r, ∀ t, d = some t -> q.dst ≠ some t := fun q hq => h q (List.mem_cons_of_mem _ hq)
  unfold TP
  by_cases hp : p k = true
  ·simp only [hp, if_true]
   rw [Z85 T v u (h o List.mem_cons_self), Z86 p d v r (k + 1) vs _ hr]
  ·simp only [hp]; exact Z86 p d v r (k + 1) vs _ hr
theorem Z54 {p q : Nat -> Bool} : ∀ (ops : List Oper) (k : Nat) (vs T : List AV), (∀ i, i < ops.length -> p (k + i) = q (k + i)) -> TP p k ops vs T = TP q k ops vs T
 | [], k, vs, T, _ => by simp [TP]
 | o :: r, k, [], T, _ => by simp [TP]
 | o :: r, k, v :: vs, T, h => by
  unfold TP
  have h0 := h 0 (by simp)
  rw [Nat.add_zero] at h0
  rw [h0]
  exact Z54 r (k + 1) vs _ fun i hi => by rw [show k + 1 + i = k + (i + 1) by omega]; exact h (i + 1) (by simp; omega)
theorem Z87 {p q : Nat -> Bool} : ∀ (ops : List Oper) (k : Nat) (vs T : List AV) (i : Nat) (o : Oper) (v : AV), nth ops i = some o -> nth vs i = some v -> p (k + i) = false -> q (k + i) = true -> (∀ j, j ≠ i -> q (k + j) = p (k + j)) ->
  (∀ j u, j ≠ i -> nth ops j = some u -> ∀ t, o.dst = some t -> u.dst ≠ some t) -> TP q k ops vs T = putT (TP p k ops vs T) o.dst v
 | [], k, vs, T, i, o, v, ho, _, _, _, _, _ => by simp at ho
 | a :: r, k, [], T, i, o, v, _, hv, _, _, _, _ => by simp at hv
 | a :: r, k, u :: vs, T, 0, o, v, ho, hv, h1, h2, h3, h4 => by
  simp only [Yg, Option.some.injEq] at ho hv; subst ho; subst hv
  rw [Nat.add_zero] at h1 h2
  unfold TP
  simp only [h1, h2, if_true]
  rw [Z54 (p := q) (q := p) r (k + 1) vs _ fun j hj => by rw [show k + 1 + j = k + (j + 1) by omega]; exact h3 (j + 1) (by omega)]
  refine Z86 p _ _ r (k + 1) vs _ fun x hx => ?_
  obtain ⟨j, hj⟩ := Z4t hx
  exact h4 (j + 1) x (by omega) (by rw [Zv]; exact hj)
 | a :: r, k, u :: vs, T, i + 1, o, v, ho, hv, h1, h2, h3, h4 => by
  rw [Zv] at ho hv
  unfold TP
  have h0 := h3 0 (by omega)
  rw [Nat.add_zero] at h0
  rw [h0]
  refine Z87 r (k + 1) vs _ i o v ho hv (by rw [show k + 1 + i = k + (i + 1) by omega]; exact h1) (by rw [show k + 1 + i = k + (i + 1) by omega]; exact h2) (fun j hj => ?_) (fun j x hj hx => ?_)
  ·rw [show k + 1 + j = k + (j + 1) by omega]; exact h3 (j + 1) (by omega)
  ·exact h4 (j + 1) x (by omega) (by rw [Zv]; exact hx)
def cntF : List Bool -> Nat
 | [] => 0
 | b :: r => (if b = true then 0 else 1) + cntF r
theorem Z64 : ∀ (l : List Bool) (i : Nat), l[i]? = some false -> cntF (l.set i true) + 1 = cntF l
 | [], i, h => by simp at h
 | b :: r, 0, h => by simp at h; subst h; simp [cntF]; omega
 | b :: r, i + 1, h => by
  simp at h
  have := Z64 r i h
  simp only [List.set_cons_succ, cntF]; omega
theorem Z43 : ∀ (l : List Bool), cntF l = 0 -> ∀ (i : Nat) (b : Bool), l[i]? = some b -> b = true
 | [], _, i, b, h => by simp at h
 | c :: r, hz, i, b, h => by
  simp only [cntF] at hz
  cases i with
  | zero => simp at h; subst h; cases c <;> simp_all
  | succ i => exact Z43 r (by omega) i b (by simpa using h)
theorem Cst.world {ρ ρ' : Rho} {H H' : Heap} {w w1 w' : World} (h : Cst ρ H w ρ' H' w1) (hw : w'.heap = w1.heap) (hs : Same w1 w') : Cst ρ H w ρ' H' w' :=
 ⟨h.ext, h.same.trans hs, by rw [hw]; exact h.size, by rw [hw]; exact h.unch, h.img, h.fzl⟩
section
variable {P : Program} {C : Cfg} {call : FuncId -> List AV -> M AV} {rnd : Nm -> List AV -> M AV} {F : Fence} {n : Nat}
structure AnyInv (ops : List Oper) (s : St) (T vs : List AV) (ds : List Delta) (ρ : Rho) (w0 : World) (a0 : Act) (S : Nat -> Bool) (ρ' : Rho) (a : Act) (w : World) : Prop where
 hr : HR ρ' (mgH S 0 ds s.H) w
 st : Cst ρ s.H w0 ρ' (mgH S 0 ds s.H) w
 tm : VRs ρ' (TP S 0 ops vs T) a.tmps.toList
 df : a.defers = a0.defers
 nm : ∀ b p, ρ' b = some p -> ρ b = none -> ∃ k, S k = true /\ OwnI s k b
theorem Zc6 (hC : CfgOk P C) (hF : Fw F) (hcall : CallOk P call) (hrnd : RndOk P rnd) (hc : ∀ f args, Nice (call f args)) (hr : ∀ l args, Nice (rnd l args))
  {arr : Array Oper} {ops : List Oper} (harr : arr.toList = ops) {B : List (List Nat)} (hreg : RegOk ops B) {s : St} {T vs : List AV} {ds : List Delta} {ρ : Rho} {w0 : World} {a0 : Act} (hf : Fr ρ s) (hfr : Frh s)
  (hrun : Run C call rnd ops B s T vs ds) {Q : Exit -> Act -> World -> Prop}
  (hN : ∀ ρ' a w, AnyInv ops s T vs ds ρ w0 a0 (fun _ => true) ρ' a w -> Q .normal a w) :
  ∀ (fuel : Nat) (listed : Array Bool) (ρ' : Rho) (a : Act) (w : World), listed.size = ops.length -> cntF listed.toList <= fuel -> Closed ops B (fun i => listed.getD i false) ->
   AnyInv ops s T vs ds ρ w0 a0 (fun i => listed.getD i false) ρ' a w -> wpAnyIn F n P .any arr Q fuel listed a w := by
 have hsz : arr.size = ops.length := by rw [<- harr]; simp
 have hat : ∀ i, arr[i]? = nth ops i := fun i => by rw [Zm, <- harr]; simp
 have hend : ∀ (listed : Array Bool) (ρ' : Rho) (a : Act) (w : World), listed.size = ops.length -> AnyInv ops s T vs ds ρ w0 a0 (fun i => listed.getD i false) ρ' a w -> Region.ready .any arr listed = [] -> Q .normal a w := by
  intro listed ρ' a w hl hinv hre
  have hall : ∀ i, i < ops.length -> listed.getD i false = true := by
   intro i
   induction i using Nat.strongRecOn with
   | _ i ih =>
    intro hi
    cases hb : listed.getD i false with
    | true => rfl
    | false =>
     exfalso
     obtain ⟨o, ho⟩ := Ym hi
     have : i ∈ Region.ready .any arr listed := by
      rw [mem_ready]
      refine ⟨?_, o, by rw [hat]; exact ho, fun e he hbd => ?_⟩
      ·simp only [Array.getD_eq_getD_getElem?] at hb ⊢
       cases hg : listed[i]? with
       | none => rw [Array.getElem?_eq_none_iff] at hg; omega
       | some x => rw [hg] at hb; simpa using hb
      ·rw [Z42] at hbd
       have h1 := hreg.edge i o ho e (by simpa using he) hbd
       have h2 := (hreg.back i o ho _ h1).1
       exact ih e.on h2 (by omega)
     rw [hre] at this; cases this
  have hT : TP (fun i => listed.getD i false) 0 ops vs T = TP (fun _ => true) 0 ops vs T := Z54 ops 0 vs T fun i hi => by rw [Nat.zero_add]; exact hall i hi
  have hH : ∀ b, hget (mgH (fun i => listed.getD i false) 0 ds s.H) b = hget (mgH (fun _ => true) 0 ds s.H) b := fun b => by
   rw [X0, X0]
   refine Xj ds 0 _ fun k d hk _ => ?_
   rw [Nat.zero_add]; exact hall k (by rw [<- hrun.dlen]; exact Yi hk)
  refine hN ρ' a w ⟨hinv.hr.congr hH, hinv.st.congr (fun _ => rfl) hH, by rw [<- hT]; exact hinv.tm, hinv.df, fun b p h1 h2 => ?_⟩
  obtain ⟨k, _, hk⟩ := hinv.nm b p h1 h2
  exact ⟨k, rfl, hk⟩
 intro fuel
 induction fuel with
 | zero =>
  intro listed ρ' a w hl hcnt hcl hinv
  have hnil : Region.ready .any arr listed = [] := by
   cases hre : Region.ready .any arr listed with
   | nil => rfl
   | cons i r =>
    exfalso
    have hi : i ∈ Region.ready .any arr listed := by rw [hre]; exact List.mem_cons_self
    obtain ⟨h0, o, ho, _⟩ := mem_ready.1 hi
    rw [hat] at ho
    have hlt : i < listed.size := by rw [hl]; exact Yi ho
    have hg : listed[i]? = some listed[i] := Array.getElem?_eq_getElem hlt
    have := Z43 listed.toList (by omega) i listed[i] (by rw [Array.getElem?_toList]; exact hg)
    simp only [Array.getD_eq_getD_getElem?, hg, Option.getD_some] at h0
    rw [h0] at this; cases this
  exact ⟨hnil, hend listed ρ' a w hl hinv hnil⟩
 | succ fuel ih =>
  intro listed ρ' a w hl hcnt hcl hinv
  refine ⟨hend listed ρ' a w hl hinv, fun i hi => ?_⟩
  obtain ⟨h0, o, ho, hall⟩ := mem_ready.1 hi
  rw [hat] at ho
  have hin : i < ops.length := Yi ho
  have hlt : i < listed.size := by rw [hl]; exact hin
  have hg : listed[i]? = some listed[i] := Array.getElem?_eq_getElem hlt
  have hfalse : listed[i] = false := by simpa only [Array.getD_eq_getD_getElem?, hg, Option.getD_some] using h0
  have hSi : listed.getD i false = false := by simp only [Array.getD_eq_getD_getElem?, hg, Option.getD_some]; exact hfalse
  have hS'i : (listed.setIfInBounds i true).getD i false = true := by simp [Array.getD_eq_getD_getElem?, hlt]
  have hSk : ∀ k, k ≠ i -> (listed.setIfInBounds i true).getD k false = listed.getD k false := fun k hk => getD_set_ne false (Ne.symm hk)
  have hpre : ∀ j ∈ pre B i, listed.getD j false = true := by
   intro j hj
   obtain ⟨e, he, hs, h1⟩ := (hreg.from' i o ho j).1 hj
   have h2 := hall e (by simpa using he) (by rw [Z42]; exact hs)
   rcases h1 with rfl | h1
   ·exact h2
   ·have he' : e.on < ops.length := by
     have := (hreg.back i o ho _ (hreg.edge i o ho e he hs)).1
     omega
    exact hcl e.on he' h2 j h1
  have hcl' : Closed ops B (fun k => (listed.setIfInBounds i true).getD k false) := by
   intro k hk hSk' j hj
   by_cases e : k = i
   ·subst e
    have hji : j ≠ k := by have := (hreg.back k o ho j hj).1; omega
    show (listed.setIfInBounds k true).getD j false = true
    rw [hSk j hji]; exact hpre j hj
   ·have h1 : listed.getD k false = true := by rw [<- hSk k e]; exact hSk'
    have h2 := hcl k hk h1 j hj
    show (listed.setIfInBounds i true).getD j false = true
    by_cases e' : j = i
    ·subst e'; exact hS'i
    ·rw [hSk j e']; exact h2
  have hcnt' : cntF (listed.setIfInBounds i true).toList <= fuel := by
   have := Z64 listed.toList i (by rw [Array.getElem?_toList, hg, hfalse])
   rw [Array.toList_setIfInBounds]; omega
  have hlook : ∀ t ∈ looksL ops o, nth (TP (fun k => listed.getD k false) 0 ops vs T) t = nth (TP (fun j => decide (j < i)) 0 ops vs T) t := by
   intro t ht
   refine Z61 ops 0 vs T T (fun k q hk hd => ?_) rfl rfl
   rw [Nat.zero_add]
   by_cases e : k = i
   ·subst e; show listed.getD k false = decide (k < k); rw [hSi]; simp
   ·rcases (hreg.dst i o ho k q hk e t hd).2 with h1 | h1 | h1
    ·show listed.getD k false = decide (k < i)
     rw [hpre k h1]; have := (hreg.back i o ho k h1).1; simp [this]
    ·show listed.getD k false = decide (k < i)
     have h2 := (hreg.back k q hk i h1).1
     cases hb : listed.getD k false with
     | false => simp; omega
     | true => have h3 : listed.getD i false = true := hcl k (Yi hk) hb i h1; rw [hSi] at h3; cases h3
    ·exact absurd ht h1
  obtain ⟨e1, e2⟩ := Zb1 (C := C) (call := call) (rnd := rnd) (o := o) hlook
  have hdst : ∀ j u, j ≠ i -> nth ops j = some u -> ∀ t, o.dst = some t -> u.dst ≠ some t := fun j u hj hu t ht => (hreg.dst j u hu i o ho (Ne.symm hj) t ht).1
  have htp : ∀ v, nth vs i = some v -> TP (fun k => (listed.setIfInBounds i true).getD k false) 0 ops vs T = putT (TP (fun k => listed.getD k false) 0 ops vs T) o.dst v := fun v hv =>
   Z87 ops 0 vs T i o v ho hv (by rw [Nat.zero_add]; exact hSi) (by rw [Nat.zero_add]; exact hS'i) (fun j hj => by rw [Nat.zero_add]; exact hSk j hj) hdst
  have hheap : ∀ d, nth ds i = some d -> ∀ b, hget (mgH (fun k => (listed.setIfInBounds i true).getD k false) 0 ds s.H) b = (lkD d b).getD (hget (mgH (fun k => listed.getD k false) 0 ds s.H) b) := fun d hd b => by
   rw [X0, X0]
   exact hrun.step hc hr hreg hfr hcl hin hSi hS'i hSk hd b
  show wpOpIn F n P arr Q i (wpAnyIn F n P .any arr Q fuel (listed.setIfInBounds i true)) a w
  unfold wpOpIn
  rw [hat, ho]
  simp only
  rw [Z3y harr hinv.tm o, e2]
  cases hw : wantedA ops (TP (fun j => decide (j < i)) 0 ops vs T) o with
  | false =>
   simp only [Bool.false_eq_true, if_false]
   refine ⟨fun f _ => hF.fn f, ?_⟩
   obtain ⟨g1, g2⟩ := hrun.no i o ho hw
   have hH := fun b => hheap [] g2 b
   refine ih _ ρ' _ w (by simp [hl]) hcnt' hcl' ⟨hinv.hr.congr fun b => (by rw [hH b]; rfl), hinv.st.congr (fun _ => rfl) fun b => (by rw [hH b]; rfl), ?_, ?_, ?_⟩
   ·rw [htp _ g1]; exact Z0w hinv.tm _ (by simp [VR])
   ·rw [<- hinv.df]; cases o.dst <;> rfl
   ·intro b p h1 h2
    obtain ⟨k, hk1, hk2⟩ := hinv.nm b p h1 h2
    refine ⟨k, ?_, hk2⟩
    show (listed.setIfInBounds i true).getD k false = true
    by_cases e : k = i
    ·subst e; exact hS'i
    ·rw [hSk k e]; exact hk1
  | true =>
   simp only [if_true]
   obtain ⟨v, d, g1, g2, g3⟩ := hrun.go i o ho hw
   obtain ⟨st, hst⟩ : ∃ st, st = opSt s i (mgH (fun k => listed.getD k false) 0 ds s.H) := ⟨_, rfl⟩
   have hsub : Sub (opSt s i (hidden s B ds i)) st := by
    rw [hst]
    refine J3 (Sub.refl s) i fun b x hx => ?_
    rw [X0]
    exact hrun.sub hc hr hreg hfr hcl hin hSi hpre hx
   have hone : one (opA C call rnd (TP (fun k => listed.getD k false) 0 ops vs T) o st) = some (v, d) := by
    rw [e1]
    exact TrSub.one ((Nice.opA hc hr _ o).mono _ _ hsub) g3
   obtain ⟨t1, ht1, hj1⟩ := Z0v hone
   have hj1 : t1.j = d := hj1
   have hjr := (Nice.opA (C := C) hc hr (TP (fun k => listed.getD k false) 0 ops vs T) o).jr st
   rw [ht1] at hjr
   obtain ⟨d', d1, d2, _⟩ := JrR.j (hjr : JrR _ t1) (by rw [hst]; rfl)
   have hd' : d' = d := by rw [<- hj1, d1, hst]; exact (List.append_nil d').symm
   have hH1 : ∀ b, hget (mgH (fun k => (listed.setIfInBounds i true).getD k false) 0 ds s.H) b = hget t1.H b := fun b => by
    rw [hheap d g2 b, d2 b, Z8, hd', hst]; rfl
   have hstH : st.H = mgH (fun k => listed.getD k false) 0 ds s.H := by rw [hst]; rfl
   have hfr1 : Fr ρ' st := by
    intro m r hm
    have hb : st.pre ++ m :: r = s.pre ++ s.n :: i :: m :: r := by rw [hst]; show (s.pre ++ [s.n, i]) ++ m :: r = _; simp
    rw [hb]
    cases hp : ρ' (s.pre ++ s.n :: i :: m :: r) with
    | none => rfl
    | some p =>
     exfalso
     cases hp0 : ρ (s.pre ++ s.n :: i :: m :: r) with
     | some q => rw [hf s.n _ (Nat.le_refl _)] at hp0; cases hp0
     | none =>
      obtain ⟨k, hk1, hk2⟩ := hinv.nm _ p hp hp0
      have : k = i := hk2.inj ⟨m :: r, rfl⟩
      subst this
      have hk1 : listed.getD k false = true := hk1
      rw [hSi] at hk1; cases hk1
   have hopm : (opA C call rnd (TP (fun k => listed.getD k false) 0 ops vs T) o st).All (fun x => x = (v, t1)) := by rw [ht1]; rfl
   refine Zak hC hF hcall hrnd (s := st) (ρ := ρ') (by rw [hstH]; exact hinv.hr) hfr1 hinv.tm hopm ?_
   intro v' s' ρ'' w'' cv hvs hstp hhr hvr
   obtain ⟨rfl, rfl⟩ : v' = v /\ s' = t1 := by injection hvs with x y; exact ⟨x, y⟩
   have hcst : Cst ρ' (mgH (fun k => listed.getD k false) 0 ds s.H) w ρ'' s'.H w'' := by rw [<- hstH]; exact hstp.cst
   refine ih _ ρ'' _ w'' (by simp [hl]) hcnt' hcl' ⟨hhr.congr fun b => (hH1 b).symm, (hinv.st.trans hcst).congr (fun _ => rfl) fun b => (hH1 b).symm, ?_, ?_, ?_⟩
   ·rw [htp _ g1]; exact Z0w (VRs.mono hstp.ext _ _ hinv.tm) _ hvr
   ·rw [<- hinv.df]; cases o.dst <;> rfl
   ·intro b p h1 h2
    cases hp : ρ' b with
    | none =>
     obtain ⟨m, r, hb, _, _⟩ := hstp.loc b p h1 hp
     refine ⟨i, hS'i, m :: r, ?_⟩
     rw [hb, hst]; show (s.pre ++ [s.n, i]) ++ m :: r = _; simp
    | some q =>
     obtain ⟨k, hk1, hk2⟩ := hinv.nm b q hp h2
     refine ⟨k, ?_, hk2⟩
     show (listed.setIfInBounds i true).getD k false = true
     by_cases e : k = i
     ·subst e; exact hS'i
     ·rw [hSk k e]; exact hk1
theorem Zb2 (hC : CfgOk P C) (hF : Fw F) (hcall : CallOk P call) (hrnd : RndOk P rnd) (hc : ∀ f args, Nice (call f args)) (hrn : ∀ l args, Nice (rnd l args))
  {arr : Array Oper} (hreg : regOk arr.toList = true) {s : St} {T : List AV} {ρ : Rho} {w : World} {a : Act} (hr : HR ρ s.H w) (hf : Fr ρ s) (hT : VRs ρ T a.tmps.toList) {R : List AV × St -> Prop} {Q : Exit -> Act -> World -> Prop} {id : Nat}
  (hm : (drawA C call rnd arr.toList T s).All R)
  (hN : ∀ T' s' ρ' w' a', R (T', s') -> Stp ρ s w ρ' s' w' -> HR ρ' s'.H w' -> VRs ρ' T' a'.tmps.toList -> a'.defers = a.defers -> Q .normal a' w') :
  (Code.region id arr true).wpIn F n P Q a w := by
 have hreg := Z6t hreg
 obtain ⟨vs, ds, hrun, hR⟩ := Z53 hc hrn hreg hm
 have hfr : Frh s := by
  rintro i b ⟨r, rfl⟩
  cases hb : hget s.H (s.pre ++ s.n :: i :: r) with
  | none => rfl
  | some x => obtain ⟨p, hp, _⟩ := hr.blocks _ _ hb; rw [hf s.n _ (Nat.le_refl _)] at hp; cases hp
 refine wpIn_region_any hC.mixed ?_
 have hoff : ∀ i, (Array.replicate arr.size false).getD i false = false := fun i => by simp [Array.getD_eq_getD_getElem?, Array.getElem?_replicate]; split <;> rfl
 have hH0 : ∀ b, hget s.H b = hget (mgH (fun i => (Array.replicate arr.size false).getD i false) 0 ds s.H) b := fun b => by
  rw [X0, Z40 _ _ _ _ _ fun i _ => hoff i]
 refine Zc6 (w0 := w) (a0 := a) hC hF hcall hrnd hc hrn rfl hreg hf hfr hrun ?_ arr.size _ ρ a _ (by simp) ?_ ?_ ?_
 ·intro ρ' a' w' hinv
  have hH : ∀ b, hget (mgH (fun _ => true) 0 ds s.H) b = hget (redoH s.H (allD ds)) b := fun b => by
   rw [X0]; exact hrun.all (fun _ _ => rfl) b
  refine hN _ _ ρ' w' a' hR ?_ (hinv.hr.congr hH) hinv.tm hinv.df
  have hst := hinv.st.congr (fun _ => rfl) hH
  exact ⟨hst.ext, fun b p h1 h2 => by
   obtain ⟨k, _, r, hb⟩ := hinv.nm b p h1 h2
   exact ⟨s.n, k :: r, hb, Nat.le_refl _, Nat.lt_succ_self _⟩, rfl, Nat.le_succ _, hst.same, hst.size, hst.unch, hst.img, hst.fzl⟩
 ·have : ∀ m, cntF (List.replicate m false) = m := by
   intro m; induction m with
   | zero => rfl
   | succ m ih => simp [List.replicate_succ, cntF, ih]; omega
  simp [this]
 ·intro i _ h; have h : (Array.replicate arr.size false).getD i false = true := h; rw [hoff i] at h; cases h
 ·refine ⟨HR.congr hH0 (hr.world (w' := { w with drawn := w.drawn + 1 }) rfl), ((Cst.refl ρ s.H w).congr (fun _ => rfl) hH0).world rfl ⟨rfl, rfl, rfl⟩, ?_, rfl, fun b p h1 h2 => by rw [h1] at h2; cases h2⟩
  rw [Z52 _ _ _ _ _ fun i _ => hoff i]; exact hT
end
end
end Go.Am
namespace Go.Am
open Go
noncomputable section
theorem Z44 : ∀ (a b : List Nat), subN a b = true -> ∀ n ∈ a, n ∈ b
 | [], b, _, n, h => by simp at h
 | m :: r, b, h, n, hn => by
  unfold subN at h
  cases hm : memN m b with
  | false => rw [hm] at h; cases h
  | true =>
   rw [hm] at h
   rcases List.mem_cons.1 hn with rfl | hn
   ·exact (Zr _ _).1 hm
   ·exact Z44 r b h n hn
theorem Z1h {B : List (List Nat)} {k : Nat} : ∀ n, ordAll B k n = true -> ∀ i, i < n -> i = k \/ i ∈ pre B k \/ k ∈ pre B i
 | 0, _, i, hi => by omega
 | n + 1, h, i, hi => by
  unfold ordAll at h
  have key : ordAll B k n = true -> i < n -> i = k \/ i ∈ pre B k \/ k ∈ pre B i := fun h1 h2 => Z1h n h1 i h2
  cases h1 : Nat.beq n k with
  | true =>
   rw [h1] at h
   have := Nat.eq_of_beq_eq_true h1
   by_cases e : i = n
   ·exact .inl (e.trans this)
   ·exact key h (by omega)
  | false =>
   cases h2 : memN n ((nth B k).getD []) with
   | true =>
    rw [h1, h2] at h
    by_cases e : i = n
    ·subst e; exact .inr (.inl ((Zr _ _).1 h2))
    ·exact key h (by omega)
   | false =>
    cases h3 : memN k ((nth B n).getD []) with
    | true =>
     rw [h1, h2, h3] at h
     by_cases e : i = n
     ·subst e; exact .inr (.inr ((Zr _ _).1 h3))
     ·exact key h (by omega)
    | false => rw [h1, h2, h3] at h; cases h
theorem Z0q {B : List (List Nat)} {n : Nat} : ∀ W, ordEach B n W = true -> ∀ k ∈ W, ∀ i, i < n -> i = k \/ i ∈ pre B k \/ k ∈ pre B i
 | [], _, k, h => by simp at h
 | m :: r, h, k, hk => by
  unfold ordEach at h
  cases h1 : ordAll B m n with
  | false => rw [h1] at h; cases h
  | true =>
   rw [h1] at h
   rcases List.mem_cons.1 hk with rfl | hk
   ·exact Z1h n h1
   ·exact Z0q r h k hk
theorem Z03 : ∀ (ds : List Delta) (d : Delta), allD (ds ++ [d]) = d ++ allD ds
 | [], d => by simp [allD]
 | e :: r, d => by simp only [List.cons_append, allD, Z03 r d, List.append_assoc]
theorem Z0z (ds : List Delta) : allD (ds ++ [[]]) = allD ds := by rw [Z03]; rfl
theorem Ye : ∀ (l : List Oper) (vs : List AV) (T : List AV) (o : Oper) (v : AV), vs.length = l.length -> putsT (l ++ [o]) (vs ++ [v]) T = putT (putsT l vs T) o.dst v
 | [], [], T, o, v, _ => by simp [putsT]
 | a :: l, u :: vs, T, o, v, h => by simp only [List.cons_append, putsT]; exact Ye l vs _ o v (by simpa using h)
 | [], u :: vs, T, o, v, h => by simp at h
 | a :: l, [], T, o, v, h => by simp at h
section
variable {C : Cfg} {call : FuncId -> List AV -> M AV} {rnd : Nm -> List AV -> M AV}
theorem Z1i (hc : ∀ f args, Nice (call f args)) (hr : ∀ l args, Nice (rnd l args)) {T : List AV} {o : Oper} {s : St} {i : Nat} {H H' : Heap} (h : ∀ b, hget H b = hget H' b) {x : AV × Delta} (hx : one (opA C call rnd T o (opSt s i H)) = some x) : one (opA C call rnd T o (opSt s i H')) = some x :=
 TrSub.one ((Nice.opA hc hr T o).mono _ _ (J3 (Sub.refl s) i fun b y hy => by rw [<- h b]; exact hy)) hx
theorem Z3d (hc : ∀ f args, Nice (call f args)) (hr : ∀ l args, Nice (rnd l args)) {ops : List Oper} {s : St} {B : List (List Nat)} : ∀ (l : List Oper) (i : Nat) (T : List AV) (Hc : Heap) (nz : List Nat) (D : Delta) (W : List Nat) (x : List AV × Delta × List Nat) (done : List Oper) (vs : List AV) (ds : List Delta) (T0 : List AV),
  drawFP C call rnd ops s B i l T Hc nz D W = some x -> done.length = i -> vs.length = i -> ds.length = i -> T = putsT done vs T0 -> D = allD ds -> (∀ b, hget Hc b = hget (redoH s.H (allD ds)) b) -> (∀ k d, nth ds k = some d -> d ≠ [] -> k ∈ nz) ->
  (∀ k d, nth ds k = some d -> oldIds (s.pre ++ [s.n, k]) d ≠ [] -> k ∈ W) ->
  ∃ vs' ds', drawPass C call rnd ops s B i l T vs ds = some (vs', ds') /\ vs'.length = i + l.length /\ ds'.length = i + l.length /\ x.1 = putsT (done ++ l) vs' T0 /\ x.2.1 = allD ds' /\ (∀ k d, nth ds' k = some d -> oldIds (s.pre ++ [s.n, k]) d ≠ [] -> k ∈ x.2.2)
 | [], i, T, Hc, nz, D, W, x, done, vs, ds, T0, h, h1, h2, h3, hT, hD, hH, hnz, hW => by
  simp only [drawFP, Option.some.injEq] at h; subst h
  exact ⟨vs, ds, rfl, by simpa using h2, by simpa using h3, by simpa using hT, hD, hW⟩
 | o :: r, i, T, Hc, nz, D, W, x, done, vs, ds, T0, h, h1, h2, h3, hT, hD, hH, hnz, hW => by
  unfold drawFP at h
  unfold drawPass
  have snoc : ∀ (v : AV) (d : Delta) (k : Nat) (e : Delta), nth (ds ++ [d]) k = some e -> (nth ds k = some e) \/ (k = i /\ e = d) := by
   intro v d k e he
   rw [Zm] at he ⊢
   by_cases hk : k < ds.length
   ·rw [List.getElem?_append_left hk] at he; exact .inl he
   ·rw [List.getElem?_append_right (by omega)] at he
    have hk2 : k - ds.length = 0 := by
     rcases Nat.eq_zero_or_pos (k - ds.length) with h0 | h0
     ·exact h0
     ·rw [List.getElem?_eq_none (by simp; omega)] at he; cases he
    rw [hk2] at he; simp at he
    exact .inr ⟨by omega, he.symm⟩
  cases hw : wantedA ops T o with
  | false =>
   rw [hw] at h
   obtain ⟨vs', ds', g1, g2, g3, g4, g5, g6⟩ := Z3d hc hr r (i + 1) _ Hc nz D W x (done ++ [o]) (vs ++ [.undef]) (ds ++ [[]]) T0 h (by simp [h1]) (by simp [h2]) (by simp [h3]) (by rw [hT, Ye _ _ _ _ _ (by omega)]) (by rw [Z0z]; exact hD) (by rw [Z0z]; exact hH)
    (fun k d hk hd => by
     rcases snoc .undef [] k d hk with hk | ⟨_, rfl⟩
     ·exact hnz k d hk hd
     ·exact absurd rfl hd)
    (fun k d hk hd => by
     rcases snoc .undef [] k d hk with hk | ⟨_, rfl⟩
     ·exact hW k d hk hd
     ·exact absurd rfl hd)
   exact ⟨vs', ds', g1, by rw [g2]; simp; omega, by rw [g3]; simp; omega, by rw [g4]; simp, g5, g6⟩
  | true =>
   rw [hw] at h; simp only at h ⊢
   cases hs : subN nz ((nth B i).getD []) with
   | false => rw [hs] at h; cases h
   | true =>
    rw [hs] at h; simp only at h
    cases ho : one (opA C call rnd T o (opSt s i Hc)) with
    | none => rw [ho] at h; cases h
    | some y =>
     rw [ho] at h; simp only at h
     have hov : ∀ b, hget Hc b = hget (overlay s.H ((nth B i).getD []) 0 ds) b := by
      intro b
      rw [hH b, Zj s.H, Z14 b ds 0]
      refine Xj ds 0 _ fun k d hk hwr => ?_
      rw [Nat.zero_add]
      have hne : d ≠ [] := fun e => by subst e; obtain ⟨e, he, _⟩ := hwr; simp at he
      exact ((Zr _ _).2 (Z44 _ _ hs k (hnz k d hk hne))).symm
     rw [Z1i hc hr hov ho]
     simp only
     obtain ⟨v, d⟩ := y
     have hT' : putT T o.dst v = putsT (done ++ [o]) (vs ++ [v]) T0 := by rw [hT, Ye _ _ _ _ _ (by omega)]
     cases d with
     | nil =>
      simp only at h ⊢
      obtain ⟨vs', ds', g1, g2, g3, g4, g5, g6⟩ := Z3d hc hr r (i + 1) _ Hc nz D W x (done ++ [o]) (vs ++ [v]) (ds ++ [[]]) T0 h (by simp [h1]) (by simp [h2]) (by simp [h3]) hT' (by rw [Z0z]; exact hD) (by rw [Z0z]; exact hH)
       (fun k d hk hd => by
        rcases snoc .undef [] k d hk with hk | ⟨_, rfl⟩
        ·exact hnz k d hk hd
        ·exact absurd rfl hd)
       (fun k d hk hd => by
        rcases snoc .undef [] k d hk with hk | ⟨_, rfl⟩
        ·exact hW k d hk hd
        ·exact absurd rfl hd)
      exact ⟨vs', ds', g1, by rw [g2]; simp; omega, by rw [g3]; simp; omega, by rw [g4]; simp, g5, g6⟩
     | cons e d =>
      simp only at h ⊢
      have fin : ∀ W', drawFP C call rnd ops s B (i + 1) r (putT T o.dst v) (redoH Hc (e :: d)) (i :: nz) ((e :: d) ++ D) W' = some x -> (∀ k ∈ W, k ∈ W') -> (oldIds (s.pre ++ [s.n, i]) (e :: d) ≠ [] -> i ∈ W') ->
        ∃ vs' ds', drawPass C call rnd ops s B (i + 1) r (putT T o.dst v) (vs ++ [v]) (ds ++ [e :: d]) = some (vs', ds') /\ vs'.length = i + (o :: r).length /\ ds'.length = i + (o :: r).length /\ x.1 = putsT (done ++ o :: r) vs' T0 /\ x.2.1 = allD ds' /\ (∀ k d, nth ds' k = some d -> oldIds (s.pre ++ [s.n, k]) d ≠ [] -> k ∈ x.2.2) := by
       intro W' h' hW1 hW2
       obtain ⟨vs', ds', g1, g2, g3, g4, g5, g6⟩ := Z3d hc hr r (i + 1) _ _ _ _ W' x (done ++ [o]) (vs ++ [v]) (ds ++ [e :: d]) T0 h' (by simp [h1]) (by simp [h2]) (by simp [h3]) hT' (by rw [Z03, hD]) (fun b => by rw [Z03, Z8, hH b, Z8, Z8, J2]; cases lkD (e :: d) b <;> rfl)
        (fun k d' hk hd => by
         rcases snoc v (e :: d) k d' hk with hk | ⟨rfl, _⟩
         ·exact List.mem_cons_of_mem _ (hnz k d' hk hd)
         ·exact List.mem_cons_self)
        (fun k d' hk hd => by
         rcases snoc v (e :: d) k d' hk with hk | ⟨rfl, rfl⟩
         ·exact hW1 k (hW k d' hk hd)
         ·exact hW2 hd)
       exact ⟨vs', ds', g1, by rw [g2]; simp; omega, by rw [g3]; simp; omega, by rw [g4]; simp, g5, g6⟩
      cases hol : oldIds (s.pre ++ [s.n, i]) (e :: d) with
      | nil => rw [hol] at h; exact fin W h (fun k hk => hk) (fun hne => absurd hol hne)
      | cons a b => rw [hol] at h; exact fin (i :: W) h (fun k hk => List.mem_cons_of_mem _ hk) (fun _ => List.mem_cons_self)
theorem Z1j {ops : List Oper} {s : St} {B : List (List Nat)} {ds : List Delta} {ws : List (List Nm)} : ∀ (l : List Oper) (vs : List AV) (T : List AV) (i : Nat), vs.length = l.length -> (∀ k, k < i + l.length -> rivals B k 0 ws = []) -> drawCheck C call rnd ops s B ds ws T i l vs = true
 | [], [], T, i, _, _ => rfl
 | [], _ :: _, T, i, h, _ => by simp at h
 | _ :: _, [], T, i, h, _ => by simp at h
 | o :: r, v :: vs, T, i, h, hq => by
  unfold drawCheck
  rw [hq i (by simp)]
  exact Z1j r vs _ (i + 1) (by simpa using h) fun k hk => hq k (by simp at hk ⊢; omega)
theorem Z3e (hc : ∀ f args, Nice (call f args)) (hr : ∀ l args, Nice (rnd l args)) (ops : List Oper) (T : List AV) : drawF C call rnd ops T = drawA C call rnd ops T := by
 funext s
 unfold drawF
 cases hp : drawFP C call rnd ops s (predsAll [] ops) 0 ops T s.H [] [] [] with
 | none => rfl
 | some x =>
  simp only
  cases he : ordEach (predsAll [] ops) ops.length x.2.2 with
  | false => rfl
  | true =>
   simp only
   obtain ⟨vs', ds', g1, g2, g3, g4, g5, g6⟩ := Z3d hc hr ops 0 T s.H [] [] [] x [] [] [] T hp rfl rfl rfl rfl rfl (fun _ => rfl) (fun k d h => by simp at h) (fun k d h => by simp at h)
   unfold drawA
   rw [g1]
   simp only
   simp only [List.nil_append] at g4
   rw [<- g4, <- g5]
   cases hn : allNil (olds s 0 ds') with
   | true => rfl
   | false =>
    simp only
    rw [Z1j ops vs' T 0 (by simpa using g2) fun k hk => ?_]
    rw [List.eq_nil_iff_forall_not_mem]
    intro b hb
    obtain ⟨j, w, h1, h2, h3, h4, h5⟩ := (J8 _ _ _ _ _).1 hb
    rw [Nat.zero_add] at h3 h4 h5
    rw [Z0y, Nat.zero_add] at h1
    cases hd : nth ds' j with
    | none => rw [hd] at h1; cases h1
    | some d =>
     rw [hd] at h1; simp only [Option.map_some, Option.some.injEq] at h1
     have hj := g6 j d hd (fun e => by rw [h1] at e; rw [e] at h2; simp at h2)
     rcases Z0q _ he j hj k (by simpa using hk) with e | e | e
     ·exact h3 e
     ·exact h5 e
     ·exact h4 e
end
end
end Go.Am
namespace Go.Am
open Go
noncomputable section
def toExit : AExit -> Exit
 | .normal => .normal
 | .exit i => .exit i
 | .ret => .ret
structure DefOk (B : Nat) (ρ : Rho) (H : Heap) (w : World) (ds : List Deferred) : Prop where
 le : B <= w.heap.size
 each : ∀ d ∈ ds, ∃ r, B <= r /\ d.target = .collected r /\ w.heap[r]? = some (.deferred (some [])) /\ ¬ Img ρ H r
 nd : ds.Pairwise fun d d' => d.target ≠ d'.target
theorem DefOk.nil {B : Nat} (ρ : Rho) (H : Heap) {w : World} (h : B <= w.heap.size) : DefOk B ρ H w [] := ⟨h, fun d h => by simp at h, List.Pairwise.nil⟩
theorem DefOk.step {ρ ρ' : Rho} {s s' : St} {w w' : World} {B : Nat} {ds : List Deferred} (h : DefOk B ρ s.H w ds) (k : Stp ρ s w ρ' s' w') : DefOk B ρ' s'.H w' ds := by
 refine ⟨Nat.le_trans h.le k.size, fun d hd => ?_, h.nd⟩
 obtain ⟨r, h0, h1, h2, h3⟩ := h.each d hd
 have hlt : r < w.heap.size := (Array.getElem?_eq_some_iff.1 h2).1
 exact ⟨r, h0, h1, by rw [k.unch r hlt h3]; exact h2, fun hi => h3 (k.img r hlt hi)⟩
theorem HR.more {ρ : Rho} {H : Heap} {w w' : World} (h : HR ρ H w) (hs : ∀ b x p, hget H b = some x -> ρ b = some p -> w'.heap[p.blk]? = w.heap[p.blk]?) (hz : ∀ c k v, ρ.fz c k = some v -> w'.heap[c]? = w.heap[c]?) : HR ρ H w' := by
 refine ⟨fun b x hb => ?_, h.sep, fun b m l e hb => ?_, fun c k v hv => by rw [hz c k v hv]; exact h.frz c k v hv, h.fsep⟩
 ·obtain ⟨p, hp, hbo⟩ := h.blocks b x hb
  exact ⟨p, hp, by rw [hs b x p hb hp]; exact hbo⟩
 ·obtain ⟨⟨es, he⟩, hm⟩ := h.iter b m l e hb
  exact ⟨⟨es, he⟩, fun p pm hp hpm => by rw [hs b _ p hb hp, hs m _ pm he hpm]; exact hm p pm hp hpm⟩
theorem Z04 {w : World} {o : Obj} {c : Nat} (hc : c < w.heap.size) : (w.alloc o).heap[c]? = w.heap[c]? := by
 show (w.heap.push o)[c]? = w.heap[c]?
 rw [Array.getElem?_push_lt hc, Array.getElem?_eq_getElem hc]
theorem Z88 {w : World} {o : Obj} : (w.alloc o).heap[w.heap.size]? = some o := by show (w.heap.push o)[w.heap.size]? = some o; simp
theorem Z6u {w : World} {o : Obj} : (w.alloc o).heap.size = w.heap.size + 1 := by show (w.heap.push o).size = _; simp
theorem Z55 {w : World} {c : Nat} {o : Obj} (h : c < w.heap.size) : (w.putObj c o).heap[c]? = some o := by
 show (w.heap.setIfInBounds c o)[c]? = some o; simp [h]
theorem Xx {w : World} {c k : Nat} {o : Obj} (h : k ≠ c) : (w.putObj c o).heap[k]? = w.heap[k]? := by
 show (w.heap.setIfInBounds c o)[k]? = w.heap[k]?; rw [Array.getElem?_setIfInBounds_ne (Ne.symm h)]
theorem Jq {w : World} {c : Nat} {o : Obj} : (w.putObj c o).heap.size = w.heap.size := by show (w.heap.setIfInBounds c o).size = _; simp
theorem Z6v {ρ : Rho} {s : St} {w w' : World} (hs : Same w w') (hle : w.heap.size <= w'.heap.size) (ho : ∀ c, c < w.heap.size -> w'.heap[c]? = w.heap[c]?) : Stp ρ s w ρ s w' :=
 ⟨Ext.refl _, fun b p h h' => (by rw [h] at h'; cases h'), rfl, Nat.le_refl _, hs, hle, fun c hc _ => ho c hc, fun _ _ h => h, fun _ _ _ h h' => (by rw [h] at h'; cases h')⟩
section
variable {P : Program} {C : Cfg} {call : FuncId -> List AV -> M AV} {rnd : Nm -> List AV -> M AV} {n B : Nat} {F : Fence}
abbrev CodeNext (B : Nat) (R : X × St -> Prop) (Q : Exit -> Act -> World -> Prop) (ρ : Rho) (s : St) (w : World) : Prop :=
 ∀ x s' ρ' w' a', R (x, s') -> Stp ρ s w ρ' s' w' -> HR ρ' s'.H w' -> VRs ρ' x.2 a'.tmps.toList -> DefOk B ρ' s'.H w' a'.defers -> Q (toExit x.1) a' w'
theorem Z2n (a : Act) (d : Option Tmp) (v : Value) : (a.put d v).defers = a.defers := by cases d <;> rfl
theorem Z0f (hC : CfgOk P C) (hF : Fw F) (hcall : CallOk P call) (hrnd : RndOk P rnd) {arr : Array Oper} {Q : Exit -> Act -> World -> Prop} {R : List AV × St -> Prop} :
  ∀ (l : List Oper) (k : Nat) (T : List AV) (a : Act) (s : St) (w : World) (ρ : Rho), (∀ j, arr[k + j]? = nth l j) -> HR ρ s.H w -> Fr ρ s -> VRs ρ T a.tmps.toList -> DefOk B ρ s.H w a.defers ->
   (runOps C call rnd arr.toList l T s).All R ->
   (∀ T' s' ρ' w' a', R (T', s') -> Stp ρ s w ρ' s' w' -> HR ρ' s'.H w' -> VRs ρ' T' a'.tmps.toList -> DefOk B ρ' s'.H w' a'.defers -> Q .normal a' w') ->
   wpOpsIn F n P arr Q (List.range' k l.length) a w
 | [], k, T, a, s, w, ρ, hj, hr, hf, hT, hd, hm, hN => by
  show Q .normal a w
  exact hN T s ρ w a hm (Stp.refl ..) hr hT hd
 | o :: l, k, T, a, s, w, ρ, hj, hr, hf, hT, hd, hm, hN => by
  rw [List.length_cons, List.range'_succ, wpOpsIn_cons]
  have h0 := hj 0
  rw [Nat.add_zero, Yg] at h0
  have hj' : ∀ j, arr[k + 1 + j]? = nth l j := fun j => by rw [show k + 1 + j = k + (j + 1) by omega, hj, Zv]
  unfold wpOpIn
  rw [h0]; simp only
  rw [Z3y rfl hT o]
  have hm' : ((match wantedA arr.toList T o with
   | true => (opA C call rnd T o).bind fun v => runOps C call rnd arr.toList l (putT T o.dst v)
   | false => runOps C call rnd arr.toList l (putT T o.dst .undef)) s).All R := hm
  cases hw : wantedA arr.toList T o with
  | false =>
   rw [hw] at hm'
   simp only [Bool.false_eq_true, if_false]
   refine ⟨fun f _ => hF.fn f, ?_⟩
   exact Z0f hC hF hcall hrnd l (k + 1) _ _ s w ρ hj' hr hf (Z0w hT _ (by simp [VR])) (by rw [Z2n]; exact hd) hm' hN
  | true =>
   rw [hw] at hm'
   simp only [if_true]
   have hm2 := (M.all_bind _ _ _ _).1 hm'
   refine Zak hC hF hcall hrnd hr hf hT hm2 ?_
   intro v s' ρ' w' cv hR hst hhr hvr
   refine Z0f hC hF hcall hrnd l (k + 1) _ _ s' w' ρ' hj' hhr (hst.fr hf) (Z0w (VRs.mono hst.ext _ _ hT) _ hvr) (by rw [Z2n]; exact hd.step hst) hR ?_
   intro T' s'' ρ'' w'' a'' g1 g2 g3 g4 g5
   exact hN T' s'' ρ'' w'' a'' g1 (hst.trans g2) g3 g4 g5
theorem BO.loop_inv {ρ : Rho} {p : Place} {o : Option Obj} {T : List AV} {ps : List Nat} {a b : Code} {st : LoopState} {pend : Option Code} (h : BO ρ p o (.loop T ps a b st pend)) :
  ∃ l : Loop, o = some (.loop l) /\ l.state = st /\ l.pending = pend /\ l.params.toList = ps /\ l.assign = a /\ l.body = b /\ VRs ρ T l.tmps.toList /\ codeOk a true = true /\ codeOk b true = true := h
theorem Z1k {ρ : Rho} {s : St} {w w' : World} (hr : HR ρ s.H w) {b : Nm} {T : List AV} {ps : List Nat} {as bd : Code} {st st' : LoopState} {pe pe' : Option Code} {p : Place} {l l' : Loop} (hx : hget s.H b = some (.loop T ps as bd st pe)) (hp : ρ b = some p)
  (hl : w.heap[p.blk]? = some (.loop l)) (hl' : l' = { l with state := st', pending := pe' }) (hw' : w' = w.putObj p.blk (.loop l')) :
  Stp ρ s w ρ (s.put b (.loop T ps as bd st' pe')) w' /\ HR ρ (s.put b (.loop T ps as bd st' pe')).H w' := by
 obtain ⟨q, hq, hbo⟩ := hr.blocks _ _ hx
 rw [hp] at hq; obtain rfl := Option.some.inj hq
 obtain ⟨l0, ho, h1, h2, h3, h4, h5, h6, h7, h8⟩ := hbo.loop_inv
 rw [hl] at ho; obtain rfl : l = l0 := by injection ho with ho; injection ho
 have hlt : p.blk < w.heap.size := (Array.getElem?_eq_some_iff.1 hl).1
 subst hw'
 refine J4 hr hx rfl rfl hp (Z55 hlt) (fun c hc => Xx hc) Jq ⟨rfl, rfl, rfl⟩ ?_ (fun _ _ _ h => by cases h) (fun _ h => by cases h)
 subst hl'
 exact ⟨_, rfl, rfl, rfl, h3, h4, h5, h6, h7, h8⟩
theorem Z3f (hcall : CallOk P call) {g : Operand} {ps : Array Tmp} {as bd : Code} {T : List AV} {a : Act} {s : St} {w : World} {ρ : Rho} {fv : AV} {R : X × St -> Prop} {Q : Exit -> Act -> World -> Prop}
  (hoa : codeOk as true = true) (hob : codeOk bd true = true) (hr : HR ρ s.H w) (hf : Fr ρ s) (hT : VRs ρ T a.tmps.toList) (hd : DefOk B ρ s.H w a.defers) (hfv : VR ρ fv (a.eval g))
  (hm : (rangeFuncA call fv ps.toList as bd T s).All R) (hN : CodeNext B R Q ρ s w) : (Code.rangeFunc g ps as bd).wpIn Fence.wide n P Q a w := by
 unfold rangeFuncA at hm
 rw [M.all_bind] at hm
 have hm := (Z5r _ _ _).1 hm
 cases fv with
 | func f caps =>
  rw [M.all_bind] at hm
  simp only at hm
  simp only [VR] at hfv
  obtain ⟨cs, hfe, hcs⟩ := hfv
  refine wpIn_rangeFunc ?_
  intro fn _
  obtain ⟨w1, hw1⟩ : ∃ w1, w1 = w.alloc (.deferred (some [])) := ⟨_, rfl⟩
  obtain ⟨rec, hrec⟩ : ∃ rec : Loop, rec = { state := .ready, pending := none, fn, tmps := a.tmps, params := ps, assign := as, body := bd, defers := w.heap.size } := ⟨_, rfl⟩
  obtain ⟨W, hW⟩ : ∃ W, W = w1.alloc (.loop rec) := ⟨_, rfl⟩
  have hs1 : w1.heap.size = w.heap.size + 1 := by rw [hw1]; exact Z6u
  have hst1 : Stp ρ s w ρ s w1 := Z6v (by rw [hw1]; exact ⟨rfl, rfl, rfl⟩) (by omega) (fun c hc => by rw [hw1]; exact Z04 hc)
  have hr1 : HR ρ s.H w1 := hr.more (fun b x p hb hp => by rw [hw1]; exact Z04 (Y8 hr hb hp)) fun c k v hv => by rw [hw1]; exact Z04 (hr.fz_lt hv)
  obtain ⟨p, hp⟩ : ∃ p : Place, p = ⟨w.heap.size + 1, 0, 0, 0⟩ := ⟨_, rfl⟩
  have hpb : p.blk = w1.heap.size := by rw [hp, hs1]
  obtain ⟨hst2, hr2⟩ := Jw hr1 hf (.loop T ps.toList as bd .ready none) (.loop rec) p hpb
   (by rw [hrec]; exact ⟨_, rfl, rfl, rfl, rfl, rfl, rfl, VRs.mono (Rho.upd_ext p (Yt hf)) _ _ hT, hoa, hob⟩) (fun _ _ _ h => by cases h)
  rw [<- hW] at hst2 hr2
  have hst := hst1.trans hst2
  obtain ⟨ρ1, hρ1⟩ : ∃ ρ1, ρ1 = ρ.upd s.name p := ⟨_, rfl⟩
  rw [<- hρ1] at hst2 hr2 hst
  have hnm : ρ1 s.name = some p := by rw [hρ1]; exact Rho.upd_same ..
  have hargs : VRs ρ1 (.yield s.name :: caps) (.func (.yield p.blk) #[] #[] :: cs) := by
   simp only [VRs]; exact ⟨_, _, rfl, ⟨p, hnm, rfl⟩, VRs.mono hst.ext _ _ hcs⟩
  have hd0 : DefOk B ρ1 (s.new (.loop T ps.toList as bd .ready none)).H W ({ target := .collected w.heap.size, args := #[] } :: a.defers) := by
   have hd' := hd.step hst
   refine ⟨hd'.le, fun d hd1 => ?_, ?_⟩
   ·rcases List.mem_cons.1 hd1 with rfl | hd1
    ·refine ⟨w.heap.size, hd.le, rfl, ?_, ?_⟩
     ·rw [hW, Z04 (by omega), hw1, Z88]
     ·rintro ⟨b, x, q, hb, hx, hq, he⟩
      by_cases e : s.name = b
      ·subst e; rw [hnm] at hq; obtain rfl := Option.some.inj hq; rw [hp] at he; simp at he
      ·have hb' : hget s.H b = some x := by rw [<- Z1 (i := s.name) (.loop T ps.toList as bd .ready none) s.H e]; exact hb
       rw [hρ1, Rho.upd_ne _ _ (Ne.symm e)] at hq
       have := Y8 hr hb' hq
       omega
    ·exact hd'.each d hd1
   ·refine List.Pairwise.cons (fun d hd1 he => ?_) hd.nd
    obtain ⟨r, _, h1, h2, _⟩ := hd.each d hd1
    rw [h1] at he
    injection he with he
    have := (Array.getElem?_eq_some_iff.1 h2).1
    omega
  obtain ⟨⟨fn', g1, g2, g3⟩, hc⟩ := hcall f (.yield s.name :: caps) _ W ρ1 _ _ hr2 (hst.fr hf) hargs hm
  have g3' : fn'.body.isNone = false := by cases hb : fn'.body <;> simp_all
  refine ⟨w.heap.size + 1, [{ target := .collected w.heap.size, args := #[] }], W, { target := .fn (.func f) ⟨cs⟩, args := #[.func (.yield (w.heap.size + 1)) #[] #[]] }, W, f, ⟨.func (.yield p.blk) #[] #[] :: cs⟩, W, ?_, ?_, ?_, ?_, ?_, ?_⟩
  ·show (Instr.enterLoop fn a.tmps ps as bd none).run P w = _
   rw [run_enterLoop_outer, hW, hrec, hw1]
  ·simp only [resolve, hfe]; simp [go_sem]
  ·intro f' hf'; trivial
  ·have : (#[Value.func (.yield (w.heap.size + 1)) #[] #[]] ++ (⟨cs⟩ : Array Value)) = ⟨.func (.yield p.blk) #[] #[] :: cs⟩ := by rw [hp]; simp
   simp only [invoke, callFunc, Sem.run_bind, run_program, Result.andThen_ok, g1, g2, g3']
   simp [this]
  ·intro h; cases h
  ·refine CallsIn.mono (hc (n - 1)) ?_
   intro e w3 he
   obtain ⟨v, s3, ρ3, cv, rfl, hR, hst3, hr3, hv3⟩ := he
   rw [M.all_bind] at hR
   obtain ⟨y, hy, hR⟩ := (Zo _ _ _).1 hR
   cases y with
   | loop T' ps' a' b' st pend =>
    have hp3 : ρ3 s.name = some p := hst3.ext.pl _ _ hnm
    obtain ⟨q, hq, hbo⟩ := hr3.blocks _ _ hy
    rw [hp3] at hq; obtain rfl := Option.some.inj hq
    obtain ⟨l0, ho, h1, h2, _⟩ := hbo.loop_inv
    have hdd := hd0.step hst3
    have key : ∀ e, exitOf pend = some e -> st ≠ .busy -> ((putM s.name (.loop T' ps' a' b' .exhausted pend)).bind (fun _ => M.ret (e, T)) s3).All R ->
      rangePost Fence.wide n P (w.heap.size + 1) Q { a with defers := [{ target := .collected w.heap.size, args := #[] }] ++ a.defers } (.returned cv) w3 := by
     intro e he hnb hq
     rw [M.all_bind] at hq
     obtain ⟨_, hq⟩ := (Y1 _ _ _ _).1 hq
     have hpe : p.blk = w.heap.size + 1 := by rw [hp]
     rw [hpe] at ho
     refine ⟨pend, _, by rw [<- h2]; exact run_endLoop ho (by rw [h1]; exact hnb), ?_⟩
     obtain ⟨hst4, hr4⟩ := Z1k (st' := .exhausted) (pe' := pend) hr3 hy hp3 (by rw [hpe]; exact ho) rfl rfl
     have hst5 := (hst.trans hst3).trans hst4
     have hl' : ({ l0 with state := .exhausted } : Loop) = { l0 with state := .exhausted, pending := pend } := by rw [<- h2]
     rw [hl']
     have hnx : Q (toExit e) { a with defers := [{ target := .collected w.heap.size, args := #[] }] ++ a.defers } (w3.putObj (w.heap.size + 1) (.loop { l0 with state := .exhausted, pending := pend })) := by
      rw [<- hpe]
      exact hN (e, T) _ ρ3 _ _ hq hst5 hr4 (VRs.mono hst5.ext _ _ hT) (hdd.step hst4)
     cases pend with
     | none => simp only [exitOf, Option.some.injEq] at he; subst he; exact hnx
     | some c =>
      cases c <;> simp only [exitOf, Option.some.injEq] at he <;> (try cases he) <;> try subst he
      ·exact wpIn_exit hnx
      ·exact wpIn_ret hnx
    simp only at hR
    cases heq : exitOf pend with
    | none => rw [heq] at hR; cases st <;> exact hR.elim
    | some e =>
     rw [heq] at hR
     cases st with
     | busy => exact hR.elim
     | _ => exact key e heq (by simp) hR
   | _ => exact hR.elim
 | _ => rw [M.all_bind] at hm; exact hm.elim
theorem Z65 (hbody : ∀ (K' : Nat), True) {body : Code} {bm : List AV -> M X}
  (hb : ∀ (T : List AV) (a : Act) (s : St) (w : World) (ρ : Rho) (R : X × St -> Prop) (Q : Exit -> Act -> World -> Prop), HR ρ s.H w -> Fr ρ s -> VRs ρ T a.tmps.toList -> DefOk B ρ s.H w a.defers -> (bm T s).All R -> CodeNext B R Q ρ s w -> body.wpIn F n P Q a w) :
  ∀ (K : Nat) (T : List AV) (a : Act) (s : St) (w : World) (ρ : Rho) (R : X × St -> Prop) (Q : Exit -> Act -> World -> Prop), HR ρ s.H w -> Fr ρ s -> VRs ρ T a.tmps.toList -> DefOk B ρ s.H w a.defers -> (iter K bm T s).All R -> CodeNext B R Q ρ s w ->
   Code.roundsIn F n P body Q K a w
 | 0, T, a, s, w, ρ, R, Q, hr, hf, hT, hd, hm, hN => hm.elim
 | K + 1, T, a, s, w, ρ, R, Q, hr, hf, hT, hd, hm, hN => by
  rw [roundsIn_succ]
  have hm' : ((bm T).bind (fun x => match x.1 with
   | .normal => iter K bm x.2
   | e => M.ret (e, x.2)) s).All R := hm
  rw [M.all_bind] at hm'
  refine hb T a s w ρ _ _ hr hf hT hd hm' ?_
  intro x s' ρ' w' a' hR hst hhr hvr hdd
  obtain ⟨e, T'⟩ := x
  cases e with
  | normal =>
   exact Z65 hbody hb K T' a' s' w' ρ' R Q hhr (hst.fr hf) hvr hdd hR fun x s'' ρ'' w'' a'' g1 g2 g3 g4 g5 => hN x s'' ρ'' w'' a'' g1 (hst.trans g2) g3 g4 g5
  | exit i => exact hN _ s' ρ' w' a' hR hst hhr hvr hdd
  | ret => exact hN _ s' ρ' w' a' hR hst hhr hvr hdd
theorem Xy {a b : Bool} (h : andB a b = true) : a = true /\ b = true := by cases a <;> simp_all [andB]
theorem Z3g (hC : CfgOk P C) (hcall : CallOk P call) (hrnd : RndOk P rnd) (hc : ∀ f args, Nice (call f args)) (hrn : ∀ l args, Nice (rnd l args)) (K : Nat) (rd : Bool) (hF : Fw F) (hF0 : rd = false -> F = Fence.wide) (c : Code) :
  codeOk c rd = true -> ∀ (T : List AV) (a : Act) (s : St) (w : World) (ρ : Rho) (R : X × St -> Prop) (Q : Exit -> Act -> World -> Prop), HR ρ s.H w -> Fr ρ s -> VRs ρ T a.tmps.toList -> DefOk B ρ s.H w a.defers -> (exec C call rnd K c T s).All R -> CodeNext B R Q ρ s w -> c.wpIn F n P Q a w := by
 induction c with
 | skip => intro _ T a s w ρ R Q hr hf hT hd hm hN; exact wpIn_skip (hN (.normal, T) s ρ w a hm (Stp.refl ..) hr hT hd)
 | exit i => intro _ T a s w ρ R Q hr hf hT hd hm hN; exact wpIn_exit (hN (.exit i, T) s ρ w a hm (Stp.refl ..) hr hT hd)
 | ret => intro _ T a s w ρ R Q hr hf hT hd hm hN; exact wpIn_ret (hN (.ret, T) s ρ w a hm (Stp.refl ..) hr hT hd)
 | scope c _ => intro _ T a s w ρ R Q hr hf hT hd hm hN; exact hm.elim
 | label l => intro _ T a s w ρ R Q hr hf hT hd hm hN; exact hm.elim
 | goto l => intro _ T a s w ρ R Q hr hf hT hd hm hN; exact hm.elim
 | refuse r => intro _ T a s w ρ R Q hr hf hT hd hm hN; exact hm.elim
 | region id ops draw =>
  intro hok T a s w ρ R Q hr hf hT hd hm hN
  have hm' : ((match draw with | true => drawF C call rnd ops.toList T | false => runOps C call rnd ops.toList ops.toList T).bind (fun T' => M.ret (AExit.normal, T')) s).All R := hm
  rw [M.all_bind] at hm'
  cases draw with
  | true =>
   simp only at hm'
   rw [Z3e hc hrn] at hm'
   refine Zb2 hC hF hcall hrnd hc hrn hok hr hf hT hm' ?_
   intro T' s' ρ' w' a' g1 g2 g3 g4 g5
   exact hN (.normal, T') s' ρ' w' a' g1 g2 g3 g4 (by rw [g5]; exact hd.step g2)
  | false =>
   refine wpIn_region ?_
   rw [List.range_eq_range']
   have := Z0f (n := n) (Q := Q) (arr := ops) hC hF hcall hrnd ops.toList 0 T a s w ρ (fun j => by rw [Nat.zero_add, Zm]; simp) hr hf hT hd hm' (fun T' s' ρ' w' a' g1 g2 g3 g4 g5 => hN (.normal, T') s' ρ' w' a' g1 g2 g3 g4 g5)
   simpa using this
 | seq x y ihx ihy =>
  intro hok T a s w ρ R Q hr hf hT hd hm hN
  obtain ⟨h1, h2⟩ := Xy (hok : andB (codeOk x rd) (codeOk y rd) = true)
  have hm' : (thenA (exec C call rnd K x T) (exec C call rnd K y) s).All R := hm
  unfold thenA at hm'
  rw [M.all_bind] at hm'
  refine wpIn_seq (ihx h1 T a s w ρ _ _ hr hf hT hd hm' ?_)
  intro x s' ρ' w' a' hR hst hhr hvr hdd
  obtain ⟨e, T'⟩ := x
  cases e with
  | normal => exact ihy h2 T' a' s' w' ρ' R Q hhr (hst.fr hf) hvr hdd hR fun x s'' ρ'' w'' a'' g1 g2 g3 g4 g5 => hN x s'' ρ'' w'' a'' g1 (hst.trans g2) g3 g4 g5
  | exit i => exact hN _ s' ρ' w' a' hR hst hhr hvr hdd
  | ret => exact hN _ s' ρ' w' a' hR hst hhr hvr hdd
 | cond c x y ihx ihy =>
  intro hok T a s w ρ R Q hr hf hT hd hm hN
  obtain ⟨h1, h2⟩ := Xy (hok : andB (codeOk x rd) (codeOk y rd) = true)
  have hm' : ((match evA T c with
   | some (.bool b) => (match b with | true => exec C call rnd K x T | false => exec C call rnd K y T)
   | _ => M.fail) s).All R := hm
  cases he : evA T c with
  | none => rw [he] at hm'; exact hm'.elim
  | some v =>
   rw [he] at hm'
   cases v with
   | bool b =>
    have hv := Zh hT he
    simp only [VR] at hv
    cases b with
    | true => exact wpIn_cond_true hv (ihx h1 T a s w ρ R Q hr hf hT hd hm' hN)
    | false => exact wpIn_cond_false hv (ihy h2 T a s w ρ R Q hr hf hT hd hm' hN)
   | _ => exact hm'.elim
 | block id c ih =>
  intro hok T a s w ρ R Q hr hf hT hd hm hN
  have hm' : (blockA id (exec C call rnd K c T) s).All R := hm
  unfold blockA at hm'
  rw [M.all_bind] at hm'
  refine wpIn_block (ih hok T a s w ρ _ _ hr hf hT hd hm' ?_)
  intro x s' ρ' w' a' hR hst hhr hvr hdd
  obtain ⟨e, T'⟩ := x
  cases e with
  | normal => exact hN _ s' ρ' w' a' hR hst hhr hvr hdd
  | exit i =>
   show (if i = id then Q .normal a' w' else Q (.exit i) a' w')
   simp only at hR
   cases hb : Nat.beq i id with
   | true =>
    rw [hb] at hR
    have := Nat.eq_of_beq_eq_true hb
    rw [if_pos this]; exact hN (.normal, T') s' ρ' w' a' hR hst hhr hvr hdd
   | false =>
    rw [hb] at hR
    have : i ≠ id := fun e => by subst e; rw [Nat.beq_refl] at hb; cases hb
    rw [if_neg this]; exact hN (.exit i, T') s' ρ' w' a' hR hst hhr hvr hdd
  | ret => exact hN _ s' ρ' w' a' hR hst hhr hvr hdd
 | loop c ih =>
  intro hok T a s w ρ R Q hr hf hT hd hm hN
  exact wpIn_loop_rounds K (Z65 (fun _ => trivial) (ih hok) K T a s w ρ R Q hr hf hT hd hm hN)
 | rangeFunc g ps as bd _ _ =>
  intro hok T a s w ρ R Q hr hf hT hd hm hN
  cases rd with
  | true => cases hok
  | false =>
   obtain ⟨h1, h2⟩ := Xy (hok : andB (codeOk as true) (codeOk bd true) = true)
   have hm' : ((match evA T g with | some fv => rangeFuncA call fv ps.toList as bd T | none => M.fail) s).All R := hm
   cases he : evA T g with
   | none => rw [he] at hm'; exact hm'.elim
   | some fv =>
    rw [he] at hm'
    rw [hF0 rfl]
    exact Z3f hcall h1 h2 hr hf hT hd (Zh hT he) hm' hN
end
end
end Go.Am
namespace Go.Am
open Go
section
variable {C : Cfg} {call : FuncId -> List AV -> M AV} {rnd : Nm -> List AV -> M AV}
theorem Nice.iter (body : List AV -> M X) (hb : ∀ T, Nice (body T)) : ∀ (K : Nat) (T : List AV), Nice (Am.iter K body T)
 | 0, T => Nice.fail
 | K + 1, T => by
  show Nice ((body T).bind fun x => match x.1 with | .normal => Am.iter K body x.2 | e => M.ret (e, x.2))
  refine Nice.bind (hb T) fun x => ?_
  split
  ·exact Nice.iter body hb K _
  ·exact Nice.ret _
theorem Nice.thenA {m : M X} {f : List AV -> M X} (hm : Nice m) (hf : ∀ T, Nice (f T)) : Nice (Am.thenA m f) := by
 refine Nice.bind hm fun x => ?_
 split
 ·exact hf _
 ·exact Nice.ret _
theorem Nice.blockA (id : Nat) {m : M X} (hm : Nice m) : Nice (Am.blockA id m) := by
 refine Nice.bind hm fun x => ?_
 repeat' (first | exact Nice.ret _ | split)
theorem Nice.rangeFuncA (hc : ∀ f args, Nice (call f args)) (hr : ∀ l args, Nice (rnd l args)) (f : AV) (ps : List Nat) (a b : Code) (T : List AV) : Nice (Am.rangeFuncA call f ps a b T) := by
 unfold Am.rangeFuncA
 repeat' (first | exact Nice.fail | exact Nice.ret _ | exact Nice.getM _ | exact Nice.putM _ _ | exact Nice.newM _ | exact hc _ _ | (refine Nice.bind ?_ fun _ => ?_) | split)
theorem Nice.exec (hc : ∀ f args, Nice (call f args)) (hr : ∀ l args, Nice (rnd l args)) (K : Nat) (c : Code) : ∀ T, Nice (Am.exec C call rnd K c T) := by
 induction c with
 | skip => intro T; exact Nice.ret _
 | region id ops draw =>
  intro T
  show Nice ((match draw with | true => Am.drawF C call rnd ops.toList T | false => Am.runOps C call rnd ops.toList ops.toList T).bind fun T' => M.ret (AExit.normal, T'))
  refine Nice.bind ?_ fun _ => Nice.ret _
  split
  ·rw [Z3e hc hr]; exact Nice.drawA hc hr _ _
  ·exact Nice.runOps hc hr _ _ _
 | seq a b iha ihb => intro T; exact Nice.thenA (iha T) ihb
 | cond c a b iha ihb =>
  intro T
  show Nice (match evA T c with | some (.bool b') => (match b' with | true => Am.exec C call rnd K a T | false => Am.exec C call rnd K b T) | _ => M.fail)
  repeat' (first | exact Nice.fail | exact iha _ | exact ihb _ | split)
 | block id c ih => intro T; exact Nice.blockA id (ih T)
 | loop c ih => intro T; exact Nice.iter _ ih K T
 | rangeFunc f ps a b _ _ =>
  intro T
  show Nice (match evA T f with | some fv => Am.rangeFuncA call fv ps.toList a b T | none => M.fail)
  repeat' (first | exact Nice.fail | exact Nice.rangeFuncA hc hr _ _ _ _ _ | split)
 | exit i => intro T; exact Nice.ret _
 | scope c _ => intro T; exact Nice.fail
 | label l => intro T; exact Nice.fail
 | goto l => intro T; exact Nice.fail
 | ret => intro T; exact Nice.ret _
 | refuse r => intro T; exact Nice.fail
theorem Nice.resultsA : ∀ (l : List ResultVar) (T : List AV), Nice (Am.resultsA C T l)
 | [], T => Nice.ret _
 | .tmp t :: r, T => by
  unfold Am.resultsA
  repeat' (first | exact Nice.fail | exact Nice.ret _ | exact Nice.resultsA r T | (refine Nice.bind ?_ fun _ => ?_) | split)
 | .cell a t :: r, T => by
  unfold Am.resultsA
  repeat' (first | exact Nice.fail | exact Nice.ret _ | exact Nice.resultsA r T | exact Nice.loadA _ _ _ | (refine Nice.bind ?_ fun _ => ?_) | split)
theorem Nice.bodyA (hc : ∀ f args, Nice (call f args)) (hr : ∀ l args, Nice (rnd l args)) (K : Nat) (fn : Func) (args : List AV) : Nice (Am.bodyA C call rnd K fn args) := by
 unfold Am.bodyA
 split
 ·exact Nice.fail
 ·refine Nice.bind (Nice.exec hc hr K _ _) fun x => ?_
  split
  ·exact Nice.fail
  ·exact Nice.bind (Nice.resultsA _ _) fun _ => Nice.ret _
theorem Nice.roundA (hc : ∀ f args, Nice (call f args)) (hr : ∀ l args, Nice (rnd l args)) (K : Nat) (l : Nm) (args : List AV) : Nice (Am.roundA C call rnd K l args) := by
 unfold Am.roundA
 repeat' (first | exact Nice.fail | exact Nice.ret _ | exact Nice.getM _ | exact Nice.putM _ _ | exact Nice.exec hc hr K _ _ | (refine Nice.bind ?_ fun _ => ?_) | split)
theorem Nice.lendM : ∀ (k : Nat) (l bs : List Nm) (xs : List Blk), Nice (Am.lendM k l bs xs)
 | 0, l, bs, xs => Nice.fail
 | k + 1, [], bs, xs => Nice.ret _
 | k + 1, b :: r, bs, xs => by
  unfold Am.lendM
  simp only
  split
  ·exact Nice.lendM k r bs xs
  ·exact Nice.bind (Nice.getM _) fun x => Nice.lendM k _ _ _
theorem Nice.nameM : Nice Am.nameM := by
 refine ⟨fun s => trivial, fun s s' h => ?_, fun s => JrR.refl s⟩
 unfold Am.nameM
 rw [h.pre, h.n]
 exact .ret _ _ _ h
theorem Nice.putAll : ∀ (bs : List Nm) (xs : List Blk), Nice (Am.putAll bs xs)
 | [], [] => Nice.ret _
 | [], _ :: _ => Nice.fail
 | _ :: _, [] => Nice.fail
 | b :: r, x :: q => Nice.bind (Nice.putM _ _) fun _ => Nice.putAll r q
theorem Nice.newAll : ∀ (xs : List Blk), Nice (Am.newAll xs)
 | [] => Nice.ret _
 | x :: q => Nice.bind (Nice.newM _) fun _ => Nice.newAll q
theorem Nice.handA (sh : Bool) (body : List AV -> M AV) (args : List AV) : Nice (Am.handA sh body args) := by
 unfold Am.handA
 refine Nice.bind (Nice.lendM _ _ _ _) fun bl => ?_
 repeat' (first | exact Nice.fail | exact Nice.ret _ | exact Nice.nameM | exact Nice.putAll _ _ | exact Nice.newAll _ | (refine Nice.bind ?_ fun _ => ?_) | split)
theorem Nice.iceB (b : Nm) : Nice (Am.iceB b) := by
 unfold Am.iceB
 refine Nice.bind (Nice.getM _) fun x => ?_
 cases x with
 | cells cs rw u => cases rw with
  | true => exact Nice.putM _ _
  | false => exact Nice.ret _
 | _ => exact Nice.fail
theorem Nice.iceAll : ∀ bs : List Nm, Nice (Am.iceAll bs)
 | [] => Nice.ret _
 | b :: r => Nice.bind (Nice.iceB b) fun _ => Nice.iceAll r
theorem Nice.iceA (args : List AV) : Nice (Am.iceA args) := by
 unfold Am.iceA
 refine Nice.bind (Nice.lendM _ _ _ _) fun bl => Nice.bind (Nice.iceAll _) fun _ => ?_
 split
 ·split
  ·exact Nice.ret _
  ·exact Nice.fail
 ·exact Nice.fail
theorem Nice.enterA (hc : ∀ f args, Nice (call f args)) (hr : ∀ l args, Nice (rnd l args)) (K : Nat) (f : FuncId) (args : List AV) : Nice (Am.enterA C call rnd K f args) := by
 unfold Am.enterA
 cases C.fn.get f with
 | none => exact Nice.fail
 | some fn =>
  simp only
  split
  ·split
   ·exact Nice.of _
   ·exact Nice.bind (Nice.iceA _) fun _ => Nice.of _
  ·exact Nice.handA _ _ _
  ·exact Nice.handA _ _ _
  ·exact Nice.bodyA hc hr K fn args
end
theorem Nice.mach (C : Cfg) : ∀ K, (∀ f args, Nice (acall C K f args)) /\ ∀ l args, Nice (around C K l args)
 | 0 => ⟨fun _ _ => Nice.fail, fun _ _ => Nice.fail⟩
 | K + 1 => by
  obtain ⟨h1, h2⟩ := Nice.mach C K
  exact ⟨fun f args => by rw [Zu]; exact Nice.enterA h1 h2 _ f args, fun l args => by rw [Z12]; exact Nice.roundA h1 h2 _ l args⟩
end Go.Am
namespace Go.Am
open Go
section
variable {ρ ρ2 : Rho} {H : Heap} {w : World}
def RowOk (ρ ρ2 : Rho) (row : List AV -> Option (List AV)) : Prop := ∀ l l', row l = some l' -> ∀ vs, VRs ρ l vs -> (∀ c ∈ l, c.sc = true) -> VRs ρ2 l' vs /\ ∀ c ∈ l', c.sc = true
def Iced (ρ ρ2 : Rho) (H : Heap) (w : World) : Prop := ∀ b cs u p ccs e fr, hget H b = some (.cells cs true u) -> ρ b = some p -> w.heap[p.blk]? = some (.cells ccs e fr) -> ∀ k x, ccs[k]? = some x -> ρ2.fz p.blk k = some x
mutual
theorem Z2o (hr : HR ρ H w) (hx : Ext ρ ρ2) (hi : Iced ρ ρ2 H w) {row : List AV -> Option (List AV)} (hrow : RowOk ρ ρ2 row) : ∀ (a a' : AV) (v : Value), freezeG row H a = some a' -> VR ρ a v -> VR ρ2 a' v /\ (a.sc = true -> a'.sc = true)
 | .own b l, a', v, h, hv => by
  simp only [freezeG, Option.some.injEq] at h; subst h
  exact ⟨VR.mono hx _ _ (VR.shut _ _ hv), fun _ => rfl⟩
 | .nils, a', v, h, hv => by
  simp only [freezeG, Option.some.injEq] at h; subst h
  exact ⟨VR.mono hx _ _ (VR.shut _ _ hv), fun _ => rfl⟩
 | .empty, a', v, h, hv => by
  simp only [freezeG, Option.some.injEq] at h; subst h
  exact ⟨VR.mono hx _ _ (VR.shut _ _ hv), fun _ => rfl⟩
 | .agg cs, a', v, h, hv => by
  simp only [freezeG] at h
  cases hc : freezeGs row H cs with
  | none => rw [hc] at h; cases h
  | some l =>
   rw [hc] at h; simp only [Option.some.injEq] at h; subst h
   simp only [VR] at hv; obtain ⟨vs, rfl, h1, h2⟩ := hv
   obtain ⟨g1, g2⟩ := Xk hr hx hi hrow cs l vs hc h1
   exact ⟨by simp only [VR]; exact ⟨vs, rfl, g1, g2 h2⟩, fun h => by cases h⟩
 | .tuple cs, a', v, h, hv => by
  simp only [freezeG] at h
  cases hc : freezeGs row H cs with
  | none => rw [hc] at h; cases h
  | some l =>
   rw [hc] at h; simp only [Option.some.injEq] at h; subst h
   simp only [VR] at hv; obtain ⟨vs, rfl, h1⟩ := hv
   exact ⟨by simp only [VR]; exact ⟨vs, rfl, (Xk hr hx hi hrow cs l vs hc h1).1⟩, fun h => by cases h⟩
 | .slice b o n c ex, a', v, h, hv => by
  simp only [VR] at hv
  obtain ⟨p, o', c', hp, aa, rfl, ha, h1, h2, h3, h4, h5⟩ := hv
  simp only [freezeG] at h
  cases n with
  | zero =>
   simp only [Option.some.injEq] at h; subst h
   exact ⟨by simp only [VR]; exact ⟨_, c', rfl, by simp, fun h => absurd rfl h⟩, fun _ => rfl⟩
  | succ n =>
   simp only at h
   cases hb : hget H b with
   | none => rw [hb] at h; cases h
   | some x =>
    rw [hb] at h
    cases x with
    | cells cs rw_ u =>
     cases rw_ with
     | false => cases h
     | true =>
      simp only at h
      cases hu : Nat.ble 1 u with
      | false => rw [hu] at h; cases h
      | true =>
       cases hn : readN cs o ((n + 1) * u) with
       | none => rw [hu, hn] at h; cases h
       | some l =>
        rw [hu, hn] at h; simp only at h
        cases hl : row l with
        | none => rw [hl] at h; cases h
        | some l' =>
         rw [hl] at h; simp only [Option.some.injEq] at h; subst h
         obtain ⟨q, hq, hbo⟩ := hr.blocks _ _ hb
         rw [hp] at hq; obtain rfl := Option.some.inj hq
         obtain ⟨_, ccs, e, fr, ho, _, _, hcr⟩ := hbo
         obtain ⟨vs, k1, k2, k3, k4⟩ := Yd hcr hn
         obtain ⟨j1, j2⟩ := hrow l l' hl vs k1 k4
         obtain ⟨es, m1, m2, m3, m4, m5⟩ := Jy (n + 1) j1 j2 k2
         obtain rfl := ha (by omega)
         refine ⟨?_, fun _ => rfl⟩
         simp only [VR]
         refine ⟨_, c', by rw [m5], by rw [m5]; omega, fun _ => ⟨p.blk, o', u, rfl, Nat.le_of_ble_eq_true hu, FR.intro m1 m2 m3 fun k x hk => ?_⟩⟩
         rw [m4] at hk
         exact hi b cs u p ccs e fr hb hp ho _ _ (by rw [h1 (by omega)]; exact k3 k x hk)
    | _ => cases h
 | .int k n, a', v, h, hv => by simp only [freezeG, Option.some.injEq] at h; subst h; exact ⟨VR.mono hx _ _ hv, id⟩
 | .bool k, a', v, h, hv => by simp only [freezeG, Option.some.injEq] at h; subst h; exact ⟨VR.mono hx _ _ hv, id⟩
 | .str k, a', v, h, hv => by simp only [freezeG, Option.some.injEq] at h; subst h; exact ⟨VR.mono hx _ _ hv, id⟩
 | .nilp, a', v, h, hv => by simp only [freezeG, Option.some.injEq] at h; subst h; exact ⟨VR.mono hx _ _ hv, id⟩
 | .ptr b o, a', v, h, hv => by simp only [freezeG, Option.some.injEq] at h; subst h; exact ⟨VR.mono hx _ _ hv, id⟩
 | .lst l, a', v, h, hv => by simp only [freezeG, Option.some.injEq] at h; subst h; exact ⟨VR.mono hx _ _ hv, id⟩
 | .fptr l o, a', v, h, hv => by simp only [freezeG, Option.some.injEq] at h; subst h; exact ⟨VR.mono hx _ _ hv, id⟩
 | .nilm, a', v, h, hv => by simp only [freezeG, Option.some.injEq] at h; subst h; exact ⟨VR.mono hx _ _ hv, id⟩
 | .map b, a', v, h, hv => by simp only [freezeG, Option.some.injEq] at h; subst h; exact ⟨VR.mono hx _ _ hv, id⟩
 | .func f l, a', v, h, hv => by simp only [freezeG, Option.some.injEq] at h; subst h; exact ⟨VR.mono hx _ _ hv, id⟩
 | .yield l, a', v, h, hv => by simp only [freezeG, Option.some.injEq] at h; subst h; exact ⟨VR.mono hx _ _ hv, id⟩
 | .nilf, a', v, h, hv => by simp only [freezeG, Option.some.injEq] at h; subst h; exact ⟨VR.mono hx _ _ hv, id⟩
 | .nili, a', v, h, hv => by simp only [freezeG, Option.some.injEq] at h; subst h; exact ⟨VR.mono hx _ _ hv, id⟩
 | .undef, a', v, h, hv => by simp only [freezeG, Option.some.injEq] at h; subst h; exact ⟨VR.mono hx _ _ hv, id⟩
theorem Xk (hr : HR ρ H w) (hx : Ext ρ ρ2) (hi : Iced ρ ρ2 H w) {row : List AV -> Option (List AV)} (hrow : RowOk ρ ρ2 row) : ∀ (l l' : List AV) (vs : List Value), freezeGs row H l = some l' -> VRs ρ l vs -> VRs ρ2 l' vs /\ ((∀ c ∈ l, c.sc = true) -> ∀ c ∈ l', c.sc = true)
 | [], l', vs, h, hv => by simp only [freezeGs, Option.some.injEq] at h; subst h; simp only [VRs] at hv ⊢; exact ⟨hv, fun _ c hc => by simp at hc⟩
 | a :: r, l', vs, h, hv => by
  simp only [freezeGs] at h
  cases ha : freezeG row H a with
  | none => rw [ha] at h; cases h
  | some a' =>
   cases hl : freezeGs row H r with
   | none => rw [ha, hl] at h; cases h
   | some r' =>
    rw [ha, hl] at h; simp only [Option.some.injEq] at h; subst h
    simp only [VRs] at hv
    obtain ⟨v, t, rfl, h1, h2⟩ := hv
    obtain ⟨g1, g2⟩ := Z2o hr hx hi hrow a a' v ha h1
    obtain ⟨k1, k2⟩ := Xk hr hx hi hrow r r' t hl h2
    refine ⟨by simp only [VRs]; exact ⟨v, t, rfl, g1, k1⟩, fun hs c hc => ?_⟩
    rcases List.mem_cons.1 hc with rfl | hc
    ·exact g2 (hs a List.mem_cons_self)
    ·exact k2 (fun c hc => hs c (List.mem_cons_of_mem _ hc)) c hc
end
theorem Z2p (hr : HR ρ H w) (hx : Ext ρ ρ2) (hi : Iced ρ ρ2 H w) : ∀ d, RowOk ρ ρ2 (freezeD H d)
 | 0 => fun l l' h => by cases h
 | d + 1 => fun l l' h vs hv hs => by
  obtain ⟨g1, g2⟩ := Xk hr hx hi (Z2p hr hx hi d) l l' vs h hv
  exact ⟨g1, g2 hs⟩
theorem Z1l (hr : HR ρ H w) (hx : Ext ρ ρ2) (hi : Iced ρ ρ2 H w) {a a' : AV} {v : Value} (h : frozen H a = some a') (hv : VR ρ a v) : VR ρ2 a' v /\ a'.flat = true := by
 unfold frozen at h
 cases hf : freezeG (freezeD H 6) H a with
 | none => rw [hf] at h; cases h
 | some u =>
  rw [hf] at h; simp only at h
  cases hfl : u.flat with
  | false => rw [hfl] at h; cases h
  | true => rw [hfl] at h; simp only [Option.some.injEq] at h; subst h; exact ⟨(Z2o hr hx hi (Z2p hr hx hi 6) _ _ _ hf hv).1, hfl⟩
open Classical in
noncomputable def Rho.still (ρ : Rho) (H : Heap) (w : World) : Rho := ⟨ρ.pl, fun c k => if ∃ b cs u p, hget H b = some (.cells cs true u) /\ ρ b = some p /\ p.blk = c then (match w.heap[c]? with | some (.cells ccs _ _) => ccs[k]? | _ => none) else ρ.fz c k⟩
theorem Z1m {c k : Nat} {v : Value} (h : (ρ.still H w).fz c k = some v) : (∃ b cs u p, hget H b = some (.cells cs true u) /\ ρ b = some p /\ p.blk = c /\ ∃ ccs e fr, w.heap[c]? = some (.cells ccs e fr) /\ ccs[k]? = some v) \/ ρ.fz c k = some v := by
 simp only [Rho.still] at h
 split at h
 ·rename_i hc
  obtain ⟨b, cs, u, p, h1, h2, h3⟩ := hc
  cases ho : w.heap[c]? with
  | none => rw [ho] at h; cases h
  | some o =>
   rw [ho] at h
   cases o with
   | cells ccs e fr => exact .inl ⟨b, cs, u, p, h1, h2, h3, ccs, e, fr, rfl, h⟩
   | _ => cases h
 ·exact .inr h
theorem Z05 (hr : HR ρ H w) : Ext ρ (ρ.still H w) := by
 refine ⟨fun b p h => h, fun c k v hv => ?_⟩
 simp only [Rho.still]
 split
 ·rename_i hc
  obtain ⟨b, cs, u, p, h1, h2, rfl⟩ := hc
  rw [hr.fsep b _ p h1 rfl h2 k (Nat.zero_le _)] at hv; cases hv
 ·exact hv
theorem Z0g : Iced ρ (ρ.still H w) H w := by
 intro b cs u p ccs e fr hb hp ho k x hk
 simp only [Rho.still]
 rw [if_pos ⟨b, cs, u, p, hb, hp, rfl⟩, ho]; exact hk
end
theorem Z0h {ρ ρ' : Rho} {s s0 s' : St} {w w' : World} (hr : HR ρ s.H w) (h0 : s0.H = []) (hst : Stp ⟨fun _ => none, ρ.fz⟩ s0 w ρ' s' w') (hr' : HR ρ' s'.H w') :
  Stp ρ s w ⟨ρ.pl, (ρ'.still s'.H w').fz⟩ s w' /\ HR ⟨ρ.pl, (ρ'.still s'.H w').fz⟩ s.H w' := by
 have hno : ∀ c, ¬ Img ⟨fun _ => none, ρ.fz⟩ s0.H c := by rintro c ⟨b, x, p, hb, _⟩; rw [h0] at hb; simp at hb
 have hold : ∀ c, c < w.heap.size -> w'.heap[c]? = w.heap[c]? := fun c hc => hst.unch c hc (hno c)
 have hnew : ∀ c k v, (ρ'.still s'.H w').fz c k = some v -> ρ.fz c k = none -> ¬ c < w.heap.size := by
  intro c k v hv hn hc
  rcases Z1m hv with ⟨b, cs, u, p, h1, h2, h3, _⟩ | h
  ·exact hno c (hst.img c hc ⟨b, _, p, h1, rfl, h2, h3⟩)
  ·exact hno c (hst.fzl c k v h hn hc)
 have hx : Ext ρ ⟨ρ.pl, (ρ'.still s'.H w').fz⟩ := ⟨fun b p h => h, fun c k v hv => (Z05 hr').fz c k v (hst.ext.fz c k v hv)⟩
 refine ⟨⟨hx, fun b p h h' => (by have h : ρ b = some p := h; rw [h] at h'; cases h'), rfl, Nat.le_refl _, hst.same, hst.size, fun c hc _ => hold c hc, fun c hc hi => hi, fun c k v hv hn hc => (hnew c k v hv hn hc).elim⟩, ?_⟩
 refine ⟨fun b x hb => ?_, hr.sep, fun b m l e hb => ?_, fun c k v hv => ?_, fun b x p hb hw hp k hk => ?_⟩
 ·obtain ⟨p, hp, hbo⟩ := hr.blocks b x hb
  exact ⟨p, hp, by rw [hold _ (Y8 hr hb hp)]; exact hbo.mono hx⟩
 ·obtain ⟨⟨es, he⟩, hm⟩ := hr.iter b m l e hb
  exact ⟨⟨es, he⟩, fun p pm hp hpm => by rw [hold _ (Y8 hr hb hp), hold _ (Y8 hr he hpm)]; exact (hm p pm hp hpm).mono hx⟩
 ·rcases Z1m hv with ⟨b, cs, u, p, h1, h2, h3, ccs, e, fr, ho, hk⟩ | h
  ·exact ⟨ccs, e, fr, ho, hk⟩
  ·exact hr'.frz c k v h
 ·cases hv : (ρ'.still s'.H w').fz p.blk k with
  | none => rfl
  | some v => exact (hnew _ k v hv (hr.fsep b x p hb hw hp k hk) (Y8 hr hb hp)).elim
end Go.Am
namespace Go.Am
open Go
theorem Xz {a c : Nm} : ∀ {l r : List Nm}, lookN a (zipN l r) = some c -> ∃ i : Nat, l[i]? = some a /\ r[i]? = some c
 | [], r, h => by cases r <;> cases h
 | x :: l, [], h => by cases h
 | x :: l, y :: r, h => by
  simp only [zipN, lookN] at h
  cases hb : eqb a x with
  | true =>
   rw [hb] at h; simp only [Option.some.injEq] at h; subst h
   have := (Xd _ _).1 hb; subst this
   exact ⟨0, rfl, rfl⟩
  | false =>
   rw [hb] at h
   obtain ⟨i, h1, h2⟩ := Xz h
   exact ⟨i + 1, by simpa using h1, by simpa using h2⟩
theorem Z3h {a c : Nm} : ∀ {l r : List Nm} (i : Nat), l.Nodup -> l[i]? = some a -> r[i]? = some c -> lookN a (zipN l r) = some c
 | [], r, i, _, h, _ => by simp at h
 | x :: l, [], i, _, _, h => by simp at h
 | x :: l, y :: r, 0, hn, h, h' => by
  simp at h h'; subst h; subst h'
  simp only [zipN, lookN, Ze]
 | x :: l, y :: r, i + 1, hn, h, h' => by
  simp at h h'
  have hn' := List.nodup_cons.1 hn
  have hne : a ≠ x := fun e => by subst e; exact hn'.1 (List.mem_of_getElem? h)
  simp only [zipN, lookN, Yy hne]
  exact Z3h i hn'.2 h h'
theorem Z1n {b : Nm} : ∀ {l : List Nm}, memNm b l = true ↔ b ∈ l
 | [] => by simp [memNm]
 | c :: r => by
  unfold memNm
  cases hb : eqb b c with
  | true => have := (Xd _ _).1 hb; subst this; simp
  | false =>
   have hne : b ≠ c := fun e => by subst e; rw [Ze] at hb; cases hb
   simp only [Z1n (l := r), List.mem_cons, hne, false_or]
theorem Z0i : ∀ {l : List Nm}, nodupN l = true ↔ l.Nodup
 | [] => by simp [nodupN]
 | b :: r => by
  unfold nodupN
  rw [List.nodup_cons]
  cases hb : memNm b r with
  | true => simp [Z1n.1 hb]
  | false =>
   have : b ∉ r := fun h => by rw [Z1n.2 h] at hb; cases hb
   simp [this, Z0i (l := r)]
theorem Yu {H : Heap} : ∀ {l : List Nm} {xs : List Blk}, getAll H l = some xs -> xs.length = l.length /\ ∀ (i : Nat) b, l[i]? = some b -> ∃ x, xs[i]? = some x /\ hget H b = some x
 | [], xs, h => by simp only [getAll, Option.some.injEq] at h; subst h; simp
 | b :: r, xs, h => by
  simp only [getAll] at h
  cases hb : hget H b with
  | none => rw [hb] at h; cases h
  | some x =>
   cases hr : getAll H r with
   | none => rw [hb, hr] at h; cases h
   | some l =>
    rw [hb, hr] at h; simp only [Option.some.injEq] at h; subst h
    obtain ⟨h1, h2⟩ := Yu hr
    refine ⟨by simp [h1], fun i c hc => ?_⟩
    cases i with
    | zero => simp at hc; subst hc; exact ⟨x, rfl, hb⟩
    | succ i => obtain ⟨y, g1, g2⟩ := h2 i c (by simpa using hc); exact ⟨y, by simpa using g1, g2⟩
theorem Z2q {H : Heap} : ∀ {l : List Nm} {xs : List Blk} {b : Nm} {x : Blk}, getAll H l = some xs -> hget H b = some x -> getAll H (l ++ [b]) = some (xs ++ [x])
 | [], xs, b, x, h, hb => by simp only [getAll, Option.some.injEq] at h; subst h; simp [getAll, hb]
 | c :: r, xs, b, x, h, hb => by
  simp only [getAll] at h
  cases hc : hget H c with
  | none => rw [hc] at h; cases h
  | some y =>
   cases hr : getAll H r with
   | none => rw [hc, hr] at h; cases h
   | some l =>
    rw [hc, hr] at h; simp only [Option.some.injEq] at h; subst h
    simp only [List.cons_append, getAll, hc, Z2q hr hb]
theorem Ja {s : St} {Q : (List Nm × List Blk) × St -> Prop} : ∀ (k : Nat) (l bs : List Nm) (xs : List Blk), getAll s.H bs = some xs -> (lendM k l bs xs s).All Q -> ∃ bs' xs', Q ((bs', xs'), s) /\ getAll s.H bs' = some xs'
 | 0, l, bs, xs, _, h => h.elim
 | k + 1, [], bs, xs, hg, h => ⟨bs, xs, h, hg⟩
 | k + 1, b :: r, bs, xs, hg, h => by
  unfold lendM at h
  simp only at h
  cases hm : memNm b bs with
  | true => rw [hm] at h; exact Ja k r bs xs hg h
  | false =>
   rw [hm] at h; simp only at h
   obtain ⟨x, hx, h⟩ := (Zo _ _ _).1 ((M.all_bind _ _ _ _).1 h)
   exact Ja k _ _ _ (Z2q hg hx) h
theorem Yv {H : Heap} : ∀ (k : Nat) (l bs : List Nm) (xs : List Blk) {r : List Nm × List Blk}, reachL H k l bs xs = some r -> ∃ ns zs, r.1 = bs ++ ns /\ r.2 = xs ++ zs /\ getAll H ns = some zs
 | 0, l, bs, xs, r, h => by cases h
 | k + 1, [], bs, xs, r, h => by simp only [reachL, Option.some.injEq] at h; subst h; exact ⟨[], [], by simp, by simp, rfl⟩
 | k + 1, b :: q, bs, xs, r, h => by
  unfold reachL at h
  simp only at h
  cases hm : memNm b bs with
  | true => rw [hm] at h; exact Yv k q bs xs h
  | false =>
   rw [hm] at h; simp only at h
   cases hb : hget H b with
   | none => rw [hb] at h; exact Yv k q bs xs h
   | some x =>
    rw [hb] at h
    obtain ⟨ns, zs, h1, h2, h3⟩ := Yv k _ _ _ h
    exact ⟨b :: ns, x :: zs, by simp [h1], by simp [h2], by simp only [getAll, hb, h3]⟩
section
variable {ρ ρ2 : Rho} {mp : List (Nm × Nm)}
def Ren (ρ ρ2 : Rho) (mp : List (Nm × Nm)) : Prop := (∀ a c, lookN a mp = some c -> ∀ p, ρ a = some p -> ρ2 c = some p) /\ ∀ c k v, ρ.fz c k = some v -> ρ2.fz c k = some v
mutual
theorem Z56 (h : Ren ρ ρ2 mp) : ∀ (a a' : AV) (v : Value), renV mp a = some a' -> VR ρ a v -> VR ρ2 a' v /\ (a.sc = true -> a'.sc = true)
 | .ptr b o, a', v, e, hv => by
  simp only [renV] at e
  cases hl : lookN b mp with
  | none => rw [hl] at e; cases e
  | some c =>
   rw [hl] at e; simp only [Option.some.injEq] at e; subst e
   simp only [VR] at hv ⊢; obtain ⟨p, hp, rfl⟩ := hv; exact ⟨⟨p, h.1 _ _ hl _ hp, rfl⟩, fun _ => rfl⟩
 | .slice b o n c ex, a', v, e, hv => by
  simp only [renV] at e
  cases hl : lookN b mp with
  | none => rw [hl] at e; cases e
  | some d =>
   rw [hl] at e; simp only [Option.some.injEq] at e; subst e
   simp only [VR] at hv ⊢; obtain ⟨p, o', c', hp, hv⟩ := hv; exact ⟨⟨p, o', c', h.1 _ _ hl _ hp, hv⟩, fun _ => rfl⟩
 | .map b, a', v, e, hv => by
  simp only [renV] at e
  cases hl : lookN b mp with
  | none => rw [hl] at e; cases e
  | some c =>
   rw [hl] at e; simp only [Option.some.injEq] at e; subst e
   simp only [VR] at hv ⊢; obtain ⟨p, hp, rfl⟩ := hv; exact ⟨⟨p, h.1 _ _ hl _ hp, rfl⟩, fun _ => rfl⟩
 | .own b l, a', v, e, hv => by
  simp only [renV] at e
  cases hf : flats l with
  | false => rw [hf] at e; cases e
  | true =>
   rw [hf] at e; simp only at e
   cases hl : lookN b mp with
   | none =>
    rw [hl] at e; simp only [Option.some.injEq] at e; subst e
    exact ⟨VR.flat h.2 (.lst l) v (by simpa [AV.flat] using hf) (VR.shut _ _ hv), fun _ => rfl⟩
   | some c =>
    rw [hl] at e; simp only [Option.some.injEq] at e; subst e
    simp only [VR] at hv ⊢; obtain ⟨p, q, hp, h1, h2, h3, h4, h5, h6⟩ := hv
    exact ⟨⟨p, q, h.1 _ _ hl _ hp, h1, h2, h3, h4, h5, FR.flat h.2 _ _ _ _ hf h6⟩, fun _ => rfl⟩
 | .lst l, a', v, e, hv => by
  simp only [renV] at e
  cases hf : flats l with
  | false => rw [hf] at e; cases e
  | true => rw [hf] at e; simp only [Option.some.injEq] at e; subst e; exact ⟨VR.flat h.2 (.lst l) v (by simpa [AV.flat] using hf) hv, id⟩
 | .fptr cs o, a', v, e, hv => by
  simp only [renV] at e
  cases hf : flats cs with
  | false => rw [hf] at e; cases e
  | true => rw [hf] at e; simp only [Option.some.injEq] at e; subst e; exact ⟨VR.flat h.2 (.fptr cs o) v (by simpa [AV.flat] using hf) hv, id⟩
 | .yield _, a', v, e, hv => by cases e
 | .func f caps, a', v, e, hv => by
  simp only [renV] at e
  cases hl : renVs mp caps with
  | none => rw [hl] at e; cases e
  | some l =>
   rw [hl] at e; simp only [Option.some.injEq] at e; subst e
   simp only [VR] at hv ⊢; obtain ⟨cs, hv, hc⟩ := hv; exact ⟨⟨cs, hv, (Jb h caps l cs hl hc).1⟩, fun _ => rfl⟩
 | .agg cs, a', v, e, hv => by
  simp only [renV] at e
  cases hl : renVs mp cs with
  | none => rw [hl] at e; cases e
  | some l =>
   rw [hl] at e; simp only [Option.some.injEq] at e; subst e
   simp only [VR] at hv ⊢; obtain ⟨vs, hv, hc, ho⟩ := hv
   obtain ⟨g1, g2⟩ := Jb h cs l vs hl hc
   exact ⟨⟨vs, hv, g1, g2 ho⟩, fun h => by cases h⟩
 | .tuple cs, a', v, e, hv => by
  simp only [renV] at e
  cases hl : renVs mp cs with
  | none => rw [hl] at e; cases e
  | some l =>
   rw [hl] at e; simp only [Option.some.injEq] at e; subst e
   simp only [VR] at hv ⊢; obtain ⟨vs, hv, hc⟩ := hv; exact ⟨⟨vs, hv, (Jb h cs l vs hl hc).1⟩, fun h => by cases h⟩
 | .int k n, a', v, e, hv => by simp only [renV, Option.some.injEq] at e; subst e; exact ⟨VR.flat h.2 _ v rfl hv, id⟩
 | .bool k, a', v, e, hv => by simp only [renV, Option.some.injEq] at e; subst e; exact ⟨VR.flat h.2 _ v rfl hv, id⟩
 | .str k, a', v, e, hv => by simp only [renV, Option.some.injEq] at e; subst e; exact ⟨VR.flat h.2 _ v rfl hv, id⟩
 | .nilp, a', v, e, hv => by simp only [renV, Option.some.injEq] at e; subst e; exact ⟨VR.flat h.2 _ v rfl hv, id⟩
 | .nils, a', v, e, hv => by simp only [renV, Option.some.injEq] at e; subst e; exact ⟨VR.flat h.2 _ v rfl hv, id⟩
 | .empty, a', v, e, hv => by simp only [renV, Option.some.injEq] at e; subst e; exact ⟨VR.flat h.2 _ v rfl hv, id⟩
 | .nilm, a', v, e, hv => by simp only [renV, Option.some.injEq] at e; subst e; exact ⟨VR.flat h.2 _ v rfl hv, id⟩
 | .nilf, a', v, e, hv => by simp only [renV, Option.some.injEq] at e; subst e; exact ⟨VR.flat h.2 _ v rfl hv, id⟩
 | .nili, a', v, e, hv => by simp only [renV, Option.some.injEq] at e; subst e; exact ⟨VR.flat h.2 _ v rfl hv, id⟩
 | .undef, a', v, e, hv => by simp only [renV, Option.some.injEq] at e; subst e; exact ⟨VR.flat h.2 _ v rfl hv, id⟩
theorem Jb (h : Ren ρ ρ2 mp) : ∀ (l l' : List AV) (vs : List Value), renVs mp l = some l' -> VRs ρ l vs -> VRs ρ2 l' vs /\ ((∀ c ∈ l, c.sc = true) -> ∀ c ∈ l', c.sc = true)
 | [], l', vs, e, hv => by simp only [renVs, Option.some.injEq] at e; subst e; simp only [VRs] at hv ⊢; exact ⟨hv, fun _ c hc => by simp at hc⟩
 | a :: r, l', vs, e, hv => by
  simp only [renVs] at e
  cases ha : renV mp a with
  | none => rw [ha] at e; cases e
  | some a' =>
   cases hl : renVs mp r with
   | none => rw [ha, hl] at e; cases e
   | some r' =>
    rw [ha, hl] at e; simp only [Option.some.injEq] at e; subst e
    simp only [VRs] at hv
    obtain ⟨v, t, rfl, h1, h2⟩ := hv
    obtain ⟨g1, g2⟩ := Z56 h a a' v ha h1
    obtain ⟨k1, k2⟩ := Jb h r r' t hl h2
    refine ⟨by simp only [VRs]; exact ⟨v, t, rfl, g1, k1⟩, fun hs c hc => ?_⟩
    rcases List.mem_cons.1 hc with rfl | hc
    ·exact g2 (hs a List.mem_cons_self)
    ·exact k2 (fun c hc => hs c (List.mem_cons_of_mem _ hc)) c hc
end
theorem Z45 : ∀ {l l' : List AV}, renVs mp l = some l' -> ∀ i c, nth l' i = some c -> ∃ a, nth l i = some a /\ renV mp a = some c
 | [], l', h, i, c, hc => by simp only [renVs, Option.some.injEq] at h; subst h; simp at hc
 | a :: r, l', h, i, c, hc => by
  simp only [renVs] at h
  cases ha : renV mp a with
  | none => rw [ha] at h; cases h
  | some a' =>
   cases hl : renVs mp r with
   | none => rw [ha, hl] at h; cases h
   | some r' =>
    rw [ha, hl] at h; simp only [Option.some.injEq] at h; subst h
    cases i with
    | zero => simp at hc; subst hc; exact ⟨a, rfl, ha⟩
    | succ i => simp at hc; obtain ⟨x, h1, h2⟩ := Z45 hl i c hc; exact ⟨x, by simpa using h1, h2⟩
theorem EntsR.flat (h : ∀ c k v, ρ.fz c k = some v -> ρ2.fz c k = some v) : ∀ {es : List (AV × AV)} {l : List MapEntry}, flatE es = true -> EntsR ρ es l -> EntsR ρ2 es l
 | [], l, _, e => e
 | e :: r, l, hf, hl => by
  obtain ⟨x, t, he, h1, h2, h3⟩ := hl
  unfold flatE at hf
  cases f1 : e.1.flat <;> cases f2 : e.2.flat <;> simp only [f1, f2] at hf <;> try (cases hf; done)
  exact ⟨x, t, he, VR.flat h _ _ f1 h1, VR.flat h _ _ f2 h2, EntsR.flat h hf h3⟩
theorem Z89 (h : Ren ρ ρ2 mp) {x x' : Blk} (e : renB mp x = some x') {p : Place} {o : Option Obj} (hb : BO ρ p o x) : BO ρ2 p o x' := by
 cases x with
 | cells cs rw_ u =>
  cases rw_ with
  | false => cases e
  | true =>
   simp only [renB] at e
   cases hl : renVs mp cs with
   | none => rw [hl] at e; cases e
   | some l =>
    rw [hl] at e; simp only [Option.some.injEq] at e; subst e
    obtain ⟨hu, ccs, ce, fr, ho, ht, hf, hc⟩ := hb
    refine ⟨hu, ccs, ce, fr, ho, ht, hf, fun i c hi => ?_⟩
    obtain ⟨a, h1, h2⟩ := Z45 hl i c hi
    obtain ⟨g1, v, g2, g3⟩ := hc i a h1
    obtain ⟨k1, k2⟩ := Z56 h a c v h2 g3
    exact ⟨k2 g1, v, g2, k1⟩
 | tok n z => simp only [renB, Option.some.injEq] at e; subst e; exact hb
 | map es fz =>
  simp only [renB] at e
  cases hf : flatE es with
  | false => rw [hf] at e; cases e
  | true =>
   rw [hf] at e; simp only [Option.some.injEq] at e; subst e
   obtain ⟨ents, clock, ho, he, hk⟩ := hb
   exact ⟨ents, clock, ho, he.flat h.2 hf, hk⟩
 | loop T ps a b st pend => cases e
 | strIter s pos => cases e
 | mapIter m left last => cases e
theorem Zz {x x' : Blk} (e : renB mp x = some x') : x.rwB = true /\ x'.rwB = true /\ (∀ p, x'.bare p = x.bare p) /\ (∀ m l la, x ≠ .mapIter m l la) /\ (∀ m l la, x' ≠ .mapIter m l la) /\ (∀ es fz, x = .map es fz -> x' = .map es fz) := by
 cases x with
 | cells cs rw_ u =>
  cases rw_ with
  | false => cases e
  | true =>
   simp only [renB] at e
   cases hl : renVs mp cs with
   | none => rw [hl] at e; cases e
   | some l => rw [hl] at e; simp only [Option.some.injEq] at e; subst e; exact ⟨rfl, rfl, fun _ => rfl, fun _ _ _ h => (by cases h), fun _ _ _ h => (by cases h), fun _ _ h => by cases h⟩
 | tok n z => simp only [renB, Option.some.injEq] at e; subst e; exact ⟨rfl, rfl, fun _ => rfl, fun _ _ _ h => (by cases h), fun _ _ _ h => (by cases h), fun _ _ h => by cases h⟩
 | map es fz =>
  simp only [renB] at e
  cases hf : flatE es with
  | false => rw [hf] at e; cases e
  | true => rw [hf] at e; simp only [Option.some.injEq] at e; subst e; exact ⟨rfl, rfl, fun _ => rfl, fun _ _ _ h => (by cases h), fun _ _ _ h => (by cases h), fun _ _ h => h⟩
 | loop T ps a b st pend => cases e
 | strIter s pos => cases e
 | mapIter m left last => cases e
theorem Jc : ∀ {xs xs' : List Blk}, renBs mp xs = some xs' -> xs'.length = xs.length /\ ∀ (i : Nat) x, xs[i]? = some x -> ∃ x', xs'[i]? = some x' /\ renB mp x = some x'
 | [], xs', h => by simp only [renBs, Option.some.injEq] at h; subst h; simp
 | x :: r, xs', h => by
  simp only [renBs] at h
  cases hx : renB mp x with
  | none => rw [hx] at h; cases h
  | some a =>
   cases hl : renBs mp r with
   | none => rw [hx, hl] at h; cases h
   | some l =>
    rw [hx, hl] at h; simp only [Option.some.injEq] at h; subst h
    obtain ⟨h1, h2⟩ := Jc hl
    refine ⟨by simp [h1], fun i y hy => ?_⟩
    cases i with
    | zero => simp at hy; subst hy; exact ⟨a, rfl, hx⟩
    | succ i => obtain ⟨z, g1, g2⟩ := h2 i y (by simpa using hy); exact ⟨z, by simpa using g1, g2⟩
end
theorem Zw (p : Nm) : ∀ (n k i : Nat), i < k -> (namesFrom p n k)[i]? = some (p ++ [n + i])
 | n, 0, i, h => by omega
 | n, k + 1, 0, h => by simp [namesFrom]
 | n, k + 1, i + 1, h => by
  simp only [namesFrom, List.getElem?_cons_succ]
  rw [Zw p (n + 1) k i (by omega), show n + 1 + i = n + (i + 1) by omega]
theorem Ya (p : Nm) : ∀ (n k : Nat), (namesFrom p n k).length = k
 | n, 0 => rfl
 | n, k + 1 => by simp [namesFrom, Ya p (n + 1) k]
theorem Yb {p b : Nm} {n k : Nat} (h : b ∈ namesFrom p n k) : ∃ i, i < k /\ b = p ++ [n + i] := by
 obtain ⟨i, hi⟩ := List.mem_iff_getElem?.1 h
 have hlt := (List.getElem?_eq_some_iff.1 hi).1
 rw [Ya] at hlt
 rw [Zw p n k i hlt] at hi
 exact ⟨i, hlt, (Option.some.inj hi).symm⟩
theorem Yw (p : Nm) : ∀ (n k : Nat), (namesFrom p n k).Nodup
 | n, 0 => by simp [namesFrom]
 | n, k + 1 => by
  simp only [namesFrom, List.nodup_cons]
  refine ⟨fun h => ?_, Yw p (n + 1) k⟩
  obtain ⟨i, _, e⟩ := Yb h
  have := List.append_cancel_left e
  simp at this; omega
theorem Z46 : ∀ {l : List Nm} {xs : List Blk} {b : Nm} {x : Blk}, hget (zipB l xs) b = some x -> ∃ i : Nat, l[i]? = some b /\ xs[i]? = some x
 | [], xs, b, x, h => by cases xs <;> simp [zipB] at h
 | c :: r, [], b, x, h => by simp [zipB] at h
 | c :: r, y :: q, b, x, h => by
  simp only [zipB] at h
  by_cases e : c = b
  ·subst e; rw [Z6] at h; exact ⟨0, rfl, by simpa using h⟩
  ·rw [Z1 _ _ e] at h
   obtain ⟨i, h1, h2⟩ := Z46 h
   exact ⟨i + 1, by simpa using h1, by simpa using h2⟩
end Go.Am
namespace Go.Am
open Go
theorem Z1o {α : Type} : ∀ {l : List α} {i j : Nat} {a : α}, l.Nodup -> l[i]? = some a -> l[j]? = some a -> i = j
 | [], i, j, a, _, h, _ => by simp at h
 | x :: r, 0, 0, a, _, _, _ => rfl
 | x :: r, 0, j + 1, a, hn, h, h' => by simp at h h'; subst h; exact absurd (List.mem_of_getElem? h') (List.nodup_cons.1 hn).1
 | x :: r, i + 1, 0, a, hn, h, h' => by simp at h h'; subst h'; exact absurd (List.mem_of_getElem? h) (List.nodup_cons.1 hn).1
 | x :: r, i + 1, j + 1, a, hn, h, h' => congrArg (· + 1) (Z1o (i := i) (j := j) (List.nodup_cons.1 hn).2 (by simpa using h) (by simpa using h'))
noncomputable def Rho.lent (ρ : Rho) (bs : List Nm) : Rho := ⟨fun i => match lookN i (zipN (namesFrom [] 0 bs.length) bs) with | some b => ρ b | none => none, ρ.fz⟩
section
variable {ρ : Rho} {s : St} {w : World} {bs : List Nm} {xs ys : List Blk}
theorem Z0j (hl : bs.length <= bs.length) (i : Nat) (b : Nm) (h : bs[i]? = some b) : (ρ.lent bs) [i] = ρ b := by
 have hlt := (List.getElem?_eq_some_iff.1 h).1
 have h1 : (namesFrom [] 0 bs.length)[i]? = some [i] := by rw [Zw [] 0 _ i hlt]; simp
 have := Z3h i (Yw [] 0 bs.length) h1 h
 show (match lookN [i] (zipN (namesFrom [] 0 bs.length) bs) with | some b => ρ b | none => none) = _
 rw [this]
theorem Z66 {i : Nm} {p : Place} (h : (ρ.lent bs) i = some p) : ∃ (k : Nat) (b : Nm), i = [k] /\ bs[k]? = some b /\ ρ b = some p := by
 have h : (match lookN i (zipN (namesFrom [] 0 bs.length) bs) with | some b => ρ b | none => none) = some p := h
 cases hl : lookN i (zipN (namesFrom [] 0 bs.length) bs) with
 | none => rw [hl] at h; cases h
 | some b =>
  rw [hl] at h
  obtain ⟨k, h1, h2⟩ := Xz hl
  have hlt := (List.getElem?_eq_some_iff.1 h2).1
  rw [Zw [] 0 _ k hlt] at h1
  exact ⟨k, b, by rw [<- Option.some.inj h1]; simp, h2, h⟩
theorem Z8a (hr : HR ρ s.H w) (hn : bs.Nodup) (hg : getAll s.H bs = some xs) (hy : renBs (zipN bs (namesFrom [] 0 bs.length)) xs = some ys) :
  Ren ρ (ρ.lent bs) (zipN bs (namesFrom [] 0 bs.length)) /\ HR (ρ.lent bs) (zipB (namesFrom [] 0 bs.length) ys) w /\ Fr (ρ.lent bs) ⟨zipB (namesFrom [] 0 bs.length) ys, bs.length, [], false, []⟩ /\
  (∀ (i : Nat) b, bs[i]? = some b -> ∃ x y, hget s.H b = some x /\ ys[i]? = some y /\ renB (zipN bs (namesFrom [] 0 bs.length)) x = some y) := by
 have hren : Ren ρ (ρ.lent bs) (zipN bs (namesFrom [] 0 bs.length)) := by
  refine ⟨fun a c hl p hp => ?_, fun _ _ _ h => h⟩
  obtain ⟨i, h1, h2⟩ := Xz hl
  have hlt := (List.getElem?_eq_some_iff.1 h1).1
  rw [Zw [] 0 _ i hlt] at h2
  have : c = [i] := by rw [<- Option.some.inj h2]; simp
  rw [this, Z0j (Nat.le_refl _) i a h1]; exact hp
 obtain ⟨g1, g2⟩ := Yu hg
 obtain ⟨k1, k2⟩ := Jc hy
 have hall : ∀ (i : Nat) b, bs[i]? = some b -> ∃ x y, hget s.H b = some x /\ ys[i]? = some y /\ renB (zipN bs (namesFrom [] 0 bs.length)) x = some y := by
  intro i b hb
  obtain ⟨x, h1, h2⟩ := g2 i b hb
  obtain ⟨y, h3, h4⟩ := k2 i x h1
  exact ⟨x, y, h2, h3, h4⟩
 have hin : ∀ i y, hget (zipB (namesFrom [] 0 bs.length) ys) i = some y -> ∃ (k : Nat) (b : Nm) (x : Blk), i = [k] /\ bs[k]? = some b /\ hget s.H b = some x /\ renB (zipN bs (namesFrom [] 0 bs.length)) x = some y := by
  intro i y hi
  obtain ⟨k, h1, h2⟩ := Z46 hi
  have hlt := (List.getElem?_eq_some_iff.1 h1).1
  rw [Ya] at hlt
  rw [Zw [] 0 _ k hlt] at h1
  obtain ⟨x, y', h3, h4, h5⟩ := hall k _ (List.getElem?_eq_getElem hlt)
  rw [h2] at h4; obtain rfl := Option.some.inj h4
  exact ⟨k, _, x, by rw [<- Option.some.inj h1]; simp, List.getElem?_eq_getElem hlt, h3, h5⟩
 refine ⟨hren, ⟨?_, ?_, ?_, hr.frz, ?_⟩, ?_, hall⟩
 ·intro i y hi
  obtain ⟨k, b, x, rfl, hb, hx, hyx⟩ := hin i y hi
  obtain ⟨p, hp, hbo⟩ := hr.blocks b x hx
  exact ⟨p, by rw [Z0j (Nat.le_refl _) k b hb]; exact hp, Z89 hren hyx hbo⟩
 ·intro i j y y' p p' hi hj hp hp' hij _
  obtain ⟨k, b, x, rfl, hb, hx, hyx⟩ := hin i y hi
  obtain ⟨k', b', x', rfl, hb', hx', hyx'⟩ := hin j y' hj
  rw [Z0j (Nat.le_refl _) k b hb] at hp
  rw [Z0j (Nat.le_refl _) k' b' hb'] at hp'
  refine hr.sep b b' x x' p p' hx hx' hp hp' (fun e => ?_) (Zz hyx).1
  subst e
  have : k = k' := by
   obtain ⟨h1, e1⟩ := List.getElem?_eq_some_iff.1 hb
   obtain ⟨h2, e2⟩ := List.getElem?_eq_some_iff.1 hb'
   exact Z1o hn hb hb'
  exact hij (by rw [this])
 ·intro i m left last hi
  obtain ⟨k, b, x, rfl, hb, hx, hyx⟩ := hin i _ hi
  exact absurd rfl ((Zz hyx).2.2.2.2.1 m left last)
 ·intro i y p hi hw hp k hk
  obtain ⟨k', b, x, rfl, hb, hx, hyx⟩ := hin i y hi
  rw [Z0j (Nat.le_refl _) k' b hb] at hp
  exact hr.fsep b x p hx (Zz hyx).1 hp k (by rw [<- (Zz hyx).2.2.1]; exact hk)
 ·intro m r hm
  cases h : (ρ.lent bs) ([] ++ m :: r) with
  | none => rfl
  | some p =>
   obtain ⟨k, b, h1, h2, _⟩ := Z66 h
   have := (List.getElem?_eq_some_iff.1 h2).1
   simp at h1
   have hm : bs.length <= m := hm
   omega
theorem Z1p {Q : Unit × St -> Prop} : ∀ {bs : List Nm} {xs : List Blk} {s : St}, (putAll bs xs s).All Q -> ∃ s', Q ((), s') /\ s'.pre = s.pre /\ s'.n = s.n /\ xs.length = bs.length /\
  (bs.Nodup -> (∀ (i : Nat) b, bs[i]? = some b -> ∃ x, xs[i]? = some x /\ hget s'.H b = some x) /\ ∀ b, b ∉ bs -> hget s'.H b = hget s.H b)
 | [], [], s, h => ⟨s, h, rfl, rfl, rfl, fun _ => ⟨by simp, fun _ _ => rfl⟩⟩
 | [], _ :: _, s, h => h.elim
 | _ :: _, [], s, h => h.elim
 | b :: r, x :: q, s, h => by
  unfold putAll at h
  obtain ⟨⟨y, hy⟩, h⟩ := (Y1 _ _ _ _).1 ((M.all_bind _ _ _ _).1 h)
  obtain ⟨s', h1, h2, h3, h4, h5⟩ := Z1p h
  refine ⟨s', h1, h2, h3, by simp [h4], fun hn => ?_⟩
  have hn' := List.nodup_cons.1 hn
  obtain ⟨g1, g2⟩ := h5 hn'.2
  refine ⟨fun i c hc => ?_, fun c hc => ?_⟩
  ·cases i with
   | zero =>
    simp at hc; subst hc
    refine ⟨x, rfl, ?_⟩
    rw [g2 b hn'.1]
    exact Z4 x hy
   | succ i => obtain ⟨z, k1, k2⟩ := g1 i c (by simpa using hc); exact ⟨z, by simpa using k1, k2⟩
  ·simp only [List.mem_cons, not_or] at hc
   rw [g2 c hc.2]
   exact Z0 _ _ (Ne.symm hc.1)
theorem Z1q {Q : Unit × St -> Prop} : ∀ {xs : List Blk} {s : St}, (newAll xs s).All Q -> ∃ s', Q ((), s') /\ s'.pre = s.pre /\ s'.n = s.n + xs.length /\
  (∀ (i : Nat) x, xs[i]? = some x -> hget s'.H (s.pre ++ [s.n + i]) = some x) /\ ∀ b, b ∉ namesFrom s.pre s.n xs.length -> hget s'.H b = hget s.H b
 | [], s, h => ⟨s, h, rfl, rfl, by simp, fun _ _ => rfl⟩
 | x :: q, s, h => by
  unfold newAll at h
  have h := (Z5r _ _ _).1 ((M.all_bind _ _ _ _).1 h)
  obtain ⟨s', h1, h2, h3, h4, h5⟩ := Z1q h
  have e1 : (s.new x).pre = s.pre := rfl
  have e2 : (s.new x).n = s.n + 1 := rfl
  rw [e1, e2] at h4 h5
  refine ⟨s', h1, h2, by rw [h3, e2, List.length_cons]; omega, fun i y hy => ?_, fun b hb => ?_⟩
  ·cases i with
   | zero =>
    simp at hy; subst hy
    rw [Nat.add_zero, h5 _ (fun hm => by
     obtain ⟨i, _, e⟩ := Yb hm
     have := List.append_cancel_left e
     simp at this; omega)]
    exact Z6 ..
   | succ i => rw [show s.n + (i + 1) = s.n + 1 + i by omega]; exact h4 i y (by simpa using hy)
  ·simp only [namesFrom, List.length_cons, List.mem_cons, not_or] at hb
   rw [h5 b hb.2]
   exact Z1 _ _ (Ne.symm hb.1)
end
end Go.Am
