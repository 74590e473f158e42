/- Regions that draw their order, code and calls: what the abstract machine answers the model answers; the frame of a row. -/
import Derived.Test.YtgnpnfkncbnjnaaAmB
import Derived.OrdersIn
import Derived.LoopNIn
import Derived.RangeFuncRecord
import Derived.ProofKit
import Derived.ChangeSame
import Derived.Below
import Derived.OpenShut
import Derived.JoinedOf
set_option linter.unusedSimpArgs false
set_option linter.unusedVariables false
namespace Go.Am
open Go
noncomputable section

theorem memN_iff (n : Nat) : ∀ l : List Nat, memN n l = true ↔ n ∈ l
  | [] => by simp [memN]
  | m :: r => by
    unfold memN
    cases h : Nat.beq n m with
    | true => have := Nat.eq_of_beq_eq_true h; subst this; simp
    | false =>
      have hne : n ≠ m := fun e => by subst e; rw [Nat.beq_refl] at h; cases h
      simp [memN_iff n r, hne]
theorem orB_true {a b : Bool} (h : orB a b = true) : a = true ∨ b = true := by cases a <;> simp_all [orB]
theorem notB'_true {a : Bool} (h : notB' a = true) : a = false := by cases a <;> simp_all [notB']
structure RegOk (ops : List Oper) (B : List (List Nat)) : Prop where
  edge : ∀ i o, nth ops i = some o → ∀ e ∈ o.after.toList, solid e = true → e.on ∈ pre B i
  from' : ∀ i o, nth ops i = some o → ∀ m, m ∈ pre B i ↔ ∃ e ∈ o.after.toList, solid e = true ∧ (m = e.on ∨ m ∈ pre B e.on)
  back : ∀ i o, nth ops i = some o → ∀ j ∈ pre B i, j < i ∧ ∀ k ∈ pre B j, k ∈ pre B i
  dst : ∀ i o, nth ops i = some o → ∀ k q, nth ops k = some q → k ≠ i → ∀ d, q.dst = some d → o.dst ≠ some d ∧ (k ∈ pre B i ∨ i ∈ pre B k ∨ d ∉ looksL ops o)
theorem mem_zip {ops : List Oper} {i : Nat} {o : Oper} (h : nth ops i = some o) : (o, i) ∈ ops.zipIdx := by
  rw [nth_eq] at h
  rw [List.mem_zipIdx_iff_getElem?]
  exact h
theorem mem_addN (m n : Nat) (l : List Nat) : m ∈ addN n l ↔ m = n ∨ m ∈ l := by
  unfold addN
  cases h : memN n l with
  | true => have := (memN_iff n l).1 h; simp only; constructor
            · exact .inr
            · rintro (rfl | h2)
              · exact this
              · exact h2
  | false => simp
theorem mem_addAll (m : Nat) : ∀ (l l' : List Nat), m ∈ addAll l l' ↔ m ∈ l ∨ m ∈ l'
  | [], l' => by simp [addAll]
  | n :: r, l' => by unfold addAll; rw [mem_addN, mem_addAll m r l', List.mem_cons, or_assoc]
theorem mem_predsOf (B : List (List Nat)) (m : Nat) : ∀ l : List Edge, m ∈ predsOf B l ↔ ∃ e ∈ l, solid e = true ∧ (m = e.on ∨ m ∈ pre B e.on)
  | [] => by simp [predsOf]
  | e :: r => by
    unfold predsOf
    cases hs : solid e with
    | false =>
      simp only
      rw [mem_predsOf B m r]
      constructor
      · rintro ⟨e', h1, h2⟩; exact ⟨e', List.mem_cons_of_mem _ h1, h2⟩
      · rintro ⟨e', h1, h2⟩
        rcases List.mem_cons.1 h1 with rfl | h1
        · rw [hs] at h2; cases h2.1
        · exact ⟨e', h1, h2⟩
    | true =>
      simp only
      rw [mem_addN, mem_addAll, mem_predsOf B m r]
      constructor
      · rintro (rfl | h | ⟨e', h1, h2⟩)
        · exact ⟨e, List.mem_cons_self, hs, .inl rfl⟩
        · exact ⟨e, List.mem_cons_self, hs, .inr h⟩
        · exact ⟨e', List.mem_cons_of_mem _ h1, h2⟩
      · rintro ⟨e', h1, h2, h3⟩
        rcases List.mem_cons.1 h1 with rfl | h1
        · rcases h3 with h3 | h3
          · exact .inl h3
          · exact .inr (.inl h3)
        · exact .inr (.inr ⟨e', h1, h2, h3⟩)
theorem predsAll_old : ∀ (l : List Oper) (acc : List (List Nat)) (n : Nat), n < acc.length → nth (predsAll acc l) n = nth acc n
  | [], acc, n, _ => rfl
  | o :: r, acc, n, h => by
    unfold predsAll
    rw [predsAll_old r _ n (by simp; omega), nth_eq, nth_eq, List.getElem?_append_left h]
theorem mem_pre : ∀ (l : List Oper) (acc : List (List Nat)) (i : Nat) (o : Oper), nth l i = some o → (∀ e ∈ o.after.toList, solid e = true → e.on < acc.length + i) →
    ∀ m, m ∈ pre (predsAll acc l) (acc.length + i) ↔ ∃ e ∈ o.after.toList, solid e = true ∧ (m = e.on ∨ m ∈ pre (predsAll acc l) e.on)
  | [], acc, i, o, h, _ => by simp at h
  | a :: r, acc, i, o, h, hb => by
    intro m
    cases i with
    | zero =>
      simp only [nth_zero, Option.some.injEq] at h; subst h
      have h1 : pre (predsAll acc (a :: r)) (acc.length + 0) = predsOf acc a.after.toList := by
        unfold pre predsAll
        rw [predsAll_old r _ _ (by simp), nth_eq]; simp
      rw [h1, mem_predsOf]
      constructor
      · rintro ⟨e, h1, h2, h3⟩
        refine ⟨e, h1, h2, ?_⟩
        unfold pre at h3 ⊢
        rw [predsAll_old _ _ _ (hb e h1 h2)]; exact h3
      · rintro ⟨e, h1, h2, h3⟩
        refine ⟨e, h1, h2, ?_⟩
        unfold pre at h3 ⊢
        rw [predsAll_old _ _ _ (hb e h1 h2)] at h3; exact h3
    | succ i =>
      simp only [nth_succ] at h
      have hl : (acc ++ [predsOf acc a.after.toList]).length + i = acc.length + (i + 1) := by simp; omega
      have := mem_pre r (acc ++ [predsOf acc a.after.toList]) i o h (fun e h1 h2 => by rw [hl]; exact hb e h1 h2) m
      rw [hl] at this
      exact this
theorem regOk_spec {ops : List Oper} (h : regOk ops = true) : RegOk ops (predsAll [] ops) := by
  unfold regOk at h
  rw [List.all_eq_true] at h
  have h1 : ∀ i o, nth ops i = some o → regOk1 ops (predsAll [] ops) (pre (predsAll [] ops) i) (looksL ops o) (o, i) = true := fun i o ho => h _ (mem_zip ho)
  have hb : ∀ i o, nth ops i = some o → ∀ e ∈ o.after.toList, solid e = true → e.on < i := by
    intro i o ho e he hs
    have := h1 i o ho
    simp only [regOk1, Bool.and_eq_true, List.all_eq_true] at this
    rcases orB_true (this.1 e he) with h2 | h2
    · rw [notB'_true h2] at hs; cases hs
    · rw [Nat.blt_eq] at h2; exact h2
  have hm : ∀ i o, nth ops i = some o → ∀ m, m ∈ pre (predsAll [] ops) i ↔ ∃ e ∈ o.after.toList, solid e = true ∧ (m = e.on ∨ m ∈ pre (predsAll [] ops) e.on) := by
    intro i o ho
    have := mem_pre ops [] i o ho (fun e h1 h2 => by simp; exact hb i o ho e h1 h2)
    simpa using this
  have hin : ∀ i o, nth ops i = some o → ∀ j, j < i → ∃ q, nth ops j = some q := fun i o ho j hj => nth_some (by have := nth_lt ho; omega)
  have hback : ∀ i, ∀ o, nth ops i = some o → ∀ j ∈ pre (predsAll [] ops) i, j < i ∧ ∀ k ∈ pre (predsAll [] ops) j, k ∈ pre (predsAll [] ops) i := by
    intro i
    induction i using Nat.strongRecOn with
    | _ i ih =>
      intro o ho j hj
      obtain ⟨e, he, hs, hx⟩ := (hm i o ho j).1 hj
      have hlt := hb i o ho e he hs
      obtain ⟨q, hq⟩ := hin i o ho e.on hlt
      rcases hx with rfl | hx
      · exact ⟨hlt, fun k hk => (hm i o ho k).2 ⟨e, he, hs, .inr hk⟩⟩
      · obtain ⟨g1, g2⟩ := ih e.on hlt q hq j hx
        exact ⟨by omega, fun k hk => (hm i o ho k).2 ⟨e, he, hs, .inr (g2 k hk)⟩⟩
  refine ⟨fun i o ho e he hs => (hm i o ho e.on).2 ⟨e, he, hs, .inl rfl⟩, hm, hback, ?_⟩
  intro i o ho k q hq hne d hd
  have := h1 i o ho
  simp only [regOk1, Bool.and_eq_true, List.all_eq_true] at this
  have h2 := this.2 _ (mem_zip hq)
  simp only [hd] at h2
  have hk : Nat.beq k i = false := by cases hh : Nat.beq k i with | false => rfl | true => exact absurd (Nat.eq_of_beq_eq_true hh) hne
  have hdst : isDst d o.dst = false ↔ o.dst ≠ some d := by
    cases hod : o.dst with
    | none => simp [isDst]
    | some t =>
      simp only [isDst]
      constructor
      · intro h e; simp at e; subst e; rw [Nat.beq_refl] at h; cases h
      · intro h; cases hh : Nat.beq d t with | false => rfl | true => exact absurd (by rw [Nat.eq_of_beq_eq_true hh]) h
  rcases orB_true h2 with h3 | h3
  · have h4 := notB'_true h3
    cases h5 : isDst d o.dst with
    | true => rw [h5] at h4; cases h4
    | false =>
      rw [h5] at h4
      refine ⟨hdst.1 h5, .inr (.inr fun hmem => ?_)⟩
      rw [(memN_iff _ _).2 hmem] at h4; cases h4
  · rcases orB_true h3 with h4 | h4
    · rw [hk] at h4; cases h4
    · simp only [Bool.and_eq_true] at h4
      rcases orB_true h4.1 with h5 | h5
      · rcases orB_true h4.2 with h6 | h6
        · exact ⟨hdst.1 (notB'_true h5), .inl ((memN_iff _ _).1 h6)⟩
        · exact ⟨hdst.1 (notB'_true h5), .inr (.inl ((memN_iff _ _).1 h6))⟩
      · cases h5

/-! ### An operation looks at its operands alone -/
theorem evA_congr {T T' : List AV} {l : List Operand} (h : ∀ t ∈ tmpsOf l, nth T t = nth T' t) : ∀ x ∈ l, evA T x = evA T' x := by
  induction l with
  | nil => intro x hx; cases hx
  | cons y r ih =>
    have hr : ∀ t ∈ tmpsOf r, nth T t = nth T' t := fun t ht => h t (by unfold tmpsOf; cases y <;> first | exact ht | exact List.mem_cons_of_mem _ ht)
    intro x hx
    rcases List.mem_cons.1 hx with rfl | hx
    · cases x with
      | tmp t => exact h t (by unfold tmpsOf; exact List.mem_cons_self)
      | _ => rfl
    · exact ih hr x hx
theorem evs_congr {T T' : List AV} : ∀ (l : List Operand), (∀ x ∈ l, evA T x = evA T' x) → evs T l = evs T' l
  | [], _ => rfl
  | x :: r, h => by unfold evs; rw [h x List.mem_cons_self, evs_congr r fun y hy => h y (List.mem_cons_of_mem _ hy)]
theorem partsA_congr {T T' : List AV} : ∀ (l : List (Nat × Operand)), (∀ x ∈ l.map (·.2), evA T x = evA T' x) → partsA T l = partsA T' l
  | [], _ => rfl
  | (i, x) :: r, h => by unfold partsA; rw [h x (by simp), partsA_congr r fun y hy => h y (by simp only [List.map_cons, List.mem_cons]; exact .inr hy)]
theorem ev1_congr {T T' : List AV} {x : Operand} {f g : AV → M AV} (h : evA T x = evA T' x) (hf : f = g) : ev1 T x f = ev1 T' x g := by unfold ev1; rw [h, hf]
theorem opA_congr {C : Cfg} {call : FuncId → List AV → M AV} {rnd : Nm → List AV → M AV} {T T' : List AV} {o : Oper} (h : ∀ t ∈ tmpsOf (opReads o.op), nth T t = nth T' t) : opA C call rnd T o = opA C call rnd T' o := by
  have he := evA_congr h
  unfold opA
  cases hop : o.op <;> rw [hop] at he <;> simp only [opReads] at he <;> simp only <;> try rfl
  case move x => rw [he x (by simp)]
  case assign x => rw [he x (by simp)]
  case pick c a b =>
    rw [he c (by simp)]
    cases evA T' c with
    | none => rfl
    | some v =>
      cases v <;> try rfl
      rename_i t
      cases t
      · exact congrArg M.of (he b (by simp))
      · exact congrArg M.of (he a (by simp))
  case box t x => exact ev1_congr (he x (by simp)) rfl
  case build t ps => rw [partsA_congr _ he]
  case buildSlice t n ps => rw [partsA_congr _ he]
  case load t x => exact ev1_congr (he x (by simp)) rfl
  case store t x y => exact ev1_congr (he x (by simp)) (by funext p; exact ev1_congr (he y (by simp)) rfl)
  case nilCheck x => exact ev1_congr (he x (by simp)) rfl
  case binOp op t x y q => exact ev1_congr (he x (by simp)) (by funext p; exact ev1_congr (he y (by simp)) rfl)
  case unOp op t x => exact ev1_congr (he x (by simp)) rfl
  case convert a b x => exact ev1_congr (he x (by simp)) rfl
  case makeFunc fn first caps => rw [evs_congr _ he]
  case makeMap t r =>
    cases r with
    | none => rfl
    | some x => exact ev1_congr (he x (by simp)) rfl
  case makeSlice t l c => exact ev1_congr (he l (by simp)) (by funext p; exact ev1_congr (he c (by simp)) rfl)
  case slice t x lo hi mx =>
    have h1 : optA T lo = optA T' lo := by cases lo with | none => rfl | some y => (show (match evA T y with | some v => some (some v) | none => none) = (match evA T' y with | some v => some (some v) | none => none); rw [he y (by simp)])
    have h2 : optA T hi = optA T' hi := by cases hi with | none => rfl | some y => (show (match evA T y with | some v => some (some v) | none => none) = (match evA T' y with | some v => some (some v) | none => none); rw [he y (by simp)])
    have h3 : optA T mx = optA T' mx := by cases mx with | none => rfl | some y => (show (match evA T y with | some v => some (some v) | none => none) = (match evA T' y with | some v => some (some v) | none => none); rw [he y (by simp)])
    exact ev1_congr (he x (by simp)) (by rw [h1, h2, h3])
  case fieldAddr t x f => exact ev1_congr (he x (by simp)) rfl
  case field t x f => exact ev1_congr (he x (by simp)) rfl
  case indexAddr t x i => exact ev1_congr (he x (by simp)) (by funext p; exact ev1_congr (he i (by simp)) rfl)
  case index t x i => exact ev1_congr (he x (by simp)) (by funext p; exact ev1_congr (he i (by simp)) rfl)
  case lookup t x k ok => exact ev1_congr (he x (by simp)) (by funext p; exact ev1_congr (he k (by simp)) rfl)
  case mapUpdate t m k x => exact ev1_congr (he m (by simp)) (by funext p; exact ev1_congr (he k (by simp)) (by funext q; exact ev1_congr (he x (by simp)) rfl))
  case range t x => exact ev1_congr (he x (by simp)) rfl
  case next it s => exact ev1_congr (he it (by simp)) rfl
  case entry it => exact ev1_congr (he it (by simp)) rfl
  case extract x i => exact ev1_congr (he x (by simp)) rfl
  case call c =>
    cases hc : c.callee with
    | builtin b => rw [hc] at he; simp only at he; rw [evs_congr _ he]
    | value f =>
      rw [hc] at he; simp only at he
      rw [evs_congr _ fun x hx => he x (List.mem_cons_of_mem _ hx)]
      cases evs T' c.args.toList with
      | none => rfl
      | some l => exact ev1_congr (he f (by simp)) rfl
    | invoke a b => cases evs T c.args.toList <;> cases evs T' c.args.toList <;> rfl
theorem wantedA_congr {ops : List Oper} {T T' : List AV} {o : Oper} (h : ∀ t ∈ guardTmp ops o, nth T t = nth T' t) : wantedA ops T o = wantedA ops T' o := by
  unfold wantedA
  unfold guardTmp at h
  cases hg : o.guard with
  | none => rfl
  | some jw =>
    obtain ⟨j, w⟩ := jw
    rw [hg] at h; simp only at h ⊢
    cases hj : nth ops j with
    | none => rfl
    | some g =>
      rw [hj] at h; simp only at h ⊢
      cases hd : g.dst with
      | none => rfl
      | some d => rw [hd] at h; simp only at h ⊢; rw [h d (by simp)]
theorem op_look {C : Cfg} {call : FuncId → List AV → M AV} {rnd : Nm → List AV → M AV} {ops : List Oper} {T T' : List AV} {o : Oper} (h : ∀ t ∈ looksL ops o, nth T t = nth T' t) :
    opA C call rnd T o = opA C call rnd T' o ∧ wantedA ops T o = wantedA ops T' o :=
  ⟨opA_congr fun t ht => h t (List.mem_append_left _ ht), wantedA_congr fun t ht => h t (List.mem_append_right _ ht)⟩
/-- Is it carried out, in the model? -/
theorem wanted_eq {ρ : Rho} {ops : List Oper} {arr : Array Oper} (harr : arr.toList = ops) {T : List AV} {a : Act} (hT : VRs ρ T a.tmps.toList) (o : Oper) : Region.wanted o (yielded arr a.tmps) = wantedA ops T o := by
  unfold Region.wanted wantedA
  cases hg : o.guard with
  | none => rfl
  | some jw =>
    obtain ⟨j, w⟩ := jw
    simp only
    have hj : arr[j]? = nth ops j := by rw [nth_eq, ← harr]; simp
    unfold yielded
    rw [hj]
    cases hn : nth ops j with
    | none => simp
    | some g =>
      simp only [Option.bind_some]
      cases hd : g.dst with
      | none => simp
      | some d =>
        simp only [Option.bind_some]
        cases ht : nth T d with
        | none =>
          have : a.tmps[d]? = none := by
            have hl := VRs.length _ _ hT
            rw [nth_eq] at ht
            have := List.getElem?_eq_none_iff.1 ht
            rw [Array.getElem?_eq_none_iff]; simp at hl; omega
          simp [this]
        | some v =>
          obtain ⟨cv, h1, h2⟩ := VRs.nth _ _ hT d v ht
          have h1' : a.tmps[d]? = some cv := by simpa using h1
          rw [h1']
          cases v <;> simp only [VR] at h2
          case bool b => subst h2; cases b <;> cases w <;> rfl
          all_goals (first
            | (subst h2; rfl)
            | (obtain ⟨p, _, rfl⟩ := h2; rfl)
            | (obtain ⟨p, o', c', _, rfl, _⟩ := h2; rfl)
            | (obtain ⟨cs, rfl, _⟩ := h2; rfl))
end
end Go.Am
namespace Go.Am
open Go
noncomputable section

/-! ### The temporaries, after some of the operations -/
def TP (p : Nat → Bool) : Nat → List Oper → List AV → List AV → List AV
  | k, o :: r, v :: vs, T => TP p (k + 1) r vs (if p k = true then putT T o.dst v else T)
  | _, _, _, T => T
theorem putT_length (T : List AV) (d : Option Tmp) (v : AV) : (putT T d v).length = T.length := by cases d <;> simp [putT, setNth_length]
theorem nth_putT (T : List AV) (d : Option Tmp) (v : AV) (t : Nat) : nth (putT T d v) t = if d = some t then (if t < T.length then some v else none) else nth T t := by
  cases d with
  | none => simp [putT]
  | some d =>
    simp only [putT, nth_eq, setNth_eq, Option.some.injEq]
    by_cases h : d = t
    · subst h
      rw [if_pos rfl, List.getElem?_set]
      by_cases hl : d < T.length <;> simp [hl]
    · rw [if_neg h, List.getElem?_set_ne h]
theorem TP_length (p : Nat → Bool) : ∀ (ops : List Oper) (k : Nat) (vs T : List AV), (TP p k ops vs T).length = T.length
  | [], k, vs, T => by simp [TP]
  | o :: r, k, [], T => by simp [TP]
  | o :: r, k, v :: vs, T => by
    unfold TP; rw [TP_length p r]
    by_cases h : p k = true <;> simp [h, putT_length]
theorem TP_agree {p q : Nat → Bool} {t : Nat} : ∀ (ops : List Oper) (k : Nat) (vs T T' : List AV), (∀ i o, nth ops i = some o → o.dst = some t → p (k + i) = q (k + i)) → nth T t = nth T' t → T.length = T'.length →
    nth (TP p k ops vs T) t = nth (TP q k ops vs T') t
  | [], k, vs, T, T', _, h, _ => by simpa [TP] using h
  | o :: r, k, [], T, T', _, h, _ => by simpa [TP] using h
  | o :: r, k, v :: vs, T, T', ha, h, hl => by
    unfold TP
    refine TP_agree r (k + 1) vs _ _ (fun i q' hi hd => ?_) ?_ ?_
    · have := ha (i + 1) q' (by rw [nth_succ]; exact hi) hd
      rw [show k + 1 + i = k + (i + 1) by omega]; exact this
    · have h0 := ha 0 o (by simp)
      rw [Nat.add_zero] at h0
      by_cases hd : o.dst = some t
      · rw [h0 hd]
        by_cases hq : q k = true
        · simp only [hq, if_true, nth_putT, hd, hl]
        · simp only [hq]; exact h
      · by_cases hp : p k = true <;> by_cases hq : q k = true <;> simp [hp, hq, nth_putT, hd, h]
    · by_cases hp : p k = true <;> by_cases hq : q k = true <;> simp [hp, hq, putT_length, hl]
theorem TP_none (p : Nat → Bool) : ∀ (ops : List Oper) (k : Nat) (vs T : List AV), (∀ i, k ≤ i → p i = false) → TP p k ops vs T = T
  | [], k, vs, T, _ => by simp [TP]
  | o :: r, k, [], T, _ => by simp [TP]
  | o :: r, k, v :: vs, T, h => by
    unfold TP
    rw [h k (Nat.le_refl _)]
    exact TP_none p r (k + 1) vs T fun i hi => h i (by omega)
theorem putsT_TP : ∀ (ops : List Oper) (k : Nat) (vs T : List AV), putsT ops vs T = TP (fun _ => true) k ops vs T
  | [], k, vs, T => by simp [TP, putsT]
  | o :: r, k, [], T => by simp [TP, putsT]
  | o :: r, k, v :: vs, T => by unfold TP putsT; rw [putsT_TP r (k + 1)]; simp
theorem putsT_take : ∀ (ops : List Oper) (n k : Nat) (vs T : List AV), putsT (ops.take n) vs T = TP (fun i => decide (i < k + n)) k ops vs T
  | [], n, k, vs, T => by simp [TP, putsT]
  | o :: r, 0, k, vs, T => by
    rw [List.take_zero, TP_none _ _ _ _ _ (fun i hi => by simp; omega)]
    simp [putsT]
  | o :: r, n + 1, k, [], T => by simp [TP, putsT]
  | o :: r, n + 1, k, v :: vs, T => by
    rw [List.take_succ_cons]
    unfold TP putsT
    rw [putsT_take r n (k + 1) vs]
    rw [show k + 1 + n = k + (n + 1) by omega]
    simp
section
variable {C : Cfg} {call : FuncId → List AV → M AV} {rnd : Nm → List AV → M AV}
theorem pass_spec {ops : List Oper} {s : St} {B : List (List Nat)} : ∀ (l : List Oper) (i : Nat) (T vs0 : List AV) (ds0 : List Delta) (x : List AV × List Delta), drawPass C call rnd ops s B i l T vs0 ds0 = some x → ds0.length = i →
    ∃ vs1 ds1, x.1 = vs0 ++ vs1 ∧ x.2 = ds0 ++ ds1 ∧ vs1.length = l.length ∧ ds1.length = l.length ∧ ∀ k o, nth l k = some o →
      (wantedA ops (putsT (l.take k) vs1 T) o = true → ∃ v d, nth vs1 k = some v ∧ nth ds1 k = some d ∧ one (opA C call rnd (putsT (l.take k) vs1 T) o (opSt s (i + k) (overlay s.H (pre B (i + k)) 0 (ds0 ++ ds1.take k)))) = some (v, d)) ∧
      (wantedA ops (putsT (l.take k) vs1 T) o = false → nth vs1 k = some .undef ∧ nth ds1 k = some [])
  | [], i, T, vs0, ds0, x, h, _ => by
    simp only [drawPass, Option.some.injEq] at h; subst h
    exact ⟨[], [], by simp, by simp, rfl, rfl, fun k o h => by simp at h⟩
  | o :: r, i, T, vs0, ds0, x, h, hl => by
    unfold drawPass at h
    have fin : ∀ (v : AV) (d : Delta), drawPass C call rnd ops s B (i + 1) r (putT T o.dst v) (vs0 ++ [v]) (ds0 ++ [d]) = some x →
        ((wantedA ops T o = true → one (opA C call rnd T o (opSt s i (overlay s.H (pre B i) 0 ds0))) = some (v, d)) ∧ (wantedA ops T o = false → v = .undef ∧ d = [])) →
        ∃ vs1 ds1, x.1 = vs0 ++ vs1 ∧ x.2 = ds0 ++ ds1 ∧ vs1.length = (o :: r).length ∧ ds1.length = (o :: r).length ∧ ∀ k q, nth (o :: r) k = some q →
          (wantedA ops (putsT ((o :: r).take k) vs1 T) q = true → ∃ v d, nth vs1 k = some v ∧ nth ds1 k = some d ∧ one (opA C call rnd (putsT ((o :: r).take k) vs1 T) q (opSt s (i + k) (overlay s.H (pre B (i + k)) 0 (ds0 ++ ds1.take k)))) = some (v, d)) ∧
          (wantedA ops (putsT ((o :: r).take k) vs1 T) q = false → nth vs1 k = some .undef ∧ nth ds1 k = some []) := by
      intro v d h' h0
      obtain ⟨vs1, ds1, h1, h2, h3, h4, h5⟩ := pass_spec r (i + 1) _ _ _ x h' (by simp [hl])
      refine ⟨v :: vs1, d :: ds1, by rw [h1]; simp, by rw [h2]; simp, by simp [h3], by simp [h4], ?_⟩
      intro k q hq
      cases k with
      | zero =>
        simp only [nth_zero, Option.some.injEq] at hq; subst hq
        have e : putsT ((o :: r).take 0) (v :: vs1) T = T := by simp [putsT]
        rw [e]
        refine ⟨fun hw => ⟨v, d, by simp, by simp, by simpa using h0.1 hw⟩, fun hw => by simp [h0.2 hw]⟩
      | succ k =>
        rw [nth_succ] at hq
        have e : putsT ((o :: r).take (k + 1)) (v :: vs1) T = putsT (r.take k) vs1 (putT T o.dst v) := by simp [putsT]
        rw [e]
        obtain ⟨g1, g2⟩ := h5 k q hq
        have e2 : i + 1 + k = i + (k + 1) := by omega
        refine ⟨fun hw => ?_, fun hw => by simpa using g2 hw⟩
        obtain ⟨v', d', k1, k2, k3⟩ := g1 hw
        rw [e2] at k3
        exact ⟨v', d', by simpa using k1, by simpa using k2, by simpa using k3⟩
    cases hw : wantedA ops T o with
    | false =>
      rw [hw] at h
      exact fin .undef [] h ⟨fun h => (by rw [hw] at h; cases h), fun _ => ⟨rfl, rfl⟩⟩
    | true =>
      rw [hw] at h
      simp only at h
      cases ho : one (opA C call rnd T o (opSt s i (overlay s.H ((nth B i).getD []) 0 ds0))) with
      | none => rw [ho] at h; cases h
      | some y =>
        rw [ho] at h
        exact fin y.1 y.2 h ⟨fun _ => ho, fun h => (by rw [hw] at h; cases h)⟩
end
end
end Go.Am
namespace Go.Am
open Go
noncomputable section
theorem mem_rivals (B : List (List Nat)) (i : Nat) (b : Nm) : ∀ (ws : List (List Nm)) (k : Nat), b ∈ rivals B i k ws ↔ ∃ j w, nth ws j = some w ∧ b ∈ w ∧ i ≠ k + j ∧ k + j ∉ pre B i ∧ i ∉ pre B (k + j)
  | [], k => by simp [rivals]
  | w :: r, k => by
    have hr := mem_rivals B i b r (k + 1)
    have hstep : (∃ j w', nth (w :: r) j = some w' ∧ b ∈ w' ∧ i ≠ k + j ∧ k + j ∉ pre B i ∧ i ∉ pre B (k + j)) ↔ (b ∈ w ∧ i ≠ k ∧ k ∉ pre B i ∧ i ∉ pre B k) ∨ b ∈ rivals B i (k + 1) r := by
      rw [hr]
      constructor
      · rintro ⟨j, w', h1, h2⟩
        cases j with
        | zero => simp only [nth_zero, Option.some.injEq] at h1; subst h1; exact .inl (by simpa using h2)
        | succ j => rw [nth_succ] at h1; exact .inr ⟨j, w', h1, by rw [show k + 1 + j = k + (j + 1) by omega]; exact h2⟩
      · rintro (h | ⟨j, w', h1, h2⟩)
        · exact ⟨0, w, by simp, by simpa using h⟩
        · exact ⟨j + 1, w', by rw [nth_succ]; exact h1, by rw [show k + 1 + j = k + (j + 1) by omega] at h2; exact h2⟩
    rw [hstep]
    cases w with
    | nil => rw [show rivals B i k ([] :: r) = rivals B i (k + 1) r from rfl]; simp
    | cons c cs =>
      rw [show rivals B i k ((c :: cs) :: r) = (match Nat.beq i k, memN k ((nth B i).getD []), memN i ((nth B k).getD []) with | false, false, false => (c :: cs) | _, _, _ => []) ++ rivals B i (k + 1) r from rfl]
      rw [List.mem_append]
      refine or_congr ?_ Iff.rfl
      cases h1 : Nat.beq i k with
      | true => have := Nat.eq_of_beq_eq_true h1; subst this; simp
      | false =>
        have hne : i ≠ k := fun e => by subst e; rw [Nat.beq_refl] at h1; cases h1
        cases h2 : memN k ((nth B i).getD []) with
        | true => have := (memN_iff _ _).1 h2; simp [pre, this]
        | false =>
          have h2' : k ∉ pre B i := fun h => Bool.noConfusion (h2.symm.trans ((memN_iff _ _).2 h))
          cases h3 : memN i ((nth B k).getD []) with
          | true => have := (memN_iff _ _).1 h3; simp [pre, this]
          | false =>
            have h3' : i ∉ pre B k := fun h => Bool.noConfusion (h3.symm.trans ((memN_iff _ _).2 h))
            simp [hne, h2', h3']
section
variable {C : Cfg} {call : FuncId → List AV → M AV} {rnd : Nm → List AV → M AV}
theorem check_spec {ops : List Oper} {s : St} {B : List (List Nat)} {ds : List Delta} {ws : List (List Nm)} : ∀ (l : List Oper) (vs : List AV) (T : List AV) (i : Nat), drawCheck C call rnd ops s B ds ws T i l vs = true →
    ∀ k o, nth l k = some o → wantedA ops (putsT (l.take k) vs T) o = true → rivals B (i + k) 0 ws = [] ∨ isRet (opA C call rnd (putsT (l.take k) vs T) o (opSt s (i + k) (hide (overlay s.H (pre B (i + k)) 0 ds) (rivals B (i + k) 0 ws)))) = true
  | [], vs, T, i, h, k, o, ho, hw => by simp at ho
  | a :: r, [], T, i, h, k, o, ho, hw => by cases h
  | a :: r, v :: vs, T, i, h, k, o, ho, hw => by
    unfold drawCheck at h
    have next : ∀ (h' : drawCheck C call rnd ops s B ds ws (putT T a.dst v) (i + 1) r vs = true) k', k = k' + 1 → rivals B (i + k) 0 ws = [] ∨ isRet (opA C call rnd (putsT ((a :: r).take k) (v :: vs) T) o (opSt s (i + k) (hide (overlay s.H (pre B (i + k)) 0 ds) (rivals B (i + k) 0 ws)))) = true := by
      rintro h' k' rfl
      rw [nth_succ] at ho
      have e : putsT ((a :: r).take (k' + 1)) (v :: vs) T = putsT (r.take k') vs (putT T a.dst v) := by simp [putsT]
      rw [e] at hw ⊢
      have := check_spec r vs _ (i + 1) h' k' o ho hw
      rw [show i + 1 + k' = i + (k' + 1) by omega] at this
      exact this
    cases hv : rivals B i 0 ws with
    | nil =>
      rw [hv] at h
      cases k with
      | zero => exact .inl hv
      | succ k => exact next h k rfl
    | cons b bs =>
      rw [hv] at h; simp only at h
      cases hwa : wantedA ops T a with
      | false =>
        rw [hwa] at h
        cases k with
        | zero =>
          simp only [nth_zero, Option.some.injEq] at ho; subst ho
          have e : putsT ((a :: r).take 0) (v :: vs) T = T := by simp [putsT]
          rw [e, hwa] at hw; cases hw
        | succ k => exact next h k rfl
      | true =>
        rw [hwa] at h; simp only at h
        cases hi : isRet (opA C call rnd T a (opSt s i (hide (overlay s.H ((nth B i).getD []) 0 ds) (b :: bs)))) with
        | false => rw [hi] at h; cases h
        | true =>
          rw [hi] at h
          cases k with
          | zero =>
            simp only [nth_zero, Option.some.injEq] at ho; subst ho
            have e : putsT ((a :: r).take 0) (v :: vs) T = T := by simp [putsT]
            rw [e]
            refine .inr ?_
            rw [Nat.add_zero, hv]; exact hi
          | succ k => exact next h k rfl
end
end
end Go.Am
namespace Go.Am
open Go
noncomputable section

/-- Of each operation: its value, its journal; and the heap, less what its rivals write, on which it yields them. -/
structure Run (C : Cfg) (call : FuncId → List AV → M AV) (rnd : Nm → List AV → M AV) (ops : List Oper) (B : List (List Nat)) (s : St) (T : List AV) (vs : List AV) (ds : List Delta) : Prop where
  vlen : vs.length = ops.length
  dlen : ds.length = ops.length
  go : ∀ i o, nth ops i = some o → wantedA ops (TP (fun j => decide (j < i)) 0 ops vs T) o = true →
    ∃ v d, nth vs i = some v ∧ nth ds i = some d ∧ one (opA C call rnd (TP (fun j => decide (j < i)) 0 ops vs T) o (opSt s i (hide (overlay s.H (pre B i) 0 ds) (rivals B i 0 (olds s 0 ds))))) = some (v, d)
  no : ∀ i o, nth ops i = some o → wantedA ops (TP (fun j => decide (j < i)) 0 ops vs T) o = false → nth vs i = some .undef ∧ nth ds i = some []
theorem mg_append (p : Nat → Bool) (b : Nm) : ∀ (ds ds' : List Delta) (k : Nat) (h : Option Blk), mg p b k (ds ++ ds') h = mg p b (k + ds.length) ds' (mg p b k ds h)
  | [], ds', k, h => by simp [mg]
  | d :: r, ds', k, h => by
    show mg p b (k + 1) (r ++ ds') _ = _
    rw [mg_append p b r ds' (k + 1), show k + 1 + r.length = k + (d :: r).length by simp; omega]
    rfl
theorem mg_off (p : Nat → Bool) (b : Nm) : ∀ (ds : List Delta) (k : Nat) (h : Option Blk), (∀ i, k ≤ i → p i = false) → mg p b k ds h = h
  | [], k, h, _ => rfl
  | d :: r, k, h, hp => by
    unfold mg
    rw [hp k (Nat.le_refl _)]
    exact mg_off p b r (k + 1) h fun i hi => hp i (by omega)
theorem allNil_spec {α : Type} : ∀ {l : List (List α)}, allNil l = true → ∀ w ∈ l, w = []
  | [], _, w, h => by cases h
  | x :: r, hn, w, h => by
    cases x with
    | cons a b => cases hn
    | nil =>
      rcases List.mem_cons.1 h with rfl | h
      · rfl
      · exact allNil_spec (l := r) hn w h
section
variable {C : Cfg} {call : FuncId → List AV → M AV} {rnd : Nm → List AV → M AV}
theorem isRet_one (hc : ∀ f args, Nice (call f args)) (hr : ∀ l args, Nice (rnd l args)) {t t' : Tr (AV × St)} (hs : TrSub t t') (h : isRet t = true) {x : AV × Delta} (hx : one t' = some x) : one t = some x := by
  cases t with
  | ret y =>
    obtain ⟨s', rfl, hsub⟩ := TrSub.ret_inv (a := y.1) (s := y.2) hs
    simp only [one, Option.some.injEq] at hx ⊢
    rw [← hx, hsub.j]
  | fail => cases h
  | ask _ _ => cases h
theorem run_of_draw (hc : ∀ f args, Nice (call f args)) (hr : ∀ l args, Nice (rnd l args)) {ops : List Oper} (hreg : RegOk ops (predsAll [] ops)) {s : St} {T : List AV} {R : List AV × St → Prop} (h : (drawA C call rnd ops T s).All R) :
    ∃ vs ds, Run C call rnd ops (predsAll [] ops) s T vs ds ∧ R (TP (fun _ => true) 0 ops vs T, drawEnd s (allD ds)) := by
  unfold drawA at h
  cases hp : drawPass C call rnd ops s (predsAll [] ops) 0 ops T [] [] with
  | none => rw [hp] at h; exact h.elim
  | some x =>
    rw [hp] at h; simp only at h
    obtain ⟨vs, ds, h1, h2, h3, h4, h5⟩ := pass_spec ops 0 T [] [] x hp rfl
    simp only [List.nil_append, Nat.zero_add] at h1 h2 h5
    rw [h1, h2] at h
    have htp : ∀ k, putsT (ops.take k) vs T = TP (fun j => decide (j < k)) 0 ops vs T := fun k => by rw [putsT_take ops k 0]; simp
    have hov : ∀ i o, nth ops i = some o → ∀ b, hget (overlay s.H (pre (predsAll [] ops) i) 0 (ds.take i)) b = hget (overlay s.H (pre (predsAll [] ops) i) 0 ds) b := by
      intro i o ho b
      rw [hget_overlay s.H, hget_overlay s.H]
      have e := mg_append (fun j => memN j (pre (predsAll [] ops) i)) b (ds.take i) (ds.drop i) 0 (hget s.H b)
      rw [List.take_append_drop] at e
      rw [e]
      refine (mg_off _ b _ _ _ fun j hj => ?_).symm
      have hi : i ≤ ds.length := by have := nth_lt ho; omega
      rw [List.length_take, Nat.min_eq_left hi] at hj
      cases hm : memN j (pre (predsAll [] ops) i) with
      | false => rfl
      | true => have := (hreg.back i o ho j ((memN_iff _ _).1 hm)).1; omega
    have key : (∀ i o, nth ops i = some o → wantedA ops (putsT (ops.take i) vs T) o = true → rivals (predsAll [] ops) i 0 (olds s 0 ds) = [] ∨ isRet (opA C call rnd (putsT (ops.take i) vs T) o (opSt s i (hide (overlay s.H (pre (predsAll [] ops) i) 0 ds) (rivals (predsAll [] ops) i 0 (olds s 0 ds))))) = true) → Run C call rnd ops (predsAll [] ops) s T vs ds := by
      intro hk
      refine ⟨h3, h4, ?_, ?_⟩
      · intro i o ho hw
        rw [← htp] at hw ⊢
        obtain ⟨v, d, g1, g2, g3⟩ := (h5 i o ho).1 hw
        refine ⟨v, d, g1, g2, ?_⟩
        have hsub : TrSub (opA C call rnd (putsT (ops.take i) vs T) o (opSt s i (overlay s.H (pre (predsAll [] ops) i) 0 (ds.take i)))) (opA C call rnd (putsT (ops.take i) vs T) o (opSt s i (overlay s.H (pre (predsAll [] ops) i) 0 ds))) :=
          (Nice.opA hc hr _ o).mono _ _ (opSt_sub (Sub.refl s) i fun b x hx => by rw [← hov i o ho b]; exact hx)
        have g4 := TrSub.one hsub g3
        rcases hk i o ho hw with hn | hret
        · rw [hn]; exact g4
        · have hsub2 : TrSub (opA C call rnd (putsT (ops.take i) vs T) o (opSt s i (hide (overlay s.H (pre (predsAll [] ops) i) 0 ds) (rivals (predsAll [] ops) i 0 (olds s 0 ds))))) (opA C call rnd (putsT (ops.take i) vs T) o (opSt s i (overlay s.H (pre (predsAll [] ops) i) 0 ds))) :=
            (Nice.opA hc hr _ o).mono _ _ (opSt_sub (Sub.refl s) i fun b x hx => by rw [hget_hide] at hx; by_cases hb : b ∈ rivals (predsAll [] ops) i 0 (olds s 0 ds) <;> simp [hb] at hx; exact hx)
          exact isRet_one hc hr hsub2 hret g4
      · intro i o ho hw
        rw [← htp] at hw
        exact (h5 i o ho).2 hw
    rw [putsT_TP ops 0] at h
    cases hn : allNil (olds s 0 ds) with
    | true =>
      rw [hn] at h
      refine ⟨vs, ds, key fun i o ho hw => .inl ?_, h⟩
      rw [List.eq_nil_iff_forall_not_mem]
      intro b hb
      obtain ⟨j, w, hj, hbw, _⟩ := (mem_rivals _ _ _ _ _).1 hb
      rw [allNil_spec hn w (nth_mem hj)] at hbw; cases hbw
    | false =>
      rw [hn] at h; simp only at h
      cases hck : drawCheck C call rnd ops s (predsAll [] ops) ds (olds s 0 ds) T 0 ops vs with
      | false => rw [hck] at h; exact h.elim
      | true =>
        rw [hck] at h
        refine ⟨vs, ds, key fun i o ho hw => ?_, h⟩
        have := check_spec ops vs T 0 hck i o ho hw
        simpa using this
end
end
end Go.Am
namespace Go.Am
open Go
noncomputable section
/-- Of operation i's own names. -/
def OwnI (s : St) (i : Nat) (b : Nm) : Prop := ∃ r, b = s.pre ++ s.n :: i :: r
theorem OwnI.inj {s : St} {i k : Nat} {b : Nm} (h : OwnI s i b) (h' : OwnI s k b) : i = k := by
  obtain ⟨r, h⟩ := h; obtain ⟨q, h'⟩ := h'
  rw [h] at h'
  have := (append_cons_inj h').2
  simp at this; exact this.1
def Wr (ds : List Delta) (i : Nat) (b : Nm) : Prop := ∃ d, nth ds i = some d ∧ ∃ e ∈ d, e.1 = b
def hidden (s : St) (B : List (List Nat)) (ds : List Delta) (i : Nat) : Heap := hide (overlay s.H (pre B i) 0 ds) (rivals B i 0 (olds s 0 ds))
/-- Nothing lies under names to come. -/
def Frh (s : St) : Prop := ∀ i b, OwnI s i b → hget s.H b = none
section
variable {C : Cfg} {call : FuncId → List AV → M AV} {rnd : Nm → List AV → M AV} {ops : List Oper} {B : List (List Nat)} {s : St} {T vs : List AV} {ds : List Delta}
theorem Run.ids (hc : ∀ f args, Nice (call f args)) (hr : ∀ l args, Nice (rnd l args)) (h : Run C call rnd ops B s T vs ds) {i : Nat} {b : Nm} (hw : Wr ds i b) : OwnI s i b ∨ ∃ x, hget (hidden s B ds i) b = some x := by
  obtain ⟨d, hd, e, he, rfl⟩ := hw
  obtain ⟨o, ho⟩ := nth_some (show i < ops.length by rw [← h.dlen]; exact nth_lt hd)
  cases hwa : wantedA ops (TP (fun j => decide (j < i)) 0 ops vs T) o with
  | false => have := (h.no i o ho hwa).2; rw [hd] at this; cases this; cases he
  | true =>
    obtain ⟨v, d', g1, g2, g3⟩ := h.go i o ho hwa
    rw [hd] at g2; obtain rfl := Option.some.inj g2
    obtain ⟨t, ht, hj⟩ := one_some g3
    have hjr := (Nice.opA (C := C) hc hr (TP (fun j => decide (j < i)) 0 ops vs T) o).jr (opSt s i (hidden s B ds i))
    unfold hidden at hjr
    rw [ht] at hjr
    obtain ⟨d', d1, _, d3⟩ := JrR.j (hjr : JrR _ t) rfl
    have hd' : d' = d := by rw [← show t.j = d from hj, d1]; exact (List.append_nil d').symm
    rw [← hd'] at he
    rcases d3 e he with ⟨m, q, hb, hm⟩ | ⟨z, hz⟩
    · refine .inl ⟨m :: q, ?_⟩
      rw [hb]; show (s.pre ++ [s.n, i]) ++ m :: q = _; simp
    · exact .inr ⟨z, hz⟩
theorem hidden_some {i : Nat} {b : Nm} {x : Blk} (h : hget (hidden s B ds i) b = some x) : b ∉ rivals B i 0 (olds s 0 ds) ∧ hget (overlay s.H (pre B i) 0 ds) b = some x := by
  unfold hidden at h
  rw [hget_hide] at h
  by_cases hb : b ∈ rivals B i 0 (olds s 0 ds)
  · simp [hb] at h
  · simp only [hb, if_false] at h; exact ⟨hb, h⟩
theorem overlay_some {ps : List Nat} {b : Nm} {x : Blk} (h : hget (overlay s.H ps 0 ds) b = some x) : (∃ j, j ∈ ps ∧ Wr ds j b) ∨ hget s.H b = some x := by
  rw [hget_overlay s.H] at h
  rcases mg_some _ _ _ _ _ _ h with ⟨j, d, h1, h2, h3⟩ | h
  · rw [Nat.zero_add] at h2
    exact .inl ⟨j, (memN_iff _ _).1 h2, d, by rw [nth_eq]; exact h1, h3⟩
  · exact .inr h
/-- F2. -/
theorem Run.own (hc : ∀ f args, Nice (call f args)) (hr : ∀ l args, Nice (rnd l args)) (hreg : RegOk ops B) (hf : Frh s) (h : Run C call rnd ops B s T vs ds) {i : Nat} {b : Nm} (hb : OwnI s i b) : ∀ k, Wr ds k b → k = i ∨ i ∈ pre B k := by
  intro k
  induction k using Nat.strongRecOn with
  | _ k ih =>
    intro hw
    rcases h.ids hc hr hw with ho | ⟨x, hx⟩
    · exact .inl (ho.inj hb)
    · rcases overlay_some (hidden_some hx).2 with ⟨j, hj, hwj⟩ | hx
      · obtain ⟨d, hd, _⟩ := hw
        obtain ⟨o, ho⟩ := nth_some (show k < ops.length by rw [← h.dlen]; exact nth_lt hd)
        obtain ⟨g1, g2⟩ := hreg.back k o ho j hj
        rcases ih j g1 hwj with rfl | hij
        · exact .inr hj
        · exact .inr (g2 i hij)
      · rw [hf i b hb] at hx; cases hx
end
end
end Go.Am
namespace Go.Am
open Go
noncomputable section
theorem isPre_iff : ∀ (ns b : Nm), isPre ns b = true ↔ ∃ r, b = ns ++ r
  | [], b => by simp [isPre]
  | a :: x, [] => by simp [isPre]
  | a :: x, c :: y => by
    unfold isPre
    cases h : Nat.beq a c with
    | true => have := Nat.eq_of_beq_eq_true h; subst this; simp [isPre_iff x y]
    | false =>
      have hne : a ≠ c := fun e => by subst e; rw [Nat.beq_refl] at h; cases h
      simp [Ne.symm hne]
theorem mem_oldIds (ns b : Nm) : ∀ d : Delta, b ∈ oldIds ns d ↔ (∃ e ∈ d, e.1 = b) ∧ ¬ ∃ r, b = ns ++ r
  | [] => by simp [oldIds]
  | (i, x) :: r => by
    unfold oldIds
    have hp := isPre_iff ns i
    cases h : isPre ns i with
    | true =>
      simp only
      rw [mem_oldIds ns b r]
      have hi := hp.1 h
      constructor
      · rintro ⟨⟨e, h1, h2⟩, h3⟩; exact ⟨⟨e, List.mem_cons_of_mem _ h1, h2⟩, h3⟩
      · rintro ⟨⟨e, h1, h2⟩, h3⟩
        rcases List.mem_cons.1 h1 with rfl | h1
        · exact absurd (h2 ▸ hi) h3
        · exact ⟨⟨e, h1, h2⟩, h3⟩
    | false =>
      simp only
      have hi : ¬ ∃ r, i = ns ++ r := fun hh => by rw [hp.2 hh] at h; cases h
      rw [List.mem_cons, mem_oldIds ns b r]
      constructor
      · rintro (rfl | ⟨⟨e, h1, h2⟩, h3⟩)
        · exact ⟨⟨(b, x), List.mem_cons_self, rfl⟩, hi⟩
        · exact ⟨⟨e, List.mem_cons_of_mem _ h1, h2⟩, h3⟩
      · rintro ⟨⟨e, h1, h2⟩, h3⟩
        rcases List.mem_cons.1 h1 with rfl | h1
        · exact .inl h2.symm
        · exact .inr ⟨⟨e, h1, h2⟩, h3⟩
theorem nth_olds (s : St) : ∀ (ds : List Delta) (i k : Nat), nth (olds s i ds) k = (nth ds k).map (oldIds (s.pre ++ [s.n, i + k]))
  | [], i, k => by simp [olds]
  | d :: r, i, 0 => by simp [olds]
  | d :: r, i, k + 1 => by unfold olds; rw [nth_succ, nth_succ, nth_olds s r (i + 1) k, show i + 1 + k = i + (k + 1) by omega]
theorem mem_riv {s : St} {B : List (List Nat)} {ds : List Delta} {i : Nat} {b : Nm} : b ∈ rivals B i 0 (olds s 0 ds) ↔ ∃ k, Wr ds k b ∧ ¬ OwnI s k b ∧ i ≠ k ∧ k ∉ pre B i ∧ i ∉ pre B k := by
  rw [mem_rivals]
  have hown : ∀ k, (∃ r, b = (s.pre ++ [s.n, k]) ++ r) ↔ OwnI s k b := fun k => by
    unfold OwnI; simp
  constructor
  · rintro ⟨k, w, h1, h2, h3⟩
    rw [Nat.zero_add] at h3
    rw [nth_olds, Nat.zero_add] at h1
    cases hd : nth ds k with
    | none => rw [hd] at h1; cases h1
    | some d =>
      rw [hd] at h1; simp only [Option.map_some, Option.some.injEq] at h1; subst h1
      obtain ⟨g1, g2⟩ := (mem_oldIds _ _ _).1 h2
      exact ⟨k, ⟨d, hd, g1⟩, fun ho => g2 ((hown k).2 ho), h3⟩
  · rintro ⟨k, ⟨d, hd, g1⟩, g2, h3⟩
    refine ⟨k, oldIds (s.pre ++ [s.n, k]) d, by rw [nth_olds, hd, Nat.zero_add]; rfl, (mem_oldIds _ _ _).2 ⟨g1, fun ho => g2 ((hown k).1 ho)⟩, by rw [Nat.zero_add]; exact h3⟩
end
end Go.Am
namespace Go.Am
open Go
noncomputable section
section
variable {C : Cfg} {call : FuncId → List AV → M AV} {rnd : Nm → List AV → M AV} {ops : List Oper} {B : List (List Nat)} {s : St} {T vs : List AV} {ds : List Delta}
/-- F3. -/
theorem Run.ord (hc : ∀ f args, Nice (call f args)) (hr : ∀ l args, Nice (rnd l args)) (hreg : RegOk ops B) (hf : Frh s) (h : Run C call rnd ops B s T vs ds) {i k : Nat} {b : Nm} (hi : Wr ds i b) (hk : Wr ds k b) (hne : i ≠ k) : k ∈ pre B i ∨ i ∈ pre B k := by
  by_cases h1 : k ∈ pre B i
  · exact .inl h1
  · by_cases h2 : i ∈ pre B k
    · exact .inr h2
    · exfalso
      by_cases ho : OwnI s k b
      · rcases h.own hc hr hreg hf ho i hi with e | e
        · exact hne e
        · exact h1 e
      · have hriv : b ∈ rivals B i 0 (olds s 0 ds) := mem_riv.2 ⟨k, hk, ho, hne, h1, h2⟩
        rcases h.ids hc hr hi with ho | ⟨x, hx⟩
        · rcases h.own hc hr hreg hf ho k hk with e | e
          · exact hne e.symm
          · exact h2 e
        · exact (hidden_some hx).1 hriv
/-- F4: who of a closed set writes what operation i may see is a forerunner of i. -/
theorem Run.seen (hc : ∀ f args, Nice (call f args)) (hr : ∀ l args, Nice (rnd l args)) (hreg : RegOk ops B) (hf : Frh s) (h : Run C call rnd ops B s T vs ds) {i k : Nat} {b : Nm} {x : Blk} (hin : i < ops.length) (hx : hget (hidden s B ds i) b = some x) (hk : Wr ds k b) (hne : i ≠ k) (hik : i ∉ pre B k) : k ∈ pre B i := by
  by_cases h1 : k ∈ pre B i
  · exact h1
  · exfalso
    obtain ⟨hnr, hov⟩ := hidden_some hx
    by_cases ho : OwnI s k b
    · rcases overlay_some hov with ⟨j, hj, hwj⟩ | hs
      · rcases h.own hc hr hreg hf ho j hwj with rfl | e
        · exact h1 hj
        · obtain ⟨o, hoo⟩ := nth_some hin
          exact h1 ((hreg.back i o hoo j hj).2 k e)
      · rw [hf k b ho] at hs; cases hs
    · exact hnr (mem_riv.2 ⟨k, hk, ho, hne, h1, hik⟩)
end
end
end Go.Am
namespace Go.Am
open Go
noncomputable section
theorem lkD_none {d : Delta} {b : Nm} (h : ¬ ∃ e ∈ d, e.1 = b) : lkD d b = none := by
  cases hl : lkD d b with
  | none => rfl
  | some y => exact absurd (lkD_mem hl) h
theorem mg_agree {p q : Nat → Bool} {b : Nm} : ∀ (ds : List Delta) (k : Nat) (h : Option Blk), (∀ j d, nth ds j = some d → (∃ e ∈ d, e.1 = b) → p (k + j) = q (k + j)) → mg p b k ds h = mg q b k ds h
  | [], k, h, _ => rfl
  | d :: r, k, h, ha => by
    unfold mg
    have h1 : (if p k = true then (lkD d b).getD h else h) = (if q k = true then (lkD d b).getD h else h) := by
      by_cases hw : ∃ e ∈ d, e.1 = b
      · have := ha 0 d (by simp) hw; rw [Nat.add_zero] at this; rw [this]
      · rw [lkD_none hw]; by_cases hp : p k = true <;> by_cases hq : q k = true <;> simp [hp, hq]
    rw [h1]
    refine mg_agree r (k + 1) _ fun j d' hj hw => ?_
    have := ha (j + 1) d' (by rw [nth_succ]; exact hj) hw
    rw [show k + 1 + j = k + (j + 1) by omega]; exact this
section
variable {C : Cfg} {call : FuncId → List AV → M AV} {rnd : Nm → List AV → M AV} {ops : List Oper} {B : List (List Nat)} {s : St} {T vs : List AV} {ds : List Delta}
/-- A set of operations with their forerunners. -/
def Closed (ops : List Oper) (B : List (List Nat)) (S : Nat → Bool) : Prop := ∀ i, i < ops.length → S i = true → ∀ j ∈ pre B i, S j = true
theorem Run.sub (hc : ∀ f args, Nice (call f args)) (hr : ∀ l args, Nice (rnd l args)) (hreg : RegOk ops B) (hf : Frh s) (h : Run C call rnd ops B s T vs ds) {S : Nat → Bool} (hS : Closed ops B S) {i : Nat} (hin : i < ops.length) (hi : S i = false) (hp : ∀ j ∈ pre B i, S j = true) {b : Nm} {x : Blk} (hx : hget (hidden s B ds i) b = some x) :
    mg S b 0 ds (hget s.H b) = some x := by
  have hov := (hidden_some hx).2
  rw [hget_overlay s.H] at hov
  rw [← hov]
  refine mg_agree ds 0 _ fun k d hk hw => ?_
  rw [Nat.zero_add]
  have hkw : Wr ds k b := ⟨d, hk, hw⟩
  have hkl : k < ops.length := by rw [← h.dlen]; exact nth_lt hk
  cases hSk : S k with
  | true =>
    have hne : i ≠ k := fun e => by subst e; rw [hi] at hSk; cases hSk
    have := h.seen hc hr hreg hf hin hx hkw hne (fun hik => by have := hS k hkl hSk i hik; rw [hi] at this; cases this)
    exact ((memN_iff _ _).2 this).symm
  | false =>
    cases hm : memN k (pre B i) with
    | false => rfl
    | true => have := hp k ((memN_iff _ _).1 hm); rw [hSk] at this; cases this
/-- F5. -/
theorem Run.step (hc : ∀ f args, Nice (call f args)) (hr : ∀ l args, Nice (rnd l args)) (hreg : RegOk ops B) (hf : Frh s) (h : Run C call rnd ops B s T vs ds) {S S' : Nat → Bool} (hS : Closed ops B S) {i : Nat} (hin : i < ops.length) (hi : S i = false) (hi' : S' i = true) (hs : ∀ k, k ≠ i → S' k = S k) {d : Delta} (hd : nth ds i = some d) (b : Nm) :
    mg S' b 0 ds (hget s.H b) = (lkD d b).getD (mg S b 0 ds (hget s.H b)) := by
  by_cases hw : ∃ e ∈ d, e.1 = b
  · obtain ⟨e, he, heb⟩ := hw
    obtain ⟨y, hy⟩ := mem_lkD he
    rw [heb] at hy
    rw [hy]
    have hlt : i < ds.length := nth_lt hd
    have hsplit : ds = ds.take i ++ (d :: ds.drop (i + 1)) := by
      rw [nth_eq] at hd
      obtain ⟨hlt, hd⟩ := List.getElem?_eq_some_iff.1 hd
      rw [← hd, ← List.drop_eq_getElem_cons hlt, List.take_append_drop]
    have h2 := mg_append S' b (ds.take i) (d :: ds.drop (i + 1)) 0 (hget s.H b)
    rw [← hsplit] at h2
    rw [h2]
    have hl : 0 + (ds.take i).length = i := by simp; omega
    rw [hl]
    unfold mg
    rw [hi', if_pos rfl, hy]
    simp only [Option.getD_some]
    have : mg S' b (i + 1) (ds.drop (i + 1)) y = mg (fun _ => false) b (i + 1) (ds.drop (i + 1)) y := by
      refine mg_agree _ _ _ fun j d' hj hw' => ?_
      have hj' : nth ds (i + 1 + j) = some d' := by rw [nth_eq, List.getElem?_drop] at hj; rw [nth_eq]; exact hj
      cases hSk : S' (i + 1 + j) with
      | false => rfl
      | true =>
        exfalso
        have hne : i ≠ i + 1 + j := by omega
        rw [hs _ (Ne.symm hne)] at hSk
        have hkl : i + 1 + j < ops.length := by rw [← h.dlen]; exact nth_lt hj'
        obtain ⟨o, ho⟩ := nth_some hin
        rcases h.ord hc hr hreg hf (i := i) (k := i + 1 + j) (b := b) ⟨d, hd, e, he, heb⟩ ⟨d', hj', hw'⟩ hne with g | g
        · have := (hreg.back i o ho _ g).1; omega
        · have := hS _ hkl hSk i g; rw [hi] at this; cases this
    rw [this, mg_off _ _ _ _ _ fun _ _ => rfl]
  · rw [lkD_none hw]
    simp only [Option.getD_none]
    refine mg_agree ds 0 _ fun k d' hk hw' => ?_
    rw [Nat.zero_add]
    by_cases e : k = i
    · subst e; rw [hd] at hk; cases hk; exact absurd hw' hw
    · exact hs k e
theorem Run.all (h : Run C call rnd ops B s T vs ds) {S : Nat → Bool} (hS : ∀ i, i < ops.length → S i = true) (b : Nm) : mg S b 0 ds (hget s.H b) = hget (redoH s.H (allD ds)) b := by
  rw [hget_allD b ds 0]
  refine mg_agree ds 0 _ fun k d hk _ => ?_
  rw [Nat.zero_add]; exact hS k (by rw [← h.dlen]; exact nth_lt hk)
end
end
end Go.Am
namespace Go.Am
open Go
noncomputable section
theorem subN_spec : ∀ (a b : List Nat), subN a b = true → ∀ n ∈ a, n ∈ b
  | [], b, _, n, h => by simp at h
  | m :: r, b, h, n, hn => by
    unfold subN at h
    cases hm : memN m b with
    | false => rw [hm] at h; cases h
    | true =>
      rw [hm] at h
      rcases List.mem_cons.1 hn with rfl | hn
      · exact (memN_iff _ _).1 hm
      · exact subN_spec r b h n hn
theorem ordAll_spec {B : List (List Nat)} {k : Nat} : ∀ n, ordAll B k n = true → ∀ i, i < n → i = k ∨ i ∈ pre B k ∨ k ∈ pre B i
  | 0, _, i, hi => by omega
  | n + 1, h, i, hi => by
    unfold ordAll at h
    have key : ordAll B k n = true → i < n → i = k ∨ i ∈ pre B k ∨ k ∈ pre B i := fun h1 h2 => ordAll_spec n h1 i h2
    cases h1 : Nat.beq n k with
    | true =>
      rw [h1] at h
      have := Nat.eq_of_beq_eq_true h1
      by_cases e : i = n
      · exact .inl (e.trans this)
      · exact key h (by omega)
    | false =>
      cases h2 : memN n ((nth B k).getD []) with
      | true =>
        rw [h1, h2] at h
        by_cases e : i = n
        · subst e; exact .inr (.inl ((memN_iff _ _).1 h2))
        · exact key h (by omega)
      | false =>
        cases h3 : memN k ((nth B n).getD []) with
        | true =>
          rw [h1, h2, h3] at h
          by_cases e : i = n
          · subst e; exact .inr (.inr ((memN_iff _ _).1 h3))
          · exact key h (by omega)
        | false => rw [h1, h2, h3] at h; cases h
theorem ordEach_spec {B : List (List Nat)} {n : Nat} : ∀ W, ordEach B n W = true → ∀ k ∈ W, ∀ i, i < n → i = k ∨ i ∈ pre B k ∨ k ∈ pre B i
  | [], _, k, h => by simp at h
  | m :: r, h, k, hk => by
    unfold ordEach at h
    cases h1 : ordAll B m n with
    | false => rw [h1] at h; cases h
    | true =>
      rw [h1] at h
      rcases List.mem_cons.1 hk with rfl | hk
      · exact ordAll_spec n h1
      · exact ordEach_spec r h k hk
theorem allD_snoc : ∀ (ds : List Delta) (d : Delta), allD (ds ++ [d]) = d ++ allD ds
  | [], d => by simp [allD]
  | e :: r, d => by simp only [List.cons_append, allD, allD_snoc r d, List.append_assoc]
theorem allD_nil (ds : List Delta) : allD (ds ++ [[]]) = allD ds := by rw [allD_snoc]; rfl
theorem putsT_snoc : ∀ (l : List Oper) (vs : List AV) (T : List AV) (o : Oper) (v : AV), vs.length = l.length → putsT (l ++ [o]) (vs ++ [v]) T = putT (putsT l vs T) o.dst v
  | [], [], T, o, v, _ => by simp [putsT]
  | a :: l, u :: vs, T, o, v, h => by simp only [List.cons_append, putsT]; exact putsT_snoc l vs _ o v (by simpa using h)
  | [], u :: vs, T, o, v, h => by simp at h
  | a :: l, [], T, o, v, h => by simp at h
section
variable {C : Cfg} {call : FuncId → List AV → M AV} {rnd : Nm → List AV → M AV}
theorem one_congr (hc : ∀ f args, Nice (call f args)) (hr : ∀ l args, Nice (rnd l args)) {T : List AV} {o : Oper} {s : St} {i : Nat} {H H' : Heap} (h : ∀ b, hget H b = hget H' b) {x : AV × Delta} (hx : one (opA C call rnd T o (opSt s i H)) = some x) : one (opA C call rnd T o (opSt s i H')) = some x :=
  TrSub.one ((Nice.opA hc hr T o).mono _ _ (opSt_sub (Sub.refl s) i fun b y hy => by rw [← h b]; exact hy)) hx
/-- What the quick pass finds the other one finds. -/
theorem fp_spec (hc : ∀ f args, Nice (call f args)) (hr : ∀ l args, Nice (rnd l args)) {ops : List Oper} {s : St} {B : List (List Nat)} : ∀ (l : List Oper) (i : Nat) (T : List AV) (Hc : Heap) (nz : List Nat) (D : Delta) (W : List Nat) (x : List AV × Delta × List Nat) (done : List Oper) (vs : List AV) (ds : List Delta) (T0 : List AV),
    drawFP C call rnd ops s B i l T Hc nz D W = some x → done.length = i → vs.length = i → ds.length = i → T = putsT done vs T0 → D = allD ds → (∀ b, hget Hc b = hget (redoH s.H (allD ds)) b) → (∀ k d, nth ds k = some d → d ≠ [] → k ∈ nz) →
    (∀ k d, nth ds k = some d → oldIds (s.pre ++ [s.n, k]) d ≠ [] → k ∈ W) →
    ∃ vs' ds', drawPass C call rnd ops s B i l T vs ds = some (vs', ds') ∧ vs'.length = i + l.length ∧ ds'.length = i + l.length ∧ x.1 = putsT (done ++ l) vs' T0 ∧ x.2.1 = allD ds' ∧ (∀ k d, nth ds' k = some d → oldIds (s.pre ++ [s.n, k]) d ≠ [] → k ∈ x.2.2)
  | [], i, T, Hc, nz, D, W, x, done, vs, ds, T0, h, h1, h2, h3, hT, hD, hH, hnz, hW => by
    simp only [drawFP, Option.some.injEq] at h; subst h
    exact ⟨vs, ds, rfl, by simpa using h2, by simpa using h3, by simpa using hT, hD, hW⟩
  | o :: r, i, T, Hc, nz, D, W, x, done, vs, ds, T0, h, h1, h2, h3, hT, hD, hH, hnz, hW => by
    unfold drawFP at h
    unfold drawPass
    have snoc : ∀ (v : AV) (d : Delta) (k : Nat) (e : Delta), nth (ds ++ [d]) k = some e → (nth ds k = some e) ∨ (k = i ∧ e = d) := by
      intro v d k e he
      rw [nth_eq] at he ⊢
      by_cases hk : k < ds.length
      · rw [List.getElem?_append_left hk] at he; exact .inl he
      · rw [List.getElem?_append_right (by omega)] at he
        have hk2 : k - ds.length = 0 := by
          rcases Nat.eq_zero_or_pos (k - ds.length) with h0 | h0
          · exact h0
          · rw [List.getElem?_eq_none (by simp; omega)] at he; cases he
        rw [hk2] at he; simp at he
        exact .inr ⟨by omega, he.symm⟩
    cases hw : wantedA ops T o with
    | false =>
      rw [hw] at h
      obtain ⟨vs', ds', g1, g2, g3, g4, g5, g6⟩ := fp_spec hc hr r (i + 1) _ Hc nz D W x (done ++ [o]) (vs ++ [.undef]) (ds ++ [[]]) T0 h (by simp [h1]) (by simp [h2]) (by simp [h3]) (by rw [hT, putsT_snoc _ _ _ _ _ (by omega)]) (by rw [allD_nil]; exact hD) (by rw [allD_nil]; exact hH)
        (fun k d hk hd => by
          rcases snoc .undef [] k d hk with hk | ⟨_, rfl⟩
          · exact hnz k d hk hd
          · exact absurd rfl hd)
        (fun k d hk hd => by
          rcases snoc .undef [] k d hk with hk | ⟨_, rfl⟩
          · exact hW k d hk hd
          · exact absurd rfl hd)
      exact ⟨vs', ds', g1, by rw [g2]; simp; omega, by rw [g3]; simp; omega, by rw [g4]; simp, g5, g6⟩
    | true =>
      rw [hw] at h; simp only at h ⊢
      cases hs : subN nz ((nth B i).getD []) with
      | false => rw [hs] at h; cases h
      | true =>
        rw [hs] at h; simp only at h
        cases ho : one (opA C call rnd T o (opSt s i Hc)) with
        | none => rw [ho] at h; cases h
        | some y =>
          rw [ho] at h; simp only at h
          have hov : ∀ b, hget Hc b = hget (overlay s.H ((nth B i).getD []) 0 ds) b := by
            intro b
            rw [hH b, hget_overlay s.H, hget_allD b ds 0]
            refine mg_agree ds 0 _ fun k d hk hwr => ?_
            rw [Nat.zero_add]
            have hne : d ≠ [] := fun e => by subst e; obtain ⟨e, he, _⟩ := hwr; simp at he
            exact ((memN_iff _ _).2 (subN_spec _ _ hs k (hnz k d hk hne))).symm
          rw [one_congr hc hr hov ho]
          simp only
          obtain ⟨v, d⟩ := y
          have hT' : putT T o.dst v = putsT (done ++ [o]) (vs ++ [v]) T0 := by rw [hT, putsT_snoc _ _ _ _ _ (by omega)]
          cases d with
          | nil =>
            simp only at h ⊢
            obtain ⟨vs', ds', g1, g2, g3, g4, g5, g6⟩ := fp_spec hc hr r (i + 1) _ Hc nz D W x (done ++ [o]) (vs ++ [v]) (ds ++ [[]]) T0 h (by simp [h1]) (by simp [h2]) (by simp [h3]) hT' (by rw [allD_nil]; exact hD) (by rw [allD_nil]; exact hH)
              (fun k d hk hd => by
                rcases snoc .undef [] k d hk with hk | ⟨_, rfl⟩
                · exact hnz k d hk hd
                · exact absurd rfl hd)
              (fun k d hk hd => by
                rcases snoc .undef [] k d hk with hk | ⟨_, rfl⟩
                · exact hW k d hk hd
                · exact absurd rfl hd)
            exact ⟨vs', ds', g1, by rw [g2]; simp; omega, by rw [g3]; simp; omega, by rw [g4]; simp, g5, g6⟩
          | cons e d =>
            simp only at h ⊢
            have fin : ∀ W', drawFP C call rnd ops s B (i + 1) r (putT T o.dst v) (redoH Hc (e :: d)) (i :: nz) ((e :: d) ++ D) W' = some x → (∀ k ∈ W, k ∈ W') → (oldIds (s.pre ++ [s.n, i]) (e :: d) ≠ [] → i ∈ W') →
                ∃ vs' ds', drawPass C call rnd ops s B (i + 1) r (putT T o.dst v) (vs ++ [v]) (ds ++ [e :: d]) = some (vs', ds') ∧ vs'.length = i + (o :: r).length ∧ ds'.length = i + (o :: r).length ∧ x.1 = putsT (done ++ o :: r) vs' T0 ∧ x.2.1 = allD ds' ∧ (∀ k d, nth ds' k = some d → oldIds (s.pre ++ [s.n, k]) d ≠ [] → k ∈ x.2.2) := by
              intro W' h' hW1 hW2
              obtain ⟨vs', ds', g1, g2, g3, g4, g5, g6⟩ := fp_spec hc hr r (i + 1) _ _ _ _ W' x (done ++ [o]) (vs ++ [v]) (ds ++ [e :: d]) T0 h' (by simp [h1]) (by simp [h2]) (by simp [h3]) hT' (by rw [allD_snoc, hD]) (fun b => by rw [allD_snoc, hget_redoH, hH b, hget_redoH, hget_redoH, lkD_append]; cases lkD (e :: d) b <;> rfl)
                (fun k d' hk hd => by
                  rcases snoc v (e :: d) k d' hk with hk | ⟨rfl, _⟩
                  · exact List.mem_cons_of_mem _ (hnz k d' hk hd)
                  · exact List.mem_cons_self)
                (fun k d' hk hd => by
                  rcases snoc v (e :: d) k d' hk with hk | ⟨rfl, rfl⟩
                  · exact hW1 k (hW k d' hk hd)
                  · exact hW2 hd)
              exact ⟨vs', ds', g1, by rw [g2]; simp; omega, by rw [g3]; simp; omega, by rw [g4]; simp, g5, g6⟩
            cases hol : oldIds (s.pre ++ [s.n, i]) (e :: d) with
            | nil => rw [hol] at h; exact fin W h (fun k hk => hk) (fun hne => absurd hol hne)
            | cons a b => rw [hol] at h; exact fin (i :: W) h (fun k hk => List.mem_cons_of_mem _ hk) (fun _ => List.mem_cons_self)
theorem check_quiet {ops : List Oper} {s : St} {B : List (List Nat)} {ds : List Delta} {ws : List (List Nm)} : ∀ (l : List Oper) (vs : List AV) (T : List AV) (i : Nat), vs.length = l.length → (∀ k, k < i + l.length → rivals B k 0 ws = []) → drawCheck C call rnd ops s B ds ws T i l vs = true
  | [], [], T, i, _, _ => rfl
  | [], _ :: _, T, i, h, _ => by simp at h
  | _ :: _, [], T, i, h, _ => by simp at h
  | o :: r, v :: vs, T, i, h, hq => by
    unfold drawCheck
    rw [hq i (by simp)]
    exact check_quiet r vs _ (i + 1) (by simpa using h) fun k hk => hq k (by simp at hk ⊢; omega)
theorem drawF_eq (hc : ∀ f args, Nice (call f args)) (hr : ∀ l args, Nice (rnd l args)) (ops : List Oper) (T : List AV) : drawF C call rnd ops T = drawA C call rnd ops T := by
  funext s
  unfold drawF
  cases hp : drawFP C call rnd ops s (predsAll [] ops) 0 ops T s.H [] [] [] with
  | none => rfl
  | some x =>
    simp only
    cases he : ordEach (predsAll [] ops) ops.length x.2.2 with
    | false => rfl
    | true =>
      simp only
      obtain ⟨vs', ds', g1, g2, g3, g4, g5, g6⟩ := fp_spec hc hr ops 0 T s.H [] [] [] x [] [] [] T hp rfl rfl rfl rfl rfl (fun _ => rfl) (fun k d h => by simp at h) (fun k d h => by simp at h)
      unfold drawA
      rw [g1]
      simp only
      simp only [List.nil_append] at g4
      rw [← g4, ← g5]
      cases hn : allNil (olds s 0 ds') with
      | true => rfl
      | false =>
        simp only
        rw [check_quiet ops vs' T 0 (by simpa using g2) fun k hk => ?_]
        rw [List.eq_nil_iff_forall_not_mem]
        intro b hb
        obtain ⟨j, w, h1, h2, h3, h4, h5⟩ := (mem_rivals _ _ _ _ _).1 hb
        rw [Nat.zero_add] at h3 h4 h5
        rw [nth_olds, Nat.zero_add] at h1
        cases hd : nth ds' j with
        | none => rw [hd] at h1; cases h1
        | some d =>
          rw [hd] at h1; simp only [Option.map_some, Option.some.injEq] at h1
          have hj := g6 j d hd (fun e => by rw [h1] at e; rw [e] at h2; simp at h2)
          rcases ordEach_spec _ he j hj k (by simpa using hk) with e | e | e
          · exact h3 e
          · exact h5 e
          · exact h4 e
end
end
end Go.Am
namespace Go.Am
open Go
section
variable {C : Cfg} {call : FuncId → List AV → M AV} {rnd : Nm → List AV → M AV}
theorem Nice.iter (body : List AV → M X) (hb : ∀ T, Nice (body T)) : ∀ (K : Nat) (T : List AV), Nice (Am.iter K body T)
  | 0, T => Nice.fail
  | K + 1, T => by
    show Nice ((body T).bind fun x => match x.1 with | .normal => Am.iter K body x.2 | e => M.ret (e, x.2))
    refine Nice.bind (hb T) fun x => ?_
    split
    · exact Nice.iter body hb K _
    · exact Nice.ret _
theorem Nice.thenA {m : M X} {f : List AV → M X} (hm : Nice m) (hf : ∀ T, Nice (f T)) : Nice (Am.thenA m f) := by
  refine Nice.bind hm fun x => ?_
  split
  · exact hf _
  · exact Nice.ret _
theorem Nice.blockA (id : Nat) {m : M X} (hm : Nice m) : Nice (Am.blockA id m) := by
  refine Nice.bind hm fun x => ?_
  repeat' (first | exact Nice.ret _ | split)
theorem Nice.rangeFuncA (hc : ∀ f args, Nice (call f args)) (hr : ∀ l args, Nice (rnd l args)) (f : AV) (ps : List Nat) (a b : Code) (T : List AV) : Nice (Am.rangeFuncA call f ps a b T) := by
  unfold Am.rangeFuncA
  repeat' (first | exact Nice.fail | exact Nice.ret _ | exact Nice.getM _ | exact Nice.putM _ _ | exact Nice.newM _ | exact hc _ _ | (refine Nice.bind ?_ fun _ => ?_) | split)
theorem Nice.exec (hc : ∀ f args, Nice (call f args)) (hr : ∀ l args, Nice (rnd l args)) (K : Nat) (c : Code) : ∀ T, Nice (Am.exec C call rnd K c T) := by
  induction c with
  | skip => intro T; exact Nice.ret _
  | region id ops draw =>
    intro T
    show Nice ((match draw with | true => Am.drawF C call rnd ops.toList T | false => Am.runOps C call rnd ops.toList ops.toList T).bind fun T' => M.ret (AExit.normal, T'))
    refine Nice.bind ?_ fun _ => Nice.ret _
    split
    · rw [drawF_eq hc hr]; exact Nice.drawA hc hr _ _
    · exact Nice.runOps hc hr _ _ _
  | seq a b iha ihb => intro T; exact Nice.thenA (iha T) ihb
  | cond c a b iha ihb =>
    intro T
    show Nice (match evA T c with | some (.bool b') => (match b' with | true => Am.exec C call rnd K a T | false => Am.exec C call rnd K b T) | _ => M.fail)
    repeat' (first | exact Nice.fail | exact iha _ | exact ihb _ | split)
  | block id c ih => intro T; exact Nice.blockA id (ih T)
  | loop c ih => intro T; exact Nice.iter _ ih K T
  | rangeFunc f ps a b _ _ =>
    intro T
    show Nice (match evA T f with | some fv => Am.rangeFuncA call fv ps.toList a b T | none => M.fail)
    repeat' (first | exact Nice.fail | exact Nice.rangeFuncA hc hr _ _ _ _ _ | split)
  | exit i => intro T; exact Nice.ret _
  | scope c _ => intro T; exact Nice.fail
  | label l => intro T; exact Nice.fail
  | goto l => intro T; exact Nice.fail
  | ret => intro T; exact Nice.ret _
  | refuse r => intro T; exact Nice.fail
theorem Nice.resultsA : ∀ (l : List ResultVar) (T : List AV), Nice (Am.resultsA C T l)
  | [], T => Nice.ret _
  | .tmp t :: r, T => by
    unfold Am.resultsA
    repeat' (first | exact Nice.fail | exact Nice.ret _ | exact Nice.resultsA r T | (refine Nice.bind ?_ fun _ => ?_) | split)
  | .cell a t :: r, T => by
    unfold Am.resultsA
    repeat' (first | exact Nice.fail | exact Nice.ret _ | exact Nice.resultsA r T | exact Nice.loadA _ _ _ | (refine Nice.bind ?_ fun _ => ?_) | split)
theorem Nice.bodyA (hc : ∀ f args, Nice (call f args)) (hr : ∀ l args, Nice (rnd l args)) (K : Nat) (fn : Func) (args : List AV) : Nice (Am.bodyA C call rnd K fn args) := by
  unfold Am.bodyA
  split
  · exact Nice.fail
  · refine Nice.bind (Nice.exec hc hr K _ _) fun x => ?_
    split
    · exact Nice.fail
    · exact Nice.bind (Nice.resultsA _ _) fun _ => Nice.ret _
theorem Nice.roundA (hc : ∀ f args, Nice (call f args)) (hr : ∀ l args, Nice (rnd l args)) (K : Nat) (l : Nm) (args : List AV) : Nice (Am.roundA C call rnd K l args) := by
  unfold Am.roundA
  repeat' (first | exact Nice.fail | exact Nice.ret _ | exact Nice.getM _ | exact Nice.putM _ _ | exact Nice.exec hc hr K _ _ | (refine Nice.bind ?_ fun _ => ?_) | split)
theorem upto_mono {p q : Nat → Bool} (h : ∀ i, p i = true → q i = true) : ∀ n, upto n p = true → upto n q = true
  | 0, _ => rfl
  | n + 1, hp => by
    unfold upto at hp ⊢
    cases hn : p n with
    | false => rw [hn] at hp; cases hp
    | true => rw [hn] at hp; rw [h n hn]; exact upto_mono h n hp
theorem collapse_mono (ns : Option Nm) {t t' : Tr (AV × St)} (h : TrSub t t') : ∀ v, collapse ns t = some v → collapse ns t' = some v := by
  induction h with
  | fail t => intro v hv; cases hv
  | ret a s s' hs => intro v hv; unfold collapse at hv ⊢; simp only at hv ⊢; rw [hs.j]; exact hv
  | ask n k k' _ ih =>
    intro v hv
    unfold collapse at hv ⊢
    cases h0 : collapse ns (k 0) with
    | none => simp only [h0] at hv; cases hv
    | some u =>
      simp only [h0] at hv
      rw [ih 0 u h0]
      simp only
      cases n with
      | zero => cases hv
      | succ n =>
        simp only at hv ⊢
        cases hu : upto (n + 1) fun i => isV u (collapse ns (k i)) with
        | false => rw [hu] at hv; cases hv
        | true =>
          rw [hu] at hv
          have : (upto (n + 1) fun i => isV u (collapse ns (k' i))) = true := by
            refine upto_mono (fun i hi => ?_) (n + 1) hu
            cases hki : collapse ns (k i) with
            | none => rw [hki] at hi; cases hi
            | some z => rw [ih i z hki]; rw [hki] at hi; exact hi
          rw [this]; exact hv
theorem Nice.enterA (hc : ∀ f args, Nice (call f args)) (hr : ∀ l args, Nice (rnd l args)) (K : Nat) (f : FuncId) (args : List AV) : Nice (Am.enterA C call rnd K f args) := by
  unfold Am.enterA
  cases C.fn.get f with
  | none => exact Nice.fail
  | some fn =>
    simp only
    split
    · split
      · exact Nice.of _
      · exact Nice.fail
    · constructor
      · intro s s' hs
        have hn : s'.name = s.name := by unfold St.name; rw [hs.pre, hs.n]
        simp only [hn]
        have := (Nice.bodyA (C := C) hc hr K fn args).mono ⟨s.H, 0, s.name, true, []⟩ ⟨s'.H, 0, s.name, true, []⟩ ⟨rfl, rfl, rfl, rfl, hs.le⟩
        cases hk : collapse (some s.name) (Am.bodyA C call rnd K fn args ⟨s.H, 0, s.name, true, []⟩) with
        | none => exact .fail _
        | some v => rw [collapse_mono _ this v hk]; exact .ret _ _ _ hs
      · intro s
        try simp only
        cases collapse (some s.name) (Am.bodyA C call rnd K fn args ⟨s.H, 0, s.name, true, []⟩) with
        | none => trivial
        | some v => exact JrR.refl s
    · exact Nice.bodyA hc hr K fn args
end
theorem Nice.mach (C : Cfg) : ∀ K, (∀ f args, Nice (acall C K f args)) ∧ ∀ l args, Nice (around C K l args)
  | 0 => ⟨fun _ _ => Nice.fail, fun _ _ => Nice.fail⟩
  | K + 1 => by
    obtain ⟨h1, h2⟩ := Nice.mach C K
    exact ⟨fun f args => by rw [acall_succ]; exact Nice.enterA h1 h2 _ f args, fun l args => by rw [around_succ]; exact Nice.roundA h1 h2 _ l args⟩
end Go.Am
namespace Go.Am
open Go
noncomputable section
/-! ### Heaps that read alike -/
theorem HR.congr {ρ : Rho} {H H' : Heap} {w : World} (he : ∀ b, hget H b = hget H' b) (h : HR ρ H w) : HR ρ H' w :=
  ⟨fun b x hb => h.blocks b x (by rw [he]; exact hb), fun b b' x x' p p' h1 h2 => h.sep b b' x x' p p' (by rw [he]; exact h1) (by rw [he]; exact h2),
   fun b m l e hb => let ⟨⟨es, h1⟩, h2⟩ := h.iter b m l e (by rw [he]; exact hb); ⟨⟨es, by rw [← he]; exact h1⟩, h2⟩⟩
theorem Img.congr {ρ : Rho} {H H' : Heap} (he : ∀ b, hget H b = hget H' b) {c : Nat} (h : Img ρ H c) : Img ρ H' c := by
  obtain ⟨b, x, p, h1, h2, h3, h4⟩ := h; exact ⟨b, x, p, by rw [← he]; exact h1, h2, h3, h4⟩
/-- A step, the names left out. -/
structure Cst (ρ : Rho) (H : Heap) (w : World) (ρ' : Rho) (H' : Heap) (w' : World) : Prop where
  ext : Ext ρ ρ'
  same : Same w w'
  size : w.heap.size ≤ w'.heap.size
  unch : ∀ c, c < w.heap.size → ¬ Img ρ H c → w'.heap[c]? = w.heap[c]?
  img : ∀ c, c < w.heap.size → Img ρ' H' c → Img ρ H c
theorem Stp.cst {ρ ρ' : Rho} {s s' : St} {w w' : World} (h : Stp ρ s w ρ' s' w') : Cst ρ s.H w ρ' s'.H w' := ⟨h.ext, h.same, h.size, h.unch, h.img⟩
theorem Cst.refl (ρ : Rho) (H : Heap) (w : World) : Cst ρ H w ρ H w := ⟨Ext.refl _, Same.refl _, Nat.le_refl _, fun _ _ _ => rfl, fun _ _ h => h⟩
theorem Cst.trans {ρ ρ' ρ'' : Rho} {H H' H'' : Heap} {w w' w'' : World} (h : Cst ρ H w ρ' H' w') (k : Cst ρ' H' w' ρ'' H'' w'') : Cst ρ H w ρ'' H'' w'' :=
  ⟨h.ext.trans k.ext, h.same.trans k.same, Nat.le_trans h.size k.size,
   fun c hc hn => (k.unch c (Nat.lt_of_lt_of_le hc h.size) (fun hi => hn (h.img c hc hi))).trans (h.unch c hc hn),
   fun c hc hi => h.img c hc (k.img c (Nat.lt_of_lt_of_le hc h.size) hi)⟩
theorem Cst.congr {ρ ρ' : Rho} {H H1 H' H1' : Heap} {w w' : World} (h : Cst ρ H w ρ' H' w') (e : ∀ b, hget H b = hget H1 b) (e' : ∀ b, hget H' b = hget H1' b) : Cst ρ H1 w ρ' H1' w' :=
  ⟨h.ext, h.same, h.size, fun c hc hn => h.unch c hc fun hi => hn (hi.congr e), fun c hc hi => (h.img c hc (hi.congr fun b => (e' b).symm)).congr e⟩
def mgH (p : Nat → Bool) : Nat → List Delta → Heap → Heap
  | _, [], H => H
  | k, d :: r, H => mgH p (k + 1) r (if p k = true then redoH H d else H)
theorem hget_mgH (p : Nat → Bool) (b : Nm) : ∀ (ds : List Delta) (k : Nat) (H : Heap), hget (mgH p k ds H) b = mg p b k ds (hget H b)
  | [], k, H => rfl
  | d :: r, k, H => by
    unfold mgH mg
    rw [hget_mgH p b r (k + 1)]
    by_cases h : p k = true
    · simp only [h, if_true]; rw [hget_redoH]
    · simp only [h]; rfl
end
end Go.Am
namespace Go.Am
open Go
noncomputable section
theorem binds_any (e : Edge) : Region.binds .any e = solid e := by
  unfold Region.binds solid
  cases e.ground <;> rfl
/-! ### Temporaries, one operation more -/
theorem putT_comm (T : List AV) {d d' : Option Tmp} (v v' : AV) (h : ∀ t, d = some t → d' ≠ some t) : putT (putT T d v) d' v' = putT (putT T d' v') d v := by
  cases d with
  | none => rfl
  | some t =>
    cases d' with
    | none => rfl
    | some t' =>
      have hne : t ≠ t' := fun e => h t rfl (by rw [e])
      simp only [putT, setNth_eq]
      exact List.set_comm _ _ hne
theorem TP_put (p : Nat → Bool) (d : Option Tmp) (v : AV) : ∀ (ops : List Oper) (k : Nat) (vs T : List AV), (∀ o ∈ ops, ∀ t, d = some t → o.dst ≠ some t) → TP p k ops vs (putT T d v) = putT (TP p k ops vs T) d v
  | [], k, vs, T, _ => by simp [TP]
  | o :: r, k, [], T, _ => by simp [TP]
  | o :: r, k, u :: vs, T, h => by
    have hr : ∀ q ∈ r, ∀ t, d = some t → q.dst ≠ some t := fun q hq => h q (List.mem_cons_of_mem _ hq)
    unfold TP
    by_cases hp : p k = true
    · simp only [hp, if_true]
      rw [putT_comm T v u (h o List.mem_cons_self), TP_put p d v r (k + 1) vs _ hr]
    · simp only [hp]; exact TP_put p d v r (k + 1) vs _ hr
theorem TP_same {p q : Nat → Bool} : ∀ (ops : List Oper) (k : Nat) (vs T : List AV), (∀ i, i < ops.length → p (k + i) = q (k + i)) → TP p k ops vs T = TP q k ops vs T
  | [], k, vs, T, _ => by simp [TP]
  | o :: r, k, [], T, _ => by simp [TP]
  | o :: r, k, v :: vs, T, h => by
    unfold TP
    have h0 := h 0 (by simp)
    rw [Nat.add_zero] at h0
    rw [h0]
    exact TP_same r (k + 1) vs _ fun i hi => by rw [show k + 1 + i = k + (i + 1) by omega]; exact h (i + 1) (by simp; omega)
theorem TP_step {p q : Nat → Bool} : ∀ (ops : List Oper) (k : Nat) (vs T : List AV) (i : Nat) (o : Oper) (v : AV), nth ops i = some o → nth vs i = some v → p (k + i) = false → q (k + i) = true → (∀ j, j ≠ i → q (k + j) = p (k + j)) →
    (∀ j u, j ≠ i → nth ops j = some u → ∀ t, o.dst = some t → u.dst ≠ some t) → TP q k ops vs T = putT (TP p k ops vs T) o.dst v
  | [], k, vs, T, i, o, v, ho, _, _, _, _, _ => by simp at ho
  | a :: r, k, [], T, i, o, v, _, hv, _, _, _, _ => by simp at hv
  | a :: r, k, u :: vs, T, 0, o, v, ho, hv, h1, h2, h3, h4 => by
    simp only [nth_zero, Option.some.injEq] at ho hv; subst ho; subst hv
    rw [Nat.add_zero] at h1 h2
    unfold TP
    simp only [h1, h2, if_true]
    rw [TP_same (p := q) (q := p) r (k + 1) vs _ fun j hj => by rw [show k + 1 + j = k + (j + 1) by omega]; exact h3 (j + 1) (by omega)]
    refine TP_put p _ _ r (k + 1) vs _ fun x hx => ?_
    obtain ⟨j, hj⟩ := mem_nth hx
    exact h4 (j + 1) x (by omega) (by rw [nth_succ]; exact hj)
  | a :: r, k, u :: vs, T, i + 1, o, v, ho, hv, h1, h2, h3, h4 => by
    rw [nth_succ] at ho hv
    unfold TP
    have h0 := h3 0 (by omega)
    rw [Nat.add_zero] at h0
    rw [h0]
    refine TP_step r (k + 1) vs _ i o v ho hv (by rw [show k + 1 + i = k + (i + 1) by omega]; exact h1) (by rw [show k + 1 + i = k + (i + 1) by omega]; exact h2) (fun j hj => ?_) (fun j x hj hx => ?_)
    · rw [show k + 1 + j = k + (j + 1) by omega]; exact h3 (j + 1) (by omega)
    · exact h4 (j + 1) x (by omega) (by rw [nth_succ]; exact hx)
/-! ### How many are unlisted -/
def cntF : List Bool → Nat
  | [] => 0
  | b :: r => (if b = true then 0 else 1) + cntF r
theorem cntF_set : ∀ (l : List Bool) (i : Nat), l[i]? = some false → cntF (l.set i true) + 1 = cntF l
  | [], i, h => by simp at h
  | b :: r, 0, h => by simp at h; subst h; simp [cntF]; omega
  | b :: r, i + 1, h => by
    simp at h
    have := cntF_set r i h
    simp only [List.set_cons_succ, cntF]; omega
theorem cntF_zero : ∀ (l : List Bool), cntF l = 0 → ∀ (i : Nat) (b : Bool), l[i]? = some b → b = true
  | [], _, i, b, h => by simp at h
  | c :: r, hz, i, b, h => by
    simp only [cntF] at hz
    cases i with
    | zero => simp at h; subst h; cases c <;> simp_all
    | succ i => exact cntF_zero r (by omega) i b (by simpa using h)
theorem Cst.world {ρ ρ' : Rho} {H H' : Heap} {w w1 w' : World} (h : Cst ρ H w ρ' H' w1) (hw : w'.heap = w1.heap) (hs : Same w1 w') : Cst ρ H w ρ' H' w' :=
  ⟨h.ext, h.same.trans hs, by rw [hw]; exact h.size, by rw [hw]; exact h.unch, h.img⟩
section
variable {P : Program} {C : Cfg} {call : FuncId → List AV → M AV} {rnd : Nm → List AV → M AV} {F : Fence} {n : Nat}
/-- The state of things where the operations of S have been carried out. -/
structure AnyInv (ops : List Oper) (s : St) (T vs : List AV) (ds : List Delta) (ρ : Rho) (w0 : World) (a0 : Act) (S : Nat → Bool) (ρ' : Rho) (a : Act) (w : World) : Prop where
  hr : HR ρ' (mgH S 0 ds s.H) w
  st : Cst ρ s.H w0 ρ' (mgH S 0 ds s.H) w
  tm : VRs ρ' (TP S 0 ops vs T) a.tmps.toList
  df : a.defers = a0.defers
  nm : ∀ b p, ρ' b = some p → ρ b = none → ∃ k, S k = true ∧ OwnI s k b
theorem any_go (hC : CfgOk P C) (hF : Fw F) (hcall : CallOk P call) (hrnd : RndOk P rnd) (hc : ∀ f args, Nice (call f args)) (hr : ∀ l args, Nice (rnd l args))
    {arr : Array Oper} {ops : List Oper} (harr : arr.toList = ops) {B : List (List Nat)} (hreg : RegOk ops B) {s : St} {T vs : List AV} {ds : List Delta} {ρ : Rho} {w0 : World} {a0 : Act} (hf : Fr ρ s) (hfr : Frh s)
    (hrun : Run C call rnd ops B s T vs ds) {Q : Exit → Act → World → Prop}
    (hN : ∀ ρ' a w, AnyInv ops s T vs ds ρ w0 a0 (fun _ => true) ρ' a w → Q .normal a w) :
    ∀ (fuel : Nat) (listed : Array Bool) (ρ' : Rho) (a : Act) (w : World), listed.size = ops.length → cntF listed.toList ≤ fuel → Closed ops B (fun i => listed.getD i false) →
      AnyInv ops s T vs ds ρ w0 a0 (fun i => listed.getD i false) ρ' a w → wpAnyIn F n P .any arr Q fuel listed a w := by
  have hsz : arr.size = ops.length := by rw [← harr]; simp
  have hat : ∀ i, arr[i]? = nth ops i := fun i => by rw [nth_eq, ← harr]; simp
  -- where no one is ready all are listed
  have hend : ∀ (listed : Array Bool) (ρ' : Rho) (a : Act) (w : World), listed.size = ops.length → AnyInv ops s T vs ds ρ w0 a0 (fun i => listed.getD i false) ρ' a w → Region.ready .any arr listed = [] → Q .normal a w := by
    intro listed ρ' a w hl hinv hre
    have hall : ∀ i, i < ops.length → listed.getD i false = true := by
      intro i
      induction i using Nat.strongRecOn with
      | _ i ih =>
        intro hi
        cases hb : listed.getD i false with
        | true => rfl
        | false =>
          exfalso
          obtain ⟨o, ho⟩ := nth_some hi
          have : i ∈ Region.ready .any arr listed := by
            rw [mem_ready]
            refine ⟨?_, o, by rw [hat]; exact ho, fun e he hbd => ?_⟩
            · simp only [Array.getD_eq_getD_getElem?] at hb ⊢
              cases hg : listed[i]? with
              | none => rw [Array.getElem?_eq_none_iff] at hg; omega
              | some x => rw [hg] at hb; simpa using hb
            · rw [binds_any] at hbd
              have h1 := hreg.edge i o ho e (by simpa using he) hbd
              have h2 := (hreg.back i o ho _ h1).1
              exact ih e.on h2 (by omega)
          rw [hre] at this; cases this
    have hT : TP (fun i => listed.getD i false) 0 ops vs T = TP (fun _ => true) 0 ops vs T := TP_same ops 0 vs T fun i hi => by rw [Nat.zero_add]; exact hall i hi
    have hH : ∀ b, hget (mgH (fun i => listed.getD i false) 0 ds s.H) b = hget (mgH (fun _ => true) 0 ds s.H) b := fun b => by
      rw [hget_mgH, hget_mgH]
      refine mg_agree ds 0 _ fun k d hk _ => ?_
      rw [Nat.zero_add]; exact hall k (by rw [← hrun.dlen]; exact nth_lt hk)
    refine hN ρ' a w ⟨hinv.hr.congr hH, hinv.st.congr (fun _ => rfl) hH, by rw [← hT]; exact hinv.tm, hinv.df, fun b p h1 h2 => ?_⟩
    obtain ⟨k, _, hk⟩ := hinv.nm b p h1 h2
    exact ⟨k, rfl, hk⟩
  intro fuel
  induction fuel with
  | zero =>
    intro listed ρ' a w hl hcnt hcl hinv
    have hnil : Region.ready .any arr listed = [] := by
      cases hre : Region.ready .any arr listed with
      | nil => rfl
      | cons i r =>
        exfalso
        have hi : i ∈ Region.ready .any arr listed := by rw [hre]; exact List.mem_cons_self
        obtain ⟨h0, o, ho, _⟩ := mem_ready.1 hi
        rw [hat] at ho
        have hlt : i < listed.size := by rw [hl]; exact nth_lt ho
        have hg : listed[i]? = some listed[i] := Array.getElem?_eq_getElem hlt
        have := cntF_zero listed.toList (by omega) i listed[i] (by rw [Array.getElem?_toList]; exact hg)
        simp only [Array.getD_eq_getD_getElem?, hg, Option.getD_some] at h0
        rw [h0] at this; cases this
    exact ⟨hnil, hend listed ρ' a w hl hinv hnil⟩
  | succ fuel ih =>
    intro listed ρ' a w hl hcnt hcl hinv
    refine ⟨hend listed ρ' a w hl hinv, fun i hi => ?_⟩
    obtain ⟨h0, o, ho, hall⟩ := mem_ready.1 hi
    rw [hat] at ho
    have hin : i < ops.length := nth_lt ho
    have hlt : i < listed.size := by rw [hl]; exact hin
    have hg : listed[i]? = some listed[i] := Array.getElem?_eq_getElem hlt
    have hfalse : listed[i] = false := by simpa only [Array.getD_eq_getD_getElem?, hg, Option.getD_some] using h0
    have hSi : listed.getD i false = false := by simp only [Array.getD_eq_getD_getElem?, hg, Option.getD_some]; exact hfalse
    have hS'i : (listed.setIfInBounds i true).getD i false = true := by simp [Array.getD_eq_getD_getElem?, hlt]
    have hSk : ∀ k, k ≠ i → (listed.setIfInBounds i true).getD k false = listed.getD k false := fun k hk => getD_set_ne false (Ne.symm hk)
    have hpre : ∀ j ∈ pre B i, listed.getD j false = true := by
      intro j hj
      obtain ⟨e, he, hs, h1⟩ := (hreg.from' i o ho j).1 hj
      have h2 := hall e (by simpa using he) (by rw [binds_any]; exact hs)
      rcases h1 with rfl | h1
      · exact h2
      · have he' : e.on < ops.length := by
          have := (hreg.back i o ho _ (hreg.edge i o ho e he hs)).1
          omega
        exact hcl e.on he' h2 j h1
    have hcl' : Closed ops B (fun k => (listed.setIfInBounds i true).getD k false) := by
      intro k hk hSk' j hj
      by_cases e : k = i
      · subst e
        have hji : j ≠ k := by have := (hreg.back k o ho j hj).1; omega
        show (listed.setIfInBounds k true).getD j false = true
        rw [hSk j hji]; exact hpre j hj
      · have h1 : listed.getD k false = true := by rw [← hSk k e]; exact hSk'
        have h2 := hcl k hk h1 j hj
        show (listed.setIfInBounds i true).getD j false = true
        by_cases e' : j = i
        · subst e'; exact hS'i
        · rw [hSk j e']; exact h2
    have hcnt' : cntF (listed.setIfInBounds i true).toList ≤ fuel := by
      have := cntF_set listed.toList i (by rw [Array.getElem?_toList, hg, hfalse])
      rw [Array.toList_setIfInBounds]; omega
    have hlook : ∀ t ∈ looksL ops o, nth (TP (fun k => listed.getD k false) 0 ops vs T) t = nth (TP (fun j => decide (j < i)) 0 ops vs T) t := by
      intro t ht
      refine TP_agree ops 0 vs T T (fun k q hk hd => ?_) rfl rfl
      rw [Nat.zero_add]
      by_cases e : k = i
      · subst e; show listed.getD k false = decide (k < k); rw [hSi]; simp
      · rcases (hreg.dst i o ho k q hk e t hd).2 with h1 | h1 | h1
        · show listed.getD k false = decide (k < i)
          rw [hpre k h1]; have := (hreg.back i o ho k h1).1; simp [this]
        · show listed.getD k false = decide (k < i)
          have h2 := (hreg.back k q hk i h1).1
          cases hb : listed.getD k false with
          | false => simp; omega
          | true => have h3 : listed.getD i false = true := hcl k (nth_lt hk) hb i h1; rw [hSi] at h3; cases h3
        · exact absurd ht h1
    obtain ⟨e1, e2⟩ := op_look (C := C) (call := call) (rnd := rnd) (o := o) hlook
    have hdst : ∀ j u, j ≠ i → nth ops j = some u → ∀ t, o.dst = some t → u.dst ≠ some t := fun j u hj hu t ht => (hreg.dst j u hu i o ho (Ne.symm hj) t ht).1
    have htp : ∀ v, nth vs i = some v → TP (fun k => (listed.setIfInBounds i true).getD k false) 0 ops vs T = putT (TP (fun k => listed.getD k false) 0 ops vs T) o.dst v := fun v hv =>
      TP_step ops 0 vs T i o v ho hv (by rw [Nat.zero_add]; exact hSi) (by rw [Nat.zero_add]; exact hS'i) (fun j hj => by rw [Nat.zero_add]; exact hSk j hj) hdst
    have hheap : ∀ d, nth ds i = some d → ∀ b, hget (mgH (fun k => (listed.setIfInBounds i true).getD k false) 0 ds s.H) b = (lkD d b).getD (hget (mgH (fun k => listed.getD k false) 0 ds s.H) b) := fun d hd b => by
      rw [hget_mgH, hget_mgH]
      exact hrun.step hc hr hreg hfr hcl hin hSi hS'i hSk hd b
    show wpOpIn F n P arr Q i (wpAnyIn F n P .any arr Q fuel (listed.setIfInBounds i true)) a w
    unfold wpOpIn
    rw [hat, ho]
    simp only
    rw [wanted_eq harr hinv.tm o, e2]
    cases hw : wantedA ops (TP (fun j => decide (j < i)) 0 ops vs T) o with
    | false =>
      simp only [Bool.false_eq_true, if_false]
      refine ⟨fun f _ => hF.fn f, ?_⟩
      obtain ⟨g1, g2⟩ := hrun.no i o ho hw
      have hH := fun b => hheap [] g2 b
      refine ih _ ρ' _ w (by simp [hl]) hcnt' hcl' ⟨hinv.hr.congr fun b => (by rw [hH b]; rfl), hinv.st.congr (fun _ => rfl) fun b => (by rw [hH b]; rfl), ?_, ?_, ?_⟩
      · rw [htp _ g1]; exact putT_VRs hinv.tm _ (by simp [VR])
      · rw [← hinv.df]; cases o.dst <;> rfl
      · intro b p h1 h2
        obtain ⟨k, hk1, hk2⟩ := hinv.nm b p h1 h2
        refine ⟨k, ?_, hk2⟩
        show (listed.setIfInBounds i true).getD k false = true
        by_cases e : k = i
        · subst e; exact hS'i
        · rw [hSk k e]; exact hk1
    | true =>
      simp only [if_true]
      obtain ⟨v, d, g1, g2, g3⟩ := hrun.go i o ho hw
      obtain ⟨st, hst⟩ : ∃ st, st = opSt s i (mgH (fun k => listed.getD k false) 0 ds s.H) := ⟨_, rfl⟩
      have hsub : Sub (opSt s i (hidden s B ds i)) st := by
        rw [hst]
        refine opSt_sub (Sub.refl s) i fun b x hx => ?_
        rw [hget_mgH]
        exact hrun.sub hc hr hreg hfr hcl hin hSi hpre hx
      have hone : one (opA C call rnd (TP (fun k => listed.getD k false) 0 ops vs T) o st) = some (v, d) := by
        rw [e1]
        exact TrSub.one ((Nice.opA hc hr _ o).mono _ _ hsub) g3
      obtain ⟨t1, ht1, hj1⟩ := one_some hone
      have hj1 : t1.j = d := hj1
      have hjr := (Nice.opA (C := C) hc hr (TP (fun k => listed.getD k false) 0 ops vs T) o).jr st
      rw [ht1] at hjr
      obtain ⟨d', d1, d2, _⟩ := JrR.j (hjr : JrR _ t1) (by rw [hst]; rfl)
      have hd' : d' = d := by rw [← hj1, d1, hst]; exact (List.append_nil d').symm
      have hH1 : ∀ b, hget (mgH (fun k => (listed.setIfInBounds i true).getD k false) 0 ds s.H) b = hget t1.H b := fun b => by
        rw [hheap d g2 b, d2 b, hget_redoH, hd', hst]; rfl
      have hstH : st.H = mgH (fun k => listed.getD k false) 0 ds s.H := by rw [hst]; rfl
      have hfr1 : Fr ρ' st := by
        intro m r hm
        have hb : st.pre ++ m :: r = s.pre ++ s.n :: i :: m :: r := by rw [hst]; show (s.pre ++ [s.n, i]) ++ m :: r = _; simp
        rw [hb]
        cases hp : ρ' (s.pre ++ s.n :: i :: m :: r) with
        | none => rfl
        | some p =>
          exfalso
          cases hp0 : ρ (s.pre ++ s.n :: i :: m :: r) with
          | some q => rw [hf s.n _ (Nat.le_refl _)] at hp0; cases hp0
          | none =>
            obtain ⟨k, hk1, hk2⟩ := hinv.nm _ p hp hp0
            have : k = i := hk2.inj ⟨m :: r, rfl⟩
            subst this
            have hk1 : listed.getD k false = true := hk1
            rw [hSi] at hk1; cases hk1
      have hopm : (opA C call rnd (TP (fun k => listed.getD k false) 0 ops vs T) o st).All (fun x => x = (v, t1)) := by rw [ht1]; rfl
      refine op_sim hC hF hcall hrnd (s := st) (ρ := ρ') (by rw [hstH]; exact hinv.hr) hfr1 hinv.tm hopm ?_
      intro v' s' ρ'' w'' cv hvs hstp hhr hvr
      obtain ⟨rfl, rfl⟩ : v' = v ∧ s' = t1 := by injection hvs with x y; exact ⟨x, y⟩
      have hcst : Cst ρ' (mgH (fun k => listed.getD k false) 0 ds s.H) w ρ'' s'.H w'' := by rw [← hstH]; exact hstp.cst
      refine ih _ ρ'' _ w'' (by simp [hl]) hcnt' hcl' ⟨hhr.congr fun b => (hH1 b).symm, (hinv.st.trans hcst).congr (fun _ => rfl) fun b => (hH1 b).symm, ?_, ?_, ?_⟩
      · rw [htp _ g1]; exact putT_VRs (VRs.mono hstp.ext _ _ hinv.tm) _ hvr
      · rw [← hinv.df]; cases o.dst <;> rfl
      · intro b p h1 h2
        cases hp : ρ' b with
        | none =>
          obtain ⟨m, r, hb, _, _⟩ := hstp.loc b p h1 hp
          refine ⟨i, hS'i, m :: r, ?_⟩
          rw [hb, hst]; show (s.pre ++ [s.n, i]) ++ m :: r = _; simp
        | some q =>
          obtain ⟨k, hk1, hk2⟩ := hinv.nm b q hp h2
          refine ⟨k, ?_, hk2⟩
          show (listed.setIfInBounds i true).getD k false = true
          by_cases e : k = i
          · subst e; exact hS'i
          · rw [hSk k e]; exact hk1
theorem any_sim (hC : CfgOk P C) (hF : Fw F) (hcall : CallOk P call) (hrnd : RndOk P rnd) (hc : ∀ f args, Nice (call f args)) (hrn : ∀ l args, Nice (rnd l args))
    {arr : Array Oper} (hreg : regOk arr.toList = true) {s : St} {T : List AV} {ρ : Rho} {w : World} {a : Act} (hr : HR ρ s.H w) (hf : Fr ρ s) (hT : VRs ρ T a.tmps.toList) {R : List AV × St → Prop} {Q : Exit → Act → World → Prop} {id : Nat}
    (hm : (drawA C call rnd arr.toList T s).All R)
    (hN : ∀ T' s' ρ' w' a', R (T', s') → Stp ρ s w ρ' s' w' → HR ρ' s'.H w' → VRs ρ' T' a'.tmps.toList → a'.defers = a.defers → Q .normal a' w') :
    (Code.region id arr true).wpIn F n P Q a w := by
  have hreg := regOk_spec hreg
  obtain ⟨vs, ds, hrun, hR⟩ := run_of_draw hc hrn hreg hm
  have hfr : Frh s := by
    rintro i b ⟨r, rfl⟩
    cases hb : hget s.H (s.pre ++ s.n :: i :: r) with
    | none => rfl
    | some x => obtain ⟨p, hp, _⟩ := hr.blocks _ _ hb; rw [hf s.n _ (Nat.le_refl _)] at hp; cases hp
  refine wpIn_region_any hC.mixed ?_
  have hoff : ∀ i, (Array.replicate arr.size false).getD i false = false := fun i => by simp [Array.getD_eq_getD_getElem?, Array.getElem?_replicate]; split <;> rfl
  have hH0 : ∀ b, hget s.H b = hget (mgH (fun i => (Array.replicate arr.size false).getD i false) 0 ds s.H) b := fun b => by
    rw [hget_mgH, mg_off _ _ _ _ _ fun i _ => hoff i]
  refine any_go (w0 := w) (a0 := a) hC hF hcall hrnd hc hrn rfl hreg hf hfr hrun ?_ arr.size _ ρ a _ (by simp) ?_ ?_ ?_
  · intro ρ' a' w' hinv
    have hH : ∀ b, hget (mgH (fun _ => true) 0 ds s.H) b = hget (redoH s.H (allD ds)) b := fun b => by
      rw [hget_mgH]; exact hrun.all (fun _ _ => rfl) b
    refine hN _ _ ρ' w' a' hR ?_ (hinv.hr.congr hH) hinv.tm hinv.df
    have hst := hinv.st.congr (fun _ => rfl) hH
    exact ⟨hst.ext, fun b p h1 h2 => by
      obtain ⟨k, _, r, hb⟩ := hinv.nm b p h1 h2
      exact ⟨s.n, k :: r, hb, Nat.le_refl _, Nat.lt_succ_self _⟩, rfl, Nat.le_succ _, hst.same, hst.size, hst.unch, hst.img⟩
  · have : ∀ m, cntF (List.replicate m false) = m := by
      intro m; induction m with
      | zero => rfl
      | succ m ih => simp [List.replicate_succ, cntF, ih]; omega
    simp [this]
  · intro i _ h; have h : (Array.replicate arr.size false).getD i false = true := h; rw [hoff i] at h; cases h
  · refine ⟨HR.congr hH0 (hr.world (w' := { w with drawn := w.drawn + 1 }) rfl), ((Cst.refl ρ s.H w).congr (fun _ => rfl) hH0).world rfl ⟨rfl, rfl, rfl⟩, ?_, rfl, fun b p h1 h2 => by rw [h1] at h2; cases h2⟩
    rw [TP_none _ _ _ _ _ fun i _ => hoff i]; exact hT
end
end
end Go.Am
namespace Go.Am
open Go
noncomputable section
def toExit : AExit → Exit
  | .normal => .normal
  | .exit i => .exit i
  | .ret => .ret
/-- The marks among the deferred calls: each of its own, its block as it was laid. -/
structure DefOk (B : Nat) (ρ : Rho) (H : Heap) (w : World) (ds : List Deferred) : Prop where
  le : B ≤ w.heap.size
  each : ∀ d ∈ ds, ∃ r, B ≤ r ∧ d.target = .collected r ∧ w.heap[r]? = some (.deferred (some [])) ∧ ¬ Img ρ H r
  nd : ds.Pairwise fun d d' => d.target ≠ d'.target
theorem DefOk.nil {B : Nat} (ρ : Rho) (H : Heap) {w : World} (h : B ≤ w.heap.size) : DefOk B ρ H w [] := ⟨h, fun d h => by simp at h, List.Pairwise.nil⟩
theorem DefOk.step {ρ ρ' : Rho} {s s' : St} {w w' : World} {B : Nat} {ds : List Deferred} (h : DefOk B ρ s.H w ds) (k : Stp ρ s w ρ' s' w') : DefOk B ρ' s'.H w' ds := by
  refine ⟨Nat.le_trans h.le k.size, fun d hd => ?_, h.nd⟩
  obtain ⟨r, h0, h1, h2, h3⟩ := h.each d hd
  have hlt : r < w.heap.size := (Array.getElem?_eq_some_iff.1 h2).1
  exact ⟨r, h0, h1, by rw [k.unch r hlt h3]; exact h2, fun hi => h3 (k.img r hlt hi)⟩
/-- The world holds more, or other things that are of no concern. -/
theorem HR.more {ρ : Rho} {H : Heap} {w w' : World} (h : HR ρ H w) (hs : ∀ b x p, hget H b = some x → ρ b = some p → w'.heap[p.blk]? = w.heap[p.blk]?) : HR ρ H w' := by
  refine ⟨fun b x hb => ?_, h.sep, fun b m l e hb => ?_⟩
  · obtain ⟨p, hp, hbo⟩ := h.blocks b x hb
    exact ⟨p, hp, by rw [hs b x p hb hp]; exact hbo⟩
  · obtain ⟨⟨es, he⟩, hm⟩ := h.iter b m l e hb
    exact ⟨⟨es, he⟩, fun p pm hp hpm => by rw [hs b _ p hb hp, hs m _ pm he hpm]; exact hm p pm hp hpm⟩
theorem alloc_old {w : World} {o : Obj} {c : Nat} (hc : c < w.heap.size) : (w.alloc o).heap[c]? = w.heap[c]? := by
  show (w.heap.push o)[c]? = w.heap[c]?
  rw [Array.getElem?_push_lt hc, Array.getElem?_eq_getElem hc]
theorem alloc_new {w : World} {o : Obj} : (w.alloc o).heap[w.heap.size]? = some o := by show (w.heap.push o)[w.heap.size]? = some o; simp
theorem alloc_size {w : World} {o : Obj} : (w.alloc o).heap.size = w.heap.size + 1 := by show (w.heap.push o).size = _; simp
theorem putObj_same {w : World} {c : Nat} {o : Obj} (h : c < w.heap.size) : (w.putObj c o).heap[c]? = some o := by
  show (w.heap.setIfInBounds c o)[c]? = some o; simp [h]
theorem putObj_ne {w : World} {c k : Nat} {o : Obj} (h : k ≠ c) : (w.putObj c o).heap[k]? = w.heap[k]? := by
  show (w.heap.setIfInBounds c o)[k]? = w.heap[k]?; rw [Array.getElem?_setIfInBounds_ne (Ne.symm h)]
theorem putObj_size {w : World} {c : Nat} {o : Obj} : (w.putObj c o).heap.size = w.heap.size := by show (w.heap.setIfInBounds c o).size = _; simp
theorem step_world {ρ : Rho} {s : St} {w w' : World} (hs : Same w w') (hle : w.heap.size ≤ w'.heap.size) (ho : ∀ c, c < w.heap.size → w'.heap[c]? = w.heap[c]?) : Stp ρ s w ρ s w' :=
  ⟨Ext.refl _, fun b p h h' => (by rw [h] at h'; cases h'), rfl, Nat.le_refl _, hs, hle, fun c hc _ => ho c hc, fun _ _ h => h⟩
section
variable {P : Program} {C : Cfg} {call : FuncId → List AV → M AV} {rnd : Nm → List AV → M AV} {n B : Nat} {F : Fence}
/-- What is asked behind a piece of code. -/
abbrev CodeNext (B : Nat) (R : X × St → Prop) (Q : Exit → Act → World → Prop) (ρ : Rho) (s : St) (w : World) : Prop :=
  ∀ x s' ρ' w' a', R (x, s') → Stp ρ s w ρ' s' w' → HR ρ' s'.H w' → VRs ρ' x.2 a'.tmps.toList → DefOk B ρ' s'.H w' a'.defers → Q (toExit x.1) a' w'
theorem put_defers (a : Act) (d : Option Tmp) (v : Value) : (a.put d v).defers = a.defers := by cases d <;> rfl
theorem runOps_sim (hC : CfgOk P C) (hF : Fw F) (hcall : CallOk P call) (hrnd : RndOk P rnd) {arr : Array Oper} {Q : Exit → Act → World → Prop} {R : List AV × St → Prop} :
    ∀ (l : List Oper) (k : Nat) (T : List AV) (a : Act) (s : St) (w : World) (ρ : Rho), (∀ j, arr[k + j]? = nth l j) → HR ρ s.H w → Fr ρ s → VRs ρ T a.tmps.toList → DefOk B ρ s.H w a.defers →
      (runOps C call rnd arr.toList l T s).All R →
      (∀ T' s' ρ' w' a', R (T', s') → Stp ρ s w ρ' s' w' → HR ρ' s'.H w' → VRs ρ' T' a'.tmps.toList → DefOk B ρ' s'.H w' a'.defers → Q .normal a' w') →
      wpOpsIn F n P arr Q (List.range' k l.length) a w
  | [], k, T, a, s, w, ρ, hj, hr, hf, hT, hd, hm, hN => by
    show Q .normal a w
    exact hN T s ρ w a hm (Stp.refl ..) hr hT hd
  | o :: l, k, T, a, s, w, ρ, hj, hr, hf, hT, hd, hm, hN => by
    rw [List.length_cons, List.range'_succ, wpOpsIn_cons]
    have h0 := hj 0
    rw [Nat.add_zero, nth_zero] at h0
    have hj' : ∀ j, arr[k + 1 + j]? = nth l j := fun j => by rw [show k + 1 + j = k + (j + 1) by omega, hj, nth_succ]
    unfold wpOpIn
    rw [h0]; simp only
    rw [wanted_eq rfl hT o]
    have hm' : ((match wantedA arr.toList T o with
      | true => (opA C call rnd T o).bind fun v => runOps C call rnd arr.toList l (putT T o.dst v)
      | false => runOps C call rnd arr.toList l (putT T o.dst .undef)) s).All R := hm
    cases hw : wantedA arr.toList T o with
    | false =>
      rw [hw] at hm'
      simp only [Bool.false_eq_true, if_false]
      refine ⟨fun f _ => hF.fn f, ?_⟩
      exact runOps_sim hC hF hcall hrnd l (k + 1) _ _ s w ρ hj' hr hf (putT_VRs hT _ (by simp [VR])) (by rw [put_defers]; exact hd) hm' hN
    | true =>
      rw [hw] at hm'
      simp only [if_true]
      have hm2 := (M.all_bind _ _ _ _).1 hm'
      refine op_sim hC hF hcall hrnd hr hf hT hm2 ?_
      intro v s' ρ' w' cv hR hst hhr hvr
      refine runOps_sim hC hF hcall hrnd l (k + 1) _ _ s' w' ρ' hj' hhr (hst.fr hf) (putT_VRs (VRs.mono hst.ext _ _ hT) _ hvr) (by rw [put_defers]; exact hd.step hst) hR ?_
      intro T' s'' ρ'' w'' a'' g1 g2 g3 g4 g5
      exact hN T' s'' ρ'' w'' a'' g1 (hst.trans g2) g3 g4 g5
/-- A loop's record. -/
theorem BO.loop_inv {ρ : Rho} {p : Place} {o : Option Obj} {T : List AV} {ps : List Nat} {a b : Code} {st : LoopState} {pend : Option Code} (h : BO ρ p o (.loop T ps a b st pend)) :
    ∃ l : Loop, o = some (.loop l) ∧ l.state = st ∧ l.pending = pend ∧ l.params.toList = ps ∧ l.assign = a ∧ l.body = b ∧ VRs ρ T l.tmps.toList ∧ codeOk a true = true ∧ codeOk b true = true := h
theorem step_loop {ρ : Rho} {s : St} {w w' : World} (hr : HR ρ s.H w) {b : Nm} {T : List AV} {ps : List Nat} {as bd : Code} {st st' : LoopState} {pe pe' : Option Code} {p : Place} {l l' : Loop} (hx : hget s.H b = some (.loop T ps as bd st pe)) (hp : ρ b = some p)
    (hl : w.heap[p.blk]? = some (.loop l)) (hl' : l' = { l with state := st', pending := pe' }) (hw' : w' = w.putObj p.blk (.loop l')) :
    Stp ρ s w ρ (s.put b (.loop T ps as bd st' pe')) w' ∧ HR ρ (s.put b (.loop T ps as bd st' pe')).H w' := by
  obtain ⟨q, hq, hbo⟩ := hr.blocks _ _ hx
  rw [hp] at hq; obtain rfl := Option.some.inj hq
  obtain ⟨l0, ho, h1, h2, h3, h4, h5, h6, h7, h8⟩ := hbo.loop_inv
  rw [hl] at ho; obtain rfl : l = l0 := by injection ho with ho; injection ho
  have hlt : p.blk < w.heap.size := (Array.getElem?_eq_some_iff.1 hl).1
  subst hw'
  refine step_put hr hx rfl rfl hp (putObj_same hlt) (fun c hc => putObj_ne hc) putObj_size ⟨rfl, rfl, rfl⟩ ?_ (fun _ _ _ h => by cases h) (fun _ h => by cases h)
  subst hl'
  exact ⟨_, rfl, rfl, rfl, h3, h4, h5, h6, h7, h8⟩
theorem rangeFunc_sim (hcall : CallOk P call) {g : Operand} {ps : Array Tmp} {as bd : Code} {T : List AV} {a : Act} {s : St} {w : World} {ρ : Rho} {fv : AV} {R : X × St → Prop} {Q : Exit → Act → World → Prop}
    (hoa : codeOk as true = true) (hob : codeOk bd true = true) (hr : HR ρ s.H w) (hf : Fr ρ s) (hT : VRs ρ T a.tmps.toList) (hd : DefOk B ρ s.H w a.defers) (hfv : VR ρ fv (a.eval g))
    (hm : (rangeFuncA call fv ps.toList as bd T s).All R) (hN : CodeNext B R Q ρ s w) : (Code.rangeFunc g ps as bd).wpIn Fence.wide n P Q a w := by
  unfold rangeFuncA at hm
  rw [M.all_bind] at hm
  have hm := (newM_all _ _ _).1 hm
  cases fv with
  | func f caps =>
    rw [M.all_bind] at hm
    simp only at hm
    simp only [VR] at hfv
    obtain ⟨cs, hfe, hcs⟩ := hfv
    refine wpIn_rangeFunc ?_
    intro fn _
    obtain ⟨w1, hw1⟩ : ∃ w1, w1 = w.alloc (.deferred (some [])) := ⟨_, rfl⟩
    obtain ⟨rec, hrec⟩ : ∃ rec : Loop, rec = { state := .ready, pending := none, fn, tmps := a.tmps, params := ps, assign := as, body := bd, defers := w.heap.size } := ⟨_, rfl⟩
    obtain ⟨W, hW⟩ : ∃ W, W = w1.alloc (.loop rec) := ⟨_, rfl⟩
    have hs1 : w1.heap.size = w.heap.size + 1 := by rw [hw1]; exact alloc_size
    have hst1 : Stp ρ s w ρ s w1 := step_world (by rw [hw1]; exact ⟨rfl, rfl, rfl⟩) (by omega) (fun c hc => by rw [hw1]; exact alloc_old hc)
    have hr1 : HR ρ s.H w1 := hr.more fun b x p hb hp => by rw [hw1]; exact alloc_old (blk_lt hr hb hp)
    obtain ⟨p, hp⟩ : ∃ p : Place, p = ⟨w.heap.size + 1, 0, 0, 0⟩ := ⟨_, rfl⟩
    have hpb : p.blk = w1.heap.size := by rw [hp, hs1]
    obtain ⟨hst2, hr2⟩ := step_new hr1 hf (.loop T ps.toList as bd .ready none) (.loop rec) p hpb
      (by rw [hrec]; exact ⟨_, rfl, rfl, rfl, rfl, rfl, rfl, VRs.mono (Rho.upd_ext p (name_free hf)) _ _ hT, hoa, hob⟩) (fun _ _ _ h => by cases h)
    rw [← hW] at hst2 hr2
    have hst := hst1.trans hst2
    obtain ⟨ρ1, hρ1⟩ : ∃ ρ1, ρ1 = ρ.upd s.name p := ⟨_, rfl⟩
    rw [← hρ1] at hst2 hr2 hst
    have hnm : ρ1 s.name = some p := by rw [hρ1]; exact Rho.upd_same ..
    have hargs : VRs ρ1 (.yield s.name :: caps) (.func (.yield p.blk) #[] #[] :: cs) := by
      simp only [VRs]; exact ⟨_, _, rfl, ⟨p, hnm, rfl⟩, VRs.mono hst.ext _ _ hcs⟩
    have hd0 : DefOk B ρ1 (s.new (.loop T ps.toList as bd .ready none)).H W ({ target := .collected w.heap.size, args := #[] } :: a.defers) := by
      have hd' := hd.step hst
      refine ⟨hd'.le, fun d hd1 => ?_, ?_⟩
      · rcases List.mem_cons.1 hd1 with rfl | hd1
        · refine ⟨w.heap.size, hd.le, rfl, ?_, ?_⟩
          · rw [hW, alloc_old (by omega), hw1, alloc_new]
          · rintro ⟨b, x, q, hb, hx, hq, he⟩
            by_cases e : s.name = b
            · subst e; rw [hnm] at hq; obtain rfl := Option.some.inj hq; rw [hp] at he; simp at he
            · have hb' : hget s.H b = some x := by rw [← hget_cons_ne (i := s.name) (.loop T ps.toList as bd .ready none) s.H e]; exact hb
              rw [hρ1, Rho.upd_ne _ _ (Ne.symm e)] at hq
              have := blk_lt hr hb' hq
              omega
        · exact hd'.each d hd1
      · refine List.Pairwise.cons (fun d hd1 he => ?_) hd.nd
        obtain ⟨r, _, h1, h2, _⟩ := hd.each d hd1
        rw [h1] at he
        injection he with he
        have := (Array.getElem?_eq_some_iff.1 h2).1
        omega
    obtain ⟨⟨fn', g1, g2, g3⟩, hc⟩ := hcall f (.yield s.name :: caps) _ W ρ1 _ _ hr2 (hst.fr hf) hargs hm
    have g3' : fn'.body.isNone = false := by cases hb : fn'.body <;> simp_all
    refine ⟨w.heap.size + 1, [{ target := .collected w.heap.size, args := #[] }], W, { target := .fn (.func f) ⟨cs⟩, args := #[.func (.yield (w.heap.size + 1)) #[] #[]] }, W, f, ⟨.func (.yield p.blk) #[] #[] :: cs⟩, W, ?_, ?_, ?_, ?_, ?_, ?_⟩
    · show (Instr.enterLoop fn a.tmps ps as bd none).run P w = _
      rw [run_enterLoop_outer, hW, hrec, hw1]
    · simp only [resolve, hfe]; simp [go_sem]
    · intro f' hf'; trivial
    · have : (#[Value.func (.yield (w.heap.size + 1)) #[] #[]] ++ (⟨cs⟩ : Array Value)) = ⟨.func (.yield p.blk) #[] #[] :: cs⟩ := by rw [hp]; simp
      simp only [invoke, callFunc, Sem.run_bind, run_program, Result.andThen_ok, g1, g2, g3']
      simp [this]
    · intro h; cases h
    · refine CallsIn.mono (hc (n - 1)) ?_
      intro e w3 he
      obtain ⟨v, s3, ρ3, cv, rfl, hR, hst3, hr3, hv3⟩ := he
      rw [M.all_bind] at hR
      obtain ⟨y, hy, hR⟩ := (getM_all _ _ _).1 hR
      cases y with
      | loop T' ps' a' b' st pend =>
        have hp3 : ρ3 s.name = some p := hst3.ext _ _ hnm
        obtain ⟨q, hq, hbo⟩ := hr3.blocks _ _ hy
        rw [hp3] at hq; obtain rfl := Option.some.inj hq
        obtain ⟨l0, ho, h1, h2, _⟩ := hbo.loop_inv
        have hdd := hd0.step hst3
        have key : ∀ e, exitOf pend = some e → st ≠ .busy → ((putM s.name (.loop T' ps' a' b' .exhausted pend)).bind (fun _ => M.ret (e, T)) s3).All R →
            rangePost Fence.wide n P (w.heap.size + 1) Q { a with defers := [{ target := .collected w.heap.size, args := #[] }] ++ a.defers } (.returned cv) w3 := by
          intro e he hnb hq
          rw [M.all_bind] at hq
          obtain ⟨_, hq⟩ := (putM_all _ _ _ _).1 hq
          have hpe : p.blk = w.heap.size + 1 := by rw [hp]
          rw [hpe] at ho
          refine ⟨pend, _, by rw [← h2]; exact run_endLoop ho (by rw [h1]; exact hnb), ?_⟩
          obtain ⟨hst4, hr4⟩ := step_loop (st' := .exhausted) (pe' := pend) hr3 hy hp3 (by rw [hpe]; exact ho) rfl rfl
          have hst5 := (hst.trans hst3).trans hst4
          have hl' : ({ l0 with state := .exhausted } : Loop) = { l0 with state := .exhausted, pending := pend } := by rw [← h2]
          rw [hl']
          have hnx : Q (toExit e) { a with defers := [{ target := .collected w.heap.size, args := #[] }] ++ a.defers } (w3.putObj (w.heap.size + 1) (.loop { l0 with state := .exhausted, pending := pend })) := by
            rw [← hpe]
            exact hN (e, T) _ ρ3 _ _ hq hst5 hr4 (VRs.mono hst5.ext _ _ hT) (hdd.step hst4)
          cases pend with
          | none => simp only [exitOf, Option.some.injEq] at he; subst he; exact hnx
          | some c =>
            cases c <;> simp only [exitOf, Option.some.injEq] at he <;> (try cases he) <;> try subst he
            · exact wpIn_exit hnx
            · exact wpIn_ret hnx
        simp only at hR
        cases heq : exitOf pend with
        | none => rw [heq] at hR; cases st <;> exact hR.elim
        | some e =>
          rw [heq] at hR
          cases st with
          | busy => exact hR.elim
          | _ => exact key e heq (by simp) hR
      | _ => exact hR.elim
  | _ => rw [M.all_bind] at hm; exact hm.elim
theorem iter_sim (hbody : ∀ (K' : Nat), True) {body : Code} {bm : List AV → M X} 
    (hb : ∀ (T : List AV) (a : Act) (s : St) (w : World) (ρ : Rho) (R : X × St → Prop) (Q : Exit → Act → World → Prop), HR ρ s.H w → Fr ρ s → VRs ρ T a.tmps.toList → DefOk B ρ s.H w a.defers → (bm T s).All R → CodeNext B R Q ρ s w → body.wpIn F n P Q a w) :
    ∀ (K : Nat) (T : List AV) (a : Act) (s : St) (w : World) (ρ : Rho) (R : X × St → Prop) (Q : Exit → Act → World → Prop), HR ρ s.H w → Fr ρ s → VRs ρ T a.tmps.toList → DefOk B ρ s.H w a.defers → (iter K bm T s).All R → CodeNext B R Q ρ s w →
      Code.roundsIn F n P body Q K a w
  | 0, T, a, s, w, ρ, R, Q, hr, hf, hT, hd, hm, hN => hm.elim
  | K + 1, T, a, s, w, ρ, R, Q, hr, hf, hT, hd, hm, hN => by
    rw [roundsIn_succ]
    have hm' : ((bm T).bind (fun x => match x.1 with
      | .normal => iter K bm x.2
      | e => M.ret (e, x.2)) s).All R := hm
    rw [M.all_bind] at hm'
    refine hb T a s w ρ _ _ hr hf hT hd hm' ?_
    intro x s' ρ' w' a' hR hst hhr hvr hdd
    obtain ⟨e, T'⟩ := x
    cases e with
    | normal =>
      exact iter_sim hbody hb K T' a' s' w' ρ' R Q hhr (hst.fr hf) hvr hdd hR fun x s'' ρ'' w'' a'' g1 g2 g3 g4 g5 => hN x s'' ρ'' w'' a'' g1 (hst.trans g2) g3 g4 g5
    | exit i => exact hN _ s' ρ' w' a' hR hst hhr hvr hdd
    | ret => exact hN _ s' ρ' w' a' hR hst hhr hvr hdd
theorem andB_true {a b : Bool} (h : andB a b = true) : a = true ∧ b = true := by cases a <;> simp_all [andB]
theorem exec_sim (hC : CfgOk P C) (hcall : CallOk P call) (hrnd : RndOk P rnd) (hc : ∀ f args, Nice (call f args)) (hrn : ∀ l args, Nice (rnd l args)) (K : Nat) (rd : Bool) (hF : Fw F) (hF0 : rd = false → F = Fence.wide) (c : Code) :
    codeOk c rd = true → ∀ (T : List AV) (a : Act) (s : St) (w : World) (ρ : Rho) (R : X × St → Prop) (Q : Exit → Act → World → Prop), HR ρ s.H w → Fr ρ s → VRs ρ T a.tmps.toList → DefOk B ρ s.H w a.defers → (exec C call rnd K c T s).All R → CodeNext B R Q ρ s w → c.wpIn F n P Q a w := by
  induction c with
  | skip => intro _ T a s w ρ R Q hr hf hT hd hm hN; exact wpIn_skip (hN (.normal, T) s ρ w a hm (Stp.refl ..) hr hT hd)
  | exit i => intro _ T a s w ρ R Q hr hf hT hd hm hN; exact wpIn_exit (hN (.exit i, T) s ρ w a hm (Stp.refl ..) hr hT hd)
  | ret => intro _ T a s w ρ R Q hr hf hT hd hm hN; exact wpIn_ret (hN (.ret, T) s ρ w a hm (Stp.refl ..) hr hT hd)
  | scope c _ => intro _ T a s w ρ R Q hr hf hT hd hm hN; exact hm.elim
  | label l => intro _ T a s w ρ R Q hr hf hT hd hm hN; exact hm.elim
  | goto l => intro _ T a s w ρ R Q hr hf hT hd hm hN; exact hm.elim
  | refuse r => intro _ T a s w ρ R Q hr hf hT hd hm hN; exact hm.elim
  | region id ops draw =>
    intro hok T a s w ρ R Q hr hf hT hd hm hN
    have hm' : ((match draw with | true => drawF C call rnd ops.toList T | false => runOps C call rnd ops.toList ops.toList T).bind (fun T' => M.ret (AExit.normal, T')) s).All R := hm
    rw [M.all_bind] at hm'
    cases draw with
    | true =>
      simp only at hm'
      rw [drawF_eq hc hrn] at hm'
      refine any_sim hC hF hcall hrnd hc hrn hok hr hf hT hm' ?_
      intro T' s' ρ' w' a' g1 g2 g3 g4 g5
      exact hN (.normal, T') s' ρ' w' a' g1 g2 g3 g4 (by rw [g5]; exact hd.step g2)
    | false =>
      refine wpIn_region ?_
      rw [List.range_eq_range']
      have := runOps_sim (n := n) (Q := Q) (arr := ops) hC hF hcall hrnd ops.toList 0 T a s w ρ (fun j => by rw [Nat.zero_add, nth_eq]; simp) hr hf hT hd hm' (fun T' s' ρ' w' a' g1 g2 g3 g4 g5 => hN (.normal, T') s' ρ' w' a' g1 g2 g3 g4 g5)
      simpa using this
  | seq x y ihx ihy =>
    intro hok T a s w ρ R Q hr hf hT hd hm hN
    obtain ⟨h1, h2⟩ := andB_true (hok : andB (codeOk x rd) (codeOk y rd) = true)
    have hm' : (thenA (exec C call rnd K x T) (exec C call rnd K y) s).All R := hm
    unfold thenA at hm'
    rw [M.all_bind] at hm'
    refine wpIn_seq (ihx h1 T a s w ρ _ _ hr hf hT hd hm' ?_)
    intro x s' ρ' w' a' hR hst hhr hvr hdd
    obtain ⟨e, T'⟩ := x
    cases e with
    | normal => exact ihy h2 T' a' s' w' ρ' R Q hhr (hst.fr hf) hvr hdd hR fun x s'' ρ'' w'' a'' g1 g2 g3 g4 g5 => hN x s'' ρ'' w'' a'' g1 (hst.trans g2) g3 g4 g5
    | exit i => exact hN _ s' ρ' w' a' hR hst hhr hvr hdd
    | ret => exact hN _ s' ρ' w' a' hR hst hhr hvr hdd
  | cond c x y ihx ihy =>
    intro hok T a s w ρ R Q hr hf hT hd hm hN
    obtain ⟨h1, h2⟩ := andB_true (hok : andB (codeOk x rd) (codeOk y rd) = true)
    have hm' : ((match evA T c with
      | some (.bool b) => (match b with | true => exec C call rnd K x T | false => exec C call rnd K y T)
      | _ => M.fail) s).All R := hm
    cases he : evA T c with
    | none => rw [he] at hm'; exact hm'.elim
    | some v =>
      rw [he] at hm'
      cases v with
      | bool b =>
        have hv := evA_VR hT he
        simp only [VR] at hv
        cases b with
        | true => exact wpIn_cond_true hv (ihx h1 T a s w ρ R Q hr hf hT hd hm' hN)
        | false => exact wpIn_cond_false hv (ihy h2 T a s w ρ R Q hr hf hT hd hm' hN)
      | _ => exact hm'.elim
  | block id c ih =>
    intro hok T a s w ρ R Q hr hf hT hd hm hN
    have hm' : (blockA id (exec C call rnd K c T) s).All R := hm
    unfold blockA at hm'
    rw [M.all_bind] at hm'
    refine wpIn_block (ih hok T a s w ρ _ _ hr hf hT hd hm' ?_)
    intro x s' ρ' w' a' hR hst hhr hvr hdd
    obtain ⟨e, T'⟩ := x
    cases e with
    | normal => exact hN _ s' ρ' w' a' hR hst hhr hvr hdd
    | exit i =>
      show (if i = id then Q .normal a' w' else Q (.exit i) a' w')
      simp only at hR
      cases hb : Nat.beq i id with
      | true =>
        rw [hb] at hR
        have := Nat.eq_of_beq_eq_true hb
        rw [if_pos this]; exact hN (.normal, T') s' ρ' w' a' hR hst hhr hvr hdd
      | false =>
        rw [hb] at hR
        have : i ≠ id := fun e => by subst e; rw [Nat.beq_refl] at hb; cases hb
        rw [if_neg this]; exact hN (.exit i, T') s' ρ' w' a' hR hst hhr hvr hdd
    | ret => exact hN _ s' ρ' w' a' hR hst hhr hvr hdd
  | loop c ih =>
    intro hok T a s w ρ R Q hr hf hT hd hm hN
    exact wpIn_loop_rounds K (iter_sim (fun _ => trivial) (ih hok) K T a s w ρ R Q hr hf hT hd hm hN)
  | rangeFunc g ps as bd _ _ =>
    intro hok T a s w ρ R Q hr hf hT hd hm hN
    cases rd with
    | true => cases hok
    | false =>
      obtain ⟨h1, h2⟩ := andB_true (hok : andB (codeOk as true) (codeOk bd true) = true)
      have hm' : ((match evA T g with | some fv => rangeFuncA call fv ps.toList as bd T | none => M.fail) s).All R := hm
      cases he : evA T g with
      | none => rw [he] at hm'; exact hm'.elim
      | some fv =>
        rw [he] at hm'
        rw [hF0 rfl]
        exact rangeFunc_sim hcall h1 h2 hr hf hT hd (evA_VR hT he) hm' hN
end
end
end Go.Am
namespace Go.Am
open Go
noncomputable section
/-- All the code that the table holds is served. -/
def CodesOk (C : Cfg) : Prop := ∀ f fn c, C.fn.get f = some fn → fn.body = some c → codeOk c false = true
section
variable {P : Program} {C : Cfg} {call : FuncId → List AV → M AV} {rnd : Nm → List AV → M AV} {n B : Nat} {F : Fence}
def resF (tmps : Array Value) : ResultVar → Sem Value
  | .tmp t => pure (tmps.getD t undef)
  | .cell a t => do loadVar t (← asAddr (tmps.getD a undef))
theorem getD_VR {ρ : Rho} {T : List AV} {tmps : Array Value} (hT : VRs ρ T tmps.toList) {t : Nat} {v : AV} (h : nth T t = some v) : VR ρ v (tmps.getD t undef) := by
  obtain ⟨cv, h1, h2⟩ := VRs.nth _ _ hT t v h
  have : tmps[t]? = some cv := by simpa using h1
  simpa [Array.getD_eq_getD_getElem?, this] using h2
theorem results_list (hC : CfgOk P C) {ρ : Rho} {s : St} {w : World} {T : List AV} {tmps : Array Value} (hr : HR ρ s.H w) (hT : VRs ρ T tmps.toList) : ∀ (l : List ResultVar) (R : List AV × St → Prop), (resultsA C T l s).All R →
    ∃ vs cvs, R (vs, s) ∧ (l.mapM (m := Sem) (resF tmps)).run P w = .ok cvs w ∧ VRs ρ vs cvs
  | [], R, h => ⟨[], [], h, by simp, rfl⟩
  | .tmp t :: l, R, h => by
    unfold resultsA at h
    cases hv : nth T t with
    | none => rw [hv] at h; exact h.elim
    | some v =>
      rw [hv] at h; simp only at h
      rw [M.all_bind] at h
      obtain ⟨vs, cvs, h1, h2, h3⟩ := results_list hC hr hT l _ h
      refine ⟨v :: vs, tmps.getD t undef :: cvs, h1, ?_, ?_⟩
      · simp only [List.mapM_cons, resF, Sem.run_bind, Sem.run_pure, Result.andThen_ok, h2]
      · simp only [VRs]; exact ⟨_, _, rfl, getD_VR hT hv, h3⟩
  | .cell a t :: l, R, h => by
    unfold resultsA at h
    cases hv : nth T a with
    | none => rw [hv] at h; exact h.elim
    | some v =>
      rw [hv] at h
      cases v with
      | ptr b o =>
        simp only at h
        rw [M.all_bind] at h
        unfold loadA at h
        rw [M.all_bind] at h
        obtain ⟨x, hx, h⟩ := (getM_all _ _ _).1 h
        cases x with
        | cells cs rw_ u =>
          obtain ⟨v, hp, h⟩ := (M.all_of _ _ _).1 h
          rw [M.all_bind] at h
          obtain ⟨vs, cvs, h1, h2, h3⟩ := results_list hC hr hT l _ h
          obtain ⟨p, hpp, hbo⟩ := hr.blocks b _ hx
          obtain ⟨_, ccs, e, fr, ho, _, _, hcr⟩ := hbo
          have hvr := getD_VR hT hv
          simp only [VR] at hvr
          obtain ⟨p', hp', hcv⟩ := hvr
          rw [hpp] at hp'; obtain rfl := Option.some.inj hp'
          obtain ⟨cv, g1, g2, _⟩ := run_load_at hC ho hcr hp
          refine ⟨v :: vs, cv :: cvs, h1, ?_, ?_⟩
          · simp only [List.mapM_cons, resF, Sem.run_bind, hcv, asAddr, Sem.run_pure, Result.andThen_ok, g1, h2]
          · simp only [VRs]; exact ⟨_, _, rfl, g2, h3⟩
        | _ => exact h.elim
      | _ => exact h.elim
theorem results_sim (hC : CfgOk P C) {ρ : Rho} {s : St} {w : World} {T : List AV} {tmps : Array Value} {fn : Func} (hr : HR ρ s.H w) (hT : VRs ρ T tmps.toList) {R : List AV × St → Prop} (h : (resultsA C T fn.results.toList s).All R) :
    ∃ vs cv, R (vs, s) ∧ (results fn tmps).run P w = .ok cv w ∧ VR ρ (pack vs) cv := by
  obtain ⟨vs, cvs, h1, h2, h3⟩ := results_list hC hr hT _ R h
  refine ⟨vs, _, h1, (?_ : _ = Result.ok (if h : (⟨cvs⟩ : Array Value).size = 1 then (⟨cvs⟩ : Array Value)[0] else .tuple ⟨cvs⟩) w), ?_⟩
  · have hd : results fn tmps = (do let vs ← fn.results.mapM (resF tmps); pure (if h : vs.size = 1 then vs[0] else .tuple vs)) := by
      unfold results
      rfl
    rw [hd, Array.mapM_eq_mapM_toList]
    show Sem.run P ((List.mapM _ fn.results.toList >>= fun x => pure x.toArray) >>= _) w = _
    simp only [Sem.run_bind, h2, Result.andThen_ok, Sem.run_pure]
  · have hl := VRs.length _ _ h3
    cases vs with
    | nil => simp only [VRs] at h3; subst h3; simp [pack, VR, VRs]
    | cons v vs =>
      cases vs with
      | nil => simp only [VRs] at h3; obtain ⟨cv, t, rfl, g, rfl⟩ := h3; simpa [pack] using g
      | cons u vs =>
        have hne : ¬ (⟨cvs⟩ : Array Value).size = 1 := by simp at hl ⊢; omega
        rw [dif_neg hne]
        show VR ρ (.tuple (v :: u :: vs)) _
        simp only [VR]; exact ⟨cvs, rfl, h3⟩
theorem BO.no_deferred {ρ : Rho} {p : Place} {d : Option (List Deferred)} {x : Blk} (h : BO ρ p (some (.deferred d)) x) : False := by
  cases x with
  | cells cs rw u => obtain ⟨_, ccs, e, fr, ho, _⟩ := h; cases ho
  | map es fz => obtain ⟨ents, clock, ho, _⟩ := h; cases ho
  | loop T ps a b st pend => obtain ⟨l, ho, _⟩ := h; cases ho
  | strIter s pos => cases h.2
  | mapIter m left last => obtain ⟨_, pm, clock, seen, _, ho⟩ := h; cases ho
/-- On the way out the marks are taken, one after the other. -/
theorem leaves_sim {fn : Func} {tmps : Array Value} {R : Ending → World → Prop} {ρ : Rho} {s : St} : ∀ (ds : List Deferred) (w : World), HR ρ s.H w → DefOk B ρ s.H w ds →
    (∀ w', HR ρ s.H w' → Same w w' → w'.heap.size = w.heap.size → (∀ c, c < B → w'.heap[c]? = w.heap[c]?) → LeavesIn Fence.wide n P fn tmps R [] .returning w') → LeavesInM Fence.wide n P fn tmps R ds .returning w
  | [], w, hr, hd, hN => hN w hr (Same.refl _) rfl fun _ _ => rfl
  | d :: ds, w, hr, hd, hN => by
    obtain ⟨r, h0, h1, h2, h3⟩ := hd.each d List.mem_cons_self
    have hlt : r < w.heap.size := (Array.getElem?_eq_some_iff.1 h2).1
    have hne : ∀ b x p, hget s.H b = some x → ρ b = some p → p.blk ≠ r := by
      intro b x p hb hp he
      obtain ⟨q, hq, hbo⟩ := hr.blocks b x hb
      rw [hp] at hq; obtain rfl := Option.some.inj hq
      rw [he, h2] at hbo
      exact hbo.no_deferred
    refine ⟨by simp, .inl ⟨r, w.putObj r (.deferred none), h1, run_takeDeferred h2, ?_⟩⟩
    refine leaves_sim ds _ (hr.more fun b x p hb hp => putObj_ne (hne b x p hb hp)) ⟨by rw [putObj_size]; exact hd.le, fun d' hd' => ?_, (List.pairwise_cons.1 hd.nd).2⟩ ?_
    · obtain ⟨r', g0, g1, g2, g3⟩ := hd.each d' (List.mem_cons_of_mem _ hd')
      refine ⟨r', g0, g1, ?_, g3⟩
      rw [putObj_ne]; · exact g2
      intro e; subst e
      exact (List.pairwise_cons.1 hd.nd).1 d' hd' (by rw [h1, g1])
    · intro w' g1 g2 g3 g4
      refine hN w' g1 (Same.trans (b := w.putObj r (.deferred none)) ⟨rfl, rfl, rfl⟩ g2) (by rw [g3, putObj_size]) fun c hc => ?_
      rw [g4 c hc, putObj_ne (by omega)]
theorem undefs_len (k : Nat) : (undefs k).length = k := by induction k <;> simp_all [undefs]
theorem body_sim (hC : CfgOk P C) (hK : CodesOk C) (hcall : CallOk P call) (hrnd : RndOk P rnd) (hc : ∀ f args, Nice (call f args)) (hrn : ∀ l args, Nice (rnd l args)) {K : Nat} {f : FuncId} {fn : Func} (hfn : C.fn.get f = some fn)
    {args : List AV} {s : St} {w : World} {ρ : Rho} {cargs : List Value} {R : AV × St → Prop} (hr : HR ρ s.H w) (hf : Fr ρ s) (ha : VRs ρ args cargs) (hm : (bodyA C call rnd K fn args s).All R) :
    fn.body.isSome = true ∧ ∀ n, CallsIn Fence.wide n P f ⟨cargs⟩ w (EndR R ρ s w) := by
  unfold bodyA at hm
  cases hb : fn.body with
  | none => rw [hb] at hm; exact hm.elim
  | some c =>
    rw [hb] at hm; simp only at hm
    refine ⟨rfl, fun n => ?_⟩
    rw [M.all_bind] at hm
    obtain ⟨h1, h2⟩ := hC.fn f fn hfn
    refine callsIn_of_wp_marks h1 hb trivial ?_
    have hT : VRs ρ (args ++ undefs (fn.ntmps - args.length)) ((⟨cargs⟩ : Array Value) ++ Array.replicate (fn.ntmps - (⟨cargs⟩ : Array Value).size) undef).toList := by
      have hl := VRs.length _ _ ha
      simp only [Array.toList_append, Array.toList_replicate]
      refine VRs.append _ _ _ _ ha ?_
      rw [show (⟨cargs⟩ : Array Value).size = args.length by simp [hl]]
      exact VRs.undefs _
    refine exec_sim (B := w.heap.size) hC hcall hrnd hc hrn K false (.inl rfl) (fun _ => rfl) c (hK f fn c hfn hb) _ _ s w ρ _ _ hr hf hT (DefOk.nil ρ s.H (Nat.le_refl _)) hm ?_
    intro x s' ρ' w' a' hR hst hr' hT' hd'
    obtain ⟨e, T'⟩ := x
    have fin : ∀ (hR : ((resultsA C T' fn.results.toList).bind (fun vs => M.ret (pack vs)) s').All R), LeavesInM Fence.wide n P fn a'.tmps (EndR R ρ s w) a'.defers .returning w' := by
      intro hR
      rw [M.all_bind] at hR
      refine leaves_sim a'.defers w' hr' hd' fun w2 g1 g2 g3 g4 => ?_
      obtain ⟨vs, cv, k1, k2, k3⟩ := results_sim hC (fn := fn) g1 hT' hR
      refine ⟨cv, k2, pack vs, s', ρ', cv, rfl, k1, ⟨hst.ext, hst.loc, hst.pre, hst.nle, hst.same.trans g2, by rw [g3]; exact hst.size, fun c hc hi => ?_, hst.img⟩, g1, k3⟩
      rw [g4 c hc]; exact hst.unch c hc hi
    cases e with
    | normal => exact fin hR
    | ret => exact fin hR
    | exit i => exact hR.elim
theorem eqSame_eq {a b : AV} (h : eqSame a b = some true) : a = b := by
  cases a <;> cases b <;> simp [eqSame] at h
  case bool.bool x y => cases x <;> cases y <;> simp_all
  case int.int => split at h <;> simp_all
  case str.str x y =>
    obtain ⟨⟨x⟩⟩ := x
    obtain ⟨⟨y⟩⟩ := y
    have h : ((⟨x⟩ : Array UInt8) == ⟨y⟩) = true := h
    simp at h
    rw [h]
theorem upto_spec {p : Nat → Bool} : ∀ n, upto n p = true → ∀ i, i < n → p i = true
  | 0, _, i, hi => by omega
  | n + 1, h, i, hi => by
    unfold upto at h
    cases hp : p n with
    | false => rw [hp] at h; cases h
    | true =>
      rw [hp] at h
      by_cases e : i = n
      · subst e; exact hp
      · exact upto_spec n h i (by omega)
theorem collapse_all (ns : Option Nm) : ∀ (t : Tr (AV × St)) (v : AV), collapse ns t = some v → t.All fun x => x.1 = v ∧ v.flat = true ∧ ∀ p, ns = some p → oldIds p x.2.j = []
  | .fail, v, h => by cases h
  | .ret x, v, h => by
    unfold collapse at h
    show x.1 = v ∧ _
    cases hf : x.1.flat with
    | false => rw [hf] at h; cases h
    | true =>
      rw [hf] at h
      cases ns with
      | none => simp only [Option.some.injEq] at h; subst h; exact ⟨rfl, hf, fun p hp => by cases hp⟩
      | some p =>
        simp only at h
        cases ho : oldIds p x.2.j with
        | nil => rw [ho] at h; simp only [Option.some.injEq] at h; subst h; exact ⟨rfl, hf, fun q hq => by cases hq; exact ho⟩
        | cons a b => rw [ho] at h; cases h
  | .ask n k, v, h => by
    unfold collapse at h
    cases h0 : collapse ns (k 0) with
    | none => rw [h0] at h; cases h
    | some u =>
      rw [h0] at h
      cases n with
      | zero => cases h
      | succ n =>
        simp only at h
        cases hu : upto (n + 1) fun i => isV u (collapse ns (k i)) with
        | false => rw [hu] at h; cases h
        | true =>
          rw [hu] at h; simp only [Option.some.injEq] at h; subst h
          intro i hi
          have h1 := upto_spec _ hu i hi
          cases hk : collapse ns (k i) with
          | none => rw [hk] at h1; cases h1
          | some z =>
            rw [hk] at h1
            have : u = z := by
              simp only [isV] at h1
              cases he : eqSame u z with
              | none => rw [he] at h1; cases h1
              | some b => rw [he] at h1; simp only at h1; subst h1; exact eqSame_eq he
            subst this
            exact collapse_all ns (k i) u hk
theorem Leaf.all {α : Type} {Q Q' : α → Prop} : ∀ {t : Tr α}, Leaf Q t → t.All Q' → t.All fun a => Q a ∧ Q' a
  | .fail, _, h => h
  | .ret a, h, h' => ⟨h, h'⟩
  | .ask n k, h, h' => fun i hi => Leaf.all (t := k i) (h i) (h' i hi)
theorem enter_sim (hC : CfgOk P C) (hK : CodesOk C) (hcall : CallOk P call) (hrnd : RndOk P rnd) (hc : ∀ f args, Nice (call f args)) (hrn : ∀ l args, Nice (rnd l args)) (K : Nat) : CallOk P (enterA C call rnd K) := by
  intro f args s w ρ cargs R hr hf ha hm
  unfold enterA at hm
  cases hfn : C.fn.get f with
  | none => rw [hfn] at hm; exact hm.elim
  | some fn =>
    rw [hfn] at hm; simp only at hm
    obtain ⟨h1, h2⟩ := hC.fn f fn hfn
    have plain : (bodyA C call rnd K fn args s).All R → _ := fun hm =>
      have hb := body_sim hC hK hcall hrnd hc hrn hfn hr hf ha hm
      (⟨⟨fn, h1, h2, hb.1⟩, hb.2⟩ : (∃ fn, P.funcs[f]? = some fn ∧ (fn.name == "runtime.NumGoroutine") = false ∧ fn.body.isSome = true) ∧ ∀ n, CallsIn Fence.wide n P f ⟨cargs⟩ w (EndR R ρ s w))
    have hm : ((match C.mode.get f with
      | some 1 => (match flats args with
        | true => M.of (collapse none (bodyA C call rnd K fn args ⟨[], 0, [], false, []⟩))
        | false => M.fail)
      | some 2 => fun s => M.of (collapse (some s.name) (bodyA C call rnd K fn args ⟨s.H, 0, s.name, true, []⟩)) s
      | _ => bodyA C call rnd K fn args) s).All R := hm
    obtain ⟨o, ho⟩ : ∃ o, o = C.mode.get f := ⟨_, rfl⟩
    rw [← ho] at hm
    rcases o with _ | _ | _ | _ | k
    · exact plain hm
    · exact plain hm
    · -- in an empty state
      cases hfl : flats args with
      | false => rw [hfl] at hm; exact hm.elim
      | true =>
        rw [hfl] at hm
        obtain ⟨v, hv, hR⟩ := (M.all_of _ _ _).1 hm
        have hall := collapse_all none _ v hv
        have hb := body_sim (w := w) (ρ := fun _ => none) (s := ⟨[], 0, [], false, []⟩) hC hK hcall hrnd hc hrn hfn ⟨fun b x h => (by simp at h), fun b b' x x' p p' h => (by simp at h), fun b m l e h => (by simp at h)⟩ (fun _ _ _ => rfl) (VRs.flat _ _ hfl ha) hall
        refine ⟨⟨fn, h1, h2, hb.1⟩, fun n => (hb.2 n).mono ?_⟩
        rintro e w' ⟨v', s', ρ', cv, rfl, ⟨g1, g2, _⟩, hst, hr', hvr⟩
        simp only at g1; subst g1
        have hold : ∀ c, c < w.heap.size → w'.heap[c]? = w.heap[c]? := fun c hc => hst.unch c hc (by rintro ⟨b, x, p, hb, _⟩; simp at hb)
        exact ⟨v', s, ρ, cv, rfl, hR, step_world hst.same hst.size hold, hr.more fun b x p hb hp => hold _ (blk_lt hr hb hp), VR.flat _ _ g2 hvr⟩
    · -- its result alone stays
      obtain ⟨v, hv, hR⟩ := (M.all_of _ _ _).1 hm
      have hall := collapse_all (some s.name) _ v hv
      have hjr := (Nice.bodyA (C := C) hc hrn K fn args).jr ⟨s.H, 0, s.name, true, []⟩
      have hall := Leaf.all hjr hall
      have hf2 : Fr ρ ⟨s.H, 0, s.name, true, []⟩ := fun m r _ => by
        show ρ ((s.pre ++ [s.n]) ++ m :: r) = none
        have := hf s.n (m :: r) (Nat.le_refl _)
        simpa using this
      have hb := body_sim (w := w) (ρ := ρ) (s := ⟨s.H, 0, s.name, true, []⟩) hC hK hcall hrnd hc hrn hfn hr hf2 ha hall
      refine ⟨⟨fn, h1, h2, hb.1⟩, fun n => (hb.2 n).mono ?_⟩
      rintro e w' ⟨v', s', ρ', cv, rfl, ⟨hj, g1, g2, g3⟩, hst, hr', hvr⟩
      simp only at g1; subst g1
      have g3 := g3 s.name rfl
      obtain ⟨d, d1, d2, _⟩ := hj.j rfl
      have hd : s'.j = d := by rw [d1]; exact List.append_nil d
      simp only at g3
      rw [hd] at g3
      have hsame : ∀ b p, ρ b = some p → hget s'.H b = hget s.H b := by
        intro b p hp
        have d2 : hget s'.H b = hget (redoH s.H d) b := d2 b
        rw [d2, hget_redoH]
        cases hl : lkD d b with
        | none => rfl
        | some y =>
          exfalso
          have : b ∈ oldIds s.name d := (mem_oldIds _ _ _).2 ⟨lkD_mem hl, by
            rintro ⟨r, rfl⟩
            have := hf s.n r (Nat.le_refl _)
            rw [show s.name ++ r = s.pre ++ s.n :: r by simp [St.name], this] at hp; cases hp⟩
          rw [g3] at this; simp at this
      refine ⟨v', s, ρ, cv, rfl, hR, ⟨Ext.refl _, fun b p h h' => (by rw [h] at h'; cases h'), rfl, Nat.le_refl _, hst.same, hst.size, hst.unch, fun _ _ h => h⟩, ?_, VR.flat _ _ g2 hvr⟩
      refine ⟨fun b x hb => ?_, hr.sep, fun b m l e hb => ?_⟩
      · obtain ⟨p, hp, hbo⟩ := hr.blocks b x hb
        obtain ⟨p', hp', hbo'⟩ := hr'.blocks b x (by rw [hsame b p hp]; exact hb)
        have := hst.ext _ _ hp
        rw [this] at hp'; obtain rfl := Option.some.inj hp'
        exact ⟨p, hp, hbo.back hst.ext hbo'⟩
      · obtain ⟨⟨es, he⟩, hmi⟩ := hr.iter b m l e hb
        obtain ⟨p, hp, _⟩ := hr.blocks b _ hb
        obtain ⟨pm, hpm, _⟩ := hr.blocks m _ he
        refine ⟨⟨es, he⟩, fun q qm hq hqm => ?_⟩
        obtain ⟨_, hmi'⟩ := hr'.iter b m l e (by rw [hsame b p hp]; exact hb)
        exact MI.back hst.ext (hmi q qm hq hqm) (hmi' q qm (hst.ext _ _ hq) (hst.ext _ _ hqm))
    · exact plain hm
theorem setAll_spec {ρ : Rho} : ∀ (ps : List Nat) (args : List AV) (T T' : List AV) (cargs : List Value) (tmps : Array Value), setAll T ps args = some T' → VRs ρ T tmps.toList → VRs ρ args cargs →
    cargs.length = ps.length ∧ VRs ρ T' ((ps.zip cargs).foldl (fun (tmps : Array Value) (x : Nat × Value) => tmps.setIfInBounds x.1 x.2) tmps).toList
  | [], [], T, T', cargs, tmps, h, hT, ha => by
    simp only [setAll, Option.some.injEq] at h; subst h
    simp only [VRs] at ha; subst ha
    exact ⟨rfl, hT⟩
  | p :: ps, v :: vs, T, T', cargs, tmps, h, hT, ha => by
    simp only [VRs] at ha
    obtain ⟨cv, t, rfl, h1, h2⟩ := ha
    have hT' : VRs ρ (setNth T p v) (tmps.setIfInBounds p cv).toList := by rw [Array.toList_setIfInBounds]; exact VRs.set _ _ hT p v cv h1
    obtain ⟨g1, g2⟩ := setAll_spec ps vs _ T' t _ (by simpa [setAll] using h) hT' h2
    exact ⟨by simp [g1], by simpa using g2⟩
  | [], _ :: _, _, _, _, _, h, _, _ => by simp [setAll] at h
  | _ :: _, [], _, _, _, _, h, _, _ => by simp [setAll] at h
theorem round_sim (hC : CfgOk P C) (hcall : CallOk P call) (hrnd : RndOk P rnd) (hc : ∀ f args, Nice (call f args)) (hrn : ∀ l args, Nice (rnd l args)) (K : Nat) : RndOk P (roundA C call rnd K) := by
  intro l args s w ρ cargs R p hr hf ha hp hm
  unfold roundA at hm
  rw [M.all_bind] at hm
  obtain ⟨x, hx, hm⟩ := (getM_all _ _ _).1 hm
  cases x with
  | loop T ps as bd st pe =>
    simp only at hm
    cases hsa : setAll T ps args with
    | none => rw [hsa] at hm; exact hm.elim
    | some T' =>
      rw [hsa] at hm; simp only at hm
      obtain ⟨q, hq, hbo⟩ := hr.blocks _ _ hx
      rw [hp] at hq; obtain rfl := Option.some.inj hq
      obtain ⟨r, ho, h1, h2, h3, h4, h5, h6, h7, h8⟩ := hbo.loop_inv
      obtain ⟨g1, g2⟩ := setAll_spec ps args T T' cargs r.tmps hsa h6 ha
      have hsz : (⟨cargs⟩ : Array Value).size = r.params.size := by simp [g1, ← h3]
      refine ⟨r.fn, _, r.assign, r.body, run_yield ho hsz, fun n => ?_⟩
      refine roundIn_of_wpIn trivial ?_
      rw [M.all_bind] at hm
      have hT' : VRs ρ T' ((r.params.zip ⟨cargs⟩).foldl (fun tmps (x : Nat × Value) => tmps.setIfInBounds x.1 x.2) r.tmps).toList := by
        have e : (r.params.zip ⟨cargs⟩) = (⟨ps.zip cargs⟩ : Array (Nat × Value)) := by
          apply Array.ext'; simp [← h3]
        rw [e]; simpa using g2
      rw [h4, h5]
      refine exec_sim (B := 0) hC hcall hrnd hc hrn K true (.inr ⟨_, rfl⟩) (fun h => by cases h) as h7 _ _ s w ρ _ _ hr hf hT' (DefOk.nil ρ s.H (Nat.zero_le _)) hm ?_
      intro x s1 ρ1 w1 a1 hR hst1 hr1 hT1 _
      obtain ⟨e, T1⟩ := x
      cases e with
      | exit i => exact hR.elim
      | ret => exact hR.elim
      | normal =>
        simp only at hR
        rw [M.all_bind] at hR
        obtain ⟨y, hy, hR⟩ := (getM_all _ _ _).1 hR
        cases y with
        | loop T2 ps2 as2 bd2 st2 pe2 =>
          cases st2 with
          | ready =>
            simp only at hR
            rw [M.all_bind] at hR
            obtain ⟨_, hR⟩ := (putM_all _ _ _ _).1 hR
            rw [M.all_bind] at hR
            have hp1 := hst1.ext _ _ hp
            obtain ⟨q, hq, hbo⟩ := hr1.blocks _ _ hy
            rw [hp1] at hq; obtain rfl := Option.some.inj hq
            obtain ⟨r1, ho1, k1, k2, _⟩ := hbo.loop_inv
            obtain ⟨hst2, hr2⟩ := step_loop (st' := .busy) (pe' := pe2) hr1 hy hp1 ho1 rfl rfl
            have e2 : ({ r1 with state := .busy } : Loop) = { r1 with state := .busy, pending := pe2 } := by rw [← k2]
            refine ⟨_, run_beginRound ho1 k1, ?_⟩
            rw [e2]
            have hst12 := hst1.trans hst2
            refine exec_sim (B := 0) hC hcall hrnd hc hrn K true (.inr ⟨_, rfl⟩) (fun h => by cases h) bd h8 T1 a1 _ _ ρ1 _ _ hr2 (hst12.fr hf) hT1 ?_ hR ?_
            · exact (by assumption : DefOk 0 ρ1 s1.H w1 a1.defers).step hst2
            intro z s3 ρ3 w3 a3 hR hst3 hr3 hT3 _
            obtain ⟨e, T3⟩ := z
            rw [M.all_bind] at hR
            obtain ⟨u, hu, hR⟩ := (getM_all _ _ _).1 hR
            cases u with
            | loop T4 ps4 as4 bd4 st4 pe4 =>
              have hp3 := hst3.ext _ _ hp1
              obtain ⟨q, hq, hbo⟩ := hr3.blocks _ _ hu
              rw [hp3] at hq; obtain rfl := Option.some.inj hq
              obtain ⟨r3, ho3, _⟩ := hbo.loop_inv
              have hst := hst12.trans hst3
              have fin : ∀ (j : Option Code), ((putM l (.loop T4 ps4 as4 bd4 (if j.isNone then .ready else .done) j)).bind (fun _ => M.ret (.bool j.isNone)) s3).All R → ∃ v w', (Instr.endRound p.blk j).run P w3 = .ok v w' ∧ EndR R ρ s w (.returned v) w' := by
                intro j hR
                rw [M.all_bind] at hR
                obtain ⟨_, hR⟩ := (putM_all _ _ _ _).1 hR
                obtain ⟨hst4, hr4⟩ := step_loop (st' := if j.isNone then .ready else .done) (pe' := j) hr3 hu hp3 ho3 rfl rfl
                exact ⟨_, _, run_endRound j ho3, _, _, _, _, rfl, hR, hst.trans hst4, hr4, rfl⟩
              cases e with
              | normal => exact fin none hR
              | exit i => exact fin (some (.exit i)) hR
              | ret => exact fin (some .ret) hR
            | _ => exact hR.elim
          | _ => exact hR.elim
        | _ => exact hR.elim
  | _ => exact hm.elim
theorem mach_sim (hC : CfgOk P C) (hK : CodesOk C) : ∀ K, CallOk P (acall C K) ∧ RndOk P (around C K)
  | 0 => ⟨fun _ _ _ _ _ _ _ _ _ _ hm => hm.elim, fun _ _ _ _ _ _ _ _ _ _ _ _ hm => hm.elim⟩
  | K + 1 => by
    obtain ⟨h1, h2⟩ := mach_sim hC hK K
    obtain ⟨n1, n2⟩ := Nice.mach C K
    exact ⟨by rw [acall_succ]; exact enter_sim hC hK h1 h2 n1 n2 (K + 1), by rw [around_succ]; exact round_sim hC h1 h2 n1 n2 (K + 1)⟩
end
end
end Go.Am
namespace Go.Am
open Go
noncomputable section
/-! ### The tables of a program: what is to be asked of them, by evaluation -/
def AllNT {α : Type} (Q : Nat → α → Prop) : NT α → Prop
  | .leaf => True
  | .node k v l r => Q k v ∧ AllNT Q l ∧ AllNT Q r
theorem AllNT.get {α : Type} {Q : Nat → α → Prop} : ∀ {t : NT α} {n : Nat} {v : α}, AllNT Q t → t.get n = some v → Q n v
  | .leaf, n, v, _, h => by cases h
  | .node k u l r, n, v, ha, h => by
    have h : (match Nat.beq n k with | true => some u | false => (match Nat.ble n k with | true => l.get n | false => r.get n)) = some v := h
    cases hb : Nat.beq n k with
    | true =>
      rw [hb] at h
      have := Nat.eq_of_beq_eq_true hb
      cases h; subst this; exact ha.1
    | false =>
      rw [hb] at h
      cases hl : Nat.ble n k with
      | true => rw [hl] at h; exact ha.2.1.get h
      | false => rw [hl] at h; exact ha.2.2.get h
def aggD : TypeDesc → Bool
  | .struct _ | .array _ _ => true
  | _ => false
def boolEq : Bool → Bool → Bool
  | true, b => b
  | false, b => notB b
def cmpOk (P : Program) (t : TypeId) (i : TI) : Bool :=
  match i.cmp with
  | false => true
  | true => notB (P.stoodInHeld t) && notB (P.eqGuardType P.depth t) && (match i.desc with | .struct fs => fs.toList.all fun f => f.name != "_" | _ => true)
def fieldsOk (P : Program) (i : TI) : Bool := match i.desc with | .struct fs => fs.toList.all fun f => (P.info? f.type).isSome | _ => true
def tyB (P : Program) (t : TypeId) (i : TI) : Bool := boolEq (aggD i.desc) i.agg && fieldsOk P i && cmpOk P t i
theorem tyOk_of {P : Program} {t : TypeId} {i : TI} (h1 : (P.underlying t, (P.info? t).map fun j => (j.size, j.bytes, j.zero.bind ofConst)) = (some i.desc, some (i.size, i.bytes, i.zero))) (h2 : tyB P t i = true) : TyOk P t i := by
  rw [Prod.mk.injEq] at h1
  obtain ⟨h1, h3⟩ := h1
  unfold tyB at h2
  simp only [Bool.and_eq_true] at h2
  obtain ⟨⟨h4, h5⟩, h6⟩ := h2
  refine ⟨h1, ?_, ?_, ?_, ?_⟩
  · cases hj : P.info? t with
    | none => rw [hj] at h3; cases h3
    | some j =>
      rw [hj] at h3
      simp only [Option.map_some, Option.some.injEq, Prod.mk.injEq] at h3
      obtain ⟨g1, g2, g3⟩ := h3
      refine ⟨j, rfl, g1, g2, fun z hz => ?_⟩
      rw [hz] at g3
      cases hv : j.zero with
      | none => rw [hv] at g3; cases g3
      | some v => rw [hv] at g3; exact ⟨v, rfl, g3⟩
  · have : i.agg = aggD i.desc := by cases h : aggD i.desc <;> rw [h] at h4 <;> cases hb : i.agg <;> simp_all [boolEq, notB]
    rw [this]
    cases i.desc <;> simp [aggD]
  · intro fs hfs f hf
    unfold fieldsOk at h5
    rw [hfs] at h5
    simp only [List.all_eq_true] at h5
    have := h5 f (by simpa using hf)
    exact Option.isSome_iff_exists.1 this
  · intro hc
    unfold cmpOk at h6
    rw [hc] at h6
    simp only [Bool.and_eq_true] at h6
    obtain ⟨⟨g1, g2⟩, g3⟩ := h6
    have nb : ∀ b, notB b = true → b = false := fun b hb => by cases b <;> simp_all [notB]
    refine ⟨nb _ g1, nb _ g2, fun fs hfs f hf => ?_⟩
    rw [hfs] at g3
    simp only [List.all_eq_true] at g3
    have := g3 f (by simpa using hf)
    simpa using this
def codesB : NT Func → Bool
  | .leaf => true
  | .node _ v l r => andB (match v.body with | some c => codeOk c false | none => true) (andB (codesB l) (codesB r))
theorem codesB_spec : ∀ {t : NT Func}, codesB t = true → AllNT (fun _ v => ∀ c, v.body = some c → codeOk c false = true) t
  | .leaf, _ => trivial
  | .node k v l r, h => by
    obtain ⟨h1, h2⟩ := andB_true (h : andB _ _ = true)
    obtain ⟨h2, h3⟩ := andB_true h2
    refine ⟨fun c hc => ?_, codesB_spec h2, codesB_spec h3⟩
    rw [hc] at h1; exact h1
theorem codesOk_of {C : Cfg} (h : codesB C.fn = true) : CodesOk C := fun f fn c hf hc => (codesB_spec h).get hf c hc
theorem cfgOk_of {P : Program} {C : Cfg} (h1 : AllNT (fun f fn => P.funcs[f]? = some fn ∧ (fn.name == "runtime.NumGoroutine") = false) C.fn) (h2 : AllNT (fun t i => TyOk P t i) C.ty) (h3 : P.follows .mixedOrders = true) : CfgOk P C :=
  ⟨fun f fn h => h1.get h, fun t i h => h2.get h, h3⟩
end
end Go.Am
namespace Go.Am
open Go Go.RowKit Go.WideShapes Go.ChangeShapes
section
variable {P : Program} {C : Cfg}
/-- A law's call: the abstract machine answers true on a heap that it may only read. -/
theorem calls_of_run (hC : CfgOk P C) (hK : CodesOk C) {K : Nat} {f : FuncId} {args : List AV} {H : Heap} {m : Nat} {cargs : List Value} {W : World} {ρ : Rho} (hr : HR ρ H W) (hro : ∀ b x, hget H b = some x → x.rwB = false) (hf : Fr ρ ⟨H, m, [], false, []⟩)
    (ha : VRs ρ args cargs) (hm : (acall C K f args ⟨H, m, [], false, []⟩).All fun x => x.1 = .bool true) :
    Calls P f ⟨cargs⟩ W fun e W' => e = .returned (.bool true) ∧ Below W.heap.size W W' := by
  obtain ⟨_, hc⟩ := (mach_sim hC hK K).1 f args ⟨H, m, [], false, []⟩ W ρ cargs _ hr hf ha hm
  refine ((hc 0).calls fun k => room_wide k).mono ?_
  rintro e W' ⟨v, s', ρ', cv, rfl, hv, hst, _, hcv⟩
  simp only at hv; subst hv
  simp only [VR] at hcv
  refine ⟨by rw [hcv], hst.same.os, hst.same.tape, hst.same.output, hst.size, fun k hk => hst.unch k hk ?_⟩
  rintro ⟨b, x, p, hb, hx, _, _⟩
  rw [hro b x hb] at hx; cases hx
end
section
variable {H : Type} {enc : TypeId × Value → H} {P : Program}
theorem trodAll_below (hl : laidOutB P = true) {W W' : World} (hb : Below W.heap.size W W') : ∀ (ts : List TypeId) (vs : List Value) (ds : List (DataW H)) (ps : List MemPlace), (∀ x ∈ ps, x.block < W.heap.size) → (∀ t ∈ ts, P.readableRec t = true ∧ t < P.types.size) →
    DataW.TrodAll enc P W 0 (fun _ => true) true ts vs ds ps → ∀ sp : Nat → Bool, (∀ p ∈ ps, sp p.block = true) → DataW.TrodAll enc P W' 0 sp true ts vs ds ps
  | [], [], [], ps, _, _, h, sp, hs => h
  | t :: ts, v :: vs, d :: ds, ps, hlt, ht, h, sp, hs => by
    obtain ⟨p, q, h1, h2, rfl⟩ := h
    refine ⟨p, q, ?_, trodAll_below hl hb ts vs ds q (fun x hx => hlt x (List.mem_append_right _ hx)) (fun t' h' => ht t' (List.mem_cons_of_mem _ h')) h2 sp fun x hx => hs x (List.mem_append_right _ hx), rfl⟩
    exact WideElems.Trod_stays hl (ht t List.mem_cons_self).1 (ht t List.mem_cons_self).2 h1 (fun x hx => hb.same (hlt x (List.mem_append_left _ hx))) (fun x hx => hs x (List.mem_append_left _ hx))
  | [], [], _ :: _, _, _, _, h, _, _ => h.elim
  | [], _ :: _, [], _, _, _, h, _, _ => h.elim
  | [], _ :: _, _ :: _, _, _, _, h, _, _ => h.elim
  | _ :: _, [], [], _, _, _, h, _, _ => h.elim
  | _ :: _, [], _ :: _, _, _, _, h, _, _ => h.elim
  | _ :: _, _ :: _, [], _, _, _, h, _, _ => h.elim
end
end Go.Am
namespace Go.Am
open Go
def isTrue (t : Tr (AV × St)) : Bool := match t with | .ret x => (match x.1 with | .bool b => b | _ => false) | _ => false
theorem isTrue_all {t : Tr (AV × St)} (h : isTrue t = true) : t.All fun x => x.1 = .bool true := by
  cases t with
  | ret x =>
    obtain ⟨v, s⟩ := x
    cases v with
    | bool b => simp only [isTrue] at h; subst h; rfl
    | _ => cases h
  | fail => cases h
  | ask n k => cases h
end Go.Am
namespace Go.Am
open Go Go.RowKit Go.WideShapes Go.ChangeShapes
section
variable {H : Type} {enc : TypeId × Value → H} {P : Program}
/-- A law's post: it has answered true; below the heap's old size nothing has turned. -/
theorem law_post {f : Func} {s : ChangeSpec} {W W' : World} {args : Array Value} {ds : List (DataW H)} {before : List MemPlace} {tb : TypeId} (hl : laidOutB P = true) (hpar : ∀ t ∈ f.params.toList, P.readableRec t = true ∧ t < P.types.size)
    (hvars : s.vars = []) (hrt : f.resultTypes = #[tb]) (htb : P.underlying tb = some .bool) (hW : DataW.Whole enc P f.params.toList s.vars false W args.toList ds [] before) (hfn : s.fn H ds = { results := [.lit (.bool true)], args := ds })
    (hb : Below W.heap.size W W') : s.post enc P f false true false false W args (.bool true) W' := by
  have hlt : ∀ p ∈ before, p.block < W.heap.size := fun p hp => hW.lt p hp
  have hW2 := hW
  obtain ⟨p, q, h1, h2, h3, _, _⟩ := hW2
  rw [hvars] at h2
  have hq : q = [] := h2
  subst hq
  simp only [List.append_nil] at h3; subst h3
  have hfn' : s.fn H (ds ++ []) = { results := [.lit (.bool true)], args := ds } := by rw [List.append_nil]; exact hfn
  refine ⟨ds, [], before, [], before, [], hW, ?_, ?_, ?_, World.keptBut_mono (fun x hx => ⟨hx, .inr (.inl hx)⟩) (hb.frame (· ∈ before)), fun h => by cases h⟩
  · rw [hfn', hrt]
    exact trodAll_cons_mk (shut_bool htb _) trodAll_mk0
  · rw [hfn']
    exact trodAll_below hl hb _ _ _ _ hlt hpar h1 _ fun x hx => by simpa using hlt x hx
  · rw [hfn', hvars]; rfl
end
end Go.Am
namespace Go.Am
open Go Go.RowKit
/-- All outcomes are true. -/
structure Yes (t : Tr (AV × St)) : Prop where
  all : t.All fun x => x.1 = .bool true
theorem yes_of {t : Tr (AV × St)} (h : isTrue t = true) : Yes t := ⟨isTrue_all h⟩
/-- A law without arguments. -/
theorem calls_of_nothing {P : Program} {C : Cfg} (hC : CfgOk P C) (hK : CodesOk C) {K : Nat} {f : FuncId} (hm : Yes (acall C K f [] ⟨[], 0, [], false, []⟩)) (W : World) : Calls P f #[] W fun e W' => e = .returned (.bool true) ∧ Below W.heap.size W W' :=
  calls_of_run (K := K) (f := f) (args := []) (H := []) (m := 0) (cargs := []) (ρ := fun _ => none) hC hK ⟨fun b x h => (by simp at h), fun b b' x x' p p' h => (by simp at h), fun b m l e h => (by simp at h)⟩ (fun b x h => by simp at h) (fun _ _ _ => rfl) rfl hm.all
/-- The closed facts of a row: those of the program alone apart. -/
theorem joined_of {P : Program} {f : FuncId} {fn : Func} {s : ChangeSpec} {c : OpenClaim} (h1 : laidOutB P = true) (h2 : mapsRowed P = true) (h3 : (P.stops == []) = true) (h4 : (P.stopKnobs == []) = true) (h5 : (c.plainKeys == P.plainKeys) = true) (h6 : P.stopsHeard = true) (h7 : P.mayEnter = true)
    (h8 : (c.lifted == P.liftsFinal) = true) (h9 : (P.make == some c.make) = true) (a1 : c.wf (OpenSpec.ofChange s) = true) (a2 : fn.params.all (P.readableRec ·) = true) (a3 : namedTie P c.named s.vars = true) (a4 : (c.stops == []) = true) (a5 : (c.knobs == []) = true)
    (b1 : (c.inPlace == P.inPlace f) = true) (b2 : (c.unfollowed == P.unfollowed f) = true) (b3 : (c.recurses == P.recurses f) = true) (b4 : (c.named == P.varsNamed f) = true)
    (rest : ((c.maps == (fn.params.toList ++ s.plain.varTypes P).any (P.mapsRec ·)) && (c.ifaces == (fn.params.toList ++ s.plain.varTypes P).any (P.ifacesRec ·)) && (c.mapsOut == P.mapsAmong fn.resultTypes.toList) &&
      (c.loops == (fn.params.toList ++ s.plain.varTypes P).any (P.loopsFrom ·)) && (c.wideKeys == (fn.params.toList ++ s.plain.varTypes P ++ fn.resultTypes.toList).any (P.wideKeysFrom ·)) &&
      s.vars.all (P.varReadable ·) && fn.resultTypes.all (fun t => P.readableRec t && decide (t < P.types.size)) && (c.ifacesOut == fn.resultTypes.toList.any (P.ifacesRec ·)) && (c.loopsOut == fn.resultTypes.toList.any (P.loopsFrom ·)) && c.shortTexts.isNone &&
      (c.kinds == (if c.domain.isEmpty then [] else fn.params.toList.map fun t => match P.underlying t with | some (.int k) => some k | _ => none)) && (c.pinned == c.pinnedBy) &&
      (c.veiled == (fn.params.toList ++ s.plain.varTypes P ++ fn.resultTypes.toList).any (P.veiledRec ·)) && c.veiledFits P fn.params.toList (fn.params.toList ++ s.plain.varTypes P ++ fn.resultTypes.toList)) = true) :
    joinedFacts P f fn s c = true := by
  simp only [Bool.and_eq_true] at rest
  simp only [joinedFacts, Bool.and_eq_true]
  obtain ⟨⟨⟨⟨⟨⟨⟨⟨⟨⟨⟨⟨⟨r1, r2⟩, r3⟩, r4⟩, r5⟩, r6⟩, r7⟩, r8⟩, r9⟩, r10⟩, r11⟩, r12⟩, r13⟩, r14⟩ := rest
  exact ⟨⟨⟨⟨⟨⟨⟨⟨⟨⟨⟨⟨⟨⟨⟨⟨⟨⟨⟨⟨⟨⟨⟨⟨⟨⟨⟨⟨⟨⟨⟨a1, h1⟩, h2⟩, a2⟩, a3⟩, a4⟩, h3⟩, a5⟩, h4⟩, b1⟩, b2⟩, b3⟩, b4⟩, r1⟩, r2⟩, r3⟩, r4⟩, r5⟩, r6⟩, r7⟩, r8⟩, r9⟩, h5⟩, r10⟩, h6⟩, h7⟩, h8⟩, h9⟩, r11⟩, r12⟩, r13⟩, r14⟩
end Go.Am
