/- Regions that draw their order, code and calls: what the abstract machine answers the model answers; the frame of a row; what arguments hold. -/
import Derived.Test.YtgnpnfkncbnjnaaAmB
import Derived.OrdersIn
import Derived.LoopNIn
import Derived.RangeFuncRecord
import Derived.ProofKit
import Derived.ChangeSame
import Derived.Below
import Derived.OpenShut
import Derived.JoinedOf
import Derived.ChangeArms
set_option linter.unusedSimpArgs false
set_option linter.unusedVariables false
namespace Go.Am
open Go
noncomputable section
theorem memN_iff (n : Nat) : ∀ l : List Nat, memN n l = true ↔ n ∈ l
  | [] => by simp [memN]
  | m :: r => by
    unfold memN
    cases h : Nat.beq n m with
    | true => have := Nat.eq_of_beq_eq_true h; subst this; simp
    | false =>
      have hne : n ≠ m := fun e => by subst e; rw [Nat.beq_refl] at h; cases h
      simp [memN_iff n r, hne]
theorem orB_true {a b : Bool} (h : orB a b = true) : a = true ∨ b = true := by cases a <;> simp_all [orB]
theorem notB'_true {a : Bool} (h : notB' a = true) : a = false := by cases a <;> simp_all [notB']
structure RegOk (ops : List Oper) (B : List (List Nat)) : Prop where
  edge : ∀ i o, nth ops i = some o → ∀ e ∈ o.after.toList, solid e = true → e.on ∈ pre B i
  from' : ∀ i o, nth ops i = some o → ∀ m, m ∈ pre B i ↔ ∃ e ∈ o.after.toList, solid e = true ∧ (m = e.on ∨ m ∈ pre B e.on)
  back : ∀ i o, nth ops i = some o → ∀ j ∈ pre B i, j < i ∧ ∀ k ∈ pre B j, k ∈ pre B i
  dst : ∀ i o, nth ops i = some o → ∀ k q, nth ops k = some q → k ≠ i → ∀ d, q.dst = some d → o.dst ≠ some d ∧ (k ∈ pre B i ∨ i ∈ pre B k ∨ d ∉ looksL ops o)
theorem mem_zip {ops : List Oper} {i : Nat} {o : Oper} (h : nth ops i = some o) : (o, i) ∈ ops.zipIdx := by
  rw [nth_eq] at h
  rw [List.mem_zipIdx_iff_getElem?]
  exact h
theorem mem_addN (m n : Nat) (l : List Nat) : m ∈ addN n l ↔ m = n ∨ m ∈ l := by
  unfold addN
  cases h : memN n l with
  | true => have := (memN_iff n l).1 h; simp only; constructor
            · exact .inr
            · rintro (rfl | h2)
              · exact this
              · exact h2
  | false => simp
theorem mem_addAll (m : Nat) : ∀ (l l' : List Nat), m ∈ addAll l l' ↔ m ∈ l ∨ m ∈ l'
  | [], l' => by simp [addAll]
  | n :: r, l' => by unfold addAll; rw [mem_addN, mem_addAll m r l', List.mem_cons, or_assoc]
theorem mem_predsOf (B : List (List Nat)) (m : Nat) : ∀ l : List Edge, m ∈ predsOf B l ↔ ∃ e ∈ l, solid e = true ∧ (m = e.on ∨ m ∈ pre B e.on)
  | [] => by simp [predsOf]
  | e :: r => by
    unfold predsOf
    cases hs : solid e with
    | false =>
      simp only
      rw [mem_predsOf B m r]
      constructor
      · rintro ⟨e', h1, h2⟩; exact ⟨e', List.mem_cons_of_mem _ h1, h2⟩
      · rintro ⟨e', h1, h2⟩
        rcases List.mem_cons.1 h1 with rfl | h1
        · rw [hs] at h2; cases h2.1
        · exact ⟨e', h1, h2⟩
    | true =>
      simp only
      rw [mem_addN, mem_addAll, mem_predsOf B m r]
      constructor
      · rintro (rfl | h | ⟨e', h1, h2⟩)
        · exact ⟨e, List.mem_cons_self, hs, .inl rfl⟩
        · exact ⟨e, List.mem_cons_self, hs, .inr h⟩
        · exact ⟨e', List.mem_cons_of_mem _ h1, h2⟩
      · rintro ⟨e', h1, h2, h3⟩
        rcases List.mem_cons.1 h1 with rfl | h1
        · rcases h3 with h3 | h3
          · exact .inl h3
          · exact .inr (.inl h3)
        · exact .inr (.inr ⟨e', h1, h2, h3⟩)
theorem predsAll_old : ∀ (l : List Oper) (acc : List (List Nat)) (n : Nat), n < acc.length → nth (predsAll acc l) n = nth acc n
  | [], acc, n, _ => rfl
  | o :: r, acc, n, h => by
    unfold predsAll
    rw [predsAll_old r _ n (by simp; omega), nth_eq, nth_eq, List.getElem?_append_left h]
theorem mem_pre : ∀ (l : List Oper) (acc : List (List Nat)) (i : Nat) (o : Oper), nth l i = some o → (∀ e ∈ o.after.toList, solid e = true → e.on < acc.length + i) →
    ∀ m, m ∈ pre (predsAll acc l) (acc.length + i) ↔ ∃ e ∈ o.after.toList, solid e = true ∧ (m = e.on ∨ m ∈ pre (predsAll acc l) e.on)
  | [], acc, i, o, h, _ => by simp at h
  | a :: r, acc, i, o, h, hb => by
    intro m
    cases i with
    | zero =>
      simp only [nth_zero, Option.some.injEq] at h; subst h
      have h1 : pre (predsAll acc (a :: r)) (acc.length + 0) = predsOf acc a.after.toList := by
        unfold pre predsAll
        rw [predsAll_old r _ _ (by simp), nth_eq]; simp
      rw [h1, mem_predsOf]
      constructor
      · rintro ⟨e, h1, h2, h3⟩
        refine ⟨e, h1, h2, ?_⟩
        unfold pre at h3 ⊢
        rw [predsAll_old _ _ _ (hb e h1 h2)]; exact h3
      · rintro ⟨e, h1, h2, h3⟩
        refine ⟨e, h1, h2, ?_⟩
        unfold pre at h3 ⊢
        rw [predsAll_old _ _ _ (hb e h1 h2)] at h3; exact h3
    | succ i =>
      simp only [nth_succ] at h
      have hl : (acc ++ [predsOf acc a.after.toList]).length + i = acc.length + (i + 1) := by simp; omega
      have := mem_pre r (acc ++ [predsOf acc a.after.toList]) i o h (fun e h1 h2 => by rw [hl]; exact hb e h1 h2) m
      rw [hl] at this
      exact this
theorem regOk_spec {ops : List Oper} (h : regOk ops = true) : RegOk ops (predsAll [] ops) := by
  unfold regOk at h
  rw [List.all_eq_true] at h
  have h1 : ∀ i o, nth ops i = some o → regOk1 ops (predsAll [] ops) (pre (predsAll [] ops) i) (looksL ops o) (o, i) = true := fun i o ho => h _ (mem_zip ho)
  have hb : ∀ i o, nth ops i = some o → ∀ e ∈ o.after.toList, solid e = true → e.on < i := by
    intro i o ho e he hs
    have := h1 i o ho
    simp only [regOk1, Bool.and_eq_true, List.all_eq_true] at this
    rcases orB_true (this.1 e he) with h2 | h2
    · rw [notB'_true h2] at hs; cases hs
    · rw [Nat.blt_eq] at h2; exact h2
  have hm : ∀ i o, nth ops i = some o → ∀ m, m ∈ pre (predsAll [] ops) i ↔ ∃ e ∈ o.after.toList, solid e = true ∧ (m = e.on ∨ m ∈ pre (predsAll [] ops) e.on) := by
    intro i o ho
    have := mem_pre ops [] i o ho (fun e h1 h2 => by simp; exact hb i o ho e h1 h2)
    simpa using this
  have hin : ∀ i o, nth ops i = some o → ∀ j, j < i → ∃ q, nth ops j = some q := fun i o ho j hj => nth_some (by have := nth_lt ho; omega)
  have hback : ∀ i, ∀ o, nth ops i = some o → ∀ j ∈ pre (predsAll [] ops) i, j < i ∧ ∀ k ∈ pre (predsAll [] ops) j, k ∈ pre (predsAll [] ops) i := by
    intro i
    induction i using Nat.strongRecOn with
    | _ i ih =>
      intro o ho j hj
      obtain ⟨e, he, hs, hx⟩ := (hm i o ho j).1 hj
      have hlt := hb i o ho e he hs
      obtain ⟨q, hq⟩ := hin i o ho e.on hlt
      rcases hx with rfl | hx
      · exact ⟨hlt, fun k hk => (hm i o ho k).2 ⟨e, he, hs, .inr hk⟩⟩
      · obtain ⟨g1, g2⟩ := ih e.on hlt q hq j hx
        exact ⟨by omega, fun k hk => (hm i o ho k).2 ⟨e, he, hs, .inr (g2 k hk)⟩⟩
  refine ⟨fun i o ho e he hs => (hm i o ho e.on).2 ⟨e, he, hs, .inl rfl⟩, hm, hback, ?_⟩
  intro i o ho k q hq hne d hd
  have := h1 i o ho
  simp only [regOk1, Bool.and_eq_true, List.all_eq_true] at this
  have h2 := this.2 _ (mem_zip hq)
  simp only [hd] at h2
  have hk : Nat.beq k i = false := by cases hh : Nat.beq k i with | false => rfl | true => exact absurd (Nat.eq_of_beq_eq_true hh) hne
  have hdst : isDst d o.dst = false ↔ o.dst ≠ some d := by
    cases hod : o.dst with
    | none => simp [isDst]
    | some t =>
      simp only [isDst]
      constructor
      · intro h e; simp at e; subst e; rw [Nat.beq_refl] at h; cases h
      · intro h; cases hh : Nat.beq d t with | false => rfl | true => exact absurd (by rw [Nat.eq_of_beq_eq_true hh]) h
  rcases orB_true h2 with h3 | h3
  · have h4 := notB'_true h3
    cases h5 : isDst d o.dst with
    | true => rw [h5] at h4; cases h4
    | false =>
      rw [h5] at h4
      refine ⟨hdst.1 h5, .inr (.inr fun hmem => ?_)⟩
      rw [(memN_iff _ _).2 hmem] at h4; cases h4
  · rcases orB_true h3 with h4 | h4
    · rw [hk] at h4; cases h4
    · simp only [Bool.and_eq_true] at h4
      rcases orB_true h4.1 with h5 | h5
      · rcases orB_true h4.2 with h6 | h6
        · exact ⟨hdst.1 (notB'_true h5), .inl ((memN_iff _ _).1 h6)⟩
        · exact ⟨hdst.1 (notB'_true h5), .inr (.inl ((memN_iff _ _).1 h6))⟩
      · cases h5
theorem evA_congr {T T' : List AV} {l : List Operand} (h : ∀ t ∈ tmpsOf l, nth T t = nth T' t) : ∀ x ∈ l, evA T x = evA T' x := by
  induction l with
  | nil => intro x hx; cases hx
  | cons y r ih =>
    have hr : ∀ t ∈ tmpsOf r, nth T t = nth T' t := fun t ht => h t (by unfold tmpsOf; cases y <;> first | exact ht | exact List.mem_cons_of_mem _ ht)
    intro x hx
    rcases List.mem_cons.1 hx with rfl | hx
    · cases x with
      | tmp t => exact h t (by unfold tmpsOf; exact List.mem_cons_self)
      | _ => rfl
    · exact ih hr x hx
theorem evs_congr {T T' : List AV} : ∀ (l : List Operand), (∀ x ∈ l, evA T x = evA T' x) → evs T l = evs T' l
  | [], _ => rfl
  | x :: r, h => by unfold evs; rw [h x List.mem_cons_self, evs_congr r fun y hy => h y (List.mem_cons_of_mem _ hy)]
theorem partsA_congr {T T' : List AV} : ∀ (l : List (Nat × Operand)), (∀ x ∈ l.map (·.2), evA T x = evA T' x) → partsA T l = partsA T' l
  | [], _ => rfl
  | (i, x) :: r, h => by unfold partsA; rw [h x (by simp), partsA_congr r fun y hy => h y (by simp only [List.map_cons, List.mem_cons]; exact .inr hy)]
theorem ev1_congr {T T' : List AV} {x : Operand} {f g : AV → M AV} (h : evA T x = evA T' x) (hf : f = g) : ev1 T x f = ev1 T' x g := by unfold ev1; rw [h, hf]
theorem opA_congr {C : Cfg} {call : FuncId → List AV → M AV} {rnd : Nm → List AV → M AV} {T T' : List AV} {o : Oper} (h : ∀ t ∈ tmpsOf (opReads o.op), nth T t = nth T' t) : opA C call rnd T o = opA C call rnd T' o := by
  have he := evA_congr h
  unfold opA
  cases hop : o.op <;> rw [hop] at he <;> simp only [opReads] at he <;> simp only <;> try rfl
  case move x => rw [he x (by simp)]
  case assign x => rw [he x (by simp)]
  case pick c a b =>
    rw [he c (by simp)]
    cases evA T' c with
    | none => rfl
    | some v =>
      cases v <;> try rfl
      rename_i t
      cases t
      · exact congrArg M.of (he b (by simp))
      · exact congrArg M.of (he a (by simp))
  case box t x => exact ev1_congr (he x (by simp)) rfl
  case build t ps => rw [partsA_congr _ he]
  case buildSlice t n ps => rw [partsA_congr _ he]
  case load t x => exact ev1_congr (he x (by simp)) rfl
  case store t x y => exact ev1_congr (he x (by simp)) (by funext p; exact ev1_congr (he y (by simp)) rfl)
  case nilCheck x => exact ev1_congr (he x (by simp)) rfl
  case binOp op t x y q => exact ev1_congr (he x (by simp)) (by funext p; exact ev1_congr (he y (by simp)) rfl)
  case unOp op t x => exact ev1_congr (he x (by simp)) rfl
  case convert a b x => exact ev1_congr (he x (by simp)) rfl
  case makeFunc fn first caps => rw [evs_congr _ he]
  case makeMap t r =>
    cases r with
    | none => rfl
    | some x => exact ev1_congr (he x (by simp)) rfl
  case makeSlice t l c => exact ev1_congr (he l (by simp)) (by funext p; exact ev1_congr (he c (by simp)) rfl)
  case slice t x lo hi mx =>
    have h1 : optA T lo = optA T' lo := by cases lo with | none => rfl | some y => (show (match evA T y with | some v => some (some v) | none => none) = (match evA T' y with | some v => some (some v) | none => none); rw [he y (by simp)])
    have h2 : optA T hi = optA T' hi := by cases hi with | none => rfl | some y => (show (match evA T y with | some v => some (some v) | none => none) = (match evA T' y with | some v => some (some v) | none => none); rw [he y (by simp)])
    have h3 : optA T mx = optA T' mx := by cases mx with | none => rfl | some y => (show (match evA T y with | some v => some (some v) | none => none) = (match evA T' y with | some v => some (some v) | none => none); rw [he y (by simp)])
    exact ev1_congr (he x (by simp)) (by rw [h1, h2, h3])
  case fieldAddr t x f => exact ev1_congr (he x (by simp)) rfl
  case field t x f => exact ev1_congr (he x (by simp)) rfl
  case indexAddr t x i => exact ev1_congr (he x (by simp)) (by funext p; exact ev1_congr (he i (by simp)) rfl)
  case index t x i => exact ev1_congr (he x (by simp)) (by funext p; exact ev1_congr (he i (by simp)) rfl)
  case lookup t x k ok => exact ev1_congr (he x (by simp)) (by funext p; exact ev1_congr (he k (by simp)) rfl)
  case mapUpdate t m k x => exact ev1_congr (he m (by simp)) (by funext p; exact ev1_congr (he k (by simp)) (by funext q; exact ev1_congr (he x (by simp)) rfl))
  case range t x => exact ev1_congr (he x (by simp)) rfl
  case next it s => exact ev1_congr (he it (by simp)) rfl
  case entry it => exact ev1_congr (he it (by simp)) rfl
  case extract x i => exact ev1_congr (he x (by simp)) rfl
  case call c =>
    cases hc : c.callee with
    | builtin b => rw [hc] at he; simp only at he; rw [evs_congr _ he]
    | value f =>
      rw [hc] at he; simp only at he
      rw [evs_congr _ fun x hx => he x (List.mem_cons_of_mem _ hx)]
      cases evs T' c.args.toList with
      | none => rfl
      | some l => exact ev1_congr (he f (by simp)) rfl
    | invoke a b => cases evs T c.args.toList <;> cases evs T' c.args.toList <;> rfl
theorem wantedA_congr {ops : List Oper} {T T' : List AV} {o : Oper} (h : ∀ t ∈ guardTmp ops o, nth T t = nth T' t) : wantedA ops T o = wantedA ops T' o := by
  unfold wantedA
  unfold guardTmp at h
  cases hg : o.guard with
  | none => rfl
  | some jw =>
    obtain ⟨j, w⟩ := jw
    rw [hg] at h; simp only at h ⊢
    cases hj : nth ops j with
    | none => rfl
    | some g =>
      rw [hj] at h; simp only at h ⊢
      cases hd : g.dst with
      | none => rfl
      | some d => rw [hd] at h; simp only at h ⊢; rw [h d (by simp)]
theorem op_look {C : Cfg} {call : FuncId → List AV → M AV} {rnd : Nm → List AV → M AV} {ops : List Oper} {T T' : List AV} {o : Oper} (h : ∀ t ∈ looksL ops o, nth T t = nth T' t) :
    opA C call rnd T o = opA C call rnd T' o ∧ wantedA ops T o = wantedA ops T' o :=
  ⟨opA_congr fun t ht => h t (List.mem_append_left _ ht), wantedA_congr fun t ht => h t (List.mem_append_right _ ht)⟩
theorem wanted_eq {ρ : Rho} {ops : List Oper} {arr : Array Oper} (harr : arr.toList = ops) {T : List AV} {a : Act} (hT : VRs ρ T a.tmps.toList) (o : Oper) : Region.wanted o (yielded arr a.tmps) = wantedA ops T o := by
  unfold Region.wanted wantedA
  cases hg : o.guard with
  | none => rfl
  | some jw =>
    obtain ⟨j, w⟩ := jw
    simp only
    have hj : arr[j]? = nth ops j := by rw [nth_eq, ← harr]; simp
    unfold yielded
    rw [hj]
    cases hn : nth ops j with
    | none => simp
    | some g =>
      simp only [Option.bind_some]
      cases hd : g.dst with
      | none => simp
      | some d =>
        simp only [Option.bind_some]
        cases ht : nth T d with
        | none =>
          have : a.tmps[d]? = none := by
            have hl := VRs.length _ _ hT
            rw [nth_eq] at ht
            have := List.getElem?_eq_none_iff.1 ht
            rw [Array.getElem?_eq_none_iff]; simp at hl; omega
          simp [this]
        | some v =>
          obtain ⟨cv, h1, h2⟩ := VRs.nth _ _ hT d v ht
          have h1' : a.tmps[d]? = some cv := by simpa using h1
          rw [h1']
          cases v <;> simp only [VR] at h2
          case bool b => subst h2; cases b <;> cases w <;> rfl
          all_goals (first
            | (subst h2; rfl)
            | (obtain ⟨p, _, rfl⟩ := h2; rfl)
            | (obtain ⟨p, o', c', _, a, rfl, _⟩ := h2; rfl)
            | (obtain ⟨cs, rfl, _⟩ := h2; rfl)
            | (obtain ⟨cs, rfl⟩ := h2; rfl)
            | (obtain ⟨a, c, rfl, _⟩ := h2; rfl)
            | (obtain ⟨p, c, _, rfl, _⟩ := h2; rfl))
end
end Go.Am
namespace Go.Am
open Go
noncomputable section
def TP (p : Nat → Bool) : Nat → List Oper → List AV → List AV → List AV
  | k, o :: r, v :: vs, T => TP p (k + 1) r vs (if p k = true then putT T o.dst v else T)
  | _, _, _, T => T
theorem putT_length (T : List AV) (d : Option Tmp) (v : AV) : (putT T d v).length = T.length := by cases d <;> simp [putT, setNth_length]
theorem nth_putT (T : List AV) (d : Option Tmp) (v : AV) (t : Nat) : nth (putT T d v) t = if d = some t then (if t < T.length then some v else none) else nth T t := by
  cases d with
  | none => simp [putT]
  | some d =>
    simp only [putT, nth_eq, setNth_eq, Option.some.injEq]
    by_cases h : d = t
    · subst h
      rw [if_pos rfl, List.getElem?_set]
      by_cases hl : d < T.length <;> simp [hl]
    · rw [if_neg h, List.getElem?_set_ne h]
theorem TP_agree {p q : Nat → Bool} {t : Nat} : ∀ (ops : List Oper) (k : Nat) (vs T T' : List AV), (∀ i o, nth ops i = some o → o.dst = some t → p (k + i) = q (k + i)) → nth T t = nth T' t → T.length = T'.length →
    nth (TP p k ops vs T) t = nth (TP q k ops vs T') t
  | [], k, vs, T, T', _, h, _ => by simpa [TP] using h
  | o :: r, k, [], T, T', _, h, _ => by simpa [TP] using h
  | o :: r, k, v :: vs, T, T', ha, h, hl => by
    unfold TP
    refine TP_agree r (k + 1) vs _ _ (fun i q' hi hd => ?_) ?_ ?_
    · have := ha (i + 1) q' (by rw [nth_succ]; exact hi) hd
      rw [show k + 1 + i = k + (i + 1) by omega]; exact this
    · have h0 := ha 0 o (by simp)
      rw [Nat.add_zero] at h0
      by_cases hd : o.dst = some t
      · rw [h0 hd]
        by_cases hq : q k = true
        · simp only [hq, if_true, nth_putT, hd, hl]
        · simp only [hq]; exact h
      · by_cases hp : p k = true <;> by_cases hq : q k = true <;> simp [hp, hq, nth_putT, hd, h]
    · by_cases hp : p k = true <;> by_cases hq : q k = true <;> simp [hp, hq, putT_length, hl]
theorem TP_none (p : Nat → Bool) : ∀ (ops : List Oper) (k : Nat) (vs T : List AV), (∀ i, k ≤ i → p i = false) → TP p k ops vs T = T
  | [], k, vs, T, _ => by simp [TP]
  | o :: r, k, [], T, _ => by simp [TP]
  | o :: r, k, v :: vs, T, h => by
    unfold TP
    rw [h k (Nat.le_refl _)]
    exact TP_none p r (k + 1) vs T fun i hi => h i (by omega)
theorem putsT_TP : ∀ (ops : List Oper) (k : Nat) (vs T : List AV), putsT ops vs T = TP (fun _ => true) k ops vs T
  | [], k, vs, T => by simp [TP, putsT]
  | o :: r, k, [], T => by simp [TP, putsT]
  | o :: r, k, v :: vs, T => by unfold TP putsT; rw [putsT_TP r (k + 1)]; simp
theorem putsT_take : ∀ (ops : List Oper) (n k : Nat) (vs T : List AV), putsT (ops.take n) vs T = TP (fun i => decide (i < k + n)) k ops vs T
  | [], n, k, vs, T => by simp [TP, putsT]
  | o :: r, 0, k, vs, T => by
    rw [List.take_zero, TP_none _ _ _ _ _ (fun i hi => by simp; omega)]
    simp [putsT]
  | o :: r, n + 1, k, [], T => by simp [TP, putsT]
  | o :: r, n + 1, k, v :: vs, T => by
    rw [List.take_succ_cons]
    unfold TP putsT
    rw [putsT_take r n (k + 1) vs]
    rw [show k + 1 + n = k + (n + 1) by omega]
    simp
section
variable {C : Cfg} {call : FuncId → List AV → M AV} {rnd : Nm → List AV → M AV}
theorem pass_spec {ops : List Oper} {s : St} {B : List (List Nat)} : ∀ (l : List Oper) (i : Nat) (T vs0 : List AV) (ds0 : List Delta) (x : List AV × List Delta), drawPass C call rnd ops s B i l T vs0 ds0 = some x → ds0.length = i →
    ∃ vs1 ds1, x.1 = vs0 ++ vs1 ∧ x.2 = ds0 ++ ds1 ∧ vs1.length = l.length ∧ ds1.length = l.length ∧ ∀ k o, nth l k = some o →
      (wantedA ops (putsT (l.take k) vs1 T) o = true → ∃ v d, nth vs1 k = some v ∧ nth ds1 k = some d ∧ one (opA C call rnd (putsT (l.take k) vs1 T) o (opSt s (i + k) (overlay s.H (pre B (i + k)) 0 (ds0 ++ ds1.take k)))) = some (v, d)) ∧
      (wantedA ops (putsT (l.take k) vs1 T) o = false → nth vs1 k = some .undef ∧ nth ds1 k = some [])
  | [], i, T, vs0, ds0, x, h, _ => by
    simp only [drawPass, Option.some.injEq] at h; subst h
    exact ⟨[], [], by simp, by simp, rfl, rfl, fun k o h => by simp at h⟩
  | o :: r, i, T, vs0, ds0, x, h, hl => by
    unfold drawPass at h
    have fin : ∀ (v : AV) (d : Delta), drawPass C call rnd ops s B (i + 1) r (putT T o.dst v) (vs0 ++ [v]) (ds0 ++ [d]) = some x →
        ((wantedA ops T o = true → one (opA C call rnd T o (opSt s i (overlay s.H (pre B i) 0 ds0))) = some (v, d)) ∧ (wantedA ops T o = false → v = .undef ∧ d = [])) →
        ∃ vs1 ds1, x.1 = vs0 ++ vs1 ∧ x.2 = ds0 ++ ds1 ∧ vs1.length = (o :: r).length ∧ ds1.length = (o :: r).length ∧ ∀ k q, nth (o :: r) k = some q →
          (wantedA ops (putsT ((o :: r).take k) vs1 T) q = true → ∃ v d, nth vs1 k = some v ∧ nth ds1 k = some d ∧ one (opA C call rnd (putsT ((o :: r).take k) vs1 T) q (opSt s (i + k) (overlay s.H (pre B (i + k)) 0 (ds0 ++ ds1.take k)))) = some (v, d)) ∧
          (wantedA ops (putsT ((o :: r).take k) vs1 T) q = false → nth vs1 k = some .undef ∧ nth ds1 k = some []) := by
      intro v d h' h0
      obtain ⟨vs1, ds1, h1, h2, h3, h4, h5⟩ := pass_spec r (i + 1) _ _ _ x h' (by simp [hl])
      refine ⟨v :: vs1, d :: ds1, by rw [h1]; simp, by rw [h2]; simp, by simp [h3], by simp [h4], ?_⟩
      intro k q hq
      cases k with
      | zero =>
        simp only [nth_zero, Option.some.injEq] at hq; subst hq
        have e : putsT ((o :: r).take 0) (v :: vs1) T = T := by simp [putsT]
        rw [e]
        refine ⟨fun hw => ⟨v, d, by simp, by simp, by simpa using h0.1 hw⟩, fun hw => by simp [h0.2 hw]⟩
      | succ k =>
        rw [nth_succ] at hq
        have e : putsT ((o :: r).take (k + 1)) (v :: vs1) T = putsT (r.take k) vs1 (putT T o.dst v) := by simp [putsT]
        rw [e]
        obtain ⟨g1, g2⟩ := h5 k q hq
        have e2 : i + 1 + k = i + (k + 1) := by omega
        refine ⟨fun hw => ?_, fun hw => by simpa using g2 hw⟩
        obtain ⟨v', d', k1, k2, k3⟩ := g1 hw
        rw [e2] at k3
        exact ⟨v', d', by simpa using k1, by simpa using k2, by simpa using k3⟩
    cases hw : wantedA ops T o with
    | false =>
      rw [hw] at h
      exact fin .undef [] h ⟨fun h => (by rw [hw] at h; cases h), fun _ => ⟨rfl, rfl⟩⟩
    | true =>
      rw [hw] at h
      simp only at h
      cases ho : one (opA C call rnd T o (opSt s i (overlay s.H ((nth B i).getD []) 0 ds0))) with
      | none => rw [ho] at h; cases h
      | some y =>
        rw [ho] at h
        exact fin y.1 y.2 h ⟨fun _ => ho, fun h => (by rw [hw] at h; cases h)⟩
end
end
end Go.Am
namespace Go.Am
open Go
noncomputable section
theorem mem_rivals (B : List (List Nat)) (i : Nat) (b : Nm) : ∀ (ws : List (List Nm)) (k : Nat), b ∈ rivals B i k ws ↔ ∃ j w, nth ws j = some w ∧ b ∈ w ∧ i ≠ k + j ∧ k + j ∉ pre B i ∧ i ∉ pre B (k + j)
  | [], k => by simp [rivals]
  | w :: r, k => by
    have hr := mem_rivals B i b r (k + 1)
    have hstep : (∃ j w', nth (w :: r) j = some w' ∧ b ∈ w' ∧ i ≠ k + j ∧ k + j ∉ pre B i ∧ i ∉ pre B (k + j)) ↔ (b ∈ w ∧ i ≠ k ∧ k ∉ pre B i ∧ i ∉ pre B k) ∨ b ∈ rivals B i (k + 1) r := by
      rw [hr]
      constructor
      · rintro ⟨j, w', h1, h2⟩
        cases j with
        | zero => simp only [nth_zero, Option.some.injEq] at h1; subst h1; exact .inl (by simpa using h2)
        | succ j => rw [nth_succ] at h1; exact .inr ⟨j, w', h1, by rw [show k + 1 + j = k + (j + 1) by omega]; exact h2⟩
      · rintro (h | ⟨j, w', h1, h2⟩)
        · exact ⟨0, w, by simp, by simpa using h⟩
        · exact ⟨j + 1, w', by rw [nth_succ]; exact h1, by rw [show k + 1 + j = k + (j + 1) by omega] at h2; exact h2⟩
    rw [hstep]
    cases w with
    | nil => rw [show rivals B i k ([] :: r) = rivals B i (k + 1) r from rfl]; simp
    | cons c cs =>
      rw [show rivals B i k ((c :: cs) :: r) = (match Nat.beq i k, memN k ((nth B i).getD []), memN i ((nth B k).getD []) with | false, false, false => (c :: cs) | _, _, _ => []) ++ rivals B i (k + 1) r from rfl]
      rw [List.mem_append]
      refine or_congr ?_ Iff.rfl
      cases h1 : Nat.beq i k with
      | true => have := Nat.eq_of_beq_eq_true h1; subst this; simp
      | false =>
        have hne : i ≠ k := fun e => by subst e; rw [Nat.beq_refl] at h1; cases h1
        cases h2 : memN k ((nth B i).getD []) with
        | true => have := (memN_iff _ _).1 h2; simp [pre, this]
        | false =>
          have h2' : k ∉ pre B i := fun h => Bool.noConfusion (h2.symm.trans ((memN_iff _ _).2 h))
          cases h3 : memN i ((nth B k).getD []) with
          | true => have := (memN_iff _ _).1 h3; simp [pre, this]
          | false =>
            have h3' : i ∉ pre B k := fun h => Bool.noConfusion (h3.symm.trans ((memN_iff _ _).2 h))
            simp [hne, h2', h3']
section
variable {C : Cfg} {call : FuncId → List AV → M AV} {rnd : Nm → List AV → M AV}
theorem check_spec {ops : List Oper} {s : St} {B : List (List Nat)} {ds : List Delta} {ws : List (List Nm)} : ∀ (l : List Oper) (vs : List AV) (T : List AV) (i : Nat), drawCheck C call rnd ops s B ds ws T i l vs = true →
    ∀ k o, nth l k = some o → wantedA ops (putsT (l.take k) vs T) o = true → rivals B (i + k) 0 ws = [] ∨ isRet (opA C call rnd (putsT (l.take k) vs T) o (opSt s (i + k) (hide (overlay s.H (pre B (i + k)) 0 ds) (rivals B (i + k) 0 ws)))) = true
  | [], vs, T, i, h, k, o, ho, hw => by simp at ho
  | a :: r, [], T, i, h, k, o, ho, hw => by cases h
  | a :: r, v :: vs, T, i, h, k, o, ho, hw => by
    unfold drawCheck at h
    have next : ∀ (h' : drawCheck C call rnd ops s B ds ws (putT T a.dst v) (i + 1) r vs = true) k', k = k' + 1 → rivals B (i + k) 0 ws = [] ∨ isRet (opA C call rnd (putsT ((a :: r).take k) (v :: vs) T) o (opSt s (i + k) (hide (overlay s.H (pre B (i + k)) 0 ds) (rivals B (i + k) 0 ws)))) = true := by
      rintro h' k' rfl
      rw [nth_succ] at ho
      have e : putsT ((a :: r).take (k' + 1)) (v :: vs) T = putsT (r.take k') vs (putT T a.dst v) := by simp [putsT]
      rw [e] at hw ⊢
      have := check_spec r vs _ (i + 1) h' k' o ho hw
      rw [show i + 1 + k' = i + (k' + 1) by omega] at this
      exact this
    cases hv : rivals B i 0 ws with
    | nil =>
      rw [hv] at h
      cases k with
      | zero => exact .inl hv
      | succ k => exact next h k rfl
    | cons b bs =>
      rw [hv] at h; simp only at h
      cases hwa : wantedA ops T a with
      | false =>
        rw [hwa] at h
        cases k with
        | zero =>
          simp only [nth_zero, Option.some.injEq] at ho; subst ho
          have e : putsT ((a :: r).take 0) (v :: vs) T = T := by simp [putsT]
          rw [e, hwa] at hw; cases hw
        | succ k => exact next h k rfl
      | true =>
        rw [hwa] at h; simp only at h
        cases hi : isRet (opA C call rnd T a (opSt s i (hide (overlay s.H ((nth B i).getD []) 0 ds) (b :: bs)))) with
        | false => rw [hi] at h; cases h
        | true =>
          rw [hi] at h
          cases k with
          | zero =>
            simp only [nth_zero, Option.some.injEq] at ho; subst ho
            have e : putsT ((a :: r).take 0) (v :: vs) T = T := by simp [putsT]
            rw [e]
            refine .inr ?_
            rw [Nat.add_zero, hv]; exact hi
          | succ k => exact next h k rfl
end
end
end Go.Am
namespace Go.Am
open Go
noncomputable section
structure Run (C : Cfg) (call : FuncId → List AV → M AV) (rnd : Nm → List AV → M AV) (ops : List Oper) (B : List (List Nat)) (s : St) (T : List AV) (vs : List AV) (ds : List Delta) : Prop where
  vlen : vs.length = ops.length
  dlen : ds.length = ops.length
  go : ∀ i o, nth ops i = some o → wantedA ops (TP (fun j => decide (j < i)) 0 ops vs T) o = true →
    ∃ v d, nth vs i = some v ∧ nth ds i = some d ∧ one (opA C call rnd (TP (fun j => decide (j < i)) 0 ops vs T) o (opSt s i (hide (overlay s.H (pre B i) 0 ds) (rivals B i 0 (olds s 0 ds))))) = some (v, d)
  no : ∀ i o, nth ops i = some o → wantedA ops (TP (fun j => decide (j < i)) 0 ops vs T) o = false → nth vs i = some .undef ∧ nth ds i = some []
theorem mg_append (p : Nat → Bool) (b : Nm) : ∀ (ds ds' : List Delta) (k : Nat) (h : Option Blk), mg p b k (ds ++ ds') h = mg p b (k + ds.length) ds' (mg p b k ds h)
  | [], ds', k, h => by simp [mg]
  | d :: r, ds', k, h => by
    show mg p b (k + 1) (r ++ ds') _ = _
    rw [mg_append p b r ds' (k + 1), show k + 1 + r.length = k + (d :: r).length by simp; omega]
    rfl
theorem mg_off (p : Nat → Bool) (b : Nm) : ∀ (ds : List Delta) (k : Nat) (h : Option Blk), (∀ i, k ≤ i → p i = false) → mg p b k ds h = h
  | [], k, h, _ => rfl
  | d :: r, k, h, hp => by
    unfold mg
    rw [hp k (Nat.le_refl _)]
    exact mg_off p b r (k + 1) h fun i hi => hp i (by omega)
theorem allNil_spec {α : Type} : ∀ {l : List (List α)}, allNil l = true → ∀ w ∈ l, w = []
  | [], _, w, h => by cases h
  | x :: r, hn, w, h => by
    cases x with
    | cons a b => cases hn
    | nil =>
      rcases List.mem_cons.1 h with rfl | h
      · rfl
      · exact allNil_spec (l := r) hn w h
section
variable {C : Cfg} {call : FuncId → List AV → M AV} {rnd : Nm → List AV → M AV}
theorem isRet_one (hc : ∀ f args, Nice (call f args)) (hr : ∀ l args, Nice (rnd l args)) {t t' : Tr (AV × St)} (hs : TrSub t t') (h : isRet t = true) {x : AV × Delta} (hx : one t' = some x) : one t = some x := by
  cases t with
  | ret y =>
    obtain ⟨s', rfl, hsub⟩ := TrSub.ret_inv (a := y.1) (s := y.2) hs
    simp only [one, Option.some.injEq] at hx ⊢
    rw [← hx, hsub.j]
  | fail => cases h
  | ask _ _ => cases h
theorem run_of_draw (hc : ∀ f args, Nice (call f args)) (hr : ∀ l args, Nice (rnd l args)) {ops : List Oper} (hreg : RegOk ops (predsAll [] ops)) {s : St} {T : List AV} {R : List AV × St → Prop} (h : (drawA C call rnd ops T s).All R) :
    ∃ vs ds, Run C call rnd ops (predsAll [] ops) s T vs ds ∧ R (TP (fun _ => true) 0 ops vs T, drawEnd s (allD ds)) := by
  unfold drawA at h
  cases hp : drawPass C call rnd ops s (predsAll [] ops) 0 ops T [] [] with
  | none => rw [hp] at h; exact h.elim
  | some x =>
    rw [hp] at h; simp only at h
    obtain ⟨vs, ds, h1, h2, h3, h4, h5⟩ := pass_spec ops 0 T [] [] x hp rfl
    simp only [List.nil_append, Nat.zero_add] at h1 h2 h5
    rw [h1, h2] at h
    have htp : ∀ k, putsT (ops.take k) vs T = TP (fun j => decide (j < k)) 0 ops vs T := fun k => by rw [putsT_take ops k 0]; simp
    have hov : ∀ i o, nth ops i = some o → ∀ b, hget (overlay s.H (pre (predsAll [] ops) i) 0 (ds.take i)) b = hget (overlay s.H (pre (predsAll [] ops) i) 0 ds) b := by
      intro i o ho b
      rw [hget_overlay s.H, hget_overlay s.H]
      have e := mg_append (fun j => memN j (pre (predsAll [] ops) i)) b (ds.take i) (ds.drop i) 0 (hget s.H b)
      rw [List.take_append_drop] at e
      rw [e]
      refine (mg_off _ b _ _ _ fun j hj => ?_).symm
      have hi : i ≤ ds.length := by have := nth_lt ho; omega
      rw [List.length_take, Nat.min_eq_left hi] at hj
      cases hm : memN j (pre (predsAll [] ops) i) with
      | false => rfl
      | true => have := (hreg.back i o ho j ((memN_iff _ _).1 hm)).1; omega
    have key : (∀ i o, nth ops i = some o → wantedA ops (putsT (ops.take i) vs T) o = true → rivals (predsAll [] ops) i 0 (olds s 0 ds) = [] ∨ isRet (opA C call rnd (putsT (ops.take i) vs T) o (opSt s i (hide (overlay s.H (pre (predsAll [] ops) i) 0 ds) (rivals (predsAll [] ops) i 0 (olds s 0 ds))))) = true) → Run C call rnd ops (predsAll [] ops) s T vs ds := by
      intro hk
      refine ⟨h3, h4, ?_, ?_⟩
      · intro i o ho hw
        rw [← htp] at hw ⊢
        obtain ⟨v, d, g1, g2, g3⟩ := (h5 i o ho).1 hw
        refine ⟨v, d, g1, g2, ?_⟩
        have hsub : TrSub (opA C call rnd (putsT (ops.take i) vs T) o (opSt s i (overlay s.H (pre (predsAll [] ops) i) 0 (ds.take i)))) (opA C call rnd (putsT (ops.take i) vs T) o (opSt s i (overlay s.H (pre (predsAll [] ops) i) 0 ds))) :=
          (Nice.opA hc hr _ o).mono _ _ (opSt_sub (Sub.refl s) i fun b x hx => by rw [← hov i o ho b]; exact hx)
        have g4 := TrSub.one hsub g3
        rcases hk i o ho hw with hn | hret
        · rw [hn]; exact g4
        · have hsub2 : TrSub (opA C call rnd (putsT (ops.take i) vs T) o (opSt s i (hide (overlay s.H (pre (predsAll [] ops) i) 0 ds) (rivals (predsAll [] ops) i 0 (olds s 0 ds))))) (opA C call rnd (putsT (ops.take i) vs T) o (opSt s i (overlay s.H (pre (predsAll [] ops) i) 0 ds))) :=
            (Nice.opA hc hr _ o).mono _ _ (opSt_sub (Sub.refl s) i fun b x hx => by rw [hget_hide] at hx; by_cases hb : b ∈ rivals (predsAll [] ops) i 0 (olds s 0 ds) <;> simp [hb] at hx; exact hx)
          exact isRet_one hc hr hsub2 hret g4
      · intro i o ho hw
        rw [← htp] at hw
        exact (h5 i o ho).2 hw
    rw [putsT_TP ops 0] at h
    cases hn : allNil (olds s 0 ds) with
    | true =>
      rw [hn] at h
      refine ⟨vs, ds, key fun i o ho hw => .inl ?_, h⟩
      rw [List.eq_nil_iff_forall_not_mem]
      intro b hb
      obtain ⟨j, w, hj, hbw, _⟩ := (mem_rivals _ _ _ _ _).1 hb
      rw [allNil_spec hn w (nth_mem hj)] at hbw; cases hbw
    | false =>
      rw [hn] at h; simp only at h
      cases hck : drawCheck C call rnd ops s (predsAll [] ops) ds (olds s 0 ds) T 0 ops vs with
      | false => rw [hck] at h; exact h.elim
      | true =>
        rw [hck] at h
        refine ⟨vs, ds, key fun i o ho hw => ?_, h⟩
        have := check_spec ops vs T 0 hck i o ho hw
        simpa using this
end
end
end Go.Am
namespace Go.Am
open Go
noncomputable section
def OwnI (s : St) (i : Nat) (b : Nm) : Prop := ∃ r, b = s.pre ++ s.n :: i :: r
theorem OwnI.inj {s : St} {i k : Nat} {b : Nm} (h : OwnI s i b) (h' : OwnI s k b) : i = k := by
  obtain ⟨r, h⟩ := h; obtain ⟨q, h'⟩ := h'
  rw [h] at h'
  have := (append_cons_inj h').2
  simp at this; exact this.1
def Wr (ds : List Delta) (i : Nat) (b : Nm) : Prop := ∃ d, nth ds i = some d ∧ ∃ e ∈ d, e.1 = b
def hidden (s : St) (B : List (List Nat)) (ds : List Delta) (i : Nat) : Heap := hide (overlay s.H (pre B i) 0 ds) (rivals B i 0 (olds s 0 ds))
def Frh (s : St) : Prop := ∀ i b, OwnI s i b → hget s.H b = none
section
variable {C : Cfg} {call : FuncId → List AV → M AV} {rnd : Nm → List AV → M AV} {ops : List Oper} {B : List (List Nat)} {s : St} {T vs : List AV} {ds : List Delta}
theorem Run.ids (hc : ∀ f args, Nice (call f args)) (hr : ∀ l args, Nice (rnd l args)) (h : Run C call rnd ops B s T vs ds) {i : Nat} {b : Nm} (hw : Wr ds i b) : OwnI s i b ∨ ∃ x, hget (hidden s B ds i) b = some x := by
  obtain ⟨d, hd, e, he, rfl⟩ := hw
  obtain ⟨o, ho⟩ := nth_some (show i < ops.length by rw [← h.dlen]; exact nth_lt hd)
  cases hwa : wantedA ops (TP (fun j => decide (j < i)) 0 ops vs T) o with
  | false => have := (h.no i o ho hwa).2; rw [hd] at this; cases this; cases he
  | true =>
    obtain ⟨v, d', g1, g2, g3⟩ := h.go i o ho hwa
    rw [hd] at g2; obtain rfl := Option.some.inj g2
    obtain ⟨t, ht, hj⟩ := one_some g3
    have hjr := (Nice.opA (C := C) hc hr (TP (fun j => decide (j < i)) 0 ops vs T) o).jr (opSt s i (hidden s B ds i))
    unfold hidden at hjr
    rw [ht] at hjr
    obtain ⟨d', d1, _, d3⟩ := JrR.j (hjr : JrR _ t) rfl
    have hd' : d' = d := by rw [← show t.j = d from hj, d1]; exact (List.append_nil d').symm
    rw [← hd'] at he
    rcases d3 e he with ⟨m, q, hb, hm⟩ | ⟨z, hz⟩
    · refine .inl ⟨m :: q, ?_⟩
      rw [hb]; show (s.pre ++ [s.n, i]) ++ m :: q = _; simp
    · exact .inr ⟨z, hz⟩
theorem hidden_some {i : Nat} {b : Nm} {x : Blk} (h : hget (hidden s B ds i) b = some x) : b ∉ rivals B i 0 (olds s 0 ds) ∧ hget (overlay s.H (pre B i) 0 ds) b = some x := by
  unfold hidden at h
  rw [hget_hide] at h
  by_cases hb : b ∈ rivals B i 0 (olds s 0 ds)
  · simp [hb] at h
  · simp only [hb, if_false] at h; exact ⟨hb, h⟩
theorem overlay_some {ps : List Nat} {b : Nm} {x : Blk} (h : hget (overlay s.H ps 0 ds) b = some x) : (∃ j, j ∈ ps ∧ Wr ds j b) ∨ hget s.H b = some x := by
  rw [hget_overlay s.H] at h
  rcases mg_some _ _ _ _ _ _ h with ⟨j, d, h1, h2, h3⟩ | h
  · rw [Nat.zero_add] at h2
    exact .inl ⟨j, (memN_iff _ _).1 h2, d, by rw [nth_eq]; exact h1, h3⟩
  · exact .inr h
theorem Run.own (hc : ∀ f args, Nice (call f args)) (hr : ∀ l args, Nice (rnd l args)) (hreg : RegOk ops B) (hf : Frh s) (h : Run C call rnd ops B s T vs ds) {i : Nat} {b : Nm} (hb : OwnI s i b) : ∀ k, Wr ds k b → k = i ∨ i ∈ pre B k := by
  intro k
  induction k using Nat.strongRecOn with
  | _ k ih =>
    intro hw
    rcases h.ids hc hr hw with ho | ⟨x, hx⟩
    · exact .inl (ho.inj hb)
    · rcases overlay_some (hidden_some hx).2 with ⟨j, hj, hwj⟩ | hx
      · obtain ⟨d, hd, _⟩ := hw
        obtain ⟨o, ho⟩ := nth_some (show k < ops.length by rw [← h.dlen]; exact nth_lt hd)
        obtain ⟨g1, g2⟩ := hreg.back k o ho j hj
        rcases ih j g1 hwj with rfl | hij
        · exact .inr hj
        · exact .inr (g2 i hij)
      · rw [hf i b hb] at hx; cases hx
end
end
end Go.Am
namespace Go.Am
open Go
noncomputable section
theorem isPre_iff : ∀ (ns b : Nm), isPre ns b = true ↔ ∃ r, b = ns ++ r
  | [], b => by simp [isPre]
  | a :: x, [] => by simp [isPre]
  | a :: x, c :: y => by
    unfold isPre
    cases h : Nat.beq a c with
    | true => have := Nat.eq_of_beq_eq_true h; subst this; simp [isPre_iff x y]
    | false =>
      have hne : a ≠ c := fun e => by subst e; rw [Nat.beq_refl] at h; cases h
      simp [Ne.symm hne]
theorem mem_oldIds (ns b : Nm) : ∀ d : Delta, b ∈ oldIds ns d ↔ (∃ e ∈ d, e.1 = b) ∧ ¬ ∃ r, b = ns ++ r
  | [] => by simp [oldIds]
  | (i, x) :: r => by
    unfold oldIds
    have hp := isPre_iff ns i
    cases h : isPre ns i with
    | true =>
      simp only
      rw [mem_oldIds ns b r]
      have hi := hp.1 h
      constructor
      · rintro ⟨⟨e, h1, h2⟩, h3⟩; exact ⟨⟨e, List.mem_cons_of_mem _ h1, h2⟩, h3⟩
      · rintro ⟨⟨e, h1, h2⟩, h3⟩
        rcases List.mem_cons.1 h1 with rfl | h1
        · exact absurd (h2 ▸ hi) h3
        · exact ⟨⟨e, h1, h2⟩, h3⟩
    | false =>
      simp only
      have hi : ¬ ∃ r, i = ns ++ r := fun hh => by rw [hp.2 hh] at h; cases h
      rw [List.mem_cons, mem_oldIds ns b r]
      constructor
      · rintro (rfl | ⟨⟨e, h1, h2⟩, h3⟩)
        · exact ⟨⟨(b, x), List.mem_cons_self, rfl⟩, hi⟩
        · exact ⟨⟨e, List.mem_cons_of_mem _ h1, h2⟩, h3⟩
      · rintro ⟨⟨e, h1, h2⟩, h3⟩
        rcases List.mem_cons.1 h1 with rfl | h1
        · exact .inl h2.symm
        · exact .inr ⟨⟨e, h1, h2⟩, h3⟩
theorem nth_olds (s : St) : ∀ (ds : List Delta) (i k : Nat), nth (olds s i ds) k = (nth ds k).map (oldIds (s.pre ++ [s.n, i + k]))
  | [], i, k => by simp [olds]
  | d :: r, i, 0 => by simp [olds]
  | d :: r, i, k + 1 => by unfold olds; rw [nth_succ, nth_succ, nth_olds s r (i + 1) k, show i + 1 + k = i + (k + 1) by omega]
theorem mem_riv {s : St} {B : List (List Nat)} {ds : List Delta} {i : Nat} {b : Nm} : b ∈ rivals B i 0 (olds s 0 ds) ↔ ∃ k, Wr ds k b ∧ ¬ OwnI s k b ∧ i ≠ k ∧ k ∉ pre B i ∧ i ∉ pre B k := by
  rw [mem_rivals]
  have hown : ∀ k, (∃ r, b = (s.pre ++ [s.n, k]) ++ r) ↔ OwnI s k b := fun k => by
    unfold OwnI; simp
  constructor
  · rintro ⟨k, w, h1, h2, h3⟩
    rw [Nat.zero_add] at h3
    rw [nth_olds, Nat.zero_add] at h1
    cases hd : nth ds k with
    | none => rw [hd] at h1; cases h1
    | some d =>
      rw [hd] at h1; simp only [Option.map_some, Option.some.injEq] at h1; subst h1
      obtain ⟨g1, g2⟩ := (mem_oldIds _ _ _).1 h2
      exact ⟨k, ⟨d, hd, g1⟩, fun ho => g2 ((hown k).2 ho), h3⟩
  · rintro ⟨k, ⟨d, hd, g1⟩, g2, h3⟩
    refine ⟨k, oldIds (s.pre ++ [s.n, k]) d, by rw [nth_olds, hd, Nat.zero_add]; rfl, (mem_oldIds _ _ _).2 ⟨g1, fun ho => g2 ((hown k).1 ho)⟩, by rw [Nat.zero_add]; exact h3⟩
end
end Go.Am
namespace Go.Am
open Go
noncomputable section
section
variable {C : Cfg} {call : FuncId → List AV → M AV} {rnd : Nm → List AV → M AV} {ops : List Oper} {B : List (List Nat)} {s : St} {T vs : List AV} {ds : List Delta}
theorem Run.ord (hc : ∀ f args, Nice (call f args)) (hr : ∀ l args, Nice (rnd l args)) (hreg : RegOk ops B) (hf : Frh s) (h : Run C call rnd ops B s T vs ds) {i k : Nat} {b : Nm} (hi : Wr ds i b) (hk : Wr ds k b) (hne : i ≠ k) : k ∈ pre B i ∨ i ∈ pre B k := by
  by_cases h1 : k ∈ pre B i
  · exact .inl h1
  · by_cases h2 : i ∈ pre B k
    · exact .inr h2
    · exfalso
      by_cases ho : OwnI s k b
      · rcases h.own hc hr hreg hf ho i hi with e | e
        · exact hne e
        · exact h1 e
      · have hriv : b ∈ rivals B i 0 (olds s 0 ds) := mem_riv.2 ⟨k, hk, ho, hne, h1, h2⟩
        rcases h.ids hc hr hi with ho | ⟨x, hx⟩
        · rcases h.own hc hr hreg hf ho k hk with e | e
          · exact hne e.symm
          · exact h2 e
        · exact (hidden_some hx).1 hriv
theorem Run.seen (hc : ∀ f args, Nice (call f args)) (hr : ∀ l args, Nice (rnd l args)) (hreg : RegOk ops B) (hf : Frh s) (h : Run C call rnd ops B s T vs ds) {i k : Nat} {b : Nm} {x : Blk} (hin : i < ops.length) (hx : hget (hidden s B ds i) b = some x) (hk : Wr ds k b) (hne : i ≠ k) (hik : i ∉ pre B k) : k ∈ pre B i := by
  by_cases h1 : k ∈ pre B i
  · exact h1
  · exfalso
    obtain ⟨hnr, hov⟩ := hidden_some hx
    by_cases ho : OwnI s k b
    · rcases overlay_some hov with ⟨j, hj, hwj⟩ | hs
      · rcases h.own hc hr hreg hf ho j hwj with rfl | e
        · exact h1 hj
        · obtain ⟨o, hoo⟩ := nth_some hin
          exact h1 ((hreg.back i o hoo j hj).2 k e)
      · rw [hf k b ho] at hs; cases hs
    · exact hnr (mem_riv.2 ⟨k, hk, ho, hne, h1, hik⟩)
end
end
end Go.Am
namespace Go.Am
open Go
noncomputable section
theorem lkD_none {d : Delta} {b : Nm} (h : ¬ ∃ e ∈ d, e.1 = b) : lkD d b = none := by
  cases hl : lkD d b with
  | none => rfl
  | some y => exact absurd (lkD_mem hl) h
theorem mg_agree {p q : Nat → Bool} {b : Nm} : ∀ (ds : List Delta) (k : Nat) (h : Option Blk), (∀ j d, nth ds j = some d → (∃ e ∈ d, e.1 = b) → p (k + j) = q (k + j)) → mg p b k ds h = mg q b k ds h
  | [], k, h, _ => rfl
  | d :: r, k, h, ha => by
    unfold mg
    have h1 : (if p k = true then (lkD d b).getD h else h) = (if q k = true then (lkD d b).getD h else h) := by
      by_cases hw : ∃ e ∈ d, e.1 = b
      · have := ha 0 d (by simp) hw; rw [Nat.add_zero] at this; rw [this]
      · rw [lkD_none hw]; by_cases hp : p k = true <;> by_cases hq : q k = true <;> simp [hp, hq]
    rw [h1]
    refine mg_agree r (k + 1) _ fun j d' hj hw => ?_
    have := ha (j + 1) d' (by rw [nth_succ]; exact hj) hw
    rw [show k + 1 + j = k + (j + 1) by omega]; exact this
section
variable {C : Cfg} {call : FuncId → List AV → M AV} {rnd : Nm → List AV → M AV} {ops : List Oper} {B : List (List Nat)} {s : St} {T vs : List AV} {ds : List Delta}
def Closed (ops : List Oper) (B : List (List Nat)) (S : Nat → Bool) : Prop := ∀ i, i < ops.length → S i = true → ∀ j ∈ pre B i, S j = true
theorem Run.sub (hc : ∀ f args, Nice (call f args)) (hr : ∀ l args, Nice (rnd l args)) (hreg : RegOk ops B) (hf : Frh s) (h : Run C call rnd ops B s T vs ds) {S : Nat → Bool} (hS : Closed ops B S) {i : Nat} (hin : i < ops.length) (hi : S i = false) (hp : ∀ j ∈ pre B i, S j = true) {b : Nm} {x : Blk} (hx : hget (hidden s B ds i) b = some x) :
    mg S b 0 ds (hget s.H b) = some x := by
  have hov := (hidden_some hx).2
  rw [hget_overlay s.H] at hov
  rw [← hov]
  refine mg_agree ds 0 _ fun k d hk hw => ?_
  rw [Nat.zero_add]
  have hkw : Wr ds k b := ⟨d, hk, hw⟩
  have hkl : k < ops.length := by rw [← h.dlen]; exact nth_lt hk
  cases hSk : S k with
  | true =>
    have hne : i ≠ k := fun e => by subst e; rw [hi] at hSk; cases hSk
    have := h.seen hc hr hreg hf hin hx hkw hne (fun hik => by have := hS k hkl hSk i hik; rw [hi] at this; cases this)
    exact ((memN_iff _ _).2 this).symm
  | false =>
    cases hm : memN k (pre B i) with
    | false => rfl
    | true => have := hp k ((memN_iff _ _).1 hm); rw [hSk] at this; cases this
theorem Run.step (hc : ∀ f args, Nice (call f args)) (hr : ∀ l args, Nice (rnd l args)) (hreg : RegOk ops B) (hf : Frh s) (h : Run C call rnd ops B s T vs ds) {S S' : Nat → Bool} (hS : Closed ops B S) {i : Nat} (hin : i < ops.length) (hi : S i = false) (hi' : S' i = true) (hs : ∀ k, k ≠ i → S' k = S k) {d : Delta} (hd : nth ds i = some d) (b : Nm) :
    mg S' b 0 ds (hget s.H b) = (lkD d b).getD (mg S b 0 ds (hget s.H b)) := by
  by_cases hw : ∃ e ∈ d, e.1 = b
  · obtain ⟨e, he, heb⟩ := hw
    obtain ⟨y, hy⟩ := mem_lkD he
    rw [heb] at hy
    rw [hy]
    have hlt : i < ds.length := nth_lt hd
    have hsplit : ds = ds.take i ++ (d :: ds.drop (i + 1)) := by
      rw [nth_eq] at hd
      obtain ⟨hlt, hd⟩ := List.getElem?_eq_some_iff.1 hd
      rw [← hd, ← List.drop_eq_getElem_cons hlt, List.take_append_drop]
    have h2 := mg_append S' b (ds.take i) (d :: ds.drop (i + 1)) 0 (hget s.H b)
    rw [← hsplit] at h2
    rw [h2]
    have hl : 0 + (ds.take i).length = i := by simp; omega
    rw [hl]
    unfold mg
    rw [hi', if_pos rfl, hy]
    simp only [Option.getD_some]
    have : mg S' b (i + 1) (ds.drop (i + 1)) y = mg (fun _ => false) b (i + 1) (ds.drop (i + 1)) y := by
      refine mg_agree _ _ _ fun j d' hj hw' => ?_
      have hj' : nth ds (i + 1 + j) = some d' := by rw [nth_eq, List.getElem?_drop] at hj; rw [nth_eq]; exact hj
      cases hSk : S' (i + 1 + j) with
      | false => rfl
      | true =>
        exfalso
        have hne : i ≠ i + 1 + j := by omega
        rw [hs _ (Ne.symm hne)] at hSk
        have hkl : i + 1 + j < ops.length := by rw [← h.dlen]; exact nth_lt hj'
        obtain ⟨o, ho⟩ := nth_some hin
        rcases h.ord hc hr hreg hf (i := i) (k := i + 1 + j) (b := b) ⟨d, hd, e, he, heb⟩ ⟨d', hj', hw'⟩ hne with g | g
        · have := (hreg.back i o ho _ g).1; omega
        · have := hS _ hkl hSk i g; rw [hi] at this; cases this
    rw [this, mg_off _ _ _ _ _ fun _ _ => rfl]
  · rw [lkD_none hw]
    simp only [Option.getD_none]
    refine mg_agree ds 0 _ fun k d' hk hw' => ?_
    rw [Nat.zero_add]
    by_cases e : k = i
    · subst e; rw [hd] at hk; cases hk; exact absurd hw' hw
    · exact hs k e
theorem Run.all (h : Run C call rnd ops B s T vs ds) {S : Nat → Bool} (hS : ∀ i, i < ops.length → S i = true) (b : Nm) : mg S b 0 ds (hget s.H b) = hget (redoH s.H (allD ds)) b := by
  rw [hget_allD b ds 0]
  refine mg_agree ds 0 _ fun k d hk _ => ?_
  rw [Nat.zero_add]; exact hS k (by rw [← h.dlen]; exact nth_lt hk)
end
end
end Go.Am
namespace Go.Am
open Go
noncomputable section
theorem subN_spec : ∀ (a b : List Nat), subN a b = true → ∀ n ∈ a, n ∈ b
  | [], b, _, n, h => by simp at h
  | m :: r, b, h, n, hn => by
    unfold subN at h
    cases hm : memN m b with
    | false => rw [hm] at h; cases h
    | true =>
      rw [hm] at h
      rcases List.mem_cons.1 hn with rfl | hn
      · exact (memN_iff _ _).1 hm
      · exact subN_spec r b h n hn
theorem ordAll_spec {B : List (List Nat)} {k : Nat} : ∀ n, ordAll B k n = true → ∀ i, i < n → i = k ∨ i ∈ pre B k ∨ k ∈ pre B i
  | 0, _, i, hi => by omega
  | n + 1, h, i, hi => by
    unfold ordAll at h
    have key : ordAll B k n = true → i < n → i = k ∨ i ∈ pre B k ∨ k ∈ pre B i := fun h1 h2 => ordAll_spec n h1 i h2
    cases h1 : Nat.beq n k with
    | true =>
      rw [h1] at h
      have := Nat.eq_of_beq_eq_true h1
      by_cases e : i = n
      · exact .inl (e.trans this)
      · exact key h (by omega)
    | false =>
      cases h2 : memN n ((nth B k).getD []) with
      | true =>
        rw [h1, h2] at h
        by_cases e : i = n
        · subst e; exact .inr (.inl ((memN_iff _ _).1 h2))
        · exact key h (by omega)
      | false =>
        cases h3 : memN k ((nth B n).getD []) with
        | true =>
          rw [h1, h2, h3] at h
          by_cases e : i = n
          · subst e; exact .inr (.inr ((memN_iff _ _).1 h3))
          · exact key h (by omega)
        | false => rw [h1, h2, h3] at h; cases h
theorem ordEach_spec {B : List (List Nat)} {n : Nat} : ∀ W, ordEach B n W = true → ∀ k ∈ W, ∀ i, i < n → i = k ∨ i ∈ pre B k ∨ k ∈ pre B i
  | [], _, k, h => by simp at h
  | m :: r, h, k, hk => by
    unfold ordEach at h
    cases h1 : ordAll B m n with
    | false => rw [h1] at h; cases h
    | true =>
      rw [h1] at h
      rcases List.mem_cons.1 hk with rfl | hk
      · exact ordAll_spec n h1
      · exact ordEach_spec r h k hk
theorem allD_snoc : ∀ (ds : List Delta) (d : Delta), allD (ds ++ [d]) = d ++ allD ds
  | [], d => by simp [allD]
  | e :: r, d => by simp only [List.cons_append, allD, allD_snoc r d, List.append_assoc]
theorem allD_nil (ds : List Delta) : allD (ds ++ [[]]) = allD ds := by rw [allD_snoc]; rfl
theorem putsT_snoc : ∀ (l : List Oper) (vs : List AV) (T : List AV) (o : Oper) (v : AV), vs.length = l.length → putsT (l ++ [o]) (vs ++ [v]) T = putT (putsT l vs T) o.dst v
  | [], [], T, o, v, _ => by simp [putsT]
  | a :: l, u :: vs, T, o, v, h => by simp only [List.cons_append, putsT]; exact putsT_snoc l vs _ o v (by simpa using h)
  | [], u :: vs, T, o, v, h => by simp at h
  | a :: l, [], T, o, v, h => by simp at h
section
variable {C : Cfg} {call : FuncId → List AV → M AV} {rnd : Nm → List AV → M AV}
theorem one_congr (hc : ∀ f args, Nice (call f args)) (hr : ∀ l args, Nice (rnd l args)) {T : List AV} {o : Oper} {s : St} {i : Nat} {H H' : Heap} (h : ∀ b, hget H b = hget H' b) {x : AV × Delta} (hx : one (opA C call rnd T o (opSt s i H)) = some x) : one (opA C call rnd T o (opSt s i H')) = some x :=
  TrSub.one ((Nice.opA hc hr T o).mono _ _ (opSt_sub (Sub.refl s) i fun b y hy => by rw [← h b]; exact hy)) hx
theorem fp_spec (hc : ∀ f args, Nice (call f args)) (hr : ∀ l args, Nice (rnd l args)) {ops : List Oper} {s : St} {B : List (List Nat)} : ∀ (l : List Oper) (i : Nat) (T : List AV) (Hc : Heap) (nz : List Nat) (D : Delta) (W : List Nat) (x : List AV × Delta × List Nat) (done : List Oper) (vs : List AV) (ds : List Delta) (T0 : List AV),
    drawFP C call rnd ops s B i l T Hc nz D W = some x → done.length = i → vs.length = i → ds.length = i → T = putsT done vs T0 → D = allD ds → (∀ b, hget Hc b = hget (redoH s.H (allD ds)) b) → (∀ k d, nth ds k = some d → d ≠ [] → k ∈ nz) →
    (∀ k d, nth ds k = some d → oldIds (s.pre ++ [s.n, k]) d ≠ [] → k ∈ W) →
    ∃ vs' ds', drawPass C call rnd ops s B i l T vs ds = some (vs', ds') ∧ vs'.length = i + l.length ∧ ds'.length = i + l.length ∧ x.1 = putsT (done ++ l) vs' T0 ∧ x.2.1 = allD ds' ∧ (∀ k d, nth ds' k = some d → oldIds (s.pre ++ [s.n, k]) d ≠ [] → k ∈ x.2.2)
  | [], i, T, Hc, nz, D, W, x, done, vs, ds, T0, h, h1, h2, h3, hT, hD, hH, hnz, hW => by
    simp only [drawFP, Option.some.injEq] at h; subst h
    exact ⟨vs, ds, rfl, by simpa using h2, by simpa using h3, by simpa using hT, hD, hW⟩
  | o :: r, i, T, Hc, nz, D, W, x, done, vs, ds, T0, h, h1, h2, h3, hT, hD, hH, hnz, hW => by
    unfold drawFP at h
    unfold drawPass
    have snoc : ∀ (v : AV) (d : Delta) (k : Nat) (e : Delta), nth (ds ++ [d]) k = some e → (nth ds k = some e) ∨ (k = i ∧ e = d) := by
      intro v d k e he
      rw [nth_eq] at he ⊢
      by_cases hk : k < ds.length
      · rw [List.getElem?_append_left hk] at he; exact .inl he
      · rw [List.getElem?_append_right (by omega)] at he
        have hk2 : k - ds.length = 0 := by
          rcases Nat.eq_zero_or_pos (k - ds.length) with h0 | h0
          · exact h0
          · rw [List.getElem?_eq_none (by simp; omega)] at he; cases he
        rw [hk2] at he; simp at he
        exact .inr ⟨by omega, he.symm⟩
    cases hw : wantedA ops T o with
    | false =>
      rw [hw] at h
      obtain ⟨vs', ds', g1, g2, g3, g4, g5, g6⟩ := fp_spec hc hr r (i + 1) _ Hc nz D W x (done ++ [o]) (vs ++ [.undef]) (ds ++ [[]]) T0 h (by simp [h1]) (by simp [h2]) (by simp [h3]) (by rw [hT, putsT_snoc _ _ _ _ _ (by omega)]) (by rw [allD_nil]; exact hD) (by rw [allD_nil]; exact hH)
        (fun k d hk hd => by
          rcases snoc .undef [] k d hk with hk | ⟨_, rfl⟩
          · exact hnz k d hk hd
          · exact absurd rfl hd)
        (fun k d hk hd => by
          rcases snoc .undef [] k d hk with hk | ⟨_, rfl⟩
          · exact hW k d hk hd
          · exact absurd rfl hd)
      exact ⟨vs', ds', g1, by rw [g2]; simp; omega, by rw [g3]; simp; omega, by rw [g4]; simp, g5, g6⟩
    | true =>
      rw [hw] at h; simp only at h ⊢
      cases hs : subN nz ((nth B i).getD []) with
      | false => rw [hs] at h; cases h
      | true =>
        rw [hs] at h; simp only at h
        cases ho : one (opA C call rnd T o (opSt s i Hc)) with
        | none => rw [ho] at h; cases h
        | some y =>
          rw [ho] at h; simp only at h
          have hov : ∀ b, hget Hc b = hget (overlay s.H ((nth B i).getD []) 0 ds) b := by
            intro b
            rw [hH b, hget_overlay s.H, hget_allD b ds 0]
            refine mg_agree ds 0 _ fun k d hk hwr => ?_
            rw [Nat.zero_add]
            have hne : d ≠ [] := fun e => by subst e; obtain ⟨e, he, _⟩ := hwr; simp at he
            exact ((memN_iff _ _).2 (subN_spec _ _ hs k (hnz k d hk hne))).symm
          rw [one_congr hc hr hov ho]
          simp only
          obtain ⟨v, d⟩ := y
          have hT' : putT T o.dst v = putsT (done ++ [o]) (vs ++ [v]) T0 := by rw [hT, putsT_snoc _ _ _ _ _ (by omega)]
          cases d with
          | nil =>
            simp only at h ⊢
            obtain ⟨vs', ds', g1, g2, g3, g4, g5, g6⟩ := fp_spec hc hr r (i + 1) _ Hc nz D W x (done ++ [o]) (vs ++ [v]) (ds ++ [[]]) T0 h (by simp [h1]) (by simp [h2]) (by simp [h3]) hT' (by rw [allD_nil]; exact hD) (by rw [allD_nil]; exact hH)
              (fun k d hk hd => by
                rcases snoc .undef [] k d hk with hk | ⟨_, rfl⟩
                · exact hnz k d hk hd
                · exact absurd rfl hd)
              (fun k d hk hd => by
                rcases snoc .undef [] k d hk with hk | ⟨_, rfl⟩
                · exact hW k d hk hd
                · exact absurd rfl hd)
            exact ⟨vs', ds', g1, by rw [g2]; simp; omega, by rw [g3]; simp; omega, by rw [g4]; simp, g5, g6⟩
          | cons e d =>
            simp only at h ⊢
            have fin : ∀ W', drawFP C call rnd ops s B (i + 1) r (putT T o.dst v) (redoH Hc (e :: d)) (i :: nz) ((e :: d) ++ D) W' = some x → (∀ k ∈ W, k ∈ W') → (oldIds (s.pre ++ [s.n, i]) (e :: d) ≠ [] → i ∈ W') →
                ∃ vs' ds', drawPass C call rnd ops s B (i + 1) r (putT T o.dst v) (vs ++ [v]) (ds ++ [e :: d]) = some (vs', ds') ∧ vs'.length = i + (o :: r).length ∧ ds'.length = i + (o :: r).length ∧ x.1 = putsT (done ++ o :: r) vs' T0 ∧ x.2.1 = allD ds' ∧ (∀ k d, nth ds' k = some d → oldIds (s.pre ++ [s.n, k]) d ≠ [] → k ∈ x.2.2) := by
              intro W' h' hW1 hW2
              obtain ⟨vs', ds', g1, g2, g3, g4, g5, g6⟩ := fp_spec hc hr r (i + 1) _ _ _ _ W' x (done ++ [o]) (vs ++ [v]) (ds ++ [e :: d]) T0 h' (by simp [h1]) (by simp [h2]) (by simp [h3]) hT' (by rw [allD_snoc, hD]) (fun b => by rw [allD_snoc, hget_redoH, hH b, hget_redoH, hget_redoH, lkD_append]; cases lkD (e :: d) b <;> rfl)
                (fun k d' hk hd => by
                  rcases snoc v (e :: d) k d' hk with hk | ⟨rfl, _⟩
                  · exact List.mem_cons_of_mem _ (hnz k d' hk hd)
                  · exact List.mem_cons_self)
                (fun k d' hk hd => by
                  rcases snoc v (e :: d) k d' hk with hk | ⟨rfl, rfl⟩
                  · exact hW1 k (hW k d' hk hd)
                  · exact hW2 hd)
              exact ⟨vs', ds', g1, by rw [g2]; simp; omega, by rw [g3]; simp; omega, by rw [g4]; simp, g5, g6⟩
            cases hol : oldIds (s.pre ++ [s.n, i]) (e :: d) with
            | nil => rw [hol] at h; exact fin W h (fun k hk => hk) (fun hne => absurd hol hne)
            | cons a b => rw [hol] at h; exact fin (i :: W) h (fun k hk => List.mem_cons_of_mem _ hk) (fun _ => List.mem_cons_self)
theorem check_quiet {ops : List Oper} {s : St} {B : List (List Nat)} {ds : List Delta} {ws : List (List Nm)} : ∀ (l : List Oper) (vs : List AV) (T : List AV) (i : Nat), vs.length = l.length → (∀ k, k < i + l.length → rivals B k 0 ws = []) → drawCheck C call rnd ops s B ds ws T i l vs = true
  | [], [], T, i, _, _ => rfl
  | [], _ :: _, T, i, h, _ => by simp at h
  | _ :: _, [], T, i, h, _ => by simp at h
  | o :: r, v :: vs, T, i, h, hq => by
    unfold drawCheck
    rw [hq i (by simp)]
    exact check_quiet r vs _ (i + 1) (by simpa using h) fun k hk => hq k (by simp at hk ⊢; omega)
theorem drawF_eq (hc : ∀ f args, Nice (call f args)) (hr : ∀ l args, Nice (rnd l args)) (ops : List Oper) (T : List AV) : drawF C call rnd ops T = drawA C call rnd ops T := by
  funext s
  unfold drawF
  cases hp : drawFP C call rnd ops s (predsAll [] ops) 0 ops T s.H [] [] [] with
  | none => rfl
  | some x =>
    simp only
    cases he : ordEach (predsAll [] ops) ops.length x.2.2 with
    | false => rfl
    | true =>
      simp only
      obtain ⟨vs', ds', g1, g2, g3, g4, g5, g6⟩ := fp_spec hc hr ops 0 T s.H [] [] [] x [] [] [] T hp rfl rfl rfl rfl rfl (fun _ => rfl) (fun k d h => by simp at h) (fun k d h => by simp at h)
      unfold drawA
      rw [g1]
      simp only
      simp only [List.nil_append] at g4
      rw [← g4, ← g5]
      cases hn : allNil (olds s 0 ds') with
      | true => rfl
      | false =>
        simp only
        rw [check_quiet ops vs' T 0 (by simpa using g2) fun k hk => ?_]
        rw [List.eq_nil_iff_forall_not_mem]
        intro b hb
        obtain ⟨j, w, h1, h2, h3, h4, h5⟩ := (mem_rivals _ _ _ _ _).1 hb
        rw [Nat.zero_add] at h3 h4 h5
        rw [nth_olds, Nat.zero_add] at h1
        cases hd : nth ds' j with
        | none => rw [hd] at h1; cases h1
        | some d =>
          rw [hd] at h1; simp only [Option.map_some, Option.some.injEq] at h1
          have hj := g6 j d hd (fun e => by rw [h1] at e; rw [e] at h2; simp at h2)
          rcases ordEach_spec _ he j hj k (by simpa using hk) with e | e | e
          · exact h3 e
          · exact h5 e
          · exact h4 e
end
end
end Go.Am
namespace Go.Am
open Go
section
variable {C : Cfg} {call : FuncId → List AV → M AV} {rnd : Nm → List AV → M AV}
theorem Nice.iter (body : List AV → M X) (hb : ∀ T, Nice (body T)) : ∀ (K : Nat) (T : List AV), Nice (Am.iter K body T)
  | 0, T => Nice.fail
  | K + 1, T => by
    show Nice ((body T).bind fun x => match x.1 with | .normal => Am.iter K body x.2 | e => M.ret (e, x.2))
    refine Nice.bind (hb T) fun x => ?_
    split
    · exact Nice.iter body hb K _
    · exact Nice.ret _
theorem Nice.thenA {m : M X} {f : List AV → M X} (hm : Nice m) (hf : ∀ T, Nice (f T)) : Nice (Am.thenA m f) := by
  refine Nice.bind hm fun x => ?_
  split
  · exact hf _
  · exact Nice.ret _
theorem Nice.blockA (id : Nat) {m : M X} (hm : Nice m) : Nice (Am.blockA id m) := by
  refine Nice.bind hm fun x => ?_
  repeat' (first | exact Nice.ret _ | split)
theorem Nice.rangeFuncA (hc : ∀ f args, Nice (call f args)) (hr : ∀ l args, Nice (rnd l args)) (f : AV) (ps : List Nat) (a b : Code) (T : List AV) : Nice (Am.rangeFuncA call f ps a b T) := by
  unfold Am.rangeFuncA
  repeat' (first | exact Nice.fail | exact Nice.ret _ | exact Nice.getM _ | exact Nice.putM _ _ | exact Nice.newM _ | exact hc _ _ | (refine Nice.bind ?_ fun _ => ?_) | split)
theorem Nice.exec (hc : ∀ f args, Nice (call f args)) (hr : ∀ l args, Nice (rnd l args)) (K : Nat) (c : Code) : ∀ T, Nice (Am.exec C call rnd K c T) := by
  induction c with
  | skip => intro T; exact Nice.ret _
  | region id ops draw =>
    intro T
    show Nice ((match draw with | true => Am.drawF C call rnd ops.toList T | false => Am.runOps C call rnd ops.toList ops.toList T).bind fun T' => M.ret (AExit.normal, T'))
    refine Nice.bind ?_ fun _ => Nice.ret _
    split
    · rw [drawF_eq hc hr]; exact Nice.drawA hc hr _ _
    · exact Nice.runOps hc hr _ _ _
  | seq a b iha ihb => intro T; exact Nice.thenA (iha T) ihb
  | cond c a b iha ihb =>
    intro T
    show Nice (match evA T c with | some (.bool b') => (match b' with | true => Am.exec C call rnd K a T | false => Am.exec C call rnd K b T) | _ => M.fail)
    repeat' (first | exact Nice.fail | exact iha _ | exact ihb _ | split)
  | block id c ih => intro T; exact Nice.blockA id (ih T)
  | loop c ih => intro T; exact Nice.iter _ ih K T
  | rangeFunc f ps a b _ _ =>
    intro T
    show Nice (match evA T f with | some fv => Am.rangeFuncA call fv ps.toList a b T | none => M.fail)
    repeat' (first | exact Nice.fail | exact Nice.rangeFuncA hc hr _ _ _ _ _ | split)
  | exit i => intro T; exact Nice.ret _
  | scope c _ => intro T; exact Nice.fail
  | label l => intro T; exact Nice.fail
  | goto l => intro T; exact Nice.fail
  | ret => intro T; exact Nice.ret _
  | refuse r => intro T; exact Nice.fail
theorem Nice.resultsA : ∀ (l : List ResultVar) (T : List AV), Nice (Am.resultsA C T l)
  | [], T => Nice.ret _
  | .tmp t :: r, T => by
    unfold Am.resultsA
    repeat' (first | exact Nice.fail | exact Nice.ret _ | exact Nice.resultsA r T | (refine Nice.bind ?_ fun _ => ?_) | split)
  | .cell a t :: r, T => by
    unfold Am.resultsA
    repeat' (first | exact Nice.fail | exact Nice.ret _ | exact Nice.resultsA r T | exact Nice.loadA _ _ _ | (refine Nice.bind ?_ fun _ => ?_) | split)
theorem Nice.bodyA (hc : ∀ f args, Nice (call f args)) (hr : ∀ l args, Nice (rnd l args)) (K : Nat) (fn : Func) (args : List AV) : Nice (Am.bodyA C call rnd K fn args) := by
  unfold Am.bodyA
  split
  · exact Nice.fail
  · refine Nice.bind (Nice.exec hc hr K _ _) fun x => ?_
    split
    · exact Nice.fail
    · exact Nice.bind (Nice.resultsA _ _) fun _ => Nice.ret _
theorem Nice.roundA (hc : ∀ f args, Nice (call f args)) (hr : ∀ l args, Nice (rnd l args)) (K : Nat) (l : Nm) (args : List AV) : Nice (Am.roundA C call rnd K l args) := by
  unfold Am.roundA
  repeat' (first | exact Nice.fail | exact Nice.ret _ | exact Nice.getM _ | exact Nice.putM _ _ | exact Nice.exec hc hr K _ _ | (refine Nice.bind ?_ fun _ => ?_) | split)
theorem Nice.lendM : ∀ (k : Nat) (l bs : List Nm) (xs : List Blk), Nice (Am.lendM k l bs xs)
  | 0, l, bs, xs => Nice.fail
  | k + 1, [], bs, xs => Nice.ret _
  | k + 1, b :: r, bs, xs => by
    unfold Am.lendM
    simp only
    split
    · exact Nice.lendM k r bs xs
    · exact Nice.bind (Nice.getM _) fun x => Nice.lendM k _ _ _
theorem Nice.nameM : Nice Am.nameM := by
  refine ⟨fun s => trivial, fun s s' h => ?_, fun s => JrR.refl s⟩
  unfold Am.nameM
  rw [h.pre, h.n]
  exact .ret _ _ _ h
theorem Nice.putAll : ∀ (bs : List Nm) (xs : List Blk), Nice (Am.putAll bs xs)
  | [], [] => Nice.ret _
  | [], _ :: _ => Nice.fail
  | _ :: _, [] => Nice.fail
  | b :: r, x :: q => Nice.bind (Nice.putM _ _) fun _ => Nice.putAll r q
theorem Nice.newAll : ∀ (xs : List Blk), Nice (Am.newAll xs)
  | [] => Nice.ret _
  | x :: q => Nice.bind (Nice.newM _) fun _ => Nice.newAll q
theorem Nice.handA (sh : Bool) (body : List AV → M AV) (args : List AV) : Nice (Am.handA sh body args) := by
  unfold Am.handA
  refine Nice.bind (Nice.lendM _ _ _ _) fun bl => ?_
  repeat' (first | exact Nice.fail | exact Nice.ret _ | exact Nice.nameM | exact Nice.putAll _ _ | exact Nice.newAll _ | (refine Nice.bind ?_ fun _ => ?_) | split)
theorem Nice.enterA (hc : ∀ f args, Nice (call f args)) (hr : ∀ l args, Nice (rnd l args)) (K : Nat) (f : FuncId) (args : List AV) : Nice (Am.enterA C call rnd K f args) := by
  unfold Am.enterA
  cases C.fn.get f with
  | none => exact Nice.fail
  | some fn =>
    simp only
    split
    · split
      · exact Nice.of _
      · exact Nice.fail
    · exact Nice.handA _ _ _
    · exact Nice.handA _ _ _
    · exact Nice.bodyA hc hr K fn args
end
theorem Nice.mach (C : Cfg) : ∀ K, (∀ f args, Nice (acall C K f args)) ∧ ∀ l args, Nice (around C K l args)
  | 0 => ⟨fun _ _ => Nice.fail, fun _ _ => Nice.fail⟩
  | K + 1 => by
    obtain ⟨h1, h2⟩ := Nice.mach C K
    exact ⟨fun f args => by rw [acall_succ]; exact Nice.enterA h1 h2 _ f args, fun l args => by rw [around_succ]; exact Nice.roundA h1 h2 _ l args⟩
end Go.Am
namespace Go.Am
open Go
noncomputable section
theorem HR.congr {ρ : Rho} {H H' : Heap} {w : World} (he : ∀ b, hget H b = hget H' b) (h : HR ρ H w) : HR ρ H' w :=
  ⟨fun b x hb => h.blocks b x (by rw [he]; exact hb), fun b b' x x' p p' h1 h2 => h.sep b b' x x' p p' (by rw [he]; exact h1) (by rw [he]; exact h2),
   fun b m l e hb => let ⟨⟨es, h1⟩, h2⟩ := h.iter b m l e (by rw [he]; exact hb); ⟨⟨es, by rw [← he]; exact h1⟩, h2⟩, h.frz, fun b x p hb => h.fsep b x p (by rw [he]; exact hb)⟩
theorem Img.congr {ρ : Rho} {H H' : Heap} (he : ∀ b, hget H b = hget H' b) {c : Nat} (h : Img ρ H c) : Img ρ H' c := by
  obtain ⟨b, x, p, h1, h2, h3, h4⟩ := h; exact ⟨b, x, p, by rw [← he]; exact h1, h2, h3, h4⟩
structure Cst (ρ : Rho) (H : Heap) (w : World) (ρ' : Rho) (H' : Heap) (w' : World) : Prop where
  ext : Ext ρ ρ'
  same : Same w w'
  size : w.heap.size ≤ w'.heap.size
  unch : ∀ c, c < w.heap.size → ¬ Img ρ H c → w'.heap[c]? = w.heap[c]?
  img : ∀ c, c < w.heap.size → Img ρ' H' c → Img ρ H c
  fzl : ∀ c k v, ρ'.fz c k = some v → ρ.fz c k = none → c < w.heap.size → Img ρ H c
theorem Stp.cst {ρ ρ' : Rho} {s s' : St} {w w' : World} (h : Stp ρ s w ρ' s' w') : Cst ρ s.H w ρ' s'.H w' := ⟨h.ext, h.same, h.size, h.unch, h.img, h.fzl⟩
theorem Cst.refl (ρ : Rho) (H : Heap) (w : World) : Cst ρ H w ρ H w := ⟨Ext.refl _, Same.refl _, Nat.le_refl _, fun _ _ _ => rfl, fun _ _ h => h, fun _ _ _ h h' => (by rw [h] at h'; cases h')⟩
theorem Cst.trans {ρ ρ' ρ'' : Rho} {H H' H'' : Heap} {w w' w'' : World} (h : Cst ρ H w ρ' H' w') (k : Cst ρ' H' w' ρ'' H'' w'') : Cst ρ H w ρ'' H'' w'' :=
  ⟨h.ext.trans k.ext, h.same.trans k.same, Nat.le_trans h.size k.size,
   fun c hc hn => (k.unch c (Nat.lt_of_lt_of_le hc h.size) (fun hi => hn (h.img c hc hi))).trans (h.unch c hc hn),
   fun c hc hi => h.img c hc (k.img c (Nat.lt_of_lt_of_le hc h.size) hi), fun c i v hv hn hc => by
    cases e : ρ'.fz c i with
    | none => exact h.img c hc (k.fzl c i v hv e (Nat.lt_of_lt_of_le hc h.size))
    | some u => exact h.fzl c i u e hn hc⟩
theorem Cst.congr {ρ ρ' : Rho} {H H1 H' H1' : Heap} {w w' : World} (h : Cst ρ H w ρ' H' w') (e : ∀ b, hget H b = hget H1 b) (e' : ∀ b, hget H' b = hget H1' b) : Cst ρ H1 w ρ' H1' w' :=
  ⟨h.ext, h.same, h.size, fun c hc hn => h.unch c hc fun hi => hn (hi.congr e), fun c hc hi => (h.img c hc (hi.congr fun b => (e' b).symm)).congr e, fun c k v hv hn hc => (h.fzl c k v hv hn hc).congr e⟩
def mgH (p : Nat → Bool) : Nat → List Delta → Heap → Heap
  | _, [], H => H
  | k, d :: r, H => mgH p (k + 1) r (if p k = true then redoH H d else H)
theorem hget_mgH (p : Nat → Bool) (b : Nm) : ∀ (ds : List Delta) (k : Nat) (H : Heap), hget (mgH p k ds H) b = mg p b k ds (hget H b)
  | [], k, H => rfl
  | d :: r, k, H => by
    unfold mgH mg
    rw [hget_mgH p b r (k + 1)]
    by_cases h : p k = true
    · simp only [h, if_true]; rw [hget_redoH]
    · simp only [h]; rfl
end
end Go.Am
namespace Go.Am
open Go
noncomputable section
theorem binds_any (e : Edge) : Region.binds .any e = solid e := by
  unfold Region.binds solid
  cases e.ground <;> rfl
theorem putT_comm (T : List AV) {d d' : Option Tmp} (v v' : AV) (h : ∀ t, d = some t → d' ≠ some t) : putT (putT T d v) d' v' = putT (putT T d' v') d v := by
  cases d with
  | none => rfl
  | some t =>
    cases d' with
    | none => rfl
    | some t' =>
      have hne : t ≠ t' := fun e => h t rfl (by rw [e])
      simp only [putT, setNth_eq]
      exact List.set_comm _ _ hne
theorem TP_put (p : Nat → Bool) (d : Option Tmp) (v : AV) : ∀ (ops : List Oper) (k : Nat) (vs T : List AV), (∀ o ∈ ops, ∀ t, d = some t → o.dst ≠ some t) → TP p k ops vs (putT T d v) = putT (TP p k ops vs T) d v
  | [], k, vs, T, _ => by simp [TP]
  | o :: r, k, [], T, _ => by simp [TP]
  | o :: r, k, u :: vs, T, h => by
    have hr : ∀ q ∈ r, ∀ t, d = some t → q.dst ≠ some t := fun q hq => h q (List.mem_cons_of_mem _ hq)
    unfold TP
    by_cases hp : p k = true
    · simp only [hp, if_true]
      rw [putT_comm T v u (h o List.mem_cons_self), TP_put p d v r (k + 1) vs _ hr]
    · simp only [hp]; exact TP_put p d v r (k + 1) vs _ hr
theorem TP_same {p q : Nat → Bool} : ∀ (ops : List Oper) (k : Nat) (vs T : List AV), (∀ i, i < ops.length → p (k + i) = q (k + i)) → TP p k ops vs T = TP q k ops vs T
  | [], k, vs, T, _ => by simp [TP]
  | o :: r, k, [], T, _ => by simp [TP]
  | o :: r, k, v :: vs, T, h => by
    unfold TP
    have h0 := h 0 (by simp)
    rw [Nat.add_zero] at h0
    rw [h0]
    exact TP_same r (k + 1) vs _ fun i hi => by rw [show k + 1 + i = k + (i + 1) by omega]; exact h (i + 1) (by simp; omega)
theorem TP_step {p q : Nat → Bool} : ∀ (ops : List Oper) (k : Nat) (vs T : List AV) (i : Nat) (o : Oper) (v : AV), nth ops i = some o → nth vs i = some v → p (k + i) = false → q (k + i) = true → (∀ j, j ≠ i → q (k + j) = p (k + j)) →
    (∀ j u, j ≠ i → nth ops j = some u → ∀ t, o.dst = some t → u.dst ≠ some t) → TP q k ops vs T = putT (TP p k ops vs T) o.dst v
  | [], k, vs, T, i, o, v, ho, _, _, _, _, _ => by simp at ho
  | a :: r, k, [], T, i, o, v, _, hv, _, _, _, _ => by simp at hv
  | a :: r, k, u :: vs, T, 0, o, v, ho, hv, h1, h2, h3, h4 => by
    simp only [nth_zero, Option.some.injEq] at ho hv; subst ho; subst hv
    rw [Nat.add_zero] at h1 h2
    unfold TP
    simp only [h1, h2, if_true]
    rw [TP_same (p := q) (q := p) r (k + 1) vs _ fun j hj => by rw [show k + 1 + j = k + (j + 1) by omega]; exact h3 (j + 1) (by omega)]
    refine TP_put p _ _ r (k + 1) vs _ fun x hx => ?_
    obtain ⟨j, hj⟩ := mem_nth hx
    exact h4 (j + 1) x (by omega) (by rw [nth_succ]; exact hj)
  | a :: r, k, u :: vs, T, i + 1, o, v, ho, hv, h1, h2, h3, h4 => by
    rw [nth_succ] at ho hv
    unfold TP
    have h0 := h3 0 (by omega)
    rw [Nat.add_zero] at h0
    rw [h0]
    refine TP_step r (k + 1) vs _ i o v ho hv (by rw [show k + 1 + i = k + (i + 1) by omega]; exact h1) (by rw [show k + 1 + i = k + (i + 1) by omega]; exact h2) (fun j hj => ?_) (fun j x hj hx => ?_)
    · rw [show k + 1 + j = k + (j + 1) by omega]; exact h3 (j + 1) (by omega)
    · exact h4 (j + 1) x (by omega) (by rw [nth_succ]; exact hx)
def cntF : List Bool → Nat
  | [] => 0
  | b :: r => (if b = true then 0 else 1) + cntF r
theorem cntF_set : ∀ (l : List Bool) (i : Nat), l[i]? = some false → cntF (l.set i true) + 1 = cntF l
  | [], i, h => by simp at h
  | b :: r, 0, h => by simp at h; subst h; simp [cntF]; omega
  | b :: r, i + 1, h => by
    simp at h
    have := cntF_set r i h
    simp only [List.set_cons_succ, cntF]; omega
theorem cntF_zero : ∀ (l : List Bool), cntF l = 0 → ∀ (i : Nat) (b : Bool), l[i]? = some b → b = true
  | [], _, i, b, h => by simp at h
  | c :: r, hz, i, b, h => by
    simp only [cntF] at hz
    cases i with
    | zero => simp at h; subst h; cases c <;> simp_all
    | succ i => exact cntF_zero r (by omega) i b (by simpa using h)
theorem Cst.world {ρ ρ' : Rho} {H H' : Heap} {w w1 w' : World} (h : Cst ρ H w ρ' H' w1) (hw : w'.heap = w1.heap) (hs : Same w1 w') : Cst ρ H w ρ' H' w' :=
  ⟨h.ext, h.same.trans hs, by rw [hw]; exact h.size, by rw [hw]; exact h.unch, h.img, h.fzl⟩
section
variable {P : Program} {C : Cfg} {call : FuncId → List AV → M AV} {rnd : Nm → List AV → M AV} {F : Fence} {n : Nat}
structure AnyInv (ops : List Oper) (s : St) (T vs : List AV) (ds : List Delta) (ρ : Rho) (w0 : World) (a0 : Act) (S : Nat → Bool) (ρ' : Rho) (a : Act) (w : World) : Prop where
  hr : HR ρ' (mgH S 0 ds s.H) w
  st : Cst ρ s.H w0 ρ' (mgH S 0 ds s.H) w
  tm : VRs ρ' (TP S 0 ops vs T) a.tmps.toList
  df : a.defers = a0.defers
  nm : ∀ b p, ρ' b = some p → ρ b = none → ∃ k, S k = true ∧ OwnI s k b
theorem any_go (hC : CfgOk P C) (hF : Fw F) (hcall : CallOk P call) (hrnd : RndOk P rnd) (hc : ∀ f args, Nice (call f args)) (hr : ∀ l args, Nice (rnd l args))
    {arr : Array Oper} {ops : List Oper} (harr : arr.toList = ops) {B : List (List Nat)} (hreg : RegOk ops B) {s : St} {T vs : List AV} {ds : List Delta} {ρ : Rho} {w0 : World} {a0 : Act} (hf : Fr ρ s) (hfr : Frh s)
    (hrun : Run C call rnd ops B s T vs ds) {Q : Exit → Act → World → Prop}
    (hN : ∀ ρ' a w, AnyInv ops s T vs ds ρ w0 a0 (fun _ => true) ρ' a w → Q .normal a w) :
    ∀ (fuel : Nat) (listed : Array Bool) (ρ' : Rho) (a : Act) (w : World), listed.size = ops.length → cntF listed.toList ≤ fuel → Closed ops B (fun i => listed.getD i false) →
      AnyInv ops s T vs ds ρ w0 a0 (fun i => listed.getD i false) ρ' a w → wpAnyIn F n P .any arr Q fuel listed a w := by
  have hsz : arr.size = ops.length := by rw [← harr]; simp
  have hat : ∀ i, arr[i]? = nth ops i := fun i => by rw [nth_eq, ← harr]; simp
  have hend : ∀ (listed : Array Bool) (ρ' : Rho) (a : Act) (w : World), listed.size = ops.length → AnyInv ops s T vs ds ρ w0 a0 (fun i => listed.getD i false) ρ' a w → Region.ready .any arr listed = [] → Q .normal a w := by
    intro listed ρ' a w hl hinv hre
    have hall : ∀ i, i < ops.length → listed.getD i false = true := by
      intro i
      induction i using Nat.strongRecOn with
      | _ i ih =>
        intro hi
        cases hb : listed.getD i false with
        | true => rfl
        | false =>
          exfalso
          obtain ⟨o, ho⟩ := nth_some hi
          have : i ∈ Region.ready .any arr listed := by
            rw [mem_ready]
            refine ⟨?_, o, by rw [hat]; exact ho, fun e he hbd => ?_⟩
            · simp only [Array.getD_eq_getD_getElem?] at hb ⊢
              cases hg : listed[i]? with
              | none => rw [Array.getElem?_eq_none_iff] at hg; omega
              | some x => rw [hg] at hb; simpa using hb
            · rw [binds_any] at hbd
              have h1 := hreg.edge i o ho e (by simpa using he) hbd
              have h2 := (hreg.back i o ho _ h1).1
              exact ih e.on h2 (by omega)
          rw [hre] at this; cases this
    have hT : TP (fun i => listed.getD i false) 0 ops vs T = TP (fun _ => true) 0 ops vs T := TP_same ops 0 vs T fun i hi => by rw [Nat.zero_add]; exact hall i hi
    have hH : ∀ b, hget (mgH (fun i => listed.getD i false) 0 ds s.H) b = hget (mgH (fun _ => true) 0 ds s.H) b := fun b => by
      rw [hget_mgH, hget_mgH]
      refine mg_agree ds 0 _ fun k d hk _ => ?_
      rw [Nat.zero_add]; exact hall k (by rw [← hrun.dlen]; exact nth_lt hk)
    refine hN ρ' a w ⟨hinv.hr.congr hH, hinv.st.congr (fun _ => rfl) hH, by rw [← hT]; exact hinv.tm, hinv.df, fun b p h1 h2 => ?_⟩
    obtain ⟨k, _, hk⟩ := hinv.nm b p h1 h2
    exact ⟨k, rfl, hk⟩
  intro fuel
  induction fuel with
  | zero =>
    intro listed ρ' a w hl hcnt hcl hinv
    have hnil : Region.ready .any arr listed = [] := by
      cases hre : Region.ready .any arr listed with
      | nil => rfl
      | cons i r =>
        exfalso
        have hi : i ∈ Region.ready .any arr listed := by rw [hre]; exact List.mem_cons_self
        obtain ⟨h0, o, ho, _⟩ := mem_ready.1 hi
        rw [hat] at ho
        have hlt : i < listed.size := by rw [hl]; exact nth_lt ho
        have hg : listed[i]? = some listed[i] := Array.getElem?_eq_getElem hlt
        have := cntF_zero listed.toList (by omega) i listed[i] (by rw [Array.getElem?_toList]; exact hg)
        simp only [Array.getD_eq_getD_getElem?, hg, Option.getD_some] at h0
        rw [h0] at this; cases this
    exact ⟨hnil, hend listed ρ' a w hl hinv hnil⟩
  | succ fuel ih =>
    intro listed ρ' a w hl hcnt hcl hinv
    refine ⟨hend listed ρ' a w hl hinv, fun i hi => ?_⟩
    obtain ⟨h0, o, ho, hall⟩ := mem_ready.1 hi
    rw [hat] at ho
    have hin : i < ops.length := nth_lt ho
    have hlt : i < listed.size := by rw [hl]; exact hin
    have hg : listed[i]? = some listed[i] := Array.getElem?_eq_getElem hlt
    have hfalse : listed[i] = false := by simpa only [Array.getD_eq_getD_getElem?, hg, Option.getD_some] using h0
    have hSi : listed.getD i false = false := by simp only [Array.getD_eq_getD_getElem?, hg, Option.getD_some]; exact hfalse
    have hS'i : (listed.setIfInBounds i true).getD i false = true := by simp [Array.getD_eq_getD_getElem?, hlt]
    have hSk : ∀ k, k ≠ i → (listed.setIfInBounds i true).getD k false = listed.getD k false := fun k hk => getD_set_ne false (Ne.symm hk)
    have hpre : ∀ j ∈ pre B i, listed.getD j false = true := by
      intro j hj
      obtain ⟨e, he, hs, h1⟩ := (hreg.from' i o ho j).1 hj
      have h2 := hall e (by simpa using he) (by rw [binds_any]; exact hs)
      rcases h1 with rfl | h1
      · exact h2
      · have he' : e.on < ops.length := by
          have := (hreg.back i o ho _ (hreg.edge i o ho e he hs)).1
          omega
        exact hcl e.on he' h2 j h1
    have hcl' : Closed ops B (fun k => (listed.setIfInBounds i true).getD k false) := by
      intro k hk hSk' j hj
      by_cases e : k = i
      · subst e
        have hji : j ≠ k := by have := (hreg.back k o ho j hj).1; omega
        show (listed.setIfInBounds k true).getD j false = true
        rw [hSk j hji]; exact hpre j hj
      · have h1 : listed.getD k false = true := by rw [← hSk k e]; exact hSk'
        have h2 := hcl k hk h1 j hj
        show (listed.setIfInBounds i true).getD j false = true
        by_cases e' : j = i
        · subst e'; exact hS'i
        · rw [hSk j e']; exact h2
    have hcnt' : cntF (listed.setIfInBounds i true).toList ≤ fuel := by
      have := cntF_set listed.toList i (by rw [Array.getElem?_toList, hg, hfalse])
      rw [Array.toList_setIfInBounds]; omega
    have hlook : ∀ t ∈ looksL ops o, nth (TP (fun k => listed.getD k false) 0 ops vs T) t = nth (TP (fun j => decide (j < i)) 0 ops vs T) t := by
      intro t ht
      refine TP_agree ops 0 vs T T (fun k q hk hd => ?_) rfl rfl
      rw [Nat.zero_add]
      by_cases e : k = i
      · subst e; show listed.getD k false = decide (k < k); rw [hSi]; simp
      · rcases (hreg.dst i o ho k q hk e t hd).2 with h1 | h1 | h1
        · show listed.getD k false = decide (k < i)
          rw [hpre k h1]; have := (hreg.back i o ho k h1).1; simp [this]
        · show listed.getD k false = decide (k < i)
          have h2 := (hreg.back k q hk i h1).1
          cases hb : listed.getD k false with
          | false => simp; omega
          | true => have h3 : listed.getD i false = true := hcl k (nth_lt hk) hb i h1; rw [hSi] at h3; cases h3
        · exact absurd ht h1
    obtain ⟨e1, e2⟩ := op_look (C := C) (call := call) (rnd := rnd) (o := o) hlook
    have hdst : ∀ j u, j ≠ i → nth ops j = some u → ∀ t, o.dst = some t → u.dst ≠ some t := fun j u hj hu t ht => (hreg.dst j u hu i o ho (Ne.symm hj) t ht).1
    have htp : ∀ v, nth vs i = some v → TP (fun k => (listed.setIfInBounds i true).getD k false) 0 ops vs T = putT (TP (fun k => listed.getD k false) 0 ops vs T) o.dst v := fun v hv =>
      TP_step ops 0 vs T i o v ho hv (by rw [Nat.zero_add]; exact hSi) (by rw [Nat.zero_add]; exact hS'i) (fun j hj => by rw [Nat.zero_add]; exact hSk j hj) hdst
    have hheap : ∀ d, nth ds i = some d → ∀ b, hget (mgH (fun k => (listed.setIfInBounds i true).getD k false) 0 ds s.H) b = (lkD d b).getD (hget (mgH (fun k => listed.getD k false) 0 ds s.H) b) := fun d hd b => by
      rw [hget_mgH, hget_mgH]
      exact hrun.step hc hr hreg hfr hcl hin hSi hS'i hSk hd b
    show wpOpIn F n P arr Q i (wpAnyIn F n P .any arr Q fuel (listed.setIfInBounds i true)) a w
    unfold wpOpIn
    rw [hat, ho]
    simp only
    rw [wanted_eq harr hinv.tm o, e2]
    cases hw : wantedA ops (TP (fun j => decide (j < i)) 0 ops vs T) o with
    | false =>
      simp only [Bool.false_eq_true, if_false]
      refine ⟨fun f _ => hF.fn f, ?_⟩
      obtain ⟨g1, g2⟩ := hrun.no i o ho hw
      have hH := fun b => hheap [] g2 b
      refine ih _ ρ' _ w (by simp [hl]) hcnt' hcl' ⟨hinv.hr.congr fun b => (by rw [hH b]; rfl), hinv.st.congr (fun _ => rfl) fun b => (by rw [hH b]; rfl), ?_, ?_, ?_⟩
      · rw [htp _ g1]; exact putT_VRs hinv.tm _ (by simp [VR])
      · rw [← hinv.df]; cases o.dst <;> rfl
      · intro b p h1 h2
        obtain ⟨k, hk1, hk2⟩ := hinv.nm b p h1 h2
        refine ⟨k, ?_, hk2⟩
        show (listed.setIfInBounds i true).getD k false = true
        by_cases e : k = i
        · subst e; exact hS'i
        · rw [hSk k e]; exact hk1
    | true =>
      simp only [if_true]
      obtain ⟨v, d, g1, g2, g3⟩ := hrun.go i o ho hw
      obtain ⟨st, hst⟩ : ∃ st, st = opSt s i (mgH (fun k => listed.getD k false) 0 ds s.H) := ⟨_, rfl⟩
      have hsub : Sub (opSt s i (hidden s B ds i)) st := by
        rw [hst]
        refine opSt_sub (Sub.refl s) i fun b x hx => ?_
        rw [hget_mgH]
        exact hrun.sub hc hr hreg hfr hcl hin hSi hpre hx
      have hone : one (opA C call rnd (TP (fun k => listed.getD k false) 0 ops vs T) o st) = some (v, d) := by
        rw [e1]
        exact TrSub.one ((Nice.opA hc hr _ o).mono _ _ hsub) g3
      obtain ⟨t1, ht1, hj1⟩ := one_some hone
      have hj1 : t1.j = d := hj1
      have hjr := (Nice.opA (C := C) hc hr (TP (fun k => listed.getD k false) 0 ops vs T) o).jr st
      rw [ht1] at hjr
      obtain ⟨d', d1, d2, _⟩ := JrR.j (hjr : JrR _ t1) (by rw [hst]; rfl)
      have hd' : d' = d := by rw [← hj1, d1, hst]; exact (List.append_nil d').symm
      have hH1 : ∀ b, hget (mgH (fun k => (listed.setIfInBounds i true).getD k false) 0 ds s.H) b = hget t1.H b := fun b => by
        rw [hheap d g2 b, d2 b, hget_redoH, hd', hst]; rfl
      have hstH : st.H = mgH (fun k => listed.getD k false) 0 ds s.H := by rw [hst]; rfl
      have hfr1 : Fr ρ' st := by
        intro m r hm
        have hb : st.pre ++ m :: r = s.pre ++ s.n :: i :: m :: r := by rw [hst]; show (s.pre ++ [s.n, i]) ++ m :: r = _; simp
        rw [hb]
        cases hp : ρ' (s.pre ++ s.n :: i :: m :: r) with
        | none => rfl
        | some p =>
          exfalso
          cases hp0 : ρ (s.pre ++ s.n :: i :: m :: r) with
          | some q => rw [hf s.n _ (Nat.le_refl _)] at hp0; cases hp0
          | none =>
            obtain ⟨k, hk1, hk2⟩ := hinv.nm _ p hp hp0
            have : k = i := hk2.inj ⟨m :: r, rfl⟩
            subst this
            have hk1 : listed.getD k false = true := hk1
            rw [hSi] at hk1; cases hk1
      have hopm : (opA C call rnd (TP (fun k => listed.getD k false) 0 ops vs T) o st).All (fun x => x = (v, t1)) := by rw [ht1]; rfl
      refine op_sim hC hF hcall hrnd (s := st) (ρ := ρ') (by rw [hstH]; exact hinv.hr) hfr1 hinv.tm hopm ?_
      intro v' s' ρ'' w'' cv hvs hstp hhr hvr
      obtain ⟨rfl, rfl⟩ : v' = v ∧ s' = t1 := by injection hvs with x y; exact ⟨x, y⟩
      have hcst : Cst ρ' (mgH (fun k => listed.getD k false) 0 ds s.H) w ρ'' s'.H w'' := by rw [← hstH]; exact hstp.cst
      refine ih _ ρ'' _ w'' (by simp [hl]) hcnt' hcl' ⟨hhr.congr fun b => (hH1 b).symm, (hinv.st.trans hcst).congr (fun _ => rfl) fun b => (hH1 b).symm, ?_, ?_, ?_⟩
      · rw [htp _ g1]; exact putT_VRs (VRs.mono hstp.ext _ _ hinv.tm) _ hvr
      · rw [← hinv.df]; cases o.dst <;> rfl
      · intro b p h1 h2
        cases hp : ρ' b with
        | none =>
          obtain ⟨m, r, hb, _, _⟩ := hstp.loc b p h1 hp
          refine ⟨i, hS'i, m :: r, ?_⟩
          rw [hb, hst]; show (s.pre ++ [s.n, i]) ++ m :: r = _; simp
        | some q =>
          obtain ⟨k, hk1, hk2⟩ := hinv.nm b q hp h2
          refine ⟨k, ?_, hk2⟩
          show (listed.setIfInBounds i true).getD k false = true
          by_cases e : k = i
          · subst e; exact hS'i
          · rw [hSk k e]; exact hk1
theorem any_sim (hC : CfgOk P C) (hF : Fw F) (hcall : CallOk P call) (hrnd : RndOk P rnd) (hc : ∀ f args, Nice (call f args)) (hrn : ∀ l args, Nice (rnd l args))
    {arr : Array Oper} (hreg : regOk arr.toList = true) {s : St} {T : List AV} {ρ : Rho} {w : World} {a : Act} (hr : HR ρ s.H w) (hf : Fr ρ s) (hT : VRs ρ T a.tmps.toList) {R : List AV × St → Prop} {Q : Exit → Act → World → Prop} {id : Nat}
    (hm : (drawA C call rnd arr.toList T s).All R)
    (hN : ∀ T' s' ρ' w' a', R (T', s') → Stp ρ s w ρ' s' w' → HR ρ' s'.H w' → VRs ρ' T' a'.tmps.toList → a'.defers = a.defers → Q .normal a' w') :
    (Code.region id arr true).wpIn F n P Q a w := by
  have hreg := regOk_spec hreg
  obtain ⟨vs, ds, hrun, hR⟩ := run_of_draw hc hrn hreg hm
  have hfr : Frh s := by
    rintro i b ⟨r, rfl⟩
    cases hb : hget s.H (s.pre ++ s.n :: i :: r) with
    | none => rfl
    | some x => obtain ⟨p, hp, _⟩ := hr.blocks _ _ hb; rw [hf s.n _ (Nat.le_refl _)] at hp; cases hp
  refine wpIn_region_any hC.mixed ?_
  have hoff : ∀ i, (Array.replicate arr.size false).getD i false = false := fun i => by simp [Array.getD_eq_getD_getElem?, Array.getElem?_replicate]; split <;> rfl
  have hH0 : ∀ b, hget s.H b = hget (mgH (fun i => (Array.replicate arr.size false).getD i false) 0 ds s.H) b := fun b => by
    rw [hget_mgH, mg_off _ _ _ _ _ fun i _ => hoff i]
  refine any_go (w0 := w) (a0 := a) hC hF hcall hrnd hc hrn rfl hreg hf hfr hrun ?_ arr.size _ ρ a _ (by simp) ?_ ?_ ?_
  · intro ρ' a' w' hinv
    have hH : ∀ b, hget (mgH (fun _ => true) 0 ds s.H) b = hget (redoH s.H (allD ds)) b := fun b => by
      rw [hget_mgH]; exact hrun.all (fun _ _ => rfl) b
    refine hN _ _ ρ' w' a' hR ?_ (hinv.hr.congr hH) hinv.tm hinv.df
    have hst := hinv.st.congr (fun _ => rfl) hH
    exact ⟨hst.ext, fun b p h1 h2 => by
      obtain ⟨k, _, r, hb⟩ := hinv.nm b p h1 h2
      exact ⟨s.n, k :: r, hb, Nat.le_refl _, Nat.lt_succ_self _⟩, rfl, Nat.le_succ _, hst.same, hst.size, hst.unch, hst.img, hst.fzl⟩
  · have : ∀ m, cntF (List.replicate m false) = m := by
      intro m; induction m with
      | zero => rfl
      | succ m ih => simp [List.replicate_succ, cntF, ih]; omega
    simp [this]
  · intro i _ h; have h : (Array.replicate arr.size false).getD i false = true := h; rw [hoff i] at h; cases h
  · refine ⟨HR.congr hH0 (hr.world (w' := { w with drawn := w.drawn + 1 }) rfl), ((Cst.refl ρ s.H w).congr (fun _ => rfl) hH0).world rfl ⟨rfl, rfl, rfl⟩, ?_, rfl, fun b p h1 h2 => by rw [h1] at h2; cases h2⟩
    rw [TP_none _ _ _ _ _ fun i _ => hoff i]; exact hT
end
end
end Go.Am
namespace Go.Am
open Go
noncomputable section
def toExit : AExit → Exit
  | .normal => .normal
  | .exit i => .exit i
  | .ret => .ret
structure DefOk (B : Nat) (ρ : Rho) (H : Heap) (w : World) (ds : List Deferred) : Prop where
  le : B ≤ w.heap.size
  each : ∀ d ∈ ds, ∃ r, B ≤ r ∧ d.target = .collected r ∧ w.heap[r]? = some (.deferred (some [])) ∧ ¬ Img ρ H r
  nd : ds.Pairwise fun d d' => d.target ≠ d'.target
theorem DefOk.nil {B : Nat} (ρ : Rho) (H : Heap) {w : World} (h : B ≤ w.heap.size) : DefOk B ρ H w [] := ⟨h, fun d h => by simp at h, List.Pairwise.nil⟩
theorem DefOk.step {ρ ρ' : Rho} {s s' : St} {w w' : World} {B : Nat} {ds : List Deferred} (h : DefOk B ρ s.H w ds) (k : Stp ρ s w ρ' s' w') : DefOk B ρ' s'.H w' ds := by
  refine ⟨Nat.le_trans h.le k.size, fun d hd => ?_, h.nd⟩
  obtain ⟨r, h0, h1, h2, h3⟩ := h.each d hd
  have hlt : r < w.heap.size := (Array.getElem?_eq_some_iff.1 h2).1
  exact ⟨r, h0, h1, by rw [k.unch r hlt h3]; exact h2, fun hi => h3 (k.img r hlt hi)⟩
theorem HR.more {ρ : Rho} {H : Heap} {w w' : World} (h : HR ρ H w) (hs : ∀ b x p, hget H b = some x → ρ b = some p → w'.heap[p.blk]? = w.heap[p.blk]?) (hz : ∀ c k v, ρ.fz c k = some v → w'.heap[c]? = w.heap[c]?) : HR ρ H w' := by
  refine ⟨fun b x hb => ?_, h.sep, fun b m l e hb => ?_, fun c k v hv => by rw [hz c k v hv]; exact h.frz c k v hv, h.fsep⟩
  · obtain ⟨p, hp, hbo⟩ := h.blocks b x hb
    exact ⟨p, hp, by rw [hs b x p hb hp]; exact hbo⟩
  · obtain ⟨⟨es, he⟩, hm⟩ := h.iter b m l e hb
    exact ⟨⟨es, he⟩, fun p pm hp hpm => by rw [hs b _ p hb hp, hs m _ pm he hpm]; exact hm p pm hp hpm⟩
theorem alloc_old {w : World} {o : Obj} {c : Nat} (hc : c < w.heap.size) : (w.alloc o).heap[c]? = w.heap[c]? := by
  show (w.heap.push o)[c]? = w.heap[c]?
  rw [Array.getElem?_push_lt hc, Array.getElem?_eq_getElem hc]
theorem alloc_new {w : World} {o : Obj} : (w.alloc o).heap[w.heap.size]? = some o := by show (w.heap.push o)[w.heap.size]? = some o; simp
theorem alloc_size {w : World} {o : Obj} : (w.alloc o).heap.size = w.heap.size + 1 := by show (w.heap.push o).size = _; simp
theorem putObj_same {w : World} {c : Nat} {o : Obj} (h : c < w.heap.size) : (w.putObj c o).heap[c]? = some o := by
  show (w.heap.setIfInBounds c o)[c]? = some o; simp [h]
theorem putObj_ne {w : World} {c k : Nat} {o : Obj} (h : k ≠ c) : (w.putObj c o).heap[k]? = w.heap[k]? := by
  show (w.heap.setIfInBounds c o)[k]? = w.heap[k]?; rw [Array.getElem?_setIfInBounds_ne (Ne.symm h)]
theorem putObj_size {w : World} {c : Nat} {o : Obj} : (w.putObj c o).heap.size = w.heap.size := by show (w.heap.setIfInBounds c o).size = _; simp
theorem step_world {ρ : Rho} {s : St} {w w' : World} (hs : Same w w') (hle : w.heap.size ≤ w'.heap.size) (ho : ∀ c, c < w.heap.size → w'.heap[c]? = w.heap[c]?) : Stp ρ s w ρ s w' :=
  ⟨Ext.refl _, fun b p h h' => (by rw [h] at h'; cases h'), rfl, Nat.le_refl _, hs, hle, fun c hc _ => ho c hc, fun _ _ h => h, fun _ _ _ h h' => (by rw [h] at h'; cases h')⟩
section
variable {P : Program} {C : Cfg} {call : FuncId → List AV → M AV} {rnd : Nm → List AV → M AV} {n B : Nat} {F : Fence}
abbrev CodeNext (B : Nat) (R : X × St → Prop) (Q : Exit → Act → World → Prop) (ρ : Rho) (s : St) (w : World) : Prop :=
  ∀ x s' ρ' w' a', R (x, s') → Stp ρ s w ρ' s' w' → HR ρ' s'.H w' → VRs ρ' x.2 a'.tmps.toList → DefOk B ρ' s'.H w' a'.defers → Q (toExit x.1) a' w'
theorem put_defers (a : Act) (d : Option Tmp) (v : Value) : (a.put d v).defers = a.defers := by cases d <;> rfl
theorem runOps_sim (hC : CfgOk P C) (hF : Fw F) (hcall : CallOk P call) (hrnd : RndOk P rnd) {arr : Array Oper} {Q : Exit → Act → World → Prop} {R : List AV × St → Prop} :
    ∀ (l : List Oper) (k : Nat) (T : List AV) (a : Act) (s : St) (w : World) (ρ : Rho), (∀ j, arr[k + j]? = nth l j) → HR ρ s.H w → Fr ρ s → VRs ρ T a.tmps.toList → DefOk B ρ s.H w a.defers →
      (runOps C call rnd arr.toList l T s).All R →
      (∀ T' s' ρ' w' a', R (T', s') → Stp ρ s w ρ' s' w' → HR ρ' s'.H w' → VRs ρ' T' a'.tmps.toList → DefOk B ρ' s'.H w' a'.defers → Q .normal a' w') →
      wpOpsIn F n P arr Q (List.range' k l.length) a w
  | [], k, T, a, s, w, ρ, hj, hr, hf, hT, hd, hm, hN => by
    show Q .normal a w
    exact hN T s ρ w a hm (Stp.refl ..) hr hT hd
  | o :: l, k, T, a, s, w, ρ, hj, hr, hf, hT, hd, hm, hN => by
    rw [List.length_cons, List.range'_succ, wpOpsIn_cons]
    have h0 := hj 0
    rw [Nat.add_zero, nth_zero] at h0
    have hj' : ∀ j, arr[k + 1 + j]? = nth l j := fun j => by rw [show k + 1 + j = k + (j + 1) by omega, hj, nth_succ]
    unfold wpOpIn
    rw [h0]; simp only
    rw [wanted_eq rfl hT o]
    have hm' : ((match wantedA arr.toList T o with
      | true => (opA C call rnd T o).bind fun v => runOps C call rnd arr.toList l (putT T o.dst v)
      | false => runOps C call rnd arr.toList l (putT T o.dst .undef)) s).All R := hm
    cases hw : wantedA arr.toList T o with
    | false =>
      rw [hw] at hm'
      simp only [Bool.false_eq_true, if_false]
      refine ⟨fun f _ => hF.fn f, ?_⟩
      exact runOps_sim hC hF hcall hrnd l (k + 1) _ _ s w ρ hj' hr hf (putT_VRs hT _ (by simp [VR])) (by rw [put_defers]; exact hd) hm' hN
    | true =>
      rw [hw] at hm'
      simp only [if_true]
      have hm2 := (M.all_bind _ _ _ _).1 hm'
      refine op_sim hC hF hcall hrnd hr hf hT hm2 ?_
      intro v s' ρ' w' cv hR hst hhr hvr
      refine runOps_sim hC hF hcall hrnd l (k + 1) _ _ s' w' ρ' hj' hhr (hst.fr hf) (putT_VRs (VRs.mono hst.ext _ _ hT) _ hvr) (by rw [put_defers]; exact hd.step hst) hR ?_
      intro T' s'' ρ'' w'' a'' g1 g2 g3 g4 g5
      exact hN T' s'' ρ'' w'' a'' g1 (hst.trans g2) g3 g4 g5
theorem BO.loop_inv {ρ : Rho} {p : Place} {o : Option Obj} {T : List AV} {ps : List Nat} {a b : Code} {st : LoopState} {pend : Option Code} (h : BO ρ p o (.loop T ps a b st pend)) :
    ∃ l : Loop, o = some (.loop l) ∧ l.state = st ∧ l.pending = pend ∧ l.params.toList = ps ∧ l.assign = a ∧ l.body = b ∧ VRs ρ T l.tmps.toList ∧ codeOk a true = true ∧ codeOk b true = true := h
theorem step_loop {ρ : Rho} {s : St} {w w' : World} (hr : HR ρ s.H w) {b : Nm} {T : List AV} {ps : List Nat} {as bd : Code} {st st' : LoopState} {pe pe' : Option Code} {p : Place} {l l' : Loop} (hx : hget s.H b = some (.loop T ps as bd st pe)) (hp : ρ b = some p)
    (hl : w.heap[p.blk]? = some (.loop l)) (hl' : l' = { l with state := st', pending := pe' }) (hw' : w' = w.putObj p.blk (.loop l')) :
    Stp ρ s w ρ (s.put b (.loop T ps as bd st' pe')) w' ∧ HR ρ (s.put b (.loop T ps as bd st' pe')).H w' := by
  obtain ⟨q, hq, hbo⟩ := hr.blocks _ _ hx
  rw [hp] at hq; obtain rfl := Option.some.inj hq
  obtain ⟨l0, ho, h1, h2, h3, h4, h5, h6, h7, h8⟩ := hbo.loop_inv
  rw [hl] at ho; obtain rfl : l = l0 := by injection ho with ho; injection ho
  have hlt : p.blk < w.heap.size := (Array.getElem?_eq_some_iff.1 hl).1
  subst hw'
  refine step_put hr hx rfl rfl hp (putObj_same hlt) (fun c hc => putObj_ne hc) putObj_size ⟨rfl, rfl, rfl⟩ ?_ (fun _ _ _ h => by cases h) (fun _ h => by cases h)
  subst hl'
  exact ⟨_, rfl, rfl, rfl, h3, h4, h5, h6, h7, h8⟩
theorem rangeFunc_sim (hcall : CallOk P call) {g : Operand} {ps : Array Tmp} {as bd : Code} {T : List AV} {a : Act} {s : St} {w : World} {ρ : Rho} {fv : AV} {R : X × St → Prop} {Q : Exit → Act → World → Prop}
    (hoa : codeOk as true = true) (hob : codeOk bd true = true) (hr : HR ρ s.H w) (hf : Fr ρ s) (hT : VRs ρ T a.tmps.toList) (hd : DefOk B ρ s.H w a.defers) (hfv : VR ρ fv (a.eval g))
    (hm : (rangeFuncA call fv ps.toList as bd T s).All R) (hN : CodeNext B R Q ρ s w) : (Code.rangeFunc g ps as bd).wpIn Fence.wide n P Q a w := by
  unfold rangeFuncA at hm
  rw [M.all_bind] at hm
  have hm := (newM_all _ _ _).1 hm
  cases fv with
  | func f caps =>
    rw [M.all_bind] at hm
    simp only at hm
    simp only [VR] at hfv
    obtain ⟨cs, hfe, hcs⟩ := hfv
    refine wpIn_rangeFunc ?_
    intro fn _
    obtain ⟨w1, hw1⟩ : ∃ w1, w1 = w.alloc (.deferred (some [])) := ⟨_, rfl⟩
    obtain ⟨rec, hrec⟩ : ∃ rec : Loop, rec = { state := .ready, pending := none, fn, tmps := a.tmps, params := ps, assign := as, body := bd, defers := w.heap.size } := ⟨_, rfl⟩
    obtain ⟨W, hW⟩ : ∃ W, W = w1.alloc (.loop rec) := ⟨_, rfl⟩
    have hs1 : w1.heap.size = w.heap.size + 1 := by rw [hw1]; exact alloc_size
    have hst1 : Stp ρ s w ρ s w1 := step_world (by rw [hw1]; exact ⟨rfl, rfl, rfl⟩) (by omega) (fun c hc => by rw [hw1]; exact alloc_old hc)
    have hr1 : HR ρ s.H w1 := hr.more (fun b x p hb hp => by rw [hw1]; exact alloc_old (blk_lt hr hb hp)) fun c k v hv => by rw [hw1]; exact alloc_old (hr.fz_lt hv)
    obtain ⟨p, hp⟩ : ∃ p : Place, p = ⟨w.heap.size + 1, 0, 0, 0⟩ := ⟨_, rfl⟩
    have hpb : p.blk = w1.heap.size := by rw [hp, hs1]
    obtain ⟨hst2, hr2⟩ := step_new hr1 hf (.loop T ps.toList as bd .ready none) (.loop rec) p hpb
      (by rw [hrec]; exact ⟨_, rfl, rfl, rfl, rfl, rfl, rfl, VRs.mono (Rho.upd_ext p (name_free hf)) _ _ hT, hoa, hob⟩) (fun _ _ _ h => by cases h)
    rw [← hW] at hst2 hr2
    have hst := hst1.trans hst2
    obtain ⟨ρ1, hρ1⟩ : ∃ ρ1, ρ1 = ρ.upd s.name p := ⟨_, rfl⟩
    rw [← hρ1] at hst2 hr2 hst
    have hnm : ρ1 s.name = some p := by rw [hρ1]; exact Rho.upd_same ..
    have hargs : VRs ρ1 (.yield s.name :: caps) (.func (.yield p.blk) #[] #[] :: cs) := by
      simp only [VRs]; exact ⟨_, _, rfl, ⟨p, hnm, rfl⟩, VRs.mono hst.ext _ _ hcs⟩
    have hd0 : DefOk B ρ1 (s.new (.loop T ps.toList as bd .ready none)).H W ({ target := .collected w.heap.size, args := #[] } :: a.defers) := by
      have hd' := hd.step hst
      refine ⟨hd'.le, fun d hd1 => ?_, ?_⟩
      · rcases List.mem_cons.1 hd1 with rfl | hd1
        · refine ⟨w.heap.size, hd.le, rfl, ?_, ?_⟩
          · rw [hW, alloc_old (by omega), hw1, alloc_new]
          · rintro ⟨b, x, q, hb, hx, hq, he⟩
            by_cases e : s.name = b
            · subst e; rw [hnm] at hq; obtain rfl := Option.some.inj hq; rw [hp] at he; simp at he
            · have hb' : hget s.H b = some x := by rw [← hget_cons_ne (i := s.name) (.loop T ps.toList as bd .ready none) s.H e]; exact hb
              rw [hρ1, Rho.upd_ne _ _ (Ne.symm e)] at hq
              have := blk_lt hr hb' hq
              omega
        · exact hd'.each d hd1
      · refine List.Pairwise.cons (fun d hd1 he => ?_) hd.nd
        obtain ⟨r, _, h1, h2, _⟩ := hd.each d hd1
        rw [h1] at he
        injection he with he
        have := (Array.getElem?_eq_some_iff.1 h2).1
        omega
    obtain ⟨⟨fn', g1, g2, g3⟩, hc⟩ := hcall f (.yield s.name :: caps) _ W ρ1 _ _ hr2 (hst.fr hf) hargs hm
    have g3' : fn'.body.isNone = false := by cases hb : fn'.body <;> simp_all
    refine ⟨w.heap.size + 1, [{ target := .collected w.heap.size, args := #[] }], W, { target := .fn (.func f) ⟨cs⟩, args := #[.func (.yield (w.heap.size + 1)) #[] #[]] }, W, f, ⟨.func (.yield p.blk) #[] #[] :: cs⟩, W, ?_, ?_, ?_, ?_, ?_, ?_⟩
    · show (Instr.enterLoop fn a.tmps ps as bd none).run P w = _
      rw [run_enterLoop_outer, hW, hrec, hw1]
    · simp only [resolve, hfe]; simp [go_sem]
    · intro f' hf'; trivial
    · have : (#[Value.func (.yield (w.heap.size + 1)) #[] #[]] ++ (⟨cs⟩ : Array Value)) = ⟨.func (.yield p.blk) #[] #[] :: cs⟩ := by rw [hp]; simp
      simp only [invoke, callFunc, Sem.run_bind, run_program, Result.andThen_ok, g1, g2, g3']
      simp [this]
    · intro h; cases h
    · refine CallsIn.mono (hc (n - 1)) ?_
      intro e w3 he
      obtain ⟨v, s3, ρ3, cv, rfl, hR, hst3, hr3, hv3⟩ := he
      rw [M.all_bind] at hR
      obtain ⟨y, hy, hR⟩ := (getM_all _ _ _).1 hR
      cases y with
      | loop T' ps' a' b' st pend =>
        have hp3 : ρ3 s.name = some p := hst3.ext.pl _ _ hnm
        obtain ⟨q, hq, hbo⟩ := hr3.blocks _ _ hy
        rw [hp3] at hq; obtain rfl := Option.some.inj hq
        obtain ⟨l0, ho, h1, h2, _⟩ := hbo.loop_inv
        have hdd := hd0.step hst3
        have key : ∀ e, exitOf pend = some e → st ≠ .busy → ((putM s.name (.loop T' ps' a' b' .exhausted pend)).bind (fun _ => M.ret (e, T)) s3).All R →
            rangePost Fence.wide n P (w.heap.size + 1) Q { a with defers := [{ target := .collected w.heap.size, args := #[] }] ++ a.defers } (.returned cv) w3 := by
          intro e he hnb hq
          rw [M.all_bind] at hq
          obtain ⟨_, hq⟩ := (putM_all _ _ _ _).1 hq
          have hpe : p.blk = w.heap.size + 1 := by rw [hp]
          rw [hpe] at ho
          refine ⟨pend, _, by rw [← h2]; exact run_endLoop ho (by rw [h1]; exact hnb), ?_⟩
          obtain ⟨hst4, hr4⟩ := step_loop (st' := .exhausted) (pe' := pend) hr3 hy hp3 (by rw [hpe]; exact ho) rfl rfl
          have hst5 := (hst.trans hst3).trans hst4
          have hl' : ({ l0 with state := .exhausted } : Loop) = { l0 with state := .exhausted, pending := pend } := by rw [← h2]
          rw [hl']
          have hnx : Q (toExit e) { a with defers := [{ target := .collected w.heap.size, args := #[] }] ++ a.defers } (w3.putObj (w.heap.size + 1) (.loop { l0 with state := .exhausted, pending := pend })) := by
            rw [← hpe]
            exact hN (e, T) _ ρ3 _ _ hq hst5 hr4 (VRs.mono hst5.ext _ _ hT) (hdd.step hst4)
          cases pend with
          | none => simp only [exitOf, Option.some.injEq] at he; subst he; exact hnx
          | some c =>
            cases c <;> simp only [exitOf, Option.some.injEq] at he <;> (try cases he) <;> try subst he
            · exact wpIn_exit hnx
            · exact wpIn_ret hnx
        simp only at hR
        cases heq : exitOf pend with
        | none => rw [heq] at hR; cases st <;> exact hR.elim
        | some e =>
          rw [heq] at hR
          cases st with
          | busy => exact hR.elim
          | _ => exact key e heq (by simp) hR
      | _ => exact hR.elim
  | _ => rw [M.all_bind] at hm; exact hm.elim
theorem iter_sim (hbody : ∀ (K' : Nat), True) {body : Code} {bm : List AV → M X}
    (hb : ∀ (T : List AV) (a : Act) (s : St) (w : World) (ρ : Rho) (R : X × St → Prop) (Q : Exit → Act → World → Prop), HR ρ s.H w → Fr ρ s → VRs ρ T a.tmps.toList → DefOk B ρ s.H w a.defers → (bm T s).All R → CodeNext B R Q ρ s w → body.wpIn F n P Q a w) :
    ∀ (K : Nat) (T : List AV) (a : Act) (s : St) (w : World) (ρ : Rho) (R : X × St → Prop) (Q : Exit → Act → World → Prop), HR ρ s.H w → Fr ρ s → VRs ρ T a.tmps.toList → DefOk B ρ s.H w a.defers → (iter K bm T s).All R → CodeNext B R Q ρ s w →
      Code.roundsIn F n P body Q K a w
  | 0, T, a, s, w, ρ, R, Q, hr, hf, hT, hd, hm, hN => hm.elim
  | K + 1, T, a, s, w, ρ, R, Q, hr, hf, hT, hd, hm, hN => by
    rw [roundsIn_succ]
    have hm' : ((bm T).bind (fun x => match x.1 with
      | .normal => iter K bm x.2
      | e => M.ret (e, x.2)) s).All R := hm
    rw [M.all_bind] at hm'
    refine hb T a s w ρ _ _ hr hf hT hd hm' ?_
    intro x s' ρ' w' a' hR hst hhr hvr hdd
    obtain ⟨e, T'⟩ := x
    cases e with
    | normal =>
      exact iter_sim hbody hb K T' a' s' w' ρ' R Q hhr (hst.fr hf) hvr hdd hR fun x s'' ρ'' w'' a'' g1 g2 g3 g4 g5 => hN x s'' ρ'' w'' a'' g1 (hst.trans g2) g3 g4 g5
    | exit i => exact hN _ s' ρ' w' a' hR hst hhr hvr hdd
    | ret => exact hN _ s' ρ' w' a' hR hst hhr hvr hdd
theorem andB_true {a b : Bool} (h : andB a b = true) : a = true ∧ b = true := by cases a <;> simp_all [andB]
theorem exec_sim (hC : CfgOk P C) (hcall : CallOk P call) (hrnd : RndOk P rnd) (hc : ∀ f args, Nice (call f args)) (hrn : ∀ l args, Nice (rnd l args)) (K : Nat) (rd : Bool) (hF : Fw F) (hF0 : rd = false → F = Fence.wide) (c : Code) :
    codeOk c rd = true → ∀ (T : List AV) (a : Act) (s : St) (w : World) (ρ : Rho) (R : X × St → Prop) (Q : Exit → Act → World → Prop), HR ρ s.H w → Fr ρ s → VRs ρ T a.tmps.toList → DefOk B ρ s.H w a.defers → (exec C call rnd K c T s).All R → CodeNext B R Q ρ s w → c.wpIn F n P Q a w := by
  induction c with
  | skip => intro _ T a s w ρ R Q hr hf hT hd hm hN; exact wpIn_skip (hN (.normal, T) s ρ w a hm (Stp.refl ..) hr hT hd)
  | exit i => intro _ T a s w ρ R Q hr hf hT hd hm hN; exact wpIn_exit (hN (.exit i, T) s ρ w a hm (Stp.refl ..) hr hT hd)
  | ret => intro _ T a s w ρ R Q hr hf hT hd hm hN; exact wpIn_ret (hN (.ret, T) s ρ w a hm (Stp.refl ..) hr hT hd)
  | scope c _ => intro _ T a s w ρ R Q hr hf hT hd hm hN; exact hm.elim
  | label l => intro _ T a s w ρ R Q hr hf hT hd hm hN; exact hm.elim
  | goto l => intro _ T a s w ρ R Q hr hf hT hd hm hN; exact hm.elim
  | refuse r => intro _ T a s w ρ R Q hr hf hT hd hm hN; exact hm.elim
  | region id ops draw =>
    intro hok T a s w ρ R Q hr hf hT hd hm hN
    have hm' : ((match draw with | true => drawF C call rnd ops.toList T | false => runOps C call rnd ops.toList ops.toList T).bind (fun T' => M.ret (AExit.normal, T')) s).All R := hm
    rw [M.all_bind] at hm'
    cases draw with
    | true =>
      simp only at hm'
      rw [drawF_eq hc hrn] at hm'
      refine any_sim hC hF hcall hrnd hc hrn hok hr hf hT hm' ?_
      intro T' s' ρ' w' a' g1 g2 g3 g4 g5
      exact hN (.normal, T') s' ρ' w' a' g1 g2 g3 g4 (by rw [g5]; exact hd.step g2)
    | false =>
      refine wpIn_region ?_
      rw [List.range_eq_range']
      have := runOps_sim (n := n) (Q := Q) (arr := ops) hC hF hcall hrnd ops.toList 0 T a s w ρ (fun j => by rw [Nat.zero_add, nth_eq]; simp) hr hf hT hd hm' (fun T' s' ρ' w' a' g1 g2 g3 g4 g5 => hN (.normal, T') s' ρ' w' a' g1 g2 g3 g4 g5)
      simpa using this
  | seq x y ihx ihy =>
    intro hok T a s w ρ R Q hr hf hT hd hm hN
    obtain ⟨h1, h2⟩ := andB_true (hok : andB (codeOk x rd) (codeOk y rd) = true)
    have hm' : (thenA (exec C call rnd K x T) (exec C call rnd K y) s).All R := hm
    unfold thenA at hm'
    rw [M.all_bind] at hm'
    refine wpIn_seq (ihx h1 T a s w ρ _ _ hr hf hT hd hm' ?_)
    intro x s' ρ' w' a' hR hst hhr hvr hdd
    obtain ⟨e, T'⟩ := x
    cases e with
    | normal => exact ihy h2 T' a' s' w' ρ' R Q hhr (hst.fr hf) hvr hdd hR fun x s'' ρ'' w'' a'' g1 g2 g3 g4 g5 => hN x s'' ρ'' w'' a'' g1 (hst.trans g2) g3 g4 g5
    | exit i => exact hN _ s' ρ' w' a' hR hst hhr hvr hdd
    | ret => exact hN _ s' ρ' w' a' hR hst hhr hvr hdd
  | cond c x y ihx ihy =>
    intro hok T a s w ρ R Q hr hf hT hd hm hN
    obtain ⟨h1, h2⟩ := andB_true (hok : andB (codeOk x rd) (codeOk y rd) = true)
    have hm' : ((match evA T c with
      | some (.bool b) => (match b with | true => exec C call rnd K x T | false => exec C call rnd K y T)
      | _ => M.fail) s).All R := hm
    cases he : evA T c with
    | none => rw [he] at hm'; exact hm'.elim
    | some v =>
      rw [he] at hm'
      cases v with
      | bool b =>
        have hv := evA_VR hT he
        simp only [VR] at hv
        cases b with
        | true => exact wpIn_cond_true hv (ihx h1 T a s w ρ R Q hr hf hT hd hm' hN)
        | false => exact wpIn_cond_false hv (ihy h2 T a s w ρ R Q hr hf hT hd hm' hN)
      | _ => exact hm'.elim
  | block id c ih =>
    intro hok T a s w ρ R Q hr hf hT hd hm hN
    have hm' : (blockA id (exec C call rnd K c T) s).All R := hm
    unfold blockA at hm'
    rw [M.all_bind] at hm'
    refine wpIn_block (ih hok T a s w ρ _ _ hr hf hT hd hm' ?_)
    intro x s' ρ' w' a' hR hst hhr hvr hdd
    obtain ⟨e, T'⟩ := x
    cases e with
    | normal => exact hN _ s' ρ' w' a' hR hst hhr hvr hdd
    | exit i =>
      show (if i = id then Q .normal a' w' else Q (.exit i) a' w')
      simp only at hR
      cases hb : Nat.beq i id with
      | true =>
        rw [hb] at hR
        have := Nat.eq_of_beq_eq_true hb
        rw [if_pos this]; exact hN (.normal, T') s' ρ' w' a' hR hst hhr hvr hdd
      | false =>
        rw [hb] at hR
        have : i ≠ id := fun e => by subst e; rw [Nat.beq_refl] at hb; cases hb
        rw [if_neg this]; exact hN (.exit i, T') s' ρ' w' a' hR hst hhr hvr hdd
    | ret => exact hN _ s' ρ' w' a' hR hst hhr hvr hdd
  | loop c ih =>
    intro hok T a s w ρ R Q hr hf hT hd hm hN
    exact wpIn_loop_rounds K (iter_sim (fun _ => trivial) (ih hok) K T a s w ρ R Q hr hf hT hd hm hN)
  | rangeFunc g ps as bd _ _ =>
    intro hok T a s w ρ R Q hr hf hT hd hm hN
    cases rd with
    | true => cases hok
    | false =>
      obtain ⟨h1, h2⟩ := andB_true (hok : andB (codeOk as true) (codeOk bd true) = true)
      have hm' : ((match evA T g with | some fv => rangeFuncA call fv ps.toList as bd T | none => M.fail) s).All R := hm
      cases he : evA T g with
      | none => rw [he] at hm'; exact hm'.elim
      | some fv =>
        rw [he] at hm'
        rw [hF0 rfl]
        exact rangeFunc_sim hcall h1 h2 hr hf hT hd (evA_VR hT he) hm' hN
end
end
end Go.Am
namespace Go.Am
open Go
section
variable {ρ ρ2 : Rho} {H : Heap} {w : World}
def RowOk (ρ ρ2 : Rho) (row : List AV → Option (List AV)) : Prop := ∀ l l', row l = some l' → ∀ vs, VRs ρ l vs → (∀ c ∈ l, c.sc = true) → VRs ρ2 l' vs ∧ ∀ c ∈ l', c.sc = true
def Iced (ρ ρ2 : Rho) (H : Heap) (w : World) : Prop := ∀ b cs u p ccs e fr, hget H b = some (.cells cs true u) → ρ b = some p → w.heap[p.blk]? = some (.cells ccs e fr) → ∀ k x, ccs[k]? = some x → ρ2.fz p.blk k = some x
mutual
theorem freezeG_VR (hr : HR ρ H w) (hx : Ext ρ ρ2) (hi : Iced ρ ρ2 H w) {row : List AV → Option (List AV)} (hrow : RowOk ρ ρ2 row) : ∀ (a a' : AV) (v : Value), freezeG row H a = some a' → VR ρ a v → VR ρ2 a' v ∧ (a.sc = true → a'.sc = true)
  | .own b l, a', v, h, hv => by
    simp only [freezeG, Option.some.injEq] at h; subst h
    exact ⟨VR.mono hx _ _ (VR.shut _ _ hv), fun _ => rfl⟩
  | .nils, a', v, h, hv => by
    simp only [freezeG, Option.some.injEq] at h; subst h
    exact ⟨VR.mono hx _ _ (VR.shut _ _ hv), fun _ => rfl⟩
  | .empty, a', v, h, hv => by
    simp only [freezeG, Option.some.injEq] at h; subst h
    exact ⟨VR.mono hx _ _ (VR.shut _ _ hv), fun _ => rfl⟩
  | .agg cs, a', v, h, hv => by
    simp only [freezeG] at h
    cases hc : freezeGs row H cs with
    | none => rw [hc] at h; cases h
    | some l =>
      rw [hc] at h; simp only [Option.some.injEq] at h; subst h
      simp only [VR] at hv; obtain ⟨vs, rfl, h1, h2⟩ := hv
      obtain ⟨g1, g2⟩ := freezeGs_VR hr hx hi hrow cs l vs hc h1
      exact ⟨by simp only [VR]; exact ⟨vs, rfl, g1, g2 h2⟩, fun h => by cases h⟩
  | .tuple cs, a', v, h, hv => by
    simp only [freezeG] at h
    cases hc : freezeGs row H cs with
    | none => rw [hc] at h; cases h
    | some l =>
      rw [hc] at h; simp only [Option.some.injEq] at h; subst h
      simp only [VR] at hv; obtain ⟨vs, rfl, h1⟩ := hv
      exact ⟨by simp only [VR]; exact ⟨vs, rfl, (freezeGs_VR hr hx hi hrow cs l vs hc h1).1⟩, fun h => by cases h⟩
  | .slice b o n c ex, a', v, h, hv => by
    simp only [VR] at hv
    obtain ⟨p, o', c', hp, aa, rfl, ha, h1, h2, h3, h4, h5⟩ := hv
    simp only [freezeG] at h
    cases n with
    | zero =>
      simp only [Option.some.injEq] at h; subst h
      exact ⟨by simp only [VR]; exact ⟨_, c', rfl, by simp, fun h => absurd rfl h⟩, fun _ => rfl⟩
    | succ n =>
      simp only at h
      cases hb : hget H b with
      | none => rw [hb] at h; cases h
      | some x =>
        rw [hb] at h
        cases x with
        | cells cs rw_ u =>
          cases rw_ with
          | false => cases h
          | true =>
            simp only at h
            cases hu : Nat.ble 1 u with
            | false => rw [hu] at h; cases h
            | true =>
              cases hn : readN cs o ((n + 1) * u) with
              | none => rw [hu, hn] at h; cases h
              | some l =>
                rw [hu, hn] at h; simp only at h
                cases hl : row l with
                | none => rw [hl] at h; cases h
                | some l' =>
                  rw [hl] at h; simp only [Option.some.injEq] at h; subst h
                  obtain ⟨q, hq, hbo⟩ := hr.blocks _ _ hb
                  rw [hp] at hq; obtain rfl := Option.some.inj hq
                  obtain ⟨_, ccs, e, fr, ho, _, _, hcr⟩ := hbo
                  obtain ⟨vs, k1, k2, k3, k4⟩ := readN_cells hcr hn
                  obtain ⟨j1, j2⟩ := hrow l l' hl vs k1 k4
                  obtain ⟨es, m1, m2, m3, m4, m5⟩ := rowsA_VR (n + 1) j1 j2 k2
                  obtain rfl := ha (by omega)
                  refine ⟨?_, fun _ => rfl⟩
                  simp only [VR]
                  refine ⟨_, c', by rw [m5], by rw [m5]; omega, fun _ => ⟨p.blk, o', u, rfl, Nat.le_of_ble_eq_true hu, FR.intro m1 m2 m3 fun k x hk => ?_⟩⟩
                  rw [m4] at hk
                  exact hi b cs u p ccs e fr hb hp ho _ _ (by rw [h1 (by omega)]; exact k3 k x hk)
        | _ => cases h
  | .int k n, a', v, h, hv => by simp only [freezeG, Option.some.injEq] at h; subst h; exact ⟨VR.mono hx _ _ hv, id⟩
  | .bool k, a', v, h, hv => by simp only [freezeG, Option.some.injEq] at h; subst h; exact ⟨VR.mono hx _ _ hv, id⟩
  | .str k, a', v, h, hv => by simp only [freezeG, Option.some.injEq] at h; subst h; exact ⟨VR.mono hx _ _ hv, id⟩
  | .nilp, a', v, h, hv => by simp only [freezeG, Option.some.injEq] at h; subst h; exact ⟨VR.mono hx _ _ hv, id⟩
  | .ptr b o, a', v, h, hv => by simp only [freezeG, Option.some.injEq] at h; subst h; exact ⟨VR.mono hx _ _ hv, id⟩
  | .lst l, a', v, h, hv => by simp only [freezeG, Option.some.injEq] at h; subst h; exact ⟨VR.mono hx _ _ hv, id⟩
  | .fptr l o, a', v, h, hv => by simp only [freezeG, Option.some.injEq] at h; subst h; exact ⟨VR.mono hx _ _ hv, id⟩
  | .nilm, a', v, h, hv => by simp only [freezeG, Option.some.injEq] at h; subst h; exact ⟨VR.mono hx _ _ hv, id⟩
  | .map b, a', v, h, hv => by simp only [freezeG, Option.some.injEq] at h; subst h; exact ⟨VR.mono hx _ _ hv, id⟩
  | .func f l, a', v, h, hv => by simp only [freezeG, Option.some.injEq] at h; subst h; exact ⟨VR.mono hx _ _ hv, id⟩
  | .yield l, a', v, h, hv => by simp only [freezeG, Option.some.injEq] at h; subst h; exact ⟨VR.mono hx _ _ hv, id⟩
  | .nilf, a', v, h, hv => by simp only [freezeG, Option.some.injEq] at h; subst h; exact ⟨VR.mono hx _ _ hv, id⟩
  | .nili, a', v, h, hv => by simp only [freezeG, Option.some.injEq] at h; subst h; exact ⟨VR.mono hx _ _ hv, id⟩
  | .undef, a', v, h, hv => by simp only [freezeG, Option.some.injEq] at h; subst h; exact ⟨VR.mono hx _ _ hv, id⟩
theorem freezeGs_VR (hr : HR ρ H w) (hx : Ext ρ ρ2) (hi : Iced ρ ρ2 H w) {row : List AV → Option (List AV)} (hrow : RowOk ρ ρ2 row) : ∀ (l l' : List AV) (vs : List Value), freezeGs row H l = some l' → VRs ρ l vs → VRs ρ2 l' vs ∧ ((∀ c ∈ l, c.sc = true) → ∀ c ∈ l', c.sc = true)
  | [], l', vs, h, hv => by simp only [freezeGs, Option.some.injEq] at h; subst h; simp only [VRs] at hv ⊢; exact ⟨hv, fun _ c hc => by simp at hc⟩
  | a :: r, l', vs, h, hv => by
    simp only [freezeGs] at h
    cases ha : freezeG row H a with
    | none => rw [ha] at h; cases h
    | some a' =>
      cases hl : freezeGs row H r with
      | none => rw [ha, hl] at h; cases h
      | some r' =>
        rw [ha, hl] at h; simp only [Option.some.injEq] at h; subst h
        simp only [VRs] at hv
        obtain ⟨v, t, rfl, h1, h2⟩ := hv
        obtain ⟨g1, g2⟩ := freezeG_VR hr hx hi hrow a a' v ha h1
        obtain ⟨k1, k2⟩ := freezeGs_VR hr hx hi hrow r r' t hl h2
        refine ⟨by simp only [VRs]; exact ⟨v, t, rfl, g1, k1⟩, fun hs c hc => ?_⟩
        rcases List.mem_cons.1 hc with rfl | hc
        · exact g2 (hs a List.mem_cons_self)
        · exact k2 (fun c hc => hs c (List.mem_cons_of_mem _ hc)) c hc
end
theorem freezeD_ok (hr : HR ρ H w) (hx : Ext ρ ρ2) (hi : Iced ρ ρ2 H w) : ∀ d, RowOk ρ ρ2 (freezeD H d)
  | 0 => fun l l' h => by cases h
  | d + 1 => fun l l' h vs hv hs => by
    obtain ⟨g1, g2⟩ := freezeGs_VR hr hx hi (freezeD_ok hr hx hi d) l l' vs h hv
    exact ⟨g1, g2 hs⟩
theorem frozen_VR (hr : HR ρ H w) (hx : Ext ρ ρ2) (hi : Iced ρ ρ2 H w) {a a' : AV} {v : Value} (h : frozen H a = some a') (hv : VR ρ a v) : VR ρ2 a' v ∧ a'.flat = true := by
  unfold frozen at h
  cases hf : freezeG (freezeD H 6) H a with
  | none => rw [hf] at h; cases h
  | some u =>
    rw [hf] at h; simp only at h
    cases hfl : u.flat with
    | false => rw [hfl] at h; cases h
    | true => rw [hfl] at h; simp only [Option.some.injEq] at h; subst h; exact ⟨(freezeG_VR hr hx hi (freezeD_ok hr hx hi 6) _ _ _ hf hv).1, hfl⟩
open Classical in
noncomputable def Rho.still (ρ : Rho) (H : Heap) (w : World) : Rho := ⟨ρ.pl, fun c k => if ∃ b cs u p, hget H b = some (.cells cs true u) ∧ ρ b = some p ∧ p.blk = c then (match w.heap[c]? with | some (.cells ccs _ _) => ccs[k]? | _ => none) else ρ.fz c k⟩
theorem still_cases {c k : Nat} {v : Value} (h : (ρ.still H w).fz c k = some v) : (∃ b cs u p, hget H b = some (.cells cs true u) ∧ ρ b = some p ∧ p.blk = c ∧ ∃ ccs e fr, w.heap[c]? = some (.cells ccs e fr) ∧ ccs[k]? = some v) ∨ ρ.fz c k = some v := by
  simp only [Rho.still] at h
  split at h
  · rename_i hc
    obtain ⟨b, cs, u, p, h1, h2, h3⟩ := hc
    cases ho : w.heap[c]? with
    | none => rw [ho] at h; cases h
    | some o =>
      rw [ho] at h
      cases o with
      | cells ccs e fr => exact .inl ⟨b, cs, u, p, h1, h2, h3, ccs, e, fr, rfl, h⟩
      | _ => cases h
  · exact .inr h
theorem still_ext (hr : HR ρ H w) : Ext ρ (ρ.still H w) := by
  refine ⟨fun b p h => h, fun c k v hv => ?_⟩
  simp only [Rho.still]
  split
  · rename_i hc
    obtain ⟨b, cs, u, p, h1, h2, rfl⟩ := hc
    rw [hr.fsep b _ p h1 rfl h2 k (Nat.zero_le _)] at hv; cases hv
  · exact hv
theorem still_iced : Iced ρ (ρ.still H w) H w := by
  intro b cs u p ccs e fr hb hp ho k x hk
  simp only [Rho.still]
  rw [if_pos ⟨b, cs, u, p, hb, hp, rfl⟩, ho]; exact hk
end
theorem back_still {ρ ρ' : Rho} {s s0 s' : St} {w w' : World} (hr : HR ρ s.H w) (h0 : s0.H = []) (hst : Stp ⟨fun _ => none, ρ.fz⟩ s0 w ρ' s' w') (hr' : HR ρ' s'.H w') :
    Stp ρ s w ⟨ρ.pl, (ρ'.still s'.H w').fz⟩ s w' ∧ HR ⟨ρ.pl, (ρ'.still s'.H w').fz⟩ s.H w' := by
  have hno : ∀ c, ¬ Img ⟨fun _ => none, ρ.fz⟩ s0.H c := by rintro c ⟨b, x, p, hb, _⟩; rw [h0] at hb; simp at hb
  have hold : ∀ c, c < w.heap.size → w'.heap[c]? = w.heap[c]? := fun c hc => hst.unch c hc (hno c)
  have hnew : ∀ c k v, (ρ'.still s'.H w').fz c k = some v → ρ.fz c k = none → ¬ c < w.heap.size := by
    intro c k v hv hn hc
    rcases still_cases hv with ⟨b, cs, u, p, h1, h2, h3, _⟩ | h
    · exact hno c (hst.img c hc ⟨b, _, p, h1, rfl, h2, h3⟩)
    · exact hno c (hst.fzl c k v h hn hc)
  have hx : Ext ρ ⟨ρ.pl, (ρ'.still s'.H w').fz⟩ := ⟨fun b p h => h, fun c k v hv => (still_ext hr').fz c k v (hst.ext.fz c k v hv)⟩
  refine ⟨⟨hx, fun b p h h' => (by have h : ρ b = some p := h; rw [h] at h'; cases h'), rfl, Nat.le_refl _, hst.same, hst.size, fun c hc _ => hold c hc, fun c hc hi => hi, fun c k v hv hn hc => (hnew c k v hv hn hc).elim⟩, ?_⟩
  refine ⟨fun b x hb => ?_, hr.sep, fun b m l e hb => ?_, fun c k v hv => ?_, fun b x p hb hw hp k hk => ?_⟩
  · obtain ⟨p, hp, hbo⟩ := hr.blocks b x hb
    exact ⟨p, hp, by rw [hold _ (blk_lt hr hb hp)]; exact hbo.mono hx⟩
  · obtain ⟨⟨es, he⟩, hm⟩ := hr.iter b m l e hb
    exact ⟨⟨es, he⟩, fun p pm hp hpm => by rw [hold _ (blk_lt hr hb hp), hold _ (blk_lt hr he hpm)]; exact (hm p pm hp hpm).mono hx⟩
  · rcases still_cases hv with ⟨b, cs, u, p, h1, h2, h3, ccs, e, fr, ho, hk⟩ | h
    · exact ⟨ccs, e, fr, ho, hk⟩
    · exact hr'.frz c k v h
  · cases hv : (ρ'.still s'.H w').fz p.blk k with
    | none => rfl
    | some v => exact (hnew _ k v hv (hr.fsep b x p hb hw hp k hk) (blk_lt hr hb hp)).elim
end Go.Am
namespace Go.Am
open Go
theorem lookN_zip {a c : Nm} : ∀ {l r : List Nm}, lookN a (zipN l r) = some c → ∃ i : Nat, l[i]? = some a ∧ r[i]? = some c
  | [], r, h => by cases r <;> cases h
  | x :: l, [], h => by cases h
  | x :: l, y :: r, h => by
    simp only [zipN, lookN] at h
    cases hb : eqb a x with
    | true =>
      rw [hb] at h; simp only [Option.some.injEq] at h; subst h
      have := (eqb_iff _ _).1 hb; subst this
      exact ⟨0, rfl, rfl⟩
    | false =>
      rw [hb] at h
      obtain ⟨i, h1, h2⟩ := lookN_zip h
      exact ⟨i + 1, by simpa using h1, by simpa using h2⟩
theorem lookN_of {a c : Nm} : ∀ {l r : List Nm} (i : Nat), l.Nodup → l[i]? = some a → r[i]? = some c → lookN a (zipN l r) = some c
  | [], r, i, _, h, _ => by simp at h
  | x :: l, [], i, _, _, h => by simp at h
  | x :: l, y :: r, 0, hn, h, h' => by
    simp at h h'; subst h; subst h'
    simp only [zipN, lookN, eqb_self]
  | x :: l, y :: r, i + 1, hn, h, h' => by
    simp at h h'
    have hn' := List.nodup_cons.1 hn
    have hne : a ≠ x := fun e => by subst e; exact hn'.1 (List.mem_of_getElem? h)
    simp only [zipN, lookN, eqb_ne hne]
    exact lookN_of i hn'.2 h h'
theorem memNm_iff {b : Nm} : ∀ {l : List Nm}, memNm b l = true ↔ b ∈ l
  | [] => by simp [memNm]
  | c :: r => by
    unfold memNm
    cases hb : eqb b c with
    | true => have := (eqb_iff _ _).1 hb; subst this; simp
    | false =>
      have hne : b ≠ c := fun e => by subst e; rw [eqb_self] at hb; cases hb
      simp only [memNm_iff (l := r), List.mem_cons, hne, false_or]
theorem nodupN_iff : ∀ {l : List Nm}, nodupN l = true ↔ l.Nodup
  | [] => by simp [nodupN]
  | b :: r => by
    unfold nodupN
    rw [List.nodup_cons]
    cases hb : memNm b r with
    | true => simp [memNm_iff.1 hb]
    | false =>
      have : b ∉ r := fun h => by rw [memNm_iff.2 h] at hb; cases hb
      simp [this, nodupN_iff (l := r)]
theorem getAll_spec {H : Heap} : ∀ {l : List Nm} {xs : List Blk}, getAll H l = some xs → xs.length = l.length ∧ ∀ (i : Nat) b, l[i]? = some b → ∃ x, xs[i]? = some x ∧ hget H b = some x
  | [], xs, h => by simp only [getAll, Option.some.injEq] at h; subst h; simp
  | b :: r, xs, h => by
    simp only [getAll] at h
    cases hb : hget H b with
    | none => rw [hb] at h; cases h
    | some x =>
      cases hr : getAll H r with
      | none => rw [hb, hr] at h; cases h
      | some l =>
        rw [hb, hr] at h; simp only [Option.some.injEq] at h; subst h
        obtain ⟨h1, h2⟩ := getAll_spec hr
        refine ⟨by simp [h1], fun i c hc => ?_⟩
        cases i with
        | zero => simp at hc; subst hc; exact ⟨x, rfl, hb⟩
        | succ i => obtain ⟨y, g1, g2⟩ := h2 i c (by simpa using hc); exact ⟨y, by simpa using g1, g2⟩
theorem getAll_app {H : Heap} : ∀ {l : List Nm} {xs : List Blk} {b : Nm} {x : Blk}, getAll H l = some xs → hget H b = some x → getAll H (l ++ [b]) = some (xs ++ [x])
  | [], xs, b, x, h, hb => by simp only [getAll, Option.some.injEq] at h; subst h; simp [getAll, hb]
  | c :: r, xs, b, x, h, hb => by
    simp only [getAll] at h
    cases hc : hget H c with
    | none => rw [hc] at h; cases h
    | some y =>
      cases hr : getAll H r with
      | none => rw [hc, hr] at h; cases h
      | some l =>
        rw [hc, hr] at h; simp only [Option.some.injEq] at h; subst h
        simp only [List.cons_append, getAll, hc, getAll_app hr hb]
theorem lendM_spec {s : St} {Q : (List Nm × List Blk) × St → Prop} : ∀ (k : Nat) (l bs : List Nm) (xs : List Blk), getAll s.H bs = some xs → (lendM k l bs xs s).All Q → ∃ bs' xs', Q ((bs', xs'), s) ∧ getAll s.H bs' = some xs'
  | 0, l, bs, xs, _, h => h.elim
  | k + 1, [], bs, xs, hg, h => ⟨bs, xs, h, hg⟩
  | k + 1, b :: r, bs, xs, hg, h => by
    unfold lendM at h
    simp only at h
    cases hm : memNm b bs with
    | true => rw [hm] at h; exact lendM_spec k r bs xs hg h
    | false =>
      rw [hm] at h; simp only at h
      obtain ⟨x, hx, h⟩ := (getM_all _ _ _).1 ((M.all_bind _ _ _ _).1 h)
      exact lendM_spec k _ _ _ (getAll_app hg hx) h
theorem reachL_spec {H : Heap} : ∀ (k : Nat) (l bs : List Nm) (xs : List Blk) {r : List Nm × List Blk}, reachL H k l bs xs = some r → ∃ ns zs, r.1 = bs ++ ns ∧ r.2 = xs ++ zs ∧ getAll H ns = some zs
  | 0, l, bs, xs, r, h => by cases h
  | k + 1, [], bs, xs, r, h => by simp only [reachL, Option.some.injEq] at h; subst h; exact ⟨[], [], by simp, by simp, rfl⟩
  | k + 1, b :: q, bs, xs, r, h => by
    unfold reachL at h
    simp only at h
    cases hm : memNm b bs with
    | true => rw [hm] at h; exact reachL_spec k q bs xs h
    | false =>
      rw [hm] at h; simp only at h
      cases hb : hget H b with
      | none => rw [hb] at h; exact reachL_spec k q bs xs h
      | some x =>
        rw [hb] at h
        obtain ⟨ns, zs, h1, h2, h3⟩ := reachL_spec k _ _ _ h
        exact ⟨b :: ns, x :: zs, by simp [h1], by simp [h2], by simp only [getAll, hb, h3]⟩
section
variable {ρ ρ2 : Rho} {mp : List (Nm × Nm)}
def Ren (ρ ρ2 : Rho) (mp : List (Nm × Nm)) : Prop := (∀ a c, lookN a mp = some c → ∀ p, ρ a = some p → ρ2 c = some p) ∧ ∀ c k v, ρ.fz c k = some v → ρ2.fz c k = some v
mutual
theorem renV_VR (h : Ren ρ ρ2 mp) : ∀ (a a' : AV) (v : Value), renV mp a = some a' → VR ρ a v → VR ρ2 a' v ∧ (a.sc = true → a'.sc = true)
  | .ptr b o, a', v, e, hv => by
    simp only [renV] at e
    cases hl : lookN b mp with
    | none => rw [hl] at e; cases e
    | some c =>
      rw [hl] at e; simp only [Option.some.injEq] at e; subst e
      simp only [VR] at hv ⊢; obtain ⟨p, hp, rfl⟩ := hv; exact ⟨⟨p, h.1 _ _ hl _ hp, rfl⟩, fun _ => rfl⟩
  | .slice b o n c ex, a', v, e, hv => by
    simp only [renV] at e
    cases hl : lookN b mp with
    | none => rw [hl] at e; cases e
    | some d =>
      rw [hl] at e; simp only [Option.some.injEq] at e; subst e
      simp only [VR] at hv ⊢; obtain ⟨p, o', c', hp, hv⟩ := hv; exact ⟨⟨p, o', c', h.1 _ _ hl _ hp, hv⟩, fun _ => rfl⟩
  | .map b, a', v, e, hv => by
    simp only [renV] at e
    cases hl : lookN b mp with
    | none => rw [hl] at e; cases e
    | some c =>
      rw [hl] at e; simp only [Option.some.injEq] at e; subst e
      simp only [VR] at hv ⊢; obtain ⟨p, hp, rfl⟩ := hv; exact ⟨⟨p, h.1 _ _ hl _ hp, rfl⟩, fun _ => rfl⟩
  | .own b l, a', v, e, hv => by
    simp only [renV] at e
    cases hf : flats l with
    | false => rw [hf] at e; cases e
    | true =>
      rw [hf] at e; simp only at e
      cases hl : lookN b mp with
      | none =>
        rw [hl] at e; simp only [Option.some.injEq] at e; subst e
        exact ⟨VR.flat h.2 (.lst l) v (by simpa [AV.flat] using hf) (VR.shut _ _ hv), fun _ => rfl⟩
      | some c =>
        rw [hl] at e; simp only [Option.some.injEq] at e; subst e
        simp only [VR] at hv ⊢; obtain ⟨p, q, hp, h1, h2, h3, h4, h5, h6⟩ := hv
        exact ⟨⟨p, q, h.1 _ _ hl _ hp, h1, h2, h3, h4, h5, FR.flat h.2 _ _ _ _ hf h6⟩, fun _ => rfl⟩
  | .lst l, a', v, e, hv => by
    simp only [renV] at e
    cases hf : flats l with
    | false => rw [hf] at e; cases e
    | true => rw [hf] at e; simp only [Option.some.injEq] at e; subst e; exact ⟨VR.flat h.2 (.lst l) v (by simpa [AV.flat] using hf) hv, id⟩
  | .fptr cs o, a', v, e, hv => by
    simp only [renV] at e
    cases hf : flats cs with
    | false => rw [hf] at e; cases e
    | true => rw [hf] at e; simp only [Option.some.injEq] at e; subst e; exact ⟨VR.flat h.2 (.fptr cs o) v (by simpa [AV.flat] using hf) hv, id⟩
  | .yield _, a', v, e, hv => by cases e
  | .func f caps, a', v, e, hv => by
    simp only [renV] at e
    cases hl : renVs mp caps with
    | none => rw [hl] at e; cases e
    | some l =>
      rw [hl] at e; simp only [Option.some.injEq] at e; subst e
      simp only [VR] at hv ⊢; obtain ⟨cs, hv, hc⟩ := hv; exact ⟨⟨cs, hv, (renVs_VR h caps l cs hl hc).1⟩, fun _ => rfl⟩
  | .agg cs, a', v, e, hv => by
    simp only [renV] at e
    cases hl : renVs mp cs with
    | none => rw [hl] at e; cases e
    | some l =>
      rw [hl] at e; simp only [Option.some.injEq] at e; subst e
      simp only [VR] at hv ⊢; obtain ⟨vs, hv, hc, ho⟩ := hv
      obtain ⟨g1, g2⟩ := renVs_VR h cs l vs hl hc
      exact ⟨⟨vs, hv, g1, g2 ho⟩, fun h => by cases h⟩
  | .tuple cs, a', v, e, hv => by
    simp only [renV] at e
    cases hl : renVs mp cs with
    | none => rw [hl] at e; cases e
    | some l =>
      rw [hl] at e; simp only [Option.some.injEq] at e; subst e
      simp only [VR] at hv ⊢; obtain ⟨vs, hv, hc⟩ := hv; exact ⟨⟨vs, hv, (renVs_VR h cs l vs hl hc).1⟩, fun h => by cases h⟩
  | .int k n, a', v, e, hv => by simp only [renV, Option.some.injEq] at e; subst e; exact ⟨VR.flat h.2 _ v rfl hv, id⟩
  | .bool k, a', v, e, hv => by simp only [renV, Option.some.injEq] at e; subst e; exact ⟨VR.flat h.2 _ v rfl hv, id⟩
  | .str k, a', v, e, hv => by simp only [renV, Option.some.injEq] at e; subst e; exact ⟨VR.flat h.2 _ v rfl hv, id⟩
  | .nilp, a', v, e, hv => by simp only [renV, Option.some.injEq] at e; subst e; exact ⟨VR.flat h.2 _ v rfl hv, id⟩
  | .nils, a', v, e, hv => by simp only [renV, Option.some.injEq] at e; subst e; exact ⟨VR.flat h.2 _ v rfl hv, id⟩
  | .empty, a', v, e, hv => by simp only [renV, Option.some.injEq] at e; subst e; exact ⟨VR.flat h.2 _ v rfl hv, id⟩
  | .nilm, a', v, e, hv => by simp only [renV, Option.some.injEq] at e; subst e; exact ⟨VR.flat h.2 _ v rfl hv, id⟩
  | .nilf, a', v, e, hv => by simp only [renV, Option.some.injEq] at e; subst e; exact ⟨VR.flat h.2 _ v rfl hv, id⟩
  | .nili, a', v, e, hv => by simp only [renV, Option.some.injEq] at e; subst e; exact ⟨VR.flat h.2 _ v rfl hv, id⟩
  | .undef, a', v, e, hv => by simp only [renV, Option.some.injEq] at e; subst e; exact ⟨VR.flat h.2 _ v rfl hv, id⟩
theorem renVs_VR (h : Ren ρ ρ2 mp) : ∀ (l l' : List AV) (vs : List Value), renVs mp l = some l' → VRs ρ l vs → VRs ρ2 l' vs ∧ ((∀ c ∈ l, c.sc = true) → ∀ c ∈ l', c.sc = true)
  | [], l', vs, e, hv => by simp only [renVs, Option.some.injEq] at e; subst e; simp only [VRs] at hv ⊢; exact ⟨hv, fun _ c hc => by simp at hc⟩
  | a :: r, l', vs, e, hv => by
    simp only [renVs] at e
    cases ha : renV mp a with
    | none => rw [ha] at e; cases e
    | some a' =>
      cases hl : renVs mp r with
      | none => rw [ha, hl] at e; cases e
      | some r' =>
        rw [ha, hl] at e; simp only [Option.some.injEq] at e; subst e
        simp only [VRs] at hv
        obtain ⟨v, t, rfl, h1, h2⟩ := hv
        obtain ⟨g1, g2⟩ := renV_VR h a a' v ha h1
        obtain ⟨k1, k2⟩ := renVs_VR h r r' t hl h2
        refine ⟨by simp only [VRs]; exact ⟨v, t, rfl, g1, k1⟩, fun hs c hc => ?_⟩
        rcases List.mem_cons.1 hc with rfl | hc
        · exact g2 (hs a List.mem_cons_self)
        · exact k2 (fun c hc => hs c (List.mem_cons_of_mem _ hc)) c hc
end
theorem renVs_nth : ∀ {l l' : List AV}, renVs mp l = some l' → ∀ i c, nth l' i = some c → ∃ a, nth l i = some a ∧ renV mp a = some c
  | [], l', h, i, c, hc => by simp only [renVs, Option.some.injEq] at h; subst h; simp at hc
  | a :: r, l', h, i, c, hc => by
    simp only [renVs] at h
    cases ha : renV mp a with
    | none => rw [ha] at h; cases h
    | some a' =>
      cases hl : renVs mp r with
      | none => rw [ha, hl] at h; cases h
      | some r' =>
        rw [ha, hl] at h; simp only [Option.some.injEq] at h; subst h
        cases i with
        | zero => simp at hc; subst hc; exact ⟨a, rfl, ha⟩
        | succ i => simp at hc; obtain ⟨x, h1, h2⟩ := renVs_nth hl i c hc; exact ⟨x, by simpa using h1, h2⟩
theorem EntsR.flat (h : ∀ c k v, ρ.fz c k = some v → ρ2.fz c k = some v) : ∀ {es : List (AV × AV)} {l : List MapEntry}, flatE es = true → EntsR ρ es l → EntsR ρ2 es l
  | [], l, _, e => e
  | e :: r, l, hf, hl => by
    obtain ⟨x, t, he, h1, h2, h3⟩ := hl
    unfold flatE at hf
    cases f1 : e.1.flat <;> cases f2 : e.2.flat <;> simp only [f1, f2] at hf <;> try (cases hf; done)
    exact ⟨x, t, he, VR.flat h _ _ f1 h1, VR.flat h _ _ f2 h2, EntsR.flat h hf h3⟩
theorem renB_BO (h : Ren ρ ρ2 mp) {x x' : Blk} (e : renB mp x = some x') {p : Place} {o : Option Obj} (hb : BO ρ p o x) : BO ρ2 p o x' := by
  cases x with
  | cells cs rw_ u =>
    cases rw_ with
    | false => cases e
    | true =>
      simp only [renB] at e
      cases hl : renVs mp cs with
      | none => rw [hl] at e; cases e
      | some l =>
        rw [hl] at e; simp only [Option.some.injEq] at e; subst e
        obtain ⟨hu, ccs, ce, fr, ho, ht, hf, hc⟩ := hb
        refine ⟨hu, ccs, ce, fr, ho, ht, hf, fun i c hi => ?_⟩
        obtain ⟨a, h1, h2⟩ := renVs_nth hl i c hi
        obtain ⟨g1, v, g2, g3⟩ := hc i a h1
        obtain ⟨k1, k2⟩ := renV_VR h a c v h2 g3
        exact ⟨k2 g1, v, g2, k1⟩
  | tok n z => simp only [renB, Option.some.injEq] at e; subst e; exact hb
  | map es fz =>
    simp only [renB] at e
    cases hf : flatE es with
    | false => rw [hf] at e; cases e
    | true =>
      rw [hf] at e; simp only [Option.some.injEq] at e; subst e
      obtain ⟨ents, clock, ho, he, hk⟩ := hb
      exact ⟨ents, clock, ho, he.flat h.2 hf, hk⟩
  | loop T ps a b st pend => cases e
  | strIter s pos => cases e
  | mapIter m left last => cases e
theorem renB_kind {x x' : Blk} (e : renB mp x = some x') : x.rwB = true ∧ x'.rwB = true ∧ (∀ p, x'.bare p = x.bare p) ∧ (∀ m l la, x ≠ .mapIter m l la) ∧ (∀ m l la, x' ≠ .mapIter m l la) ∧ (∀ es fz, x = .map es fz → x' = .map es fz) := by
  cases x with
  | cells cs rw_ u =>
    cases rw_ with
    | false => cases e
    | true =>
      simp only [renB] at e
      cases hl : renVs mp cs with
      | none => rw [hl] at e; cases e
      | some l => rw [hl] at e; simp only [Option.some.injEq] at e; subst e; exact ⟨rfl, rfl, fun _ => rfl, fun _ _ _ h => (by cases h), fun _ _ _ h => (by cases h), fun _ _ h => by cases h⟩
  | tok n z => simp only [renB, Option.some.injEq] at e; subst e; exact ⟨rfl, rfl, fun _ => rfl, fun _ _ _ h => (by cases h), fun _ _ _ h => (by cases h), fun _ _ h => by cases h⟩
  | map es fz =>
    simp only [renB] at e
    cases hf : flatE es with
    | false => rw [hf] at e; cases e
    | true => rw [hf] at e; simp only [Option.some.injEq] at e; subst e; exact ⟨rfl, rfl, fun _ => rfl, fun _ _ _ h => (by cases h), fun _ _ _ h => (by cases h), fun _ _ h => h⟩
  | loop T ps a b st pend => cases e
  | strIter s pos => cases e
  | mapIter m left last => cases e
theorem renBs_spec : ∀ {xs xs' : List Blk}, renBs mp xs = some xs' → xs'.length = xs.length ∧ ∀ (i : Nat) x, xs[i]? = some x → ∃ x', xs'[i]? = some x' ∧ renB mp x = some x'
  | [], xs', h => by simp only [renBs, Option.some.injEq] at h; subst h; simp
  | x :: r, xs', h => by
    simp only [renBs] at h
    cases hx : renB mp x with
    | none => rw [hx] at h; cases h
    | some a =>
      cases hl : renBs mp r with
      | none => rw [hx, hl] at h; cases h
      | some l =>
        rw [hx, hl] at h; simp only [Option.some.injEq] at h; subst h
        obtain ⟨h1, h2⟩ := renBs_spec hl
        refine ⟨by simp [h1], fun i y hy => ?_⟩
        cases i with
        | zero => simp at hy; subst hy; exact ⟨a, rfl, hx⟩
        | succ i => obtain ⟨z, g1, g2⟩ := h2 i y (by simpa using hy); exact ⟨z, by simpa using g1, g2⟩
end
theorem namesFrom_get (p : Nm) : ∀ (n k i : Nat), i < k → (namesFrom p n k)[i]? = some (p ++ [n + i])
  | n, 0, i, h => by omega
  | n, k + 1, 0, h => by simp [namesFrom]
  | n, k + 1, i + 1, h => by
    simp only [namesFrom, List.getElem?_cons_succ]
    rw [namesFrom_get p (n + 1) k i (by omega), show n + 1 + i = n + (i + 1) by omega]
theorem namesFrom_len (p : Nm) : ∀ (n k : Nat), (namesFrom p n k).length = k
  | n, 0 => rfl
  | n, k + 1 => by simp [namesFrom, namesFrom_len p (n + 1) k]
theorem namesFrom_mem {p b : Nm} {n k : Nat} (h : b ∈ namesFrom p n k) : ∃ i, i < k ∧ b = p ++ [n + i] := by
  obtain ⟨i, hi⟩ := List.mem_iff_getElem?.1 h
  have hlt := (List.getElem?_eq_some_iff.1 hi).1
  rw [namesFrom_len] at hlt
  rw [namesFrom_get p n k i hlt] at hi
  exact ⟨i, hlt, (Option.some.inj hi).symm⟩
theorem namesFrom_nodup (p : Nm) : ∀ (n k : Nat), (namesFrom p n k).Nodup
  | n, 0 => by simp [namesFrom]
  | n, k + 1 => by
    simp only [namesFrom, List.nodup_cons]
    refine ⟨fun h => ?_, namesFrom_nodup p (n + 1) k⟩
    obtain ⟨i, _, e⟩ := namesFrom_mem h
    have := List.append_cancel_left e
    simp at this; omega
theorem hget_zipB : ∀ {l : List Nm} {xs : List Blk} {b : Nm} {x : Blk}, hget (zipB l xs) b = some x → ∃ i : Nat, l[i]? = some b ∧ xs[i]? = some x
  | [], xs, b, x, h => by cases xs <;> simp [zipB] at h
  | c :: r, [], b, x, h => by simp [zipB] at h
  | c :: r, y :: q, b, x, h => by
    simp only [zipB] at h
    by_cases e : c = b
    · subst e; rw [hget_cons_same] at h; exact ⟨0, rfl, by simpa using h⟩
    · rw [hget_cons_ne _ _ e] at h
      obtain ⟨i, h1, h2⟩ := hget_zipB h
      exact ⟨i + 1, by simpa using h1, by simpa using h2⟩
end Go.Am
namespace Go.Am
open Go
theorem nodup_inj {α : Type} : ∀ {l : List α} {i j : Nat} {a : α}, l.Nodup → l[i]? = some a → l[j]? = some a → i = j
  | [], i, j, a, _, h, _ => by simp at h
  | x :: r, 0, 0, a, _, _, _ => rfl
  | x :: r, 0, j + 1, a, hn, h, h' => by simp at h h'; subst h; exact absurd (List.mem_of_getElem? h') (List.nodup_cons.1 hn).1
  | x :: r, i + 1, 0, a, hn, h, h' => by simp at h h'; subst h'; exact absurd (List.mem_of_getElem? h) (List.nodup_cons.1 hn).1
  | x :: r, i + 1, j + 1, a, hn, h, h' => congrArg (· + 1) (nodup_inj (i := i) (j := j) (List.nodup_cons.1 hn).2 (by simpa using h) (by simpa using h'))
noncomputable def Rho.lent (ρ : Rho) (bs : List Nm) : Rho := ⟨fun i => match lookN i (zipN (namesFrom [] 0 bs.length) bs) with | some b => ρ b | none => none, ρ.fz⟩
section
variable {ρ : Rho} {s : St} {w : World} {bs : List Nm} {xs ys : List Blk}
theorem lent_at (hl : bs.length ≤ bs.length) (i : Nat) (b : Nm) (h : bs[i]? = some b) : (ρ.lent bs) [i] = ρ b := by
  have hlt := (List.getElem?_eq_some_iff.1 h).1
  have h1 : (namesFrom [] 0 bs.length)[i]? = some [i] := by rw [namesFrom_get [] 0 _ i hlt]; simp
  have := lookN_of i (namesFrom_nodup [] 0 bs.length) h1 h
  show (match lookN [i] (zipN (namesFrom [] 0 bs.length) bs) with | some b => ρ b | none => none) = _
  rw [this]
theorem lent_inv {i : Nm} {p : Place} (h : (ρ.lent bs) i = some p) : ∃ (k : Nat) (b : Nm), i = [k] ∧ bs[k]? = some b ∧ ρ b = some p := by
  have h : (match lookN i (zipN (namesFrom [] 0 bs.length) bs) with | some b => ρ b | none => none) = some p := h
  cases hl : lookN i (zipN (namesFrom [] 0 bs.length) bs) with
  | none => rw [hl] at h; cases h
  | some b =>
    rw [hl] at h
    obtain ⟨k, h1, h2⟩ := lookN_zip hl
    have hlt := (List.getElem?_eq_some_iff.1 h2).1
    rw [namesFrom_get [] 0 _ k hlt] at h1
    exact ⟨k, b, by rw [← Option.some.inj h1]; simp, h2, h⟩
theorem lend_HR (hr : HR ρ s.H w) (hn : bs.Nodup) (hg : getAll s.H bs = some xs) (hy : renBs (zipN bs (namesFrom [] 0 bs.length)) xs = some ys) :
    Ren ρ (ρ.lent bs) (zipN bs (namesFrom [] 0 bs.length)) ∧ HR (ρ.lent bs) (zipB (namesFrom [] 0 bs.length) ys) w ∧ Fr (ρ.lent bs) ⟨zipB (namesFrom [] 0 bs.length) ys, bs.length, [], false, []⟩ ∧
    (∀ (i : Nat) b, bs[i]? = some b → ∃ x y, hget s.H b = some x ∧ ys[i]? = some y ∧ renB (zipN bs (namesFrom [] 0 bs.length)) x = some y) := by
  have hren : Ren ρ (ρ.lent bs) (zipN bs (namesFrom [] 0 bs.length)) := by
    refine ⟨fun a c hl p hp => ?_, fun _ _ _ h => h⟩
    obtain ⟨i, h1, h2⟩ := lookN_zip hl
    have hlt := (List.getElem?_eq_some_iff.1 h1).1
    rw [namesFrom_get [] 0 _ i hlt] at h2
    have : c = [i] := by rw [← Option.some.inj h2]; simp
    rw [this, lent_at (Nat.le_refl _) i a h1]; exact hp
  obtain ⟨g1, g2⟩ := getAll_spec hg
  obtain ⟨k1, k2⟩ := renBs_spec hy
  have hall : ∀ (i : Nat) b, bs[i]? = some b → ∃ x y, hget s.H b = some x ∧ ys[i]? = some y ∧ renB (zipN bs (namesFrom [] 0 bs.length)) x = some y := by
    intro i b hb
    obtain ⟨x, h1, h2⟩ := g2 i b hb
    obtain ⟨y, h3, h4⟩ := k2 i x h1
    exact ⟨x, y, h2, h3, h4⟩
  have hin : ∀ i y, hget (zipB (namesFrom [] 0 bs.length) ys) i = some y → ∃ (k : Nat) (b : Nm) (x : Blk), i = [k] ∧ bs[k]? = some b ∧ hget s.H b = some x ∧ renB (zipN bs (namesFrom [] 0 bs.length)) x = some y := by
    intro i y hi
    obtain ⟨k, h1, h2⟩ := hget_zipB hi
    have hlt := (List.getElem?_eq_some_iff.1 h1).1
    rw [namesFrom_len] at hlt
    rw [namesFrom_get [] 0 _ k hlt] at h1
    obtain ⟨x, y', h3, h4, h5⟩ := hall k _ (List.getElem?_eq_getElem hlt)
    rw [h2] at h4; obtain rfl := Option.some.inj h4
    exact ⟨k, _, x, by rw [← Option.some.inj h1]; simp, List.getElem?_eq_getElem hlt, h3, h5⟩
  refine ⟨hren, ⟨?_, ?_, ?_, hr.frz, ?_⟩, ?_, hall⟩
  · intro i y hi
    obtain ⟨k, b, x, rfl, hb, hx, hyx⟩ := hin i y hi
    obtain ⟨p, hp, hbo⟩ := hr.blocks b x hx
    exact ⟨p, by rw [lent_at (Nat.le_refl _) k b hb]; exact hp, renB_BO hren hyx hbo⟩
  · intro i j y y' p p' hi hj hp hp' hij _
    obtain ⟨k, b, x, rfl, hb, hx, hyx⟩ := hin i y hi
    obtain ⟨k', b', x', rfl, hb', hx', hyx'⟩ := hin j y' hj
    rw [lent_at (Nat.le_refl _) k b hb] at hp
    rw [lent_at (Nat.le_refl _) k' b' hb'] at hp'
    refine hr.sep b b' x x' p p' hx hx' hp hp' (fun e => ?_) (renB_kind hyx).1
    subst e
    have : k = k' := by
      obtain ⟨h1, e1⟩ := List.getElem?_eq_some_iff.1 hb
      obtain ⟨h2, e2⟩ := List.getElem?_eq_some_iff.1 hb'
      exact nodup_inj hn hb hb'
    exact hij (by rw [this])
  · intro i m left last hi
    obtain ⟨k, b, x, rfl, hb, hx, hyx⟩ := hin i _ hi
    exact absurd rfl ((renB_kind hyx).2.2.2.2.1 m left last)
  · intro i y p hi hw hp k hk
    obtain ⟨k', b, x, rfl, hb, hx, hyx⟩ := hin i y hi
    rw [lent_at (Nat.le_refl _) k' b hb] at hp
    exact hr.fsep b x p hx (renB_kind hyx).1 hp k (by rw [← (renB_kind hyx).2.2.1]; exact hk)
  · intro m r hm
    cases h : (ρ.lent bs) ([] ++ m :: r) with
    | none => rfl
    | some p =>
      obtain ⟨k, b, h1, h2, _⟩ := lent_inv h
      have := (List.getElem?_eq_some_iff.1 h2).1
      simp at h1
      have hm : bs.length ≤ m := hm
      omega
theorem putAll_spec {Q : Unit × St → Prop} : ∀ {bs : List Nm} {xs : List Blk} {s : St}, (putAll bs xs s).All Q → ∃ s', Q ((), s') ∧ s'.pre = s.pre ∧ s'.n = s.n ∧ xs.length = bs.length ∧
    (bs.Nodup → (∀ (i : Nat) b, bs[i]? = some b → ∃ x, xs[i]? = some x ∧ hget s'.H b = some x) ∧ ∀ b, b ∉ bs → hget s'.H b = hget s.H b)
  | [], [], s, h => ⟨s, h, rfl, rfl, rfl, fun _ => ⟨by simp, fun _ _ => rfl⟩⟩
  | [], _ :: _, s, h => h.elim
  | _ :: _, [], s, h => h.elim
  | b :: r, x :: q, s, h => by
    unfold putAll at h
    obtain ⟨⟨y, hy⟩, h⟩ := (putM_all _ _ _ _).1 ((M.all_bind _ _ _ _).1 h)
    obtain ⟨s', h1, h2, h3, h4, h5⟩ := putAll_spec h
    refine ⟨s', h1, h2, h3, by simp [h4], fun hn => ?_⟩
    have hn' := List.nodup_cons.1 hn
    obtain ⟨g1, g2⟩ := h5 hn'.2
    refine ⟨fun i c hc => ?_, fun c hc => ?_⟩
    · cases i with
      | zero =>
        simp at hc; subst hc
        refine ⟨x, rfl, ?_⟩
        rw [g2 b hn'.1]
        exact hget_hset_same x hy
      | succ i => obtain ⟨z, k1, k2⟩ := g1 i c (by simpa using hc); exact ⟨z, by simpa using k1, k2⟩
    · simp only [List.mem_cons, not_or] at hc
      rw [g2 c hc.2]
      exact hget_hset_ne _ _ (Ne.symm hc.1)
theorem newAll_spec {Q : Unit × St → Prop} : ∀ {xs : List Blk} {s : St}, (newAll xs s).All Q → ∃ s', Q ((), s') ∧ s'.pre = s.pre ∧ s'.n = s.n + xs.length ∧
    (∀ (i : Nat) x, xs[i]? = some x → hget s'.H (s.pre ++ [s.n + i]) = some x) ∧ ∀ b, b ∉ namesFrom s.pre s.n xs.length → hget s'.H b = hget s.H b
  | [], s, h => ⟨s, h, rfl, rfl, by simp, fun _ _ => rfl⟩
  | x :: q, s, h => by
    unfold newAll at h
    have h := (newM_all _ _ _).1 ((M.all_bind _ _ _ _).1 h)
    obtain ⟨s', h1, h2, h3, h4, h5⟩ := newAll_spec h
    have e1 : (s.new x).pre = s.pre := rfl
    have e2 : (s.new x).n = s.n + 1 := rfl
    rw [e1, e2] at h4 h5
    refine ⟨s', h1, h2, by rw [h3, e2, List.length_cons]; omega, fun i y hy => ?_, fun b hb => ?_⟩
    · cases i with
      | zero =>
        simp at hy; subst hy
        rw [Nat.add_zero, h5 _ (fun hm => by
          obtain ⟨i, _, e⟩ := namesFrom_mem hm
          have := List.append_cancel_left e
          simp at this; omega)]
        exact hget_cons_same ..
      | succ i => rw [show s.n + (i + 1) = s.n + 1 + i by omega]; exact h4 i y (by simpa using hy)
    · simp only [namesFrom, List.length_cons, List.mem_cons, not_or] at hb
      rw [h5 b hb.2]
      exact hget_cons_ne _ _ (Ne.symm hb.1)
end
end Go.Am
namespace Go.Am
open Go
section
variable {ρ ρ' : Rho} {s s1 s2 s3 : St} {w w' : World} {bs ns : List Nm} {xs ls ys ys' zs zs' : List Blk} {mp : List (Nm × Nm)} {v v' : AV} {cv : Value}
noncomputable def Rho.given (ρ ρ' : Rho) (nn ns : List Nm) : Rho := ⟨fun i => match lookN i (zipN nn ns) with | some c => ρ' c | none => ρ i, ρ'.fz⟩
theorem nodup_app_disj {α : Type} {l r : List α} (h : (l ++ r).Nodup) {a : α} (h1 : a ∈ l) (h2 : a ∈ r) : False := by
  rw [List.nodup_append] at h
  exact h.2.2 a h1 a h2 rfl
theorem hand_back (hr : HR ρ s.H w) (hf : Fr ρ s) (hn : bs.Nodup) (hcalm : calm xs = true) (hg : getAll s.H bs = some xs) (hls : renBs (zipN bs (namesFrom [] 0 bs.length)) xs = some ls)
    (hst : Stp (ρ.lent bs) ⟨zipB (namesFrom [] 0 bs.length) ls, bs.length, [], false, []⟩ w ρ' s1 w') (hr' : HR ρ' s1.H w') (hv : VR ρ' v cv)
    (hy : getAll s1.H (namesFrom [] 0 bs.length) = some ys) (hz : getAll s1.H ns = some zs) (hnd : (namesFrom [] 0 bs.length ++ ns).Nodup)
    (hmp : mp = zipN (namesFrom [] 0 bs.length ++ ns) (bs ++ namesFrom s.pre s.n zs.length)) (hv' : renV mp v = some v') (hy' : renBs mp ys = some ys') (hz' : renBs mp zs = some zs')
    (hput : ∀ (i : Nat) b, bs[i]? = some b → ∃ x, ys'[i]? = some x ∧ hget s2.H b = some x) (hput' : ∀ b, b ∉ bs → hget s2.H b = hget s.H b) (hp2 : s2.pre = s.pre) (hn2 : s2.n = s.n)
    (hnew : ∀ (i : Nat) x, zs'[i]? = some x → hget s3.H (s.pre ++ [s.n + i]) = some x) (hnew' : ∀ b, b ∉ namesFrom s.pre s.n zs'.length → hget s3.H b = hget s2.H b) (hp3 : s3.pre = s.pre) (hn3 : s3.n = s.n + zs'.length) :
    ∃ ρ2, Stp ρ s w ρ2 s3 w' ∧ HR ρ2 s3.H w' ∧ VR ρ2 v' cv := by
  obtain ⟨hren, hr0, hf0, hall⟩ := lend_HR hr hn hg hls
  obtain ⟨gy1, gy2⟩ := getAll_spec hy
  obtain ⟨gz1, gz2⟩ := getAll_spec hz
  obtain ⟨ky1, ky2⟩ := renBs_spec hy'
  obtain ⟨kz1, kz2⟩ := renBs_spec hz'
  obtain ⟨gx1, gx2⟩ := getAll_spec hg
  have hzl : zs'.length = ns.length := by rw [kz1, gz1]
  rw [namesFrom_len] at gy1
  obtain ⟨ks, hks⟩ : ∃ ks, ks = namesFrom [] 0 bs.length := ⟨_, rfl⟩
  obtain ⟨nn, hnn⟩ : ∃ nn, nn = namesFrom s.pre s.n ns.length := ⟨_, rfl⟩
  have hksl : ks.length = bs.length := by rw [hks, namesFrom_len]
  have hks_at : ∀ i, i < bs.length → ks[i]? = some [i] := fun i hi => by rw [hks, namesFrom_get [] 0 _ i hi]; simp
  have hnn_at : ∀ i, i < ns.length → nn[i]? = some (s.pre ++ [s.n + i]) := fun i hi => by rw [hnn, namesFrom_get _ _ _ i hi]
  have hnnd : nn.Nodup := by rw [hnn]; exact namesFrom_nodup _ _ _
  rw [gz1, ← hks, ← hnn] at hmp
  rw [← hks] at hnd hy
  have hfresh : ∀ b, b ∈ nn → ρ b = none := by
    intro b hb
    rw [hnn] at hb
    obtain ⟨i, _, rfl⟩ := namesFrom_mem hb
    exact hf (s.n + i) [] (Nat.le_add_right _ _)
  obtain ⟨ρ2, hρ2⟩ : ∃ ρ2, ρ2 = ρ.given ρ' nn ns := ⟨_, rfl⟩
  have h2new : ∀ (i : Nat) a, ns[i]? = some a → ρ2 (s.pre ++ [s.n + i]) = ρ' a := by
    intro i a ha
    have hlt := (List.getElem?_eq_some_iff.1 ha).1
    have := lookN_of i hnnd (hnn_at i hlt) ha
    rw [hρ2]
    show (match lookN (s.pre ++ [s.n + i]) (zipN nn ns) with | some c => ρ' c | none => ρ (s.pre ++ [s.n + i])) = _
    rw [this]
  have h2old : ∀ b, b ∉ nn → ρ2 b = ρ b := by
    intro b hb
    rw [hρ2]
    show (match lookN b (zipN nn ns) with | some c => ρ' c | none => ρ b) = _
    cases hl : lookN b (zipN nn ns) with
    | none => rfl
    | some c => obtain ⟨i, h1, _⟩ := lookN_zip hl; exact absurd (List.mem_of_getElem? h1) hb
  have hbs_nn : ∀ (i : Nat) b, bs[i]? = some b → b ∉ nn := by
    intro i b hb hm
    obtain ⟨x, hx, hxx⟩ := gx2 i b hb
    obtain ⟨p, hp, _⟩ := hr.blocks b x hxx
    rw [hfresh b hm] at hp; cases hp
  have hio : ∀ (i : Nat) b, bs[i]? = some b → ∃ p, ρ b = some p ∧ ρ' [i] = some p := by
    intro i b hb
    obtain ⟨x, hx, hxx⟩ := gx2 i b hb
    obtain ⟨p, hp, _⟩ := hr.blocks b x hxx
    exact ⟨p, hp, hst.ext.pl _ _ (by rw [lent_at (Nat.le_refl _) i b hb]; exact hp)⟩
  have hx : Ext ρ ρ2 := by
    refine ⟨fun b p hp => ?_, fun c k u hu => ?_⟩
    · rw [h2old b fun hm => by rw [hfresh b hm] at hp; cases hp]; exact hp
    · rw [hρ2]; exact hst.ext.fz c k u hu
  have hren2 : Ren ρ' ρ2 mp := by
    refine ⟨fun a c hl p hp => ?_, fun c k u hu => by rw [hρ2]; exact hu⟩
    rw [hmp] at hl
    obtain ⟨i, h1, h2⟩ := lookN_zip hl
    by_cases hlt : i < bs.length
    · rw [List.getElem?_append_left (by omega), hks_at i hlt] at h1
      rw [List.getElem?_append_left hlt] at h2
      obtain rfl := Option.some.inj h1
      obtain ⟨q, hq, hq'⟩ := hio i c h2
      rw [hp] at hq'; obtain rfl := Option.some.inj hq'
      rw [h2old c (hbs_nn i c h2)]; exact hq
    · rw [List.getElem?_append_right (by omega), hksl] at h1
      rw [List.getElem?_append_right (by omega)] at h2
      have hlt2 := (List.getElem?_eq_some_iff.1 h1).1
      rw [hnn_at _ hlt2] at h2
      obtain rfl := Option.some.inj h2
      rw [h2new _ _ h1]; exact hp
  have hvr := (renV_VR hren2 v v' cv hv' hv).1
  have himg0 : ∀ c, Img (ρ.lent bs) (zipB (namesFrom [] 0 bs.length) ls) c → ∃ (i : Nat) (b : Nm) (x : Blk) (p : Place), bs[i]? = some b ∧ hget s.H b = some x ∧ x.rwB = true ∧ ρ b = some p ∧ p.blk = c := by
    rintro c ⟨j, y, p, hj, hw, hp, rfl⟩
    obtain ⟨k, b, rfl, hb, hpb⟩ := lent_inv hp
    obtain ⟨x, y', h1, h2, h3⟩ := hall k b hb
    exact ⟨k, b, x, p, hb, h1, (renB_kind h3).1, hpb, rfl⟩
  have horig : ∀ b x, hget s3.H b = some x →
      (∃ (a : Nm) (y : Blk), ρ2 b = ρ' a ∧ hget s1.H a = some y ∧ renB mp y = some x ∧ ((∃ i : Nat, ks[i]? = some a ∧ bs[i]? = some b) ∨ (∃ i : Nat, ns[i]? = some a ∧ b = s.pre ++ [s.n + i]))) ∨
      (hget s.H b = some x ∧ b ∉ bs ∧ b ∉ nn ∧ ρ2 b = ρ b) := by
    intro b x hb
    by_cases hm : b ∈ nn
    · have hm' := hm
      rw [hnn] at hm'
      obtain ⟨i, hi, rfl⟩ := namesFrom_mem hm'
      obtain ⟨y, g1, g2⟩ := gz2 i _ (List.getElem?_eq_getElem hi)
      obtain ⟨x', g3, g4⟩ := kz2 i y g1
      have := hnew i x' g3
      rw [hb] at this; obtain rfl := Option.some.inj this
      exact .inl ⟨_, y, h2new i _ (List.getElem?_eq_getElem hi), g2, g4, .inr ⟨i, List.getElem?_eq_getElem hi, rfl⟩⟩
    · have e1 : hget s3.H b = hget s2.H b := hnew' b (by rw [hzl, ← hnn]; exact hm)
      rw [e1] at hb
      by_cases hb' : b ∈ bs
      · obtain ⟨i, hi⟩ := List.mem_iff_getElem?.1 hb'
        have hlt := (List.getElem?_eq_some_iff.1 hi).1
        obtain ⟨x', g1, g2⟩ := hput i b hi
        rw [hb] at g2; obtain rfl := Option.some.inj g2
        have hk := hks_at i hlt
        obtain ⟨y, g3, g4⟩ := gy2 i [i] (by rw [← hks]; exact hk)
        obtain ⟨x2, g5, g6⟩ := ky2 i y g3
        rw [g1] at g5; obtain rfl := Option.some.inj g5
        obtain ⟨p, hp, hp'⟩ := hio i b hi
        exact .inl ⟨[i], y, by rw [h2old b hm, hp, hp'], g4, g6, .inl ⟨i, hk, hi⟩⟩
      · rw [hput' b hb'] at hb
        exact .inr ⟨hb, hb', hm, h2old b hm⟩
  have hapart : ∀ b x p, hget s.H b = some x → ρ b = some p → b ∉ bs → ¬ Img (ρ.lent bs) (zipB (namesFrom [] 0 bs.length) ls) p.blk := by
    intro b x p hb hp hbs hi
    obtain ⟨i, b', x', p', h1, h2, h3, h4, h5⟩ := himg0 _ hi
    exact hr.sep b' b x' x p' p h2 hb h4 hp (fun e => by subst e; exact hbs (List.mem_of_getElem? h1)) h3 h5
  have hsame : ∀ b x p, hget s.H b = some x → ρ b = some p → b ∉ bs → w'.heap[p.blk]? = w.heap[p.blk]? := fun b x p hb hp hbs => hst.unch _ (blk_lt hr hb hp) (hapart b x p hb hp hbs)
  have hcross : ∀ (a : Nm) y pa b x pb, hget s1.H a = some y → y.rwB = true → ρ' a = some pa → (∃ i : Nat, ks[i]? = some a ∨ ns[i]? = some a) → hget s.H b = some x → ρ b = some pb → b ∉ bs → pa.blk ≠ pb.blk := by
    intro a y pa b x pb ha hw hpa _ hb hpb hbs e
    exact hapart b x pb hb hpb hbs (by rw [← e]; exact hst.img _ (by rw [e]; exact blk_lt hr hb hpb) ⟨a, y, pa, ha, hw, hpa, rfl⟩)
  refine ⟨ρ2, ⟨hx, ?_, hp3, by rw [hn3]; exact Nat.le_add_right _ _, hst.same, hst.size, ?_, ?_, ?_⟩, ⟨?_, ?_, ?_, ?_, ?_⟩, hvr⟩
  · intro b p hb hno
    by_cases hm : b ∈ nn
    · rw [hnn] at hm
      obtain ⟨i, hi, rfl⟩ := namesFrom_mem hm
      exact ⟨s.n + i, [], rfl, Nat.le_add_right _ _, by rw [hn3, hzl]; omega⟩
    · rw [h2old b hm, hno] at hb; cases hb
  · intro c hc hi
    refine hst.unch c hc fun h => hi ?_
    obtain ⟨i, b, x, p, _, h2, h3, h4, h5⟩ := himg0 _ h
    exact ⟨b, x, p, h2, h3, h4, h5⟩
  · rintro c hc ⟨b, x, p, hb, hw, hp, rfl⟩
    rcases horig b x hb with ⟨a, y, h1, h2, h3, _⟩ | ⟨h1, _, _, h4⟩
    · have hi := hst.img p.blk hc ⟨a, y, p, h2, (renB_kind h3).1, by rw [← h1]; exact hp, rfl⟩
      obtain ⟨i, b', x', p', _, g2, g3, g4, g5⟩ := himg0 _ hi
      exact ⟨b', x', p', g2, g3, g4, g5⟩
    · exact ⟨b, x, p, h1, hw, by rw [← h4]; exact hp, rfl⟩
  · intro c k u hu hno hc
    rw [hρ2] at hu
    obtain ⟨i, b', x', p', _, g2, g3, g4, g5⟩ := himg0 _ (hst.fzl c k u hu hno hc)
    exact ⟨b', x', p', g2, g3, g4, g5⟩
  · intro b x hb
    rcases horig b x hb with ⟨a, y, h1, h2, h3, _⟩ | ⟨h1, h2, _, h4⟩
    · obtain ⟨p, hp, hbo⟩ := hr'.blocks a y h2
      exact ⟨p, by rw [h1]; exact hp, renB_BO hren2 h3 hbo⟩
    · obtain ⟨p, hp, hbo⟩ := hr.blocks b x h1
      exact ⟨p, by rw [h4]; exact hp, by rw [hsame b x p h1 hp h2]; exact hbo.mono hx⟩
  · intro b b2 x x2 p p2 hb hb2 hp hp2 hne hw
    rcases horig b x hb with ⟨a, y, h1, h2, h3, h4⟩ | ⟨h1, h2, h3, h4⟩
    · have hya := (renB_kind h3).1
      rcases horig b2 x2 hb2 with ⟨a2, y2, k1, k2, k3, k4⟩ | ⟨k1, k2, k3, k4⟩
      · refine hr'.sep a a2 y y2 p p2 h2 k2 (by rw [← h1]; exact hp) (by rw [← k1]; exact hp2) (fun e => ?_) hya
        subst e
        rcases h4 with ⟨i, i1, i2⟩ | ⟨i, i1, i2⟩ <;> rcases k4 with ⟨j, j1, j2⟩ | ⟨j, j1, j2⟩
        · have hi := (List.getElem?_eq_some_iff.1 i2).1
          have hj := (List.getElem?_eq_some_iff.1 j2).1
          rw [hks_at i hi] at i1; rw [hks_at j hj] at j1
          rw [← i1] at j1
          have : j = i := by simpa using Option.some.inj j1
          subst this; rw [i2] at j2; exact hne (Option.some.inj j2)
        · exact nodup_app_disj hnd (List.mem_of_getElem? i1) (List.mem_of_getElem? j1)
        · exact nodup_app_disj hnd (List.mem_of_getElem? j1) (List.mem_of_getElem? i1)
        · have hns : ns.Nodup := (List.nodup_append.1 hnd).2.1
          have : i = j := nodup_inj hns i1 j1
          subst this; exact hne (i2.trans j2.symm)
      · exact hcross a y p b2 x2 p2 h2 hya (by rw [← h1]; exact hp) (h4.elim (fun ⟨i, hi, _⟩ => ⟨i, .inl hi⟩) (fun ⟨i, hi, _⟩ => ⟨i, .inr hi⟩)) k1 (by rw [← k4]; exact hp2) k2
    · rcases horig b2 x2 hb2 with ⟨a2, y2, k1, k2, k3, k5⟩ | ⟨k1, k2, k3, k4⟩
      · exact Ne.symm (hcross a2 y2 p2 b x p k2 (renB_kind k3).1 (by rw [← k1]; exact hp2) (k5.elim (fun ⟨i, hi, _⟩ => ⟨i, .inl hi⟩) (fun ⟨i, hi, _⟩ => ⟨i, .inr hi⟩)) h1 (by rw [← h4]; exact hp) h2)
      · exact hr.sep b b2 x x2 p p2 h1 k1 (by rw [← h4]; exact hp) (by rw [← k4]; exact hp2) hne hw
  · intro b m left last hb
    rcases horig b _ hb with ⟨a, y, h1, h2, h3, _⟩ | ⟨h1, h2, h3, h4⟩
    · exact absurd rfl ((renB_kind h3).2.2.2.2.1 m left last)
    · obtain ⟨⟨es, he⟩, hmi⟩ := hr.iter b m left last h1
      have hmbs : m ∉ bs := by
        intro hm
        obtain ⟨i, hi⟩ := List.mem_iff_getElem?.1 hm
        obtain ⟨x, g1, g2⟩ := gx2 i m hi
        rw [he] at g2; obtain rfl := Option.some.inj g2
        have key : ∀ (l : List Blk) (i : Nat), l[i]? = some (.map es true) → calm l = true → False := by
          intro l
          induction l with
          | nil => intro i h; simp at h
          | cons z r ih =>
            intro i h hc
            cases i with
            | zero => simp at h; subst h; simp [calm] at hc
            | succ i =>
              have hc' : calm r = true := by
                unfold calm at hc
                split at hc
                · cases hc
                · exact hc
              exact ih i (by simpa using h) hc'
        exact key xs i g1 hcalm
      have hmnn : m ∉ nn := fun hm => by
        obtain ⟨p, hp, _⟩ := hr.blocks m _ he
        rw [hfresh m hm] at hp; cases hp
      refine ⟨⟨es, by rw [hnew' m (by rw [hzl, ← hnn]; exact hmnn), hput' m hmbs]; exact he⟩, fun p pm hp hpm => ?_⟩
      rw [h4] at hp
      rw [h2old m hmnn] at hpm
      rw [hsame b _ p h1 hp h2, hsame m _ pm he hpm hmbs]
      exact (hmi p pm hp hpm).mono hx
  · intro c k u hu
    rw [hρ2] at hu
    exact hr'.frz c k u hu
  · intro b x p hb hw hp k hk
    rcases horig b x hb with ⟨a, y, h1, h2, h3, _⟩ | ⟨h1, h2, h3, h4⟩
    · rw [hρ2]
      exact hr'.fsep a y p h2 (renB_kind h3).1 (by rw [← h1]; exact hp) k (by rw [← (renB_kind h3).2.2.1]; exact hk)
    · rw [h4] at hp
      cases hu : ρ2.fz p.blk k with
      | none => rfl
      | some u =>
        rw [hρ2] at hu
        exact (hapart b x p h1 hp h2 (hst.fzl _ k u hu (hr.fsep b x p h1 hw hp k hk) (blk_lt hr h1 hp))).elim
end
end Go.Am
namespace Go.Am
open Go
noncomputable section
def CodesOk (C : Cfg) : Prop := ∀ f fn c, C.fn.get f = some fn → fn.body = some c → codeOk c false = true
section
variable {P : Program} {C : Cfg} {call : FuncId → List AV → M AV} {rnd : Nm → List AV → M AV} {n B : Nat} {F : Fence}
def resF (tmps : Array Value) : ResultVar → Sem Value
  | .tmp t => pure (tmps.getD t undef)
  | .cell a t => do loadVar t (← asAddr (tmps.getD a undef))
theorem getD_VR {ρ : Rho} {T : List AV} {tmps : Array Value} (hT : VRs ρ T tmps.toList) {t : Nat} {v : AV} (h : nth T t = some v) : VR ρ v (tmps.getD t undef) := by
  obtain ⟨cv, h1, h2⟩ := VRs.nth _ _ hT t v h
  have : tmps[t]? = some cv := by simpa using h1
  simpa [Array.getD_eq_getD_getElem?, this] using h2
theorem results_list (hC : CfgOk P C) {ρ : Rho} {s : St} {w : World} {T : List AV} {tmps : Array Value} (hr : HR ρ s.H w) (hT : VRs ρ T tmps.toList) : ∀ (l : List ResultVar) (R : List AV × St → Prop), (resultsA C T l s).All R →
    ∃ vs cvs, R (vs, s) ∧ (l.mapM (m := Sem) (resF tmps)).run P w = .ok cvs w ∧ VRs ρ vs cvs
  | [], R, h => ⟨[], [], h, by simp, rfl⟩
  | .tmp t :: l, R, h => by
    unfold resultsA at h
    cases hv : nth T t with
    | none => rw [hv] at h; exact h.elim
    | some v =>
      rw [hv] at h; simp only at h
      rw [M.all_bind] at h
      obtain ⟨vs, cvs, h1, h2, h3⟩ := results_list hC hr hT l _ h
      refine ⟨v :: vs, tmps.getD t undef :: cvs, h1, ?_, ?_⟩
      · simp only [List.mapM_cons, resF, Sem.run_bind, Sem.run_pure, Result.andThen_ok, h2]
      · simp only [VRs]; exact ⟨_, _, rfl, getD_VR hT hv, h3⟩
  | .cell a t :: l, R, h => by
    unfold resultsA at h
    cases hv : nth T a with
    | none => rw [hv] at h; exact h.elim
    | some v =>
      rw [hv] at h
      cases v with
      | ptr b o =>
        simp only at h
        rw [M.all_bind] at h
        unfold loadA at h
        rw [M.all_bind] at h
        obtain ⟨x, hx, h⟩ := (getM_all _ _ _).1 h
        cases x with
        | cells cs rw_ u =>
          obtain ⟨v, hp, h⟩ := (M.all_of _ _ _).1 h
          rw [M.all_bind] at h
          obtain ⟨vs, cvs, h1, h2, h3⟩ := results_list hC hr hT l _ h
          obtain ⟨p, hpp, hbo⟩ := hr.blocks b _ hx
          obtain ⟨_, ccs, e, fr, ho, _, _, hcr⟩ := hbo
          have hvr := getD_VR hT hv
          simp only [VR] at hvr
          obtain ⟨p', hp', hcv⟩ := hvr
          rw [hpp] at hp'; obtain rfl := Option.some.inj hp'
          obtain ⟨cv, g1, g2, _⟩ := run_load_at hC ho hcr hp
          refine ⟨v :: vs, cv :: cvs, h1, ?_, ?_⟩
          · simp only [List.mapM_cons, resF, Sem.run_bind, hcv, asAddr, Sem.run_pure, Result.andThen_ok, g1, h2]
          · simp only [VRs]; exact ⟨_, _, rfl, g2, h3⟩
        | _ => exact h.elim
      | _ => exact h.elim
theorem results_sim (hC : CfgOk P C) {ρ : Rho} {s : St} {w : World} {T : List AV} {tmps : Array Value} {fn : Func} (hr : HR ρ s.H w) (hT : VRs ρ T tmps.toList) {R : List AV × St → Prop} (h : (resultsA C T fn.results.toList s).All R) :
    ∃ vs cv, R (vs, s) ∧ (results fn tmps).run P w = .ok cv w ∧ VR ρ (pack vs) cv := by
  obtain ⟨vs, cvs, h1, h2, h3⟩ := results_list hC hr hT _ R h
  refine ⟨vs, _, h1, (?_ : _ = Result.ok (if h : (⟨cvs⟩ : Array Value).size = 1 then (⟨cvs⟩ : Array Value)[0] else .tuple ⟨cvs⟩) w), ?_⟩
  · have hd : results fn tmps = (do let vs ← fn.results.mapM (resF tmps); pure (if h : vs.size = 1 then vs[0] else .tuple vs)) := by
      unfold results
      rfl
    rw [hd, Array.mapM_eq_mapM_toList]
    show Sem.run P ((List.mapM _ fn.results.toList >>= fun x => pure x.toArray) >>= _) w = _
    simp only [Sem.run_bind, h2, Result.andThen_ok, Sem.run_pure]
  · have hl := VRs.length _ _ h3
    cases vs with
    | nil => simp only [VRs] at h3; subst h3; simp [pack, VR, VRs]
    | cons v vs =>
      cases vs with
      | nil => simp only [VRs] at h3; obtain ⟨cv, t, rfl, g, rfl⟩ := h3; simpa [pack] using g
      | cons u vs =>
        have hne : ¬ (⟨cvs⟩ : Array Value).size = 1 := by simp at hl ⊢; omega
        rw [dif_neg hne]
        show VR ρ (.tuple (v :: u :: vs)) _
        simp only [VR]; exact ⟨cvs, rfl, h3⟩
theorem BO.no_deferred {ρ : Rho} {p : Place} {d : Option (List Deferred)} {x : Blk} (h : BO ρ p (some (.deferred d)) x) : False := by
  cases x with
  | cells cs rw u => obtain ⟨_, ccs, e, fr, ho, _⟩ := h; cases ho
  | tok n z => obtain ⟨_, _, ccs, e, ho, _⟩ := h; cases ho
  | map es fz => obtain ⟨ents, clock, ho, _⟩ := h; cases ho
  | loop T ps a b st pend => obtain ⟨l, ho, _⟩ := h; cases ho
  | strIter s pos => cases h.2
  | mapIter m left last => obtain ⟨_, pm, clock, seen, _, ho⟩ := h; cases ho
theorem leaves_sim {fn : Func} {tmps : Array Value} {R : Ending → World → Prop} {ρ : Rho} {s : St} : ∀ (ds : List Deferred) (w : World), HR ρ s.H w → DefOk B ρ s.H w ds →
    (∀ w', HR ρ s.H w' → Same w w' → w'.heap.size = w.heap.size → (∀ c, c < B → w'.heap[c]? = w.heap[c]?) → LeavesIn Fence.wide n P fn tmps R [] .returning w') → LeavesInM Fence.wide n P fn tmps R ds .returning w
  | [], w, hr, hd, hN => hN w hr (Same.refl _) rfl fun _ _ => rfl
  | d :: ds, w, hr, hd, hN => by
    obtain ⟨r, h0, h1, h2, h3⟩ := hd.each d List.mem_cons_self
    have hlt : r < w.heap.size := (Array.getElem?_eq_some_iff.1 h2).1
    have hne : ∀ b x p, hget s.H b = some x → ρ b = some p → p.blk ≠ r := by
      intro b x p hb hp he
      obtain ⟨q, hq, hbo⟩ := hr.blocks b x hb
      rw [hp] at hq; obtain rfl := Option.some.inj hq
      rw [he, h2] at hbo
      exact hbo.no_deferred
    refine ⟨by simp, .inl ⟨r, w.putObj r (.deferred none), h1, run_takeDeferred h2, ?_⟩⟩
    refine leaves_sim ds _ (hr.more (fun b x p hb hp => putObj_ne (hne b x p hb hp)) fun c k v hv => putObj_ne (fun e => by
      obtain ⟨ccs, e', fr, ho, _⟩ := hr.frz c k v hv
      rw [e, h2] at ho; cases ho)) ⟨by rw [putObj_size]; exact hd.le, fun d' hd' => ?_, (List.pairwise_cons.1 hd.nd).2⟩ ?_
    · obtain ⟨r', g0, g1, g2, g3⟩ := hd.each d' (List.mem_cons_of_mem _ hd')
      refine ⟨r', g0, g1, ?_, g3⟩
      rw [putObj_ne]; · exact g2
      intro e; subst e
      exact (List.pairwise_cons.1 hd.nd).1 d' hd' (by rw [h1, g1])
    · intro w' g1 g2 g3 g4
      refine hN w' g1 (Same.trans (b := w.putObj r (.deferred none)) ⟨rfl, rfl, rfl⟩ g2) (by rw [g3, putObj_size]) fun c hc => ?_
      rw [g4 c hc, putObj_ne (by omega)]
theorem undefs_len (k : Nat) : (undefs k).length = k := by induction k <;> simp_all [undefs]
theorem body_sim (hC : CfgOk P C) (hK : CodesOk C) (hcall : CallOk P call) (hrnd : RndOk P rnd) (hc : ∀ f args, Nice (call f args)) (hrn : ∀ l args, Nice (rnd l args)) {K : Nat} {f : FuncId} {fn : Func} (hfn : C.fn.get f = some fn)
    {args : List AV} {s : St} {w : World} {ρ : Rho} {cargs : List Value} {R : AV × St → Prop} (hr : HR ρ s.H w) (hf : Fr ρ s) (ha : VRs ρ args cargs) (hm : (bodyA C call rnd K fn args s).All R) :
    fn.body.isSome = true ∧ ∀ n, CallsIn Fence.wide n P f ⟨cargs⟩ w (EndR R ρ s w) := by
  unfold bodyA at hm
  cases hb : fn.body with
  | none => rw [hb] at hm; exact hm.elim
  | some c =>
    rw [hb] at hm; simp only at hm
    refine ⟨rfl, fun n => ?_⟩
    rw [M.all_bind] at hm
    obtain ⟨h1, h2⟩ := hC.fn f fn hfn
    refine callsIn_of_wp_marks h1 hb trivial ?_
    have hT : VRs ρ (args ++ undefs (fn.ntmps - args.length)) ((⟨cargs⟩ : Array Value) ++ Array.replicate (fn.ntmps - (⟨cargs⟩ : Array Value).size) undef).toList := by
      have hl := VRs.length _ _ ha
      simp only [Array.toList_append, Array.toList_replicate]
      refine VRs.append _ _ _ _ ha ?_
      rw [show (⟨cargs⟩ : Array Value).size = args.length by simp [hl]]
      exact VRs.undefs _
    refine exec_sim (B := w.heap.size) hC hcall hrnd hc hrn K false (.inl rfl) (fun _ => rfl) c (hK f fn c hfn hb) _ _ s w ρ _ _ hr hf hT (DefOk.nil ρ s.H (Nat.le_refl _)) hm ?_
    intro x s' ρ' w' a' hR hst hr' hT' hd'
    obtain ⟨e, T'⟩ := x
    have fin : ∀ (hR : ((resultsA C T' fn.results.toList).bind (fun vs => M.ret (pack vs)) s').All R), LeavesInM Fence.wide n P fn a'.tmps (EndR R ρ s w) a'.defers .returning w' := by
      intro hR
      rw [M.all_bind] at hR
      refine leaves_sim a'.defers w' hr' hd' fun w2 g1 g2 g3 g4 => ?_
      obtain ⟨vs, cv, k1, k2, k3⟩ := results_sim hC (fn := fn) g1 hT' hR
      refine ⟨cv, k2, pack vs, s', ρ', cv, rfl, k1, ⟨hst.ext, hst.loc, hst.pre, hst.nle, hst.same.trans g2, by rw [g3]; exact hst.size, fun c hc hi => ?_, hst.img, hst.fzl⟩, g1, k3⟩
      rw [g4 c hc]; exact hst.unch c hc hi
    cases e with
    | normal => exact fin hR
    | ret => exact fin hR
    | exit i => exact hR.elim
theorem str_eq {x y : ByteArray} (h : (x == y) = true) : x = y := by
  obtain ⟨⟨x⟩⟩ := x
  obtain ⟨⟨y⟩⟩ := y
  have h : ((⟨x⟩ : Array UInt8) == ⟨y⟩) = true := h
  simp at h
  rw [h]
theorem str_refl (x : ByteArray) : (x == x) = true := by
  obtain ⟨⟨x⟩⟩ := x
  show ((⟨x⟩ : Array UInt8) == ⟨x⟩) = true
  simp
mutual
theorem eqF_eq : ∀ (a b : AV), eqF a b = true → a = b
  | .int k n, w, h => by
    cases w <;> simp only [eqF] at h <;> try (cases h; done)
    rename_i k' m
    by_cases hk : k = k'
    · subst hk; simp at h; rw [h]
    · simp [hk] at h
  | .bool a, w, h => by cases w <;> simp only [eqF] at h <;> try (cases h; done)
                        rename_i b; cases a <;> cases b <;> first | rfl | (cases h; done)
  | .str a, w, h => by cases w <;> simp only [eqF] at h <;> try (cases h; done)
                       rw [str_eq h]
  | .nilp, w, h => by cases w <;> simp only [eqF] at h <;> first | rfl | (cases h; done)
  | .nils, w, h => by cases w <;> simp only [eqF] at h <;> first | rfl | (cases h; done)
  | .nilm, w, h => by cases w <;> simp only [eqF] at h <;> first | rfl | (cases h; done)
  | .empty, w, h => by cases w <;> simp only [eqF] at h <;> first | rfl | (cases h; done)
  | .lst l, w, h => by
    cases w <;> simp only [eqF] at h <;> try (cases h; done)
    rename_i ds; rw [eqFs_eq l ds h]
  | .fptr cs o, w, h => by
    cases w <;> simp only [eqF] at h <;> try (cases h; done)
    rename_i ds o'
    cases hb : Nat.beq o o' with
    | false => rw [hb] at h; cases h
    | true => rw [hb] at h; rw [Nat.eq_of_beq_eq_true hb, eqFs_eq cs ds h]
  | .own _ _, w, h => by simp [eqF] at h
  | .nilf, w, h => by cases w <;> simp only [eqF] at h <;> first | rfl | (cases h; done)
  | .nili, w, h => by cases w <;> simp only [eqF] at h <;> first | rfl | (cases h; done)
  | .undef, w, h => by cases w <;> simp only [eqF] at h <;> first | rfl | (cases h; done)
  | .func f cs, w, h => by
    cases w <;> simp only [eqF] at h <;> try (cases h; done)
    rename_i g ds
    cases hb : Nat.beq f g with
    | false => rw [hb] at h; cases h
    | true => rw [hb] at h; rw [Nat.eq_of_beq_eq_true hb, eqFs_eq cs ds h]
  | .agg cs, w, h => by
    cases w <;> simp only [eqF] at h <;> try (cases h; done)
    rename_i ds; rw [eqFs_eq cs ds h]
  | .tuple cs, w, h => by
    cases w <;> simp only [eqF] at h <;> try (cases h; done)
    rename_i ds; rw [eqFs_eq cs ds h]
  | .ptr _ _, w, h => by simp [eqF] at h
  | .slice .., w, h => by simp [eqF] at h
  | .map _, w, h => by simp [eqF] at h
  | .yield _, w, h => by simp [eqF] at h
theorem eqFs_eq : ∀ (a b : List AV), eqFs a b = true → a = b
  | [], l, h => by cases l <;> simp only [eqFs] at h <;> first | rfl | (cases h; done)
  | a :: r, l, h => by
    cases l with
    | nil => simp [eqFs] at h
    | cons b q =>
      simp only [eqFs] at h
      cases hb : eqF a b with
      | false => rw [hb] at h; cases h
      | true => rw [hb] at h; rw [eqF_eq a b hb, eqFs_eq r q h]
end
mutual
theorem eqF_refl : ∀ (a : AV), a.flat = true → eqF a a = true
  | .int k n, _ => by simp [eqF]
  | .bool a, _ => by cases a <;> rfl
  | .str a, _ => by simp only [eqF]; exact str_refl a
  | .nilp, _ => rfl
  | .nils, _ => rfl
  | .nilm, _ => rfl
  | .empty, _ => rfl
  | .lst l, h => by simp only [AV.flat] at h; simp only [eqF, eqFs_refl l h]
  | .fptr cs o, h => by simp only [AV.flat] at h; simp only [eqF, Nat.beq_refl, eqFs_refl cs h]
  | .own _ _, h => by simp [AV.flat] at h
  | .nilf, _ => rfl
  | .nili, _ => rfl
  | .undef, _ => rfl
  | .func f cs, h => by simp only [AV.flat] at h; simp only [eqF, Nat.beq_refl, eqFs_refl cs h]
  | .agg cs, h => by simp only [AV.flat] at h; simp only [eqF, eqFs_refl cs h]
  | .tuple cs, h => by simp only [AV.flat] at h; simp only [eqF, eqFs_refl cs h]
  | .ptr _ _, h => by simp [AV.flat] at h
  | .slice .., h => by simp [AV.flat] at h
  | .map _, h => by simp [AV.flat] at h
  | .yield _, h => by simp [AV.flat] at h
theorem eqFs_refl : ∀ (l : List AV), flats l = true → eqFs l l = true
  | [], _ => rfl
  | a :: r, h => by
    have f1 : a.flat = true := by cases hh : a.flat <;> simp [flats, hh] at h ⊢
    have f2 : flats r = true := by simpa [flats, f1] using h
    simp only [eqFs, eqF_refl a f1, eqFs_refl r f2]
end
theorem upto_spec {p : Nat → Bool} : ∀ n, upto n p = true → ∀ i, i < n → p i = true
  | 0, _, i, hi => by omega
  | n + 1, h, i, hi => by
    unfold upto at h
    cases hp : p n with
    | false => rw [hp] at h; cases h
    | true =>
      rw [hp] at h
      by_cases e : i = n
      · subst e; exact hp
      · exact upto_spec n h i (by omega)
theorem collapse_all : ∀ (t : Tr (AV × St)) (v : AV), collapse t = some v → t.All fun x => frozen x.2.H x.1 = some v
  | .fail, v, h => by cases h
  | .ret x, v, h => h
  | .ask n k, v, h => by
    unfold collapse at h
    cases h0 : collapse (k 0) with
    | none => rw [h0] at h; cases h
    | some u =>
      rw [h0] at h
      cases n with
      | zero => cases h
      | succ n =>
        simp only at h
        cases hu : upto (n + 1) fun i => isV u (collapse (k i)) with
        | false => rw [hu] at h; cases h
        | true =>
          rw [hu] at h; simp only [Option.some.injEq] at h; subst h
          intro i hi
          have h1 := upto_spec _ hu i hi
          cases hk : collapse (k i) with
          | none => rw [hk] at h1; cases h1
          | some z =>
            rw [hk] at h1
            have : u = z := by
              exact eqF_eq u z h1
            subst this
            exact collapse_all (k i) u hk
theorem upto_of {p : Nat → Bool} : ∀ n, (∀ i, i < n → p i = true) → upto n p = true
  | 0, _ => rfl
  | n + 1, h => by
    unfold upto
    rw [h n (Nat.lt_succ_self n)]
    exact upto_of n fun i hi => h i (by omega)
theorem collapse_of : ∀ (t : Tr (AV × St)) (v : AV), Pos t → v.flat = true → t.All (fun x => frozen x.2.H x.1 = some v) → collapse t = some v
  | .fail, v, _, _, h => h.elim
  | .ret x, v, _, hf, h => h
  | .ask n k, v, hp, hf, h => by
    have hi : ∀ i, i < n → collapse (k i) = some v := fun i hi => collapse_of (k i) v (hp.2 i) hf (h i hi)
    unfold collapse
    rw [hi 0 hp.1]
    cases n with
    | zero => exact absurd hp.1 (by omega)
    | succ n =>
      simp only
      rw [upto_of (n + 1) fun i h => by rw [hi i h]; exact eqF_refl v hf]
theorem oneR_some {sh : Bool} {t : Tr (AV × St)} {x : AV × Heap} (h : oneR sh t = some x) : (∃ v s, t = .ret (v, s) ∧ x.1 = shutIf sh v ∧ s.H = x.2) ∨ (collapse t = some x.1 ∧ x.2 = []) := by
  have key : ∀ t : Tr (AV × St), (match collapse t with | some v => some (v, ([] : Heap)) | none => none) = some x → collapse t = some x.1 ∧ x.2 = [] := by
    intro t h
    cases hc : collapse t with
    | none => rw [hc] at h; cases h
    | some v => rw [hc] at h; simp only [Option.some.injEq] at h; subst h; exact ⟨rfl, rfl⟩
  cases t with
  | ret y => simp only [oneR, Option.some.injEq] at h; subst h; exact .inl ⟨y.1, y.2, rfl, rfl, rfl⟩
  | fail => exact .inr (key _ h)
  | ask n k => exact .inr (key _ h)
mutual
theorem renV_flat {mp : List (Nm × Nm)} : ∀ (a a' : AV), a.flat = true → renV mp a = some a' → a' = a
  | .int k n, a', _, h => by simp only [renV, Option.some.injEq] at h; exact h.symm
  | .bool b, a', _, h => by simp only [renV, Option.some.injEq] at h; exact h.symm
  | .str s, a', _, h => by simp only [renV, Option.some.injEq] at h; exact h.symm
  | .nilp, a', _, h => by simp only [renV, Option.some.injEq] at h; exact h.symm
  | .nils, a', _, h => by simp only [renV, Option.some.injEq] at h; exact h.symm
  | .empty, a', _, h => by simp only [renV, Option.some.injEq] at h; exact h.symm
  | .nilm, a', _, h => by simp only [renV, Option.some.injEq] at h; exact h.symm
  | .nilf, a', _, h => by simp only [renV, Option.some.injEq] at h; exact h.symm
  | .nili, a', _, h => by simp only [renV, Option.some.injEq] at h; exact h.symm
  | .undef, a', _, h => by simp only [renV, Option.some.injEq] at h; exact h.symm
  | .ptr b o, a', f, _ => by simp [AV.flat] at f
  | .slice b o n c ex, a', f, _ => by simp [AV.flat] at f
  | .own b l, a', f, _ => by simp [AV.flat] at f
  | .map b, a', f, _ => by simp [AV.flat] at f
  | .yield b, a', f, _ => by simp [AV.flat] at f
  | .lst l, a', f, h => by
    simp only [AV.flat] at f
    simp only [renV, f, Option.some.injEq] at h; exact h.symm
  | .fptr l o, a', f, h => by
    simp only [AV.flat] at f
    simp only [renV, f, Option.some.injEq] at h; exact h.symm
  | .func g l, a', f, h => by
    simp only [AV.flat] at f
    simp only [renV] at h
    cases hl : renVs mp l with
    | none => rw [hl] at h; cases h
    | some l' => rw [hl] at h; simp only [Option.some.injEq] at h; rw [← h, renVs_flat l l' f hl]
  | .agg l, a', f, h => by
    simp only [AV.flat] at f
    simp only [renV] at h
    cases hl : renVs mp l with
    | none => rw [hl] at h; cases h
    | some l' => rw [hl] at h; simp only [Option.some.injEq] at h; rw [← h, renVs_flat l l' f hl]
  | .tuple l, a', f, h => by
    simp only [AV.flat] at f
    simp only [renV] at h
    cases hl : renVs mp l with
    | none => rw [hl] at h; cases h
    | some l' => rw [hl] at h; simp only [Option.some.injEq] at h; rw [← h, renVs_flat l l' f hl]
theorem renVs_flat {mp : List (Nm × Nm)} : ∀ (a a' : List AV), flats a = true → renVs mp a = some a' → a' = a
  | [], a', _, h => by simp only [renVs, Option.some.injEq] at h; exact h.symm
  | a :: r, a', f, h => by
    simp only [renVs] at h
    cases ha : renV mp a with
    | none => rw [ha] at h; cases h
    | some b =>
      cases hl : renVs mp r with
      | none => rw [ha, hl] at h; cases h
      | some q =>
        rw [ha, hl] at h; simp only [Option.some.injEq] at h
        rw [← h, renV_flat a b (flats_cons f).1 ha, renVs_flat r q (flats_cons f).2 hl]
end
theorem enter_sim (hC : CfgOk P C) (hK : CodesOk C) (hcall : CallOk P call) (hrnd : RndOk P rnd) (hc : ∀ f args, Nice (call f args)) (hrn : ∀ l args, Nice (rnd l args)) (K : Nat) : CallOk P (enterA C call rnd K) := by
  intro f args s w ρ cargs R hr hf ha hm
  have hC' : CfgOk P (C.at f) := ⟨hC.fn, hC.ty, hC.mixed⟩
  have hK' : CodesOk (C.at f) := hK
  unfold enterA at hm
  cases hfn : C.fn.get f with
  | none => rw [hfn] at hm; exact hm.elim
  | some fn =>
    rw [hfn] at hm; simp only at hm
    have hfn' : (C.at f).fn.get f = some fn := hfn
    obtain ⟨h1, h2⟩ := hC.fn f fn hfn
    have plain : (bodyA (C.at f) call rnd K fn args s).All R → _ := fun hm =>
      have hb := body_sim hC' hK' hcall hrnd hc hrn hfn' hr hf ha hm
      (⟨⟨fn, h1, h2, hb.1⟩, hb.2⟩ : (∃ fn, P.funcs[f]? = some fn ∧ (fn.name == "runtime.NumGoroutine") = false ∧ fn.body.isSome = true) ∧ ∀ n, CallsIn Fence.wide n P f ⟨cargs⟩ w (EndR R ρ s w))
    have hand : ∀ sh : Bool, (handA sh (fun args s => bodyA (C.at f) call rnd K fn args s) args s).All R → (∃ fn, P.funcs[f]? = some fn ∧ (fn.name == "runtime.NumGoroutine") = false ∧ fn.body.isSome = true) ∧ ∀ n, CallsIn Fence.wide n P f ⟨cargs⟩ w (EndR R ρ s w) := by
      intro sh hm
      have hm : ((lendM 200 (namesVs false args []) [] []).bind (fun bl =>
        match nodupN bl.1, calm bl.2, renVs (zipN bl.1 (namesFrom [] 0 bl.1.length)) args, renBs (zipN bl.1 (namesFrom [] 0 bl.1.length)) bl.2 with
        | true, true, some args', some xs => (match oneR sh (bodyA (C.at f) call rnd K fn args' ⟨zipB (namesFrom [] 0 bl.1.length) xs, bl.1.length, [], false, []⟩) with
          | some x => (match getAll x.2 (namesFrom [] 0 bl.1.length) with
            | some ys => (match reachL x.2 200 (namesV true x.1 (namesBs true ys [])) (namesFrom [] 0 bl.1.length) [] with
              | some ns => (match nodupN ns.1 with
                | true => nameM.bind fun p =>
                  (match renV (zipN ns.1 (bl.1 ++ namesFrom p.1 p.2 ns.2.length)) x.1, renBs (zipN ns.1 (bl.1 ++ namesFrom p.1 p.2 ns.2.length)) ys, renBs (zipN ns.1 (bl.1 ++ namesFrom p.1 p.2 ns.2.length)) ns.2 with
                  | some v, some ys', some zs => (putAll bl.1 ys').bind fun _ => (newAll zs).bind fun _ => M.ret v
                  | _, _, _ => M.fail)
                | false => M.fail)
              | none => M.fail)
            | none => M.fail)
          | none => M.fail)
        | _, _, _, _ => M.fail) s).All R := hm
      rw [M.all_bind] at hm
      obtain ⟨bs, xs, hm, hg⟩ := lendM_spec _ _ _ _ (by rfl) hm
      simp only at hm
      cases hnd : nodupN bs with
      | false => rw [hnd] at hm; exact hm.elim
      | true =>
        cases hcalm : calm xs with
        | false => rw [hnd, hcalm] at hm; exact hm.elim
        | true =>
          cases hra : renVs (zipN bs (namesFrom [] 0 bs.length)) args with
          | none => rw [hnd, hcalm, hra] at hm; exact hm.elim
          | some args' =>
            cases hrb : renBs (zipN bs (namesFrom [] 0 bs.length)) xs with
            | none => rw [hnd, hcalm, hra, hrb] at hm; exact hm.elim
            | some ls =>
              rw [hnd, hcalm, hra, hrb] at hm; simp only at hm
              have hnd' := nodupN_iff.1 hnd
              obtain ⟨hren, hr0, hf0, _⟩ := lend_HR hr hnd' hg hrb
              cases ho1 : oneR sh (bodyA (C.at f) call rnd K fn args' ⟨zipB (namesFrom [] 0 bs.length) ls, bs.length, [], false, []⟩) with
              | none => rw [ho1] at hm; exact hm.elim
              | some x =>
                rw [ho1] at hm; simp only at hm
                rcases oneR_some ho1 with ⟨v1, s1, hs1, hx1, hs1H⟩ | ⟨hcol, hx2⟩
                rotate_left
                ·
                  have hall := collapse_all _ _ hcol
                  rw [hx2] at hm
                  have hbs : bs = [] := by
                    cases bs with
                    | nil => rfl
                    | cons b r =>
                      exfalso
                      simp only [List.length_cons, namesFrom, getAll, hget_nil] at hm
                      exact hm.elim
                  subst hbs
                  have hb := body_sim (w := w) hC' hK' hcall hrnd hc hrn hfn' hr0 hf0 (renVs_VR hren _ _ _ hra ha).1 hall
                  refine ⟨⟨fn, h1, h2, hb.1⟩, fun n => (hb.2 n).mono ?_⟩
                  rintro e w' ⟨v', s', ρ', cv, rfl, g1, hst, hr', hvr⟩
                  obtain ⟨k1, k2⟩ := back_still hr (by cases ls <;> rfl) hst hr'
                  obtain ⟨j1, j2⟩ := frozen_VR hr' (still_ext hr') still_iced g1 hvr
                  have hx1 : x.1.flat = true := j2
                  simp only [List.length_nil, namesFrom, getAll] at hm
                  cases hre : reachL [] 200 (namesV true x.1 (namesBs true [] [])) [] [] with
                  | none => rw [hre] at hm; exact hm.elim
                  | some r =>
                    rw [hre] at hm; simp only at hm
                    obtain ⟨ns, zs, q1, q2, q3⟩ := reachL_spec _ _ _ _ hre
                    have hns : ns = [] ∧ zs = [] := by
                      cases ns with
                      | nil => simp only [getAll, Option.some.injEq] at q3; exact ⟨rfl, q3.symm⟩
                      | cons a l => simp [getAll] at q3
                    obtain ⟨rfl, rfl⟩ := hns
                    simp only [List.append_nil] at q1 q2
                    rw [q1, q2] at hm
                    have hm : ((match renV (zipN [] []) x.1, renBs (zipN [] []) [], renBs (zipN [] []) [] with
                        | some v, some ys', some zs => (putAll [] ys').bind fun _ => (newAll zs).bind fun _ => M.ret v
                        | _, _, _ => M.fail) s).All R := hm
                    cases e1 : renV (zipN [] []) x.1 with
                    | none => rw [e1] at hm; exact hm.elim
                    | some v2 =>
                      rw [e1] at hm
                      have := renV_flat _ _ hx1 e1
                      subst this
                      exact ⟨x.1, s, _, cv, rfl, hm, k1, k2, VR.flat (ρ := ρ'.still s'.H w') (ρ' := ⟨ρ.pl, (ρ'.still s'.H w').fz⟩) (fun _ _ _ h => h) _ _ j2 j1⟩
                have hall : (bodyA (C.at f) call rnd K fn args' ⟨zipB (namesFrom [] 0 bs.length) ls, bs.length, [], false, []⟩).All (fun y => y = (v1, s1)) := by rw [hs1]; rfl
                have hb := body_sim (w := w) hC' hK' hcall hrnd hc hrn hfn' hr0 hf0 (renVs_VR hren _ _ _ hra ha).1 hall
                refine ⟨⟨fn, h1, h2, hb.1⟩, fun n => (hb.2 n).mono ?_⟩
                rintro e w' ⟨v', s', ρ', cv, rfl, g1, hst, hr', hvr⟩
                obtain ⟨rfl, rfl⟩ : v' = v1 ∧ s' = s1 := by injection g1 with a b; exact ⟨a, b⟩
                replace hvr : VR ρ' x.1 cv := by
                  rw [hx1]
                  cases sh with
                  | false => exact hvr
                  | true => exact VR.shut _ _ hvr
                rw [← hs1H] at hm
                cases hy : getAll s'.H (namesFrom [] 0 bs.length) with
                | none => rw [hy] at hm; exact hm.elim
                | some ys =>
                  rw [hy] at hm; simp only at hm
                  cases hre : reachL s'.H 200 (namesV true x.1 (namesBs true ys [])) (namesFrom [] 0 bs.length) [] with
                  | none => rw [hre] at hm; exact hm.elim
                  | some r =>
                    rw [hre] at hm; simp only at hm
                    obtain ⟨ns, zs, q1, q2, q3⟩ := reachL_spec _ _ _ _ hre
                    rw [q1, q2, List.nil_append] at hm
                    cases hnn : nodupN (namesFrom [] 0 bs.length ++ ns) with
                    | false => rw [hnn] at hm; exact hm.elim
                    | true =>
                      rw [hnn] at hm; simp only at hm
                      have hm : ((match renV (zipN (namesFrom [] 0 bs.length ++ ns) (bs ++ namesFrom s.pre s.n zs.length)) x.1, renBs (zipN (namesFrom [] 0 bs.length ++ ns) (bs ++ namesFrom s.pre s.n zs.length)) ys, renBs (zipN (namesFrom [] 0 bs.length ++ ns) (bs ++ namesFrom s.pre s.n zs.length)) zs with
                        | some v, some ys', some zs => (putAll bs ys').bind fun _ => (newAll zs).bind fun _ => M.ret v
                        | _, _, _ => M.fail) s).All R := hm
                      cases e1 : renV (zipN (namesFrom [] 0 bs.length ++ ns) (bs ++ namesFrom s.pre s.n zs.length)) x.1 with
                      | none => rw [e1] at hm; exact hm.elim
                      | some v2 =>
                        cases e2 : renBs (zipN (namesFrom [] 0 bs.length ++ ns) (bs ++ namesFrom s.pre s.n zs.length)) ys with
                        | none => rw [e1, e2] at hm; exact hm.elim
                        | some ys' =>
                          cases e3 : renBs (zipN (namesFrom [] 0 bs.length ++ ns) (bs ++ namesFrom s.pre s.n zs.length)) zs with
                          | none => rw [e1, e2, e3] at hm; exact hm.elim
                          | some zs' =>
                            rw [e1, e2, e3] at hm; simp only at hm
                            rw [M.all_bind] at hm
                            obtain ⟨s2, hm, p1, p2, p3, p4⟩ := putAll_spec hm
                            rw [M.all_bind] at hm
                            obtain ⟨s3, hm, n1, n2, n3, n4⟩ := newAll_spec hm
                            obtain ⟨p5, p6⟩ := p4 hnd'
                            rw [p1, p2] at n3 n4
                            obtain ⟨ρ2, k1, k2, k3⟩ := hand_back hr hf hnd' hcalm hg hrb hst hr' hvr hy q3 (nodupN_iff.1 hnn) rfl e1 e2 e3 p5 p6 p1 p2 n3 n4 (n1.trans p1) (by rw [n2, p2])
                            exact ⟨v2, s3, ρ2, cv, rfl, hm, k1, k2, k3⟩
    have hm : ((match C.mode.get f with
      | some 1 => (match flats (shuts args) with
        | true => M.of (collapse (bodyA (C.at f) call rnd K fn (shuts args) ⟨[], 0, [], false, []⟩))
        | false => M.fail)
      | some 3 => handA false (fun args s => bodyA (C.at f) call rnd K fn args s) args
      | some 4 => handA true (fun args s => bodyA (C.at f) call rnd K fn args s) args
      | _ => bodyA (C.at f) call rnd K fn args) s).All R := hm
    obtain ⟨o, ho⟩ : ∃ o, o = C.mode.get f := ⟨_, rfl⟩
    rw [← ho] at hm
    rcases o with _ | _ | _ | _ | _ | _ | k
    · exact plain hm
    · exact plain hm
    ·
      cases hfl : flats (shuts args) with
      | false => rw [hfl] at hm; exact hm.elim
      | true =>
        rw [hfl] at hm
        obtain ⟨v, hv, hR⟩ := (M.all_of _ _ _).1 hm
        have hall := collapse_all _ v hv
        have hb := body_sim (w := w) (ρ := ⟨fun _ => none, ρ.fz⟩) (s := ⟨[], 0, [], false, []⟩) hC' hK' hcall hrnd hc hrn hfn' ⟨fun b x h => (by simp at h), fun b b' x x' p p' h => (by simp at h), fun b m l e h => (by simp at h), hr.frz, fun b x p h => (by simp at h)⟩ (fun _ _ _ => rfl)
          (VRs.flat (ρ := ρ) (ρ' := ⟨fun _ => none, ρ.fz⟩) (fun _ _ _ h => h) _ _ hfl (VRs.shut _ _ ha)) hall
        refine ⟨⟨fn, h1, h2, hb.1⟩, fun n => (hb.2 n).mono ?_⟩
        rintro e w' ⟨v', s', ρ', cv, rfl, g1, hst, hr', hvr⟩
        obtain ⟨k1, k2⟩ := back_still hr rfl hst hr'
        obtain ⟨j1, j2⟩ := frozen_VR hr' (still_ext hr') still_iced g1 hvr
        exact ⟨v, s, _, cv, rfl, hR, k1, k2, VR.flat (ρ := ρ'.still s'.H w') (ρ' := ⟨ρ.pl, (ρ'.still s'.H w').fz⟩) (fun _ _ _ h => h) _ _ j2 j1⟩
    · exact plain hm
    · exact hand false hm
    · exact hand true hm
    · exact plain hm
theorem setAll_spec {ρ : Rho} : ∀ (ps : List Nat) (args : List AV) (T T' : List AV) (cargs : List Value) (tmps : Array Value), setAll T ps args = some T' → VRs ρ T tmps.toList → VRs ρ args cargs →
    cargs.length = ps.length ∧ VRs ρ T' ((ps.zip cargs).foldl (fun (tmps : Array Value) (x : Nat × Value) => tmps.setIfInBounds x.1 x.2) tmps).toList
  | [], [], T, T', cargs, tmps, h, hT, ha => by
    simp only [setAll, Option.some.injEq] at h; subst h
    simp only [VRs] at ha; subst ha
    exact ⟨rfl, hT⟩
  | p :: ps, v :: vs, T, T', cargs, tmps, h, hT, ha => by
    simp only [VRs] at ha
    obtain ⟨cv, t, rfl, h1, h2⟩ := ha
    have hT' : VRs ρ (setNth T p v) (tmps.setIfInBounds p cv).toList := by rw [Array.toList_setIfInBounds]; exact VRs.set _ _ hT p v cv h1
    obtain ⟨g1, g2⟩ := setAll_spec ps vs _ T' t _ (by simpa [setAll] using h) hT' h2
    exact ⟨by simp [g1], by simpa using g2⟩
  | [], _ :: _, _, _, _, _, h, _, _ => by simp [setAll] at h
  | _ :: _, [], _, _, _, _, h, _, _ => by simp [setAll] at h
theorem round_sim (hC : CfgOk P C) (hcall : CallOk P call) (hrnd : RndOk P rnd) (hc : ∀ f args, Nice (call f args)) (hrn : ∀ l args, Nice (rnd l args)) (K : Nat) : RndOk P (roundA C call rnd K) := by
  intro l args s w ρ cargs R p hr hf ha hp hm
  unfold roundA at hm
  rw [M.all_bind] at hm
  obtain ⟨x, hx, hm⟩ := (getM_all _ _ _).1 hm
  cases x with
  | loop T ps as bd st pe =>
    simp only at hm
    cases hsa : setAll T ps args with
    | none => rw [hsa] at hm; exact hm.elim
    | some T' =>
      rw [hsa] at hm; simp only at hm
      obtain ⟨q, hq, hbo⟩ := hr.blocks _ _ hx
      rw [hp] at hq; obtain rfl := Option.some.inj hq
      obtain ⟨r, ho, h1, h2, h3, h4, h5, h6, h7, h8⟩ := hbo.loop_inv
      obtain ⟨g1, g2⟩ := setAll_spec ps args T T' cargs r.tmps hsa h6 ha
      have hsz : (⟨cargs⟩ : Array Value).size = r.params.size := by simp [g1, ← h3]
      refine ⟨r.fn, _, r.assign, r.body, run_yield ho hsz, fun n => ?_⟩
      refine roundIn_of_wpIn trivial ?_
      rw [M.all_bind] at hm
      have hT' : VRs ρ T' ((r.params.zip ⟨cargs⟩).foldl (fun tmps (x : Nat × Value) => tmps.setIfInBounds x.1 x.2) r.tmps).toList := by
        have e : (r.params.zip ⟨cargs⟩) = (⟨ps.zip cargs⟩ : Array (Nat × Value)) := by
          apply Array.ext'; simp [← h3]
        rw [e]; simpa using g2
      rw [h4, h5]
      refine exec_sim (B := 0) hC hcall hrnd hc hrn K true (.inr ⟨_, rfl⟩) (fun h => by cases h) as h7 _ _ s w ρ _ _ hr hf hT' (DefOk.nil ρ s.H (Nat.zero_le _)) hm ?_
      intro x s1 ρ1 w1 a1 hR hst1 hr1 hT1 _
      obtain ⟨e, T1⟩ := x
      cases e with
      | exit i => exact hR.elim
      | ret => exact hR.elim
      | normal =>
        simp only at hR
        rw [M.all_bind] at hR
        obtain ⟨y, hy, hR⟩ := (getM_all _ _ _).1 hR
        cases y with
        | loop T2 ps2 as2 bd2 st2 pe2 =>
          cases st2 with
          | ready =>
            simp only at hR
            rw [M.all_bind] at hR
            obtain ⟨_, hR⟩ := (putM_all _ _ _ _).1 hR
            rw [M.all_bind] at hR
            have hp1 := hst1.ext.pl _ _ hp
            obtain ⟨q, hq, hbo⟩ := hr1.blocks _ _ hy
            rw [hp1] at hq; obtain rfl := Option.some.inj hq
            obtain ⟨r1, ho1, k1, k2, _⟩ := hbo.loop_inv
            obtain ⟨hst2, hr2⟩ := step_loop (st' := .busy) (pe' := pe2) hr1 hy hp1 ho1 rfl rfl
            have e2 : ({ r1 with state := .busy } : Loop) = { r1 with state := .busy, pending := pe2 } := by rw [← k2]
            refine ⟨_, run_beginRound ho1 k1, ?_⟩
            rw [e2]
            have hst12 := hst1.trans hst2
            refine exec_sim (B := 0) hC hcall hrnd hc hrn K true (.inr ⟨_, rfl⟩) (fun h => by cases h) bd h8 T1 a1 _ _ ρ1 _ _ hr2 (hst12.fr hf) hT1 ?_ hR ?_
            · exact (by assumption : DefOk 0 ρ1 s1.H w1 a1.defers).step hst2
            intro z s3 ρ3 w3 a3 hR hst3 hr3 hT3 _
            obtain ⟨e, T3⟩ := z
            rw [M.all_bind] at hR
            obtain ⟨u, hu, hR⟩ := (getM_all _ _ _).1 hR
            cases u with
            | loop T4 ps4 as4 bd4 st4 pe4 =>
              have hp3 := hst3.ext.pl _ _ hp1
              obtain ⟨q, hq, hbo⟩ := hr3.blocks _ _ hu
              rw [hp3] at hq; obtain rfl := Option.some.inj hq
              obtain ⟨r3, ho3, _⟩ := hbo.loop_inv
              have hst := hst12.trans hst3
              have fin : ∀ (j : Option Code), ((putM l (.loop T4 ps4 as4 bd4 (if j.isNone then .ready else .done) j)).bind (fun _ => M.ret (.bool j.isNone)) s3).All R → ∃ v w', (Instr.endRound p.blk j).run P w3 = .ok v w' ∧ EndR R ρ s w (.returned v) w' := by
                intro j hR
                rw [M.all_bind] at hR
                obtain ⟨_, hR⟩ := (putM_all _ _ _ _).1 hR
                obtain ⟨hst4, hr4⟩ := step_loop (st' := if j.isNone then .ready else .done) (pe' := j) hr3 hu hp3 ho3 rfl rfl
                exact ⟨_, _, run_endRound j ho3, _, _, _, _, rfl, hR, hst.trans hst4, hr4, rfl⟩
              cases e with
              | normal => exact fin none hR
              | exit i => exact fin (some (.exit i)) hR
              | ret => exact fin (some .ret) hR
            | _ => exact hR.elim
          | _ => exact hR.elim
        | _ => exact hR.elim
  | _ => exact hm.elim
theorem mach_sim (hC : CfgOk P C) (hK : CodesOk C) : ∀ K, CallOk P (acall C K) ∧ RndOk P (around C K)
  | 0 => ⟨fun _ _ _ _ _ _ _ _ _ _ hm => hm.elim, fun _ _ _ _ _ _ _ _ _ _ _ _ hm => hm.elim⟩
  | K + 1 => by
    obtain ⟨h1, h2⟩ := mach_sim hC hK K
    obtain ⟨n1, n2⟩ := Nice.mach C K
    exact ⟨by rw [acall_succ]; exact enter_sim hC hK h1 h2 n1 n2 (K + 1), by rw [around_succ]; exact round_sim hC h1 h2 n1 n2 (K + 1)⟩
end
end
end Go.Am
namespace Go.Am
open Go
noncomputable section
def AllNT {α : Type} (Q : Nat → α → Prop) : NT α → Prop
  | .leaf => True
  | .node k v l r => Q k v ∧ AllNT Q l ∧ AllNT Q r
theorem AllNT.get {α : Type} {Q : Nat → α → Prop} : ∀ {t : NT α} {n : Nat} {v : α}, AllNT Q t → t.get n = some v → Q n v
  | .leaf, n, v, _, h => by cases h
  | .node k u l r, n, v, ha, h => by
    have h : (match Nat.beq n k with | true => some u | false => (match Nat.ble n k with | true => l.get n | false => r.get n)) = some v := h
    cases hb : Nat.beq n k with
    | true =>
      rw [hb] at h
      have := Nat.eq_of_beq_eq_true hb
      cases h; subst this; exact ha.1
    | false =>
      rw [hb] at h
      cases hl : Nat.ble n k with
      | true => rw [hl] at h; exact ha.2.1.get h
      | false => rw [hl] at h; exact ha.2.2.get h
def aggD : TypeDesc → Bool
  | .struct _ | .array _ _ => true
  | _ => false
def boolEq : Bool → Bool → Bool
  | true, b => b
  | false, b => notB b
def cmpOk (P : Program) (t : TypeId) (i : TI) : Bool :=
  match i.cmp with
  | false => true
  | true => notB (P.stoodInHeld t) && notB (P.eqGuardType P.depth t) && (match i.desc with | .struct fs => fs.toList.all fun f => f.name != "_" | _ => true)
def fieldsOk (P : Program) (i : TI) : Bool := match i.desc with | .struct fs => fs.toList.all fun f => (P.info? f.type).isSome | _ => true
def tyB (P : Program) (t : TypeId) (i : TI) : Bool := boolEq (aggD i.desc) i.agg && fieldsOk P i && cmpOk P t i
theorem tyOk_of {P : Program} {t : TypeId} {i : TI} (h1 : (P.underlying t, (P.info? t).map fun j => (j.size, j.bytes, j.zero.bind ofConst)) = (some i.desc, some (i.size, i.bytes, i.zero))) (h2 : tyB P t i = true) : TyOk P t i := by
  rw [Prod.mk.injEq] at h1
  obtain ⟨h1, h3⟩ := h1
  unfold tyB at h2
  simp only [Bool.and_eq_true] at h2
  obtain ⟨⟨h4, h5⟩, h6⟩ := h2
  refine ⟨h1, ?_, ?_, ?_, ?_⟩
  · cases hj : P.info? t with
    | none => rw [hj] at h3; cases h3
    | some j =>
      rw [hj] at h3
      simp only [Option.map_some, Option.some.injEq, Prod.mk.injEq] at h3
      obtain ⟨g1, g2, g3⟩ := h3
      refine ⟨j, rfl, g1, g2, fun z hz => ?_⟩
      rw [hz] at g3
      cases hv : j.zero with
      | none => rw [hv] at g3; cases g3
      | some v => rw [hv] at g3; exact ⟨v, rfl, g3⟩
  · have : i.agg = aggD i.desc := by cases h : aggD i.desc <;> rw [h] at h4 <;> cases hb : i.agg <;> simp_all [boolEq, notB]
    rw [this]
    cases i.desc <;> simp [aggD]
  · intro fs hfs f hf
    unfold fieldsOk at h5
    rw [hfs] at h5
    simp only [List.all_eq_true] at h5
    have := h5 f (by simpa using hf)
    exact Option.isSome_iff_exists.1 this
  · intro hc
    unfold cmpOk at h6
    rw [hc] at h6
    simp only [Bool.and_eq_true] at h6
    obtain ⟨⟨g1, g2⟩, g3⟩ := h6
    have nb : ∀ b, notB b = true → b = false := fun b hb => by cases b <;> simp_all [notB]
    refine ⟨nb _ g1, nb _ g2, fun fs hfs f hf => ?_⟩
    rw [hfs] at g3
    simp only [List.all_eq_true] at g3
    have := g3 f (by simpa using hf)
    simpa using this
def codesB : NT Func → Bool
  | .leaf => true
  | .node _ v l r => andB (match v.body with | some c => codeOk c false | none => true) (andB (codesB l) (codesB r))
theorem codesB_spec : ∀ {t : NT Func}, codesB t = true → AllNT (fun _ v => ∀ c, v.body = some c → codeOk c false = true) t
  | .leaf, _ => trivial
  | .node k v l r, h => by
    obtain ⟨h1, h2⟩ := andB_true (h : andB _ _ = true)
    obtain ⟨h2, h3⟩ := andB_true h2
    refine ⟨fun c hc => ?_, codesB_spec h2, codesB_spec h3⟩
    rw [hc] at h1; exact h1
theorem codesOk_of {C : Cfg} (h : codesB C.fn = true) : CodesOk C := fun f fn c hf hc => (codesB_spec h).get hf c hc
theorem cfgOk_of {P : Program} {C : Cfg} (h1 : AllNT (fun f fn => P.funcs[f]? = some fn ∧ (fn.name == "runtime.NumGoroutine") = false) C.fn) (h2 : AllNT (fun t i => TyOk P t i) C.ty) (h3 : P.follows .mixedOrders = true) : CfgOk P C :=
  ⟨fun f fn h => h1.get h, fun t i h => h2.get h, h3⟩
end
end Go.Am
namespace Go.Am
open Go Go.RowKit Go.WideShapes Go.ChangeShapes
section
variable {P : Program} {C : Cfg}
end
section
variable {H : Type} {enc : TypeId × Value → H} {P : Program}
theorem trodAll_below (hl : laidOutB P = true) {W W' : World} (hb : Below W.heap.size W W') : ∀ (ts : List TypeId) (vs : List Value) (ds : List (DataW H)) (ps : List MemPlace), (∀ x ∈ ps, x.block < W.heap.size) → (∀ t ∈ ts, P.readableRec t = true ∧ t < P.types.size) →
    DataW.TrodAll enc P W 0 (fun _ => true) true ts vs ds ps → ∀ sp : Nat → Bool, (∀ p ∈ ps, sp p.block = true) → DataW.TrodAll enc P W' 0 sp true ts vs ds ps
  | [], [], [], ps, _, _, h, sp, hs => h
  | t :: ts, v :: vs, d :: ds, ps, hlt, ht, h, sp, hs => by
    obtain ⟨p, q, h1, h2, rfl⟩ := h
    refine ⟨p, q, ?_, trodAll_below hl hb ts vs ds q (fun x hx => hlt x (List.mem_append_right _ hx)) (fun t' h' => ht t' (List.mem_cons_of_mem _ h')) h2 sp fun x hx => hs x (List.mem_append_right _ hx), rfl⟩
    exact WideElems.Trod_stays hl (ht t List.mem_cons_self).1 (ht t List.mem_cons_self).2 h1 (fun x hx => hb.same (hlt x (List.mem_append_left _ hx))) (fun x hx => hs x (List.mem_append_left _ hx))
  | [], [], _ :: _, _, _, _, h, _, _ => h.elim
  | [], _ :: _, [], _, _, _, h, _, _ => h.elim
  | [], _ :: _, _ :: _, _, _, _, h, _, _ => h.elim
  | _ :: _, [], [], _, _, _, h, _, _ => h.elim
  | _ :: _, [], _ :: _, _, _, _, h, _, _ => h.elim
  | _ :: _, _ :: _, [], _, _, _, h, _, _ => h.elim
end
end Go.Am
namespace Go.Am
open Go
def isTrue (t : Tr (AV × St)) : Bool := match t with | .ret x => (match x.1 with | .bool b => b | _ => false) | _ => false
end Go.Am
namespace Go.Am
open Go Go.RowKit Go.WideShapes Go.ChangeShapes
section
variable {H : Type} {enc : TypeId × Value → H} {P : Program}
theorem law_post {f : Func} {s : ChangeSpec} {W W' : World} {args : Array Value} {ds : List (DataW H)} {before : List MemPlace} {tb : TypeId} (hl : laidOutB P = true) (hpar : ∀ t ∈ f.params.toList, P.readableRec t = true ∧ t < P.types.size)
    (hvars : s.vars = []) (hrt : f.resultTypes = #[tb]) (htb : P.underlying tb = some .bool) (hW : DataW.Whole enc P f.params.toList s.vars false W args.toList ds [] before) (hfn : s.fn H ds = { results := [.lit (.bool true)], args := ds })
    (hb : Below W.heap.size W W') : s.post enc P f false true false false W args (.bool true) W' := by
  have hlt : ∀ p ∈ before, p.block < W.heap.size := fun p hp => hW.lt p hp
  have hW2 := hW
  obtain ⟨p, q, h1, h2, h3, _, _⟩ := hW2
  rw [hvars] at h2
  have hq : q = [] := h2
  subst hq
  simp only [List.append_nil] at h3; subst h3
  have hfn' : s.fn H (ds ++ []) = { results := [.lit (.bool true)], args := ds } := by rw [List.append_nil]; exact hfn
  refine ⟨ds, [], before, [], before, [], hW, ?_, ?_, ?_, World.keptBut_mono (fun x hx => ⟨hx, .inr (.inl hx)⟩) (hb.frame (· ∈ before)), fun h => by cases h⟩
  · rw [hfn', hrt]
    exact trodAll_cons_mk (shut_bool htb _) trodAll_mk0
  · rw [hfn']
    exact trodAll_below hl hb _ _ _ _ hlt hpar h1 _ fun x hx => by simpa using hlt x hx
  · rw [hfn', hvars]; rfl
end
end Go.Am
namespace Go.Am
open Go Go.RowKit
structure Yes (t : Tr (AV × St)) : Prop where
  all : t.All fun x => x.1 = .bool true
theorem joined_of {P : Program} {f : FuncId} {fn : Func} {s : ChangeSpec} {c : OpenClaim} (h1 : laidOutB P = true) (h2 : mapsRowed P = true) (h3 : (P.stops == []) = true) (h4 : (P.stopKnobs == []) = true) (h5 : (c.plainKeys == P.plainKeys) = true) (h6 : P.stopsHeard = true) (h7 : P.mayEnter = true)
    (h8 : (c.lifted == P.liftsFinal) = true) (h9 : (P.make == some c.make) = true) (a1 : c.wf (OpenSpec.ofChange s) = true) (a2 : fn.params.all (P.readableRec ·) = true) (a3 : namedTie P c.named s.vars = true) (a4 : (c.stops == []) = true) (a5 : (c.knobs == []) = true)
    (b1 : (c.inPlace == P.inPlace f) = true) (b2 : (c.unfollowed == P.unfollowed f) = true) (b3 : (c.recurses == P.recurses f) = true) (b4 : (c.named == P.varsNamed f) = true)
    (rest : ((c.maps == (fn.params.toList ++ s.plain.varTypes P).any (P.mapsRec ·)) && (c.ifaces == (fn.params.toList ++ s.plain.varTypes P).any (P.ifacesRec ·)) && (c.mapsOut == P.mapsAmong fn.resultTypes.toList) &&
      (c.loops == (fn.params.toList ++ s.plain.varTypes P).any (P.loopsFrom ·)) && (c.wideKeys == (fn.params.toList ++ s.plain.varTypes P ++ fn.resultTypes.toList).any (P.wideKeysFrom ·)) &&
      s.vars.all (P.varReadable ·) && fn.resultTypes.all (fun t => P.readableRec t && decide (t < P.types.size)) && (c.ifacesOut == fn.resultTypes.toList.any (P.ifacesRec ·)) && (c.loopsOut == fn.resultTypes.toList.any (P.loopsFrom ·)) && c.shortTexts.isNone &&
      (c.kinds == (if c.domain.isEmpty then [] else fn.params.toList.map fun t => match P.underlying t with | some (.int k) => some k | _ => none)) && (c.pinned == c.pinnedBy) &&
      (c.veiled == (fn.params.toList ++ s.plain.varTypes P ++ fn.resultTypes.toList).any (P.veiledRec ·)) && c.veiledFits P fn.params.toList (fn.params.toList ++ s.plain.varTypes P ++ fn.resultTypes.toList)) = true) :
    joinedFacts P f fn s c = true := by
  simp only [Bool.and_eq_true] at rest
  simp only [joinedFacts, Bool.and_eq_true]
  obtain ⟨⟨⟨⟨⟨⟨⟨⟨⟨⟨⟨⟨⟨r1, r2⟩, r3⟩, r4⟩, r5⟩, r6⟩, r7⟩, r8⟩, r9⟩, r10⟩, r11⟩, r12⟩, r13⟩, r14⟩ := rest
  exact ⟨⟨⟨⟨⟨⟨⟨⟨⟨⟨⟨⟨⟨⟨⟨⟨⟨⟨⟨⟨⟨⟨⟨⟨⟨⟨⟨⟨⟨⟨⟨a1, h1⟩, h2⟩, a2⟩, a3⟩, a4⟩, h3⟩, a5⟩, h4⟩, b1⟩, b2⟩, b3⟩, b4⟩, r1⟩, r2⟩, r3⟩, r4⟩, r5⟩, r6⟩, r7⟩, r8⟩, r9⟩, h5⟩, r10⟩, h6⟩, h7⟩, h8⟩, h9⟩, r11⟩, r12⟩, r13⟩, r14⟩
end Go.Am
namespace Go.Am
open Go Go.RowKit Go.WideShapes Go.ChangeShapes
noncomputable section
def Rho.all (w : World) : Rho := ⟨fun _ => none, fun c k => match w.heap[c]? with | some (.cells ccs _ _) => ccs[k]? | _ => none⟩
theorem all_HR (w : World) : HR (Rho.all w) [] w := by
  refine ⟨fun b x h => (by simp at h), fun b b' x x' p p' h => (by simp at h), fun b m l e h => (by simp at h), fun c k v h => ?_, fun b x p h => (by simp at h)⟩
  simp only [Rho.all] at h
  cases ho : w.heap[c]? with
  | none => rw [ho] at h; cases h
  | some o =>
    rw [ho] at h
    cases o with
    | cells ccs e fr => exact ⟨ccs, e, fr, rfl, h⟩
    | _ => cases h
def Content (P : Program) : Nat → TypeId → List AV → Prop
  | 0, _, _ => False
  | d + 1, t, cs => match P.underlying t with
    | some .bool => ∃ b, cs = [.bool b]
    | some (.int k) => ∃ n, cs = [.int k n] ∧ (Lit.int k n).wf = true
    | some .string => ∃ s, cs = [.str s] ∧ s.size ≤ maxLen
    | some (.slice e) => ∃ rows : List (List AV), cs = [.lst (rows.map (rowA (P.cellsOf e)))] ∧ rows.length ≤ maxLen ∧ ∀ r ∈ rows, r.length = P.cellsOf e ∧ Content P d e r
    | some (.struct fs) => ∃ pcs : List (List AV), cs = pcs.flatten ∧ pcs.length = fs.toList.length ∧ ∀ (i : Nat) (f : Field) (pc : List AV), fs.toList[i]? = some f → pcs[i]? = some pc → pc.length = P.cellsOf f.type ∧ Content P d f.type pc
    | _ => False
def tiles (P : Program) : Nat → List Field → Option Nat
  | o, [] => some o
  | o, f :: r => match Nat.beq f.offset o with | true => tiles P (o + P.cellsOf f.type) r | false => none
def suppB (P : Program) : Nat → TypeId → Bool
  | 0, _ => false
  | d + 1, t => match P.underlying t with
    | some .bool | some (.int _) | some .string => true
    | some (.slice e) => Nat.ble 1 (P.cellsOf e) && suppB P d e
    | some (.struct fs) => decide (tiles P 0 fs.toList = some (P.cellsOf t)) && fs.toList.all fun f => suppB P d f.type
    | _ => false
theorem tiles_cut (P : Program) (cs : List Value) : ∀ (fs : List Field) (o m : Nat), tiles P o fs = some m → m ≤ cs.length → ((fs.map fun f => (cs.drop f.offset).take (P.cellsOf f.type)).flatten = (cs.drop o).take (m - o)) ∧ o ≤ m
  | [], o, m, h, _ => by simp only [tiles, Option.some.injEq] at h; subst h; simp
  | f :: r, o, m, h, hm => by
    unfold tiles at h
    cases hb : Nat.beq f.offset o with
    | false => rw [hb] at h; cases h
    | true =>
      rw [hb] at h
      have ho := Nat.eq_of_beq_eq_true hb
      obtain ⟨h1, h2⟩ := tiles_cut P cs r _ m h hm
      refine ⟨?_, by omega⟩
      simp only [List.map_cons, List.flatten_cons, h1, ho]
      have : m - o = P.cellsOf f.type + (m - (o + P.cellsOf f.type)) := by omega
      rw [this, List.take_add, List.drop_drop]
section
variable {H0 : Type} {enc : TypeId × Value → H0} {P : Program} {w : World} {sp : Nat → Bool} {held : Bool}
def ReadOk (P : Program) (w : World) (d : Nat) (t : TypeId) (cs : List Value) : Prop :=
  ∃ acs : List AV, VRs (Rho.all w) acs cs ∧ (∀ c ∈ acs, c.sc = true) ∧ Content P d t acs
theorem readAll {d : Nat} : ∀ (L : List (TypeId × List Value)), (∀ e ∈ L, ReadOk P w d e.1 e.2) →
    ∃ pcs : List (List AV), pcs.length = L.length ∧ VRs (Rho.all w) pcs.flatten (L.map (·.2)).flatten ∧ (∀ c ∈ pcs.flatten, c.sc = true) ∧ ∀ (i : Nat) e pc, L[i]? = some e → pcs[i]? = some pc → pc.length = e.2.length ∧ Content P d e.1 pc ∧ VRs (Rho.all w) pc e.2 ∧ ∀ c ∈ pc, c.sc = true
  | [], _ => ⟨[], rfl, by simp [VRs], by simp, fun i e pc h => by simp at h⟩
  | e :: L, h => by
    obtain ⟨acs, a1, a2, a3⟩ := h e List.mem_cons_self
    obtain ⟨pcs, b1, b2, b3, b4⟩ := readAll L fun e' he => h e' (List.mem_cons_of_mem _ he)
    refine ⟨acs :: pcs, by simp [b1], ?_, ?_, ?_⟩
    · simp only [List.flatten_cons, List.map_cons]
      exact VRs.append _ _ _ _ a1 b2
    · intro c hc
      simp only [List.flatten_cons, List.mem_append] at hc
      exact hc.elim (a2 c) (b3 c)
    · intro i e' pc he hp
      cases i with
      | zero => simp at he hp; subst he; subst hp; exact ⟨VRs.length _ _ a1, a3, a1, a2⟩
      | succ i => simp at he hp; exact b4 i e' pc he hp
theorem rows_VR {ρ : Rho} {z : Nat} : ∀ (rows : List (List AV)) (fs : List (List Value)), rows.length = fs.length → (∀ (i : Nat) r f, rows[i]? = some r → fs[i]? = some f → VRs ρ r f ∧ (∀ c ∈ r, c.sc = true) ∧ f.length = z) →
    ∃ vs, VRs ρ (rows.map (rowA z)) vs ∧ (∀ a ∈ rows.map (rowA z), a.okc = true) ∧ (∀ v ∈ vs, (vcells v).length = z) ∧ vs.flatMap vcells = fs.flatten
  | [], fs, hl, _ => by
    have : fs = [] := List.eq_nil_of_length_eq_zero (by simpa using hl.symm)
    subst this; exact ⟨[], by simp [VRs], by simp, by simp, by simp⟩
  | r :: rows, [], hl, _ => by simp at hl
  | r :: rows, f :: fs, hl, h => by
    obtain ⟨h1, h2, h3⟩ := h 0 r f rfl rfl
    obtain ⟨v, g1, g2, g3⟩ := rowA_VR (z := z) h1 h2
    obtain ⟨vs, k1, k2, k3, k4⟩ := rows_VR rows fs (by simpa using hl) fun i r' f' e1 e2 => h (i + 1) r' f' (by simpa using e1) (by simpa using e2)
    refine ⟨v :: vs, by simp only [List.map_cons, VRs]; exact ⟨v, vs, rfl, g1, k1⟩, ?_, ?_, by rw [List.flatMap_cons, g3, k4, List.flatten_cons]⟩
    · intro a ha
      simp only [List.map_cons, List.mem_cons] at ha
      rcases ha with rfl | ha
      · exact g2
      · exact k2 a ha
    · intro u hu
      rcases List.mem_cons.1 hu with rfl | hu
      · rw [g3, h3]
      · exact k3 u hu
theorem cells_list {base : Nat} {a : Addr} {n : Nat} {l : List Value} (h : w.cells? base a n = some l) : l.length = n ∧ ∀ i v, l[i]? = some v → w.cell? (a.add i) = some v := by
  unfold World.cells? at h
  split at h
  · have key : ∀ (is : List Nat) (l : List Value), is.mapM (fun i => w.cell? (a.add i)) = some l → l.length = is.length ∧ ∀ (k : Nat) v, l[k]? = some v → ∃ i, is[k]? = some i ∧ w.cell? (a.add i) = some v := by
      intro is
      induction is with
      | nil => intro l h; simp at h; subst h; simp
      | cons j r ih =>
        intro l h
        rw [List.mapM_cons] at h
        cases hj : w.cell? (a.add j) with
        | none => rw [hj] at h; cases h
        | some u =>
          rw [hj] at h
          cases hr : r.mapM (fun i => w.cell? (a.add i)) with
          | none => rw [hr] at h; cases h
          | some q =>
            rw [hr] at h
            have h : u :: q = l := by simpa using h
            subst h
            obtain ⟨g1, g2⟩ := ih q hr
            refine ⟨by simp [g1], fun k v hk => ?_⟩
            cases k with
            | zero => simp at hk; subst hk; exact ⟨j, rfl, hj⟩
            | succ k => simp at hk; obtain ⟨i, h1, h2⟩ := g2 k v hk; exact ⟨i, by simpa using h1, h2⟩
    obtain ⟨g1, g2⟩ := key _ _ h
    refine ⟨by simpa using g1, fun i v hi => ?_⟩
    obtain ⟨j, h1, h2⟩ := g2 i v hi
    have hlt : i < n := by have := (List.getElem?_eq_some_iff.1 hi).1; simp at g1; omega
    rw [List.getElem?_range hlt] at h1
    obtain rfl := Option.some.inj h1
    exact h2
  · cases h
theorem tiles_bound (P : Program) : ∀ (fs : List Field) (o m : Nat), tiles P o fs = some m → o ≤ m ∧ ∀ f ∈ fs, f.offset + P.cellsOf f.type ≤ m
  | [], o, m, h => by simp only [tiles, Option.some.injEq] at h; subst h; simp
  | f :: r, o, m, h => by
    unfold tiles at h
    cases hb : Nat.beq f.offset o with
    | false => rw [hb] at h; cases h
    | true =>
      rw [hb] at h
      have ho := Nat.eq_of_beq_eq_true hb
      obtain ⟨h1, h2⟩ := tiles_bound P r _ m h
      refine ⟨by omega, fun g hg => ?_⟩
      rcases List.mem_cons.1 hg with rfl | hg
      · omega
      · exact h2 g hg
theorem add_add (a : Addr) (i j : Nat) : (a.add i).add j = a.add (i + j) := by
  unfold Addr.add
  by_cases h1 : i = 0
  · subst h1; simp
  · by_cases h2 : j = 0
    · subst h2; simp
    · rw [if_neg h1, if_neg h2, if_neg (by omega)]; simp [Nat.add_assoc]
theorem add_off (a : Addr) (j : Nat) : (a.add j).off = a.off + j := by
  unfold Addr.add
  by_cases h : j = 0
  · subst h; rfl
  · rw [if_neg h]
theorem flat_cells {a : Addr} {z : Nat} (f : Nat → List Value) : ∀ n, (∀ i, i < n → (f i).length = z ∧ ∀ k v, (f i)[k]? = some v → w.cell? ((a.add (i * z)).add k) = some v) →
    (((List.range n).map f).flatten).length = n * z ∧ ∀ j v, (((List.range n).map f).flatten)[j]? = some v → w.cell? (a.add j) = some v
  | 0, _ => by simp
  | n + 1, h => by
    obtain ⟨h1, h2⟩ := flat_cells f n fun i hi => h i (by omega)
    obtain ⟨g1, g2⟩ := h n (by omega)
    rw [List.range_succ, List.map_append, List.flatten_append]
    simp only [List.map_cons, List.map_nil, List.flatten_cons, List.flatten_nil, List.append_nil]
    refine ⟨by rw [List.length_append, h1, g1, Nat.succ_mul], fun j v hj => ?_⟩
    by_cases hlt : j < n * z
    · rw [List.getElem?_append_left (by omega)] at hj; exact h2 j v hj
    · rw [List.getElem?_append_right (by omega), h1] at hj
      have := g2 _ v hj
      rw [add_add, show n * z + (j - n * z) = j by omega] at this
      exact this
theorem cell_spot {a : Addr} {v : Value} (h : w.cell? a = some v) : a.spot = none ∧ ∃ ccs e fr, w.heap[a.block]? = some (.cells ccs e fr) ∧ ccs[a.off]? = some v := by
  unfold World.cell? at h
  split at h
  · rename_i c e fr hc
    cases hs : a.spot with
    | none => rw [hs] at h; exact ⟨rfl, c, e, fr, hc, by simpa using h⟩
    | some s => rw [hs] at h; simp at h
  · cases h
theorem read_ok : ∀ (d F : Nat) (t : TypeId) (cs : List Value) (x : DataW H0 × List MemPlace), DataW.trod enc P w 0 (fun _ => true) held F t cs = some x → suppB P d t = true → ReadOk P w d t cs
  | 0, F, t, cs, x, h, hs => by cases hs
  | d + 1, F, t, cs, x, h, hs => by
    unfold suppB at hs
    cases hu : P.underlying t with
    | none => rw [hu] at hs; cases hs
    | some k =>
      rw [hu] at hs
      cases k <;> (try simp only at hs) <;> try (cases hs; done)
      case bool =>
        obtain ⟨b, rfl, _⟩ := DataW.trod_bool hu h
        exact ⟨[.bool b], by simp [VRs, VR], by simp [AV.sc], by unfold Content; rw [hu]; exact ⟨b, rfl⟩⟩
      case int k =>
        obtain ⟨n, rfl, _, hw⟩ := DataW.trod_int hu h
        exact ⟨[.int k n], by simp [VRs, VR], by simp [AV.sc], by unfold Content; rw [hu]; exact ⟨n, rfl, hw⟩⟩
      case string =>
        obtain ⟨s, rfl, _, hw⟩ := DataW.trod_string hu h
        exact ⟨[.str s], by simp [VRs, VR], by simp [AV.sc], by unfold Content; rw [hu]; exact ⟨s, rfl, hw⟩⟩
      case slice e =>
        simp only [Bool.and_eq_true] at hs
        obtain ⟨hz, hs⟩ := hs
        have hz := Nat.le_of_ble_eq_true hz
        rcases DataW.trod_slice hu h with ⟨rfl, _⟩ | ⟨a, len, cap, elems, rest, n, hn, rfl, _, _, hlc, hcm, hel, hev, hsp, _⟩
        · refine ⟨[.lst []], ?_, by simp [AV.sc], by unfold Content; rw [hu]; exact ⟨[], rfl, by simp, by simp⟩⟩
          simp only [VRs, VR]; exact ⟨_, _, rfl, ⟨none, 0, rfl, by simp, fun h => absurd rfl h⟩, rfl⟩
        · have hF := hn
          obtain ⟨z, hzz⟩ : ∃ z, z = P.cellsOf e := ⟨_, rfl⟩
          rw [← hzz] at hz hev hsp
          have hrow : ∀ i, i < len → ∃ ci y, w.cells? 0 (a.add (i * z)) z = some ci ∧ DataW.trod enc P w 0 (fun _ => true) held n e ci = some y := by
            intro i hi
            have := hev i hi
            rw [List.getElem?_eq_getElem (by omega)] at this
            obtain ⟨ci, h1, h2⟩ := Option.bind_eq_some_iff.1 this
            exact ⟨ci, _, h1, h2⟩
          obtain ⟨f, hf⟩ : ∃ f : Nat → List Value, f = fun i => (w.cells? 0 (a.add (i * z)) z).getD [] := ⟨_, rfl⟩
          have hfi : ∀ i, i < len → w.cells? 0 (a.add (i * z)) z = some (f i) := fun i hi => by
            obtain ⟨ci, y, h1, _⟩ := hrow i hi
            rw [hf]; simp [h1]
          have hfl : ∀ i, i < len → (f i).length = z ∧ ∀ k v, (f i)[k]? = some v → w.cell? ((a.add (i * z)).add k) = some v := fun i hi => cells_list (hfi i hi)
          obtain ⟨pcs, b1, b2, b3, b4⟩ := readAll (P := P) (w := w) (d := d) ((List.range len).map fun i => (e, f i)) (by
            intro e' he'
            obtain ⟨i, hi, rfl⟩ := List.mem_map.1 he'
            have hi := List.mem_range.1 hi
            obtain ⟨ci, y, h1, h2⟩ := hrow i hi
            have : ci = f i := by have := hfi i hi; rw [h1] at this; exact Option.some.inj this
            subst this
            exact read_ok d n e _ y h2 hs)
          obtain ⟨c1, c2⟩ := flat_cells (w := w) f len hfl
          have hpl : pcs.length = len := by simpa using b1
          have hrows : ∀ r ∈ pcs, r.length = z ∧ Content P d e r := by
            intro r hr
            obtain ⟨i, hi⟩ := List.mem_iff_getElem?.1 hr
            have hlt : i < len := by have := (List.getElem?_eq_some_iff.1 hi).1; omega
            obtain ⟨g1, g2, _⟩ := b4 i (e, f i) r (by simp [hlt]) hi
            exact ⟨g1.trans (hfl i hlt).1, g2⟩
          obtain ⟨vs, m1, m2, m3, m4⟩ := rows_VR (ρ := Rho.all w) (z := z) pcs ((List.range len).map f) (by simp [hpl]) (by
            intro i r g hr hg
            have hlt : i < len := by have := (List.getElem?_eq_some_iff.1 hr).1; omega
            obtain rfl : f i = g := by simpa [hlt] using hg
            obtain ⟨_, _, g3, g4⟩ := b4 i (e, f i) r (by simp [hlt]) hr
            exact ⟨g3, g4, (hfl i hlt).1⟩)
          refine ⟨[.lst (pcs.map (rowA z))], ?_, by simp [AV.sc], ?_⟩
          · simp only [VRs, VR]
            refine ⟨_, [], rfl, ⟨some a, cap, by simp [hpl], by simp [hpl, hlc], fun hne => ?_⟩, rfl⟩
            have hl : 0 < len := by
              rcases Nat.eq_zero_or_pos len with h0 | h0
              · exact absurd (List.eq_nil_of_length_eq_zero (by simp [hpl, h0])) hne
              · exact h0
            have hfz : ∀ j v, (((List.range len).map f).flatten)[j]? = some v → (Rho.all w).fz a.block (a.off + j) = some v := by
              intro j v hj
              have := c2 j v hj
              obtain ⟨s0, ccs', ce', fr', s3, s4⟩ := cell_spot this
              have e1 : (a.add j).block = a.block := by unfold Addr.add; split <;> rfl
              have e2 : (a.add j).off = a.off + j := add_off a j
              rw [e1] at s3; rw [e2] at s4
              simp only [Rho.all, s3]; exact s4
            have hfirst : ∃ v, (((List.range len).map f).flatten)[0]? = some v := by
              have hpos : 0 < len * z := Nat.mul_pos hl hz
              exact ⟨_, List.getElem?_eq_getElem (by omega)⟩
            obtain ⟨v0, hv0⟩ := hfirst
            have hsp0 : a.spot = none := (cell_spot (c2 0 v0 hv0)).1
            refine ⟨a.block, a.off, z, by cases a; simp at hsp0; simp [hsp0], hz, FR.intro m1 m2 m3 fun k x hk => ?_⟩
            rw [m4] at hk
            exact hfz k x hk
          · unfold Content
            rw [hu]
            exact ⟨pcs, by rw [hzz], by omega, fun r hr => by rw [← hzz]; exact hrows r hr⟩
      case struct fs =>
        simp only [Bool.and_eq_true, decide_eq_true_eq, List.all_eq_true] at hs
        obtain ⟨htl, hs⟩ := hs
        obtain ⟨xs, n, hn, _, hlen, hxl, hx⟩ := DataW.trod_struct hu h
        obtain ⟨pcs, b1, b2, b3, b4⟩ := readAll (P := P) (w := w) (d := d) (fs.toList.map fun f => (f.type, (cs.drop f.offset).take (P.cellsOf f.type))) (by
          intro e' he'
          obtain ⟨f, hf, rfl⟩ := List.mem_map.1 he'
          obtain ⟨i, hi⟩ := List.mem_iff_getElem?.1 hf
          have h1 := hx i f (by simpa using hi)
          have hlt : i < xs.length := by have := (List.getElem?_eq_some_iff.1 hi).1; rw [hxl]; simpa using this
          rw [List.getElem?_eq_getElem hlt] at h1
          exact read_ok d n f.type _ _ h1 (hs f hf))
        obtain ⟨t1, _⟩ := tiles_cut P cs fs.toList 0 _ htl (by omega)
        obtain ⟨_, t2⟩ := tiles_bound P fs.toList 0 _ htl
        refine ⟨pcs.flatten, ?_, b3, ?_⟩
        · have e : ((fs.toList.map fun f => (f.type, (cs.drop f.offset).take (P.cellsOf f.type))).map (·.2)).flatten = cs := by
            rw [List.map_map]
            have : ((fun x : TypeId × List Value => x.2) ∘ fun f : Field => (f.type, (cs.drop f.offset).take (P.cellsOf f.type))) = fun f : Field => (cs.drop f.offset).take (P.cellsOf f.type) := rfl
            rw [this, t1, ← hlen, List.drop_zero, Nat.sub_zero, List.take_length]
          rw [e] at b2; exact b2
        · unfold Content
          rw [hu]
          refine ⟨pcs, rfl, by simpa using b1, fun i f pc hf hp => ?_⟩
          obtain ⟨g1, g2, _⟩ := b4 i (f.type, (cs.drop f.offset).take (P.cellsOf f.type)) pc (by simp [hf]) hp
          refine ⟨?_, g2⟩
          rw [g1]
          have := t2 f (List.mem_of_getElem? hf)
          simp; omega
def argOf (P : Program) (t : TypeId) (acs : List AV) : AV := match P.underlying t with | some (.struct _) => .agg acs | _ => acs.headD .undef
theorem args_ok {d : Nat} {base : Nat} : ∀ (ts : List TypeId) (vs : List Value) (ds : List (DataW H0)) (ps : List MemPlace), DataW.TrodAll enc P w 0 (fun _ => true) held ts vs ds ps → (∀ t ∈ ts, suppB P d t = true) →
    (∀ (j : Nat) t v, ts[j]? = some t → vs[j]? = some v → Value.okWide P w .any base t v) →
    ∃ L : List (List AV), L.length = ts.length ∧ VRs (Rho.all w) ((ts.zip L).map fun x => argOf P x.1 x.2) vs ∧ ∀ (i : Nat) t acs, ts[i]? = some t → L[i]? = some acs → Content P d t acs
  | [], [], [], ps, _, _, _ => ⟨[], rfl, by simp [VRs], fun i t acs h => by simp at h⟩
  | t :: ts, v :: vs, dd :: ds, ps, h, hs, hv => by
    obtain ⟨p, q, ⟨F, h1⟩, h2, _⟩ := h
    obtain ⟨L, b1, b2, b3⟩ := args_ok ts vs ds q h2 (fun t' h' => hs t' (List.mem_cons_of_mem _ h')) (fun j t' v' e1 e2 => hv (j + 1) t' v' (by simpa using e1) (by simpa using e2))
    have hst := hs t List.mem_cons_self
    obtain ⟨acs, a1, a2, a3⟩ := read_ok d F t _ _ h1 hst
    have hval := hv 0 t v rfl rfl
    refine ⟨acs :: L, by simp [b1], ?_, ?_⟩
    · simp only [List.zip_cons_cons, List.map_cons, VRs]
      refine ⟨v, vs, rfl, ?_, b2⟩
      cases d with
      | zero => cases hst
      | succ d =>
        unfold suppB at hst
        unfold argOf
        unfold Value.okWide at hval
        cases hu : P.underlying t with
        | none => rw [hu] at hst; cases hst
        | some kd =>
          rw [hu] at hst hval
          have single : (v.cells.toList = [v]) → VR (Rho.all w) (acs.headD .undef) v := by
            intro e
            rw [e] at a1
            cases acs with
            | nil => simp [VRs] at a1
            | cons c r => simp only [VRs] at a1; obtain ⟨u, t', e1, e2, _⟩ := a1; injection e1 with e1 _; subst e1; exact e2
          cases kd <;> (try simp only at hst) <;> try (cases hst; done)
          case struct fs =>
            obtain ⟨cs, rfl, _⟩ := hval
            simp only [VR]
            exact ⟨cs.toList, rfl, by simpa [Value.cells] using a1, a2⟩
          all_goals (refine single ?_; cases v <;> simp_all [Cell.okWide, Cell.ok, Value.cells])
    · intro i t' acs' e1 e2
      cases i with
      | zero => simp at e1 e2; subst e1; subst e2; exact a3
      | succ i => simp at e1 e2; exact b3 i t' acs' e1 e2
  | [], [], _ :: _, _, h, _, _ => h.elim
  | [], _ :: _, [], _, h, _, _ => h.elim
  | [], _ :: _, _ :: _, _, h, _, _ => h.elim
  | _ :: _, [], [], _, h, _, _ => h.elim
  | _ :: _, [], _ :: _, _, h, _, _ => h.elim
  | _ :: _, _ :: _, [], _, h, _, _ => h.elim
end
end
end Go.Am
namespace Go.Am
open Go Go.RowKit Go.WideShapes Go.ChangeShapes
def s0 : St := ⟨[], 0, [], false, []⟩
theorem calls_of_args {H0 : Type} {enc : TypeId × Value → H0} {P : Program} {C : Cfg} (hC : CfgOk P C) (hK : CodesOk C) {d base : Nat} {held : Bool} {f : FuncId} {ts : List TypeId} {args : Array Value} {ds : List (DataW H0)} {ps : List MemPlace} {W : World}
    (hA : DataW.TrodAll enc P W 0 (fun _ => true) held ts args.toList ds ps) (hs : ∀ t ∈ ts, suppB P d t = true) (hv : ∀ (j : Nat) t v, ts[j]? = some t → args.toList[j]? = some v → Value.okWide P W .any base t v)
    (hrun : ∀ L : List (List AV), L.length = ts.length → (∀ (i : Nat) t acs, ts[i]? = some t → L[i]? = some acs → Content P d t acs) →
      ∃ K, Yes (acall C K f ((ts.zip L).map fun x => argOf P x.1 x.2) s0)) :
    Calls P f args W fun e W' => e = .returned (.bool true) ∧ Below W.heap.size W W' := by
  obtain ⟨L, b1, b2, b3⟩ := args_ok ts args.toList ds ps hA hs hv
  obtain ⟨K, hm⟩ := hrun L b1 b3
  obtain ⟨_, hc⟩ := (mach_sim hC hK K).1 f _ s0 W (Rho.all W) args.toList _ (all_HR W) (fun _ _ _ => rfl) b2 hm.all
  refine ((hc 0).calls fun k => room_wide k).mono ?_
  rintro e W' ⟨v, s', ρ', cv, rfl, hv', hst, _, hcv⟩
  simp only at hv'; subst hv'
  simp only [VR] at hcv
  refine ⟨by rw [hcv], hst.same.os, hst.same.tape, hst.same.output, hst.size, fun k hk => hst.unch k hk ?_⟩
  rintro ⟨b, x, p, hb, hx, _, _⟩
  simp [s0] at hb
end Go.Am
namespace Go.Am
open Go Go.RowKit
section
variable {H0 : Type} {enc : TypeId × Value → H0} {P : Program} {w : World} {held : Bool}
theorem trod_len : ∀ (ts : List TypeId) (vs : List Value) (ds : List (DataW H0)) (ps : List MemPlace), DataW.TrodAll enc P w 0 (fun _ => true) held ts vs ds ps → ds.length = ts.length
  | [], [], [], ps, _ => rfl
  | t :: ts, v :: vs, d :: ds, ps, h => by
    obtain ⟨p, q, _, h2, _⟩ := h
    simp [trod_len ts vs ds q h2]
  | [], [], _ :: _, _, h => h.elim
  | [], _ :: _, [], _, h => h.elim
  | [], _ :: _, _ :: _, _, h => h.elim
  | _ :: _, [], [], _, h => h.elim
  | _ :: _, [], _ :: _, _, h => h.elim
  | _ :: _, _ :: _, [], _, h => h.elim
end
end Go.Am
