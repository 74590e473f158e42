/- How the abstract machine is stepped through: rules for its operations, regions, loops and calls. -/
import Derived.Test.YtgnpnfkncbnjnaaAmC
set_option linter.unusedSimpArgs false
set_option linter.unusedVariables false
namespace Go.Am
open Go
theorem tr_congr {α β : Type} {t t' : Tr α} (f : α → Tr β) (h : t = t') : t.bind f = t'.bind f := by rw [h]
theorem all_congr {α : Type} {t t' : Tr α} (Q : α → Prop) (h : t = t') : t.All Q = t'.All Q := by rw [h]
attribute [go_sem] Tr.bind_ret Tr.all_ret
def Tr.Does {α : Type} (t : Tr α) (Q : α → Prop) : Prop := ∃ a, t = .ret a ∧ Q a
@[go_sem] theorem does_ret {α : Type} (a : α) (Q : α → Prop) : (Tr.ret a).Does Q = Q a := by
  apply propext
  constructor
  · rintro ⟨b, h, hq⟩; injection h with h; subst h; exact hq
  · intro h; exact ⟨a, rfl, h⟩
theorem does_bind {α β : Type} {t : Tr α} {f : α → Tr β} {Q : β → Prop} : (t.bind f).Does Q = t.Does fun a => (f a).Does Q := by
  apply propext
  constructor
  · rintro ⟨b, h, hq⟩
    cases t with
    | fail => cases h
    | ret a => exact ⟨a, rfl, b, h, hq⟩
    | ask n k => cases h
  · rintro ⟨a, rfl, b, h, hq⟩; exact ⟨b, h, hq⟩
theorem Tr.Does.mono {α : Type} {t : Tr α} {Q Q' : α → Prop} (h : t.Does Q) (hq : ∀ a, Q a → Q' a) : t.Does Q' := let ⟨a, e, h⟩ := h; ⟨a, e, hq a h⟩
theorem Tr.Does.all {α : Type} {t : Tr α} {Q : α → Prop} (h : t.Does Q) : t.All Q := by obtain ⟨a, rfl, h⟩ := h; exact h
theorem does_congr {α : Type} {t t' : Tr α} (Q : α → Prop) (h : t = t') : t.Does Q = t'.Does Q := by rw [h]
section
variable (C : Cfg) (call : FuncId → List AV → M AV) (rnd : Nm → List AV → M AV) (K : Nat)
noncomputable def seqK (b : Code) (x : X × St) : Tr (X × St) := match x.1.1 with | .normal => exec C call rnd K b x.1.2 x.2 | e => .ret ((e, x.1.2), x.2)
def regK (x : List AV × St) : Tr (X × St) := .ret ((.normal, x.1), x.2)
noncomputable def opsK (ops : List Oper) (d : Option Tmp) (l : List Oper) (T : List AV) (x : AV × St) : Tr (List AV × St) := runOps C call rnd ops l (putT T d x.1) x.2
def blkK (id : Nat) (x : X × St) : Tr (X × St) := match x.1.1 with
  | .exit i => .ret ((match Nat.beq i id with | true => .normal | false => .exit i, x.1.2), x.2)
  | e => .ret ((e, x.1.2), x.2)
noncomputable def condK (b : Bool) (x y : Code) (T : List AV) (s : St) : Tr (X × St) := cond b (exec C call rnd K x T s) (exec C call rnd K y T s)
variable {C call rnd K}
@[go_sem] theorem seqK_normal (b : Code) (T : List AV) (s : St) : seqK C call rnd K b ((.normal, T), s) = exec C call rnd K b T s := rfl
@[go_sem] theorem seqK_ret (b : Code) (T : List AV) (s : St) : seqK C call rnd K b ((.ret, T), s) = .ret ((.ret, T), s) := rfl
@[go_sem] theorem seqK_exit (b : Code) (i : Nat) (T : List AV) (s : St) : seqK C call rnd K b ((.exit i, T), s) = .ret ((.exit i, T), s) := rfl
@[go_sem] theorem regK_app (T : List AV) (s : St) : regK (T, s) = .ret ((.normal, T), s) := rfl
@[go_sem] theorem opsK_app (ops : List Oper) (d : Option Tmp) (l : List Oper) (T : List AV) (v : AV) (s : St) : opsK C call rnd ops d l T (v, s) = runOps C call rnd ops l (putT T d v) s := rfl
@[go_sem] theorem blkK_normal (id : Nat) (T : List AV) (s : St) : blkK id ((.normal, T), s) = .ret ((.normal, T), s) := rfl
@[go_sem] theorem blkK_ret (id : Nat) (T : List AV) (s : St) : blkK id ((.ret, T), s) = .ret ((.ret, T), s) := rfl
@[go_sem] theorem blkK_exit (id i : Nat) (T : List AV) (s : St) : blkK id ((.exit i, T), s) = .ret ((match Nat.beq i id with | true => .normal | false => .exit i, T), s) := rfl
@[go_sem] theorem condK_true (x y : Code) (T : List AV) (s : St) : condK C call rnd K true x y T s = exec C call rnd K x T s := rfl
@[go_sem] theorem condK_false (x y : Code) (T : List AV) (s : St) : condK C call rnd K false x y T s = exec C call rnd K y T s := rfl
theorem does_if {p : Prop} [Decidable p] {x y : Code} {T : List AV} {s : St} {Q : X × St → Prop} (h1 : p → (exec C call rnd K x T s).Does Q) (h2 : ¬ p → (exec C call rnd K y T s).Does Q) : (condK C call rnd K (decide p) x y T s).Does Q := by
  by_cases h : p
  · have : decide p = true := by simp [h]
    rw [this]; exact h1 h
  · have : decide p = false := by simp [h]
    rw [this]; exact h2 h
end
section
variable {C : Cfg} {call : FuncId → List AV → M AV} {rnd : Nm → List AV → M AV} {K : Nat}
@[go_sem] theorem bind_app {α β : Type} (m : M α) (f : α → M β) (s : St) : M.bind m f s = (m s).bind fun x => f x.1 x.2 := rfl
@[go_sem] theorem ret_app {α : Type} (a : α) (s : St) : M.ret a s = .ret (a, s) := rfl
@[go_sem] theorem of_app {α : Type} (a : α) (s : St) : M.of (some a) s = .ret (a, s) := rfl
@[go_sem] theorem x_skip (T : List AV) : exec C call rnd K .skip T = M.ret (.normal, T) := rfl
@[go_sem] theorem x_ret (T : List AV) : exec C call rnd K .ret T = M.ret (.ret, T) := rfl
@[go_sem] theorem x_exit (i : Nat) (T : List AV) : exec C call rnd K (.exit i) T = M.ret (.exit i, T) := rfl
@[go_sem] theorem x_seq (a b : Code) (T : List AV) (s : St) : exec C call rnd K (.seq a b) T s = (exec C call rnd K a T s).bind (seqK C call rnd K b) := by
  show thenA (exec C call rnd K a T) (exec C call rnd K b) s = _
  unfold thenA M.bind
  congr 1
  funext x
  obtain ⟨⟨e, T'⟩, s'⟩ := x
  cases e <;> rfl
@[go_sem] theorem x_region (id : Nat) (ops : Array Oper) (T : List AV) (s : St) : exec C call rnd K (.region id ops false) T s = (runOps C call rnd ops.toList ops.toList T s).bind regK := rfl
@[go_sem] theorem x_draw (id : Nat) (ops : Array Oper) (T : List AV) (s : St) : exec C call rnd K (.region id ops true) T s = (drawF C call rnd ops.toList T s).bind regK := rfl
@[go_sem] theorem x_cond (c : Operand) (a b : Code) (T : List AV) (s : St) : exec C call rnd K (.cond c a b) T s = match evA T c with
      | some (.bool b') => condK C call rnd K b' a b T s
      | _ => .fail := by
  show (match evA T c with
      | some (.bool b') => (match b' with | true => exec C call rnd K a T | false => exec C call rnd K b T)
      | _ => M.fail) s = _
  cases evA T c with
  | none => rfl
  | some v => cases v <;> first | rfl | (rename_i b'; cases b' <;> rfl)
@[go_sem] theorem x_block (id : Nat) (c : Code) (T : List AV) (s : St) : exec C call rnd K (.block id c) T s = (exec C call rnd K c T s).bind (blkK id) := by
  show blockA id (exec C call rnd K c T) s = _
  unfold blockA M.bind
  congr 1
  funext x
  obtain ⟨⟨e, T'⟩, s'⟩ := x
  cases e with
  | exit i => simp only [blkK]; cases Nat.beq i id <;> rfl
  | _ => rfl
@[go_sem] theorem r_nil (ops : List Oper) (T : List AV) (s : St) : runOps C call rnd ops [] T s = .ret (T, s) := rfl
@[go_sem] theorem r_cons (ops : List Oper) (o : Oper) (l : List Oper) (T : List AV) (s : St) : runOps C call rnd ops (o :: l) T s = match wantedA ops T o with
      | true => (opA C call rnd T o s).bind (opsK C call rnd ops o.dst l T)
      | false => runOps C call rnd ops l (putT T o.dst .undef) s := by
  show (match wantedA ops T o with
      | true => (opA C call rnd T o).bind fun v => runOps C call rnd ops l (putT T o.dst v)
      | false => runOps C call rnd ops l (putT T o.dst .undef)) s = _
  cases wantedA ops T o <;> rfl
@[go_sem] theorem e_tmp (T : List AV) (t : Nat) : evA T (.tmp t) = nth T t := rfl
@[go_sem] theorem e_func (T : List AV) (f : FuncId) : evA T (.func f) = some (.func f []) := rfl
@[go_sem] theorem e_const (T : List AV) (v : Value) : evA T (.const v) = ofConst v := rfl
@[go_sem] theorem oc_int (k : IntKind) (n : Int) : ofConst (.int k n) = some (.int k n) := rfl
@[go_sem] theorem oc_bool (b : Bool) : ofConst (.bool b) = some (.bool b) := rfl
@[go_sem] theorem oc_nils : ofConst (.slice none 0 0) = some .nils := rfl
@[go_sem] theorem oc_nilp : ofConst (.pointer none) = some .nilp := rfl
@[go_sem] theorem oc_nilm : ofConst (.map none) = some .nilm := rfl
@[go_sem] theorem nth_set_ne {α : Type} (T : List α) {d t : Nat} (v : α) (h : d ≠ t) : nth (setNth T d v) t = nth T t := by rw [nth_eq, nth_eq, setNth_eq, List.getElem?_set_ne h]
@[go_sem] theorem nth_set_same {α : Type} (T : List α) {t : Nat} (v : α) (h : t < T.length) : nth (setNth T t v) t = some v := by rw [nth_eq, setNth_eq]; simp [h]
@[go_sem] theorem length_set {α : Type} (T : List α) (t : Nat) (v : α) : (setNth T t v).length = T.length := setNth_length ..
attribute [go_sem] wantedA opA ev1 putT evs partsA done binA intBin unA notB negB resultsA pack optA isOk shutArgs fzOf memN shuts AV.shut flats AV.flat
@[go_sem] theorem getM_app (b : Nm) (s : St) : getM b s = match hget s.H b with | some x => .ret (x, s) | none => .fail := rfl
@[go_sem] theorem putM_app (b : Nm) (y : Blk) (s : St) : putM b y s = match hget s.H b with | some _ => .ret ((), s.put b y) | none => .fail := rfl
@[go_sem] theorem delM_app (b : Nm) (s : St) : delM b s = match hget s.H b with | some _ => .ret ((), s.del b) | none => .fail := rfl
@[go_sem] theorem newM_app (x : Blk) (s : St) : newM x s = .ret (s.name, s.new x) := rfl
theorem loop_rule {c : Code} {Q : X × St → Prop} (I : Nat → List AV → St → Prop)
    (step : ∀ k T s, I k T s → (exec C call rnd K c T s).All fun x => match x.1.1 with | .normal => ∃ k', k' < k ∧ I k' x.1.2 x.2 | e => Q ((e, x.1.2), x.2)) :
    ∀ (L k : Nat) (T : List AV) (s : St), k < L → I k T s → (iter L (exec C call rnd K c) T s).All Q
  | 0, k, T, s, h, _ => by omega
  | L + 1, k, T, s, h, hI => by
    show (((exec C call rnd K c T).bind fun x => match x.1 with | .normal => iter L (exec C call rnd K c) x.2 | e => M.ret (e, x.2)) s).All Q
    rw [M.all_bind]
    refine (step k T s hI).mono ?_
    rintro ⟨⟨e, T'⟩, s'⟩ hx
    cases e with
    | normal => obtain ⟨k', hk, hI'⟩ := hx; exact loop_rule I step L k' T' s' (by omega) hI'
    | exit i => exact hx
    | ret => exact hx
theorem xl_all {c : Code} {T : List AV} {s : St} {Q : X × St → Prop} (I : Nat → List AV → St → Prop) {k : Nat} (hk : k < K) (h0 : I k T s)
    (step : ∀ k T s, I k T s → (exec C call rnd K c T s).All fun x => match x.1.1 with | .normal => ∃ k', k' < k ∧ I k' x.1.2 x.2 | e => Q ((e, x.1.2), x.2)) :
    (exec C call rnd K (.loop c) T s).All Q := loop_rule I step K k T s hk h0
theorem loop_does {c : Code} {Q : X × St → Prop} (I : Nat → List AV → St → Prop)
    (step : ∀ k T s, I k T s → (exec C call rnd K c T s).Does fun x => match x.1.1 with | .normal => ∃ k', k' < k ∧ I k' x.1.2 x.2 | e => Q ((e, x.1.2), x.2)) :
    ∀ (L k : Nat) (T : List AV) (s : St), k < L → I k T s → (iter L (exec C call rnd K c) T s).Does Q
  | 0, k, T, s, h, _ => by omega
  | L + 1, k, T, s, h, hI => by
    show ((((exec C call rnd K c T).bind fun x => match x.1 with | .normal => iter L (exec C call rnd K c) x.2 | e => M.ret (e, x.2))) s).Does Q
    rw [bind_app, does_bind]
    refine (step k T s hI).mono ?_
    rintro ⟨⟨e, T'⟩, s'⟩ hx
    cases e with
    | normal => obtain ⟨k', hk, hI'⟩ := hx; exact loop_does I step L k' T' s' (by omega) hI'
    | exit i => exact ⟨_, rfl, hx⟩
    | ret => exact ⟨_, rfl, hx⟩
theorem xl_does {c : Code} {T : List AV} {s : St} {Q : X × St → Prop} (I : Nat → List AV → St → Prop) {k : Nat} (hk : k < K) (h0 : I k T s)
    (step : ∀ k T s, I k T s → (exec C call rnd K c T s).Does fun x => match x.1.1 with | .normal => ∃ k', k' < k ∧ I k' x.1.2 x.2 | e => Q ((e, x.1.2), x.2)) :
    (exec C call rnd K (.loop c) T s).Does Q := loop_does I step K k T s hk h0
theorem body_all {fn : Func} {c : Code} {args : List AV} {s : St} {Q : AV × St → Prop} (hb : fn.body = some c) (h : ∀ T, T.length = args.length + (fn.ntmps - args.length) → (∀ i v, nth args i = some v → nth T i = some v) →
    (exec C call rnd K c T s).All fun x => match x.1.1 with | .exit _ => False | _ => (resultsA C x.1.2 fn.results.toList x.2).All fun y => Q (pack y.1, y.2)) : (bodyA C call rnd K fn args s).All Q := by
  unfold bodyA
  rw [hb]; simp only
  rw [M.all_bind]
  refine (h (args ++ undefs (fn.ntmps - args.length)) (by simp [undefs_len]) fun i v hi => ?_).mono ?_
  · rw [nth_eq] at hi ⊢
    rw [List.getElem?_append_left (List.getElem?_eq_some_iff.1 hi).1]; exact hi
  · rintro ⟨⟨e, T'⟩, s'⟩ hx
    cases e with
    | exit i => exact hx.elim
    | normal => show (((resultsA C T' fn.results.toList).bind fun vs => M.ret (pack vs)) s').All Q; rw [M.all_bind]; exact hx
    | ret => show (((resultsA C T' fn.results.toList).bind fun vs => M.ret (pack vs)) s').All Q; rw [M.all_bind]; exact hx
theorem body_does {fn : Func} {c : Code} {args : List AV} {s : St} {Q : AV × St → Prop} (hb : fn.body = some c) (h : ∀ T, T.length = args.length + (fn.ntmps - args.length) → (∀ i v, nth args i = some v → nth T i = some v) →
    (exec C call rnd K c T s).Does fun x => match x.1.1 with | .exit _ => False | _ => (resultsA C x.1.2 fn.results.toList x.2).Does fun y => Q (pack y.1, y.2)) : (bodyA C call rnd K fn args s).Does Q := by
  unfold bodyA
  rw [hb]; simp only
  rw [bind_app, does_bind]
  refine (h (args ++ undefs (fn.ntmps - args.length)) (by simp [undefs_len]) fun i v hi => ?_).mono ?_
  · rw [nth_eq] at hi ⊢
    rw [List.getElem?_append_left (List.getElem?_eq_some_iff.1 hi).1]; exact hi
  · rintro ⟨⟨e, T'⟩, s'⟩ hx
    cases e with
    | exit i => exact hx.elim
    | normal => show (((resultsA C T' fn.results.toList).bind fun vs => M.ret (pack vs)) s').Does Q; rw [bind_app, does_bind]; exact hx.mono fun y hy => ⟨_, rfl, hy⟩
    | ret => show (((resultsA C T' fn.results.toList).bind fun vs => M.ret (pack vs)) s').Does Q; rw [bind_app, does_bind]; exact hx.mono fun y hy => ⟨_, rfl, hy⟩
end
section
variable {C : Cfg} {K : Nat}
theorem call1_all {f : FuncId} {fn : Func} {args : List AV} {s : St} {v : AV} (hm : C.mode.get f = some 1) (hf : C.fn.get f = some fn) (hs : shuts args = args) (hfl : flats args = true) (hv : v.flat = true)
    (hb : (bodyA (C.at f) (acall C K) (around C K) (K + 1) fn args s0).All fun x => frozen x.2.H x.1 = some v) : acall C (K + 1) f args s = .ret (v, s) := by
  rw [acall_succ]
  unfold enterA
  rw [hf]; simp only
  rw [hm]; simp only
  rw [hs, hfl]; simp only
  obtain ⟨h1, h2⟩ := Nice.mach C K
  have := collapse_of _ v ((Nice.bodyA (C := C.at f) h1 h2 (K + 1) fn args).pos s0) hv hb
  have e : collapse (bodyA (C.at f) (acall C K) (around C K) (K + 1) fn args ⟨[], 0, [], false, []⟩) = some v := this
  rw [e]; rfl
theorem call1 {f : FuncId} {fn : Func} {args : List AV} {s : St} {v : AV} (hm : C.mode.get f = some 1) (hf : C.fn.get f = some fn) (hs : shuts args = args) (hfl : flats args = true) (hv : v.flat = true)
    (hb : (bodyA (C.at f) (acall C K) (around C K) (K + 1) fn args s0).Does fun x => frozen x.2.H x.1 = some v) : acall C (K + 1) f args s = .ret (v, s) := call1_all hm hf hs hfl hv hb.all
theorem call0 {f : FuncId} {fn : Func} {args : List AV} (hm : C.mode.get f = none) (hf : C.fn.get f = some fn) : acall C (K + 1) f args = bodyA (C.at f) (acall C K) (around C K) (K + 1) fn args := by
  rw [acall_succ]
  unfold enterA
  rw [hf]
  simp only
  rw [hm]
theorem call4_ptr {f : FuncId} {fn : Func} {b : Nm} {o u : Nat} {rest cs cs' : List AV} {s : St} {v : AV} (hm : C.mode.get f = some 4) (hf : C.fn.get f = some fn) (hb : hget s.H b = some (.cells cs true u)) (hn : namesVs false rest [] = []) (hr : renVs [(b, [0])] rest = some rest)
    (hc : namesVs false cs [] = []) (hcr : renVs [(b, [0])] cs = some cs) (hc' : namesVs true cs' [] = []) (hcr' : renVs [([0], b)] cs' = some cs') (hv : namesV true v.shut [] = []) (hvr : renV [([0], b)] v.shut = some v.shut)
    (hd : (bodyA (C.at f) (acall C K) (around C K) (K + 1) fn (.ptr [0] o :: rest) ⟨[([0], .cells cs true u)], 1, [], false, []⟩).Does fun x => x.1 = v ∧ hget x.2.H [0] = some (.cells cs' true u)) :
    acall C (K + 1) f (.ptr b o :: rest) s = .ret (v.shut, s.put b (.cells cs' true u)) := by
  rw [acall_succ]
  unfold enterA
  rw [hf]; simp only
  rw [hm]; simp only
  obtain ⟨⟨v1, s1⟩, e1, rfl, e2⟩ := hd
  simp only at e2
  unfold handA
  have hl : lendM 200 (namesVs false (.ptr b o :: rest) []) [] [] s = .ret (([b], [.cells cs true u]), s) := by
    show lendM 200 (b :: namesVs false rest []) [] [] s = _
    rw [hn]
    show (getM b).bind (fun x => lendM 199 (namesB false x []) ([] ++ [b]) ([] ++ [x])) s = _
    rw [bind_app, getM_app, hb]
    show lendM 199 (namesVs false cs []) _ _ s = _
    rw [hc]; rfl
  rw [bind_app, hl]
  have hnd : nodupN [b] = true := rfl
  have hz : zipN [b] (namesFrom [] 0 [b].length) = [(b, [0])] := rfl
  have hra : renVs [(b, [0])] (.ptr b o :: rest) = some (.ptr [0] o :: rest) := by simp only [renVs, renV, lookN, eqb_self, hr]
  have hrb : renBs [(b, [0])] [.cells cs true u] = some [.cells cs true u] := by simp only [renBs, renB, hcr]
  have hcalm : calm [.cells cs true u] = true := rfl
  simp only [Tr.bind_ret, hnd, hz, hra, hrb, hcalm]
  have hst : (⟨zipB (namesFrom [] 0 [b].length) [.cells cs true u], [b].length, [], false, []⟩ : St) = ⟨[([0], .cells cs true u)], 1, [], false, []⟩ := rfl
  rw [hst, e1]
  have ho : oneR true (.ret (v1, s1)) = some (v1.shut, s1.H) := rfl
  have hy : getAll s1.H (namesFrom [] 0 [b].length) = some [.cells cs' true u] := by
    show getAll s1.H [[0]] = _
    simp only [getAll, e2]
  rw [ho]; simp only
  rw [hy]; simp only
  have hb' : namesBs true [.cells cs' true u] [] = [] := by show namesVs true cs' [] = []; exact hc'
  rw [hb', hv]
  have hre : reachL s1.H 200 [] (namesFrom [] 0 [b].length) [] = some ([[0]], []) := rfl
  rw [hre]; simp only
  have hn0 : nodupN [[0]] = true := rfl
  rw [hn0]; simp only
  have hz2 : zipN [[0]] ([b] ++ namesFrom s.pre s.n ([] : List Blk).length) = [([0], b)] := rfl
  rw [bind_app]
  show (Tr.ret ((s.pre, s.n), s)).bind _ = _
  rw [Tr.bind_ret]
  rw [hz2]
  have hrb' : renB [([0], b)] (.cells cs' true u) = some (.cells cs' true u) := by simp only [renB, hcr']
  simp only [hvr, hrb', renBs, putAll, newAll, bind_app, putM_app, hb, Tr.bind_ret, ret_app]
end
theorem wrap_i64 {x : Int} (h : -9223372036854775808 ≤ x) (h' : x ≤ 9223372036854775807) : wrapF .i64 x = x := by
  rw [wrapF_eq]; simp only [IntKind.wrap, IntKind.bits, IntKind.signed]; simp; omega
theorem wrap_u64 {x : Int} (h : 0 ≤ x) (h' : x ≤ 18446744073709551615) : wrapF .u64 x = x := by
  simp only [wrapF, wrapU]; omega
theorem wrap_u64_range (x : Int) : 0 ≤ wrapF .u64 x ∧ wrapF .u64 x ≤ 18446744073709551615 := by
  simp only [wrapF, wrapU]; omega
theorem inR_of {i n : Nat} (h : i < n) : inR (i : Int) n = some i := by
  unfold inR
  have h1 : decide ((0 : Int) ≤ (i : Int)) = true := by simp
  have h2 : decide ((i : Int) < (n : Int)) = true := by simp; omega
  rw [h1, h2]; simp
theorem sh_shr (k : IntKind) (x y : Int) (h : 0 ≤ y) : shiftBin .shr k x y = some (.int k (x.fdiv (Nat.pow 2 (min y.toNat (kbits k)) : Nat))) := by
  unfold shiftBin
  have : decide (y < 0) = false := by simp; omega
  rw [this]
theorem sh_shl (k : IntKind) (x y : Int) (h : 0 ≤ y) : shiftBin .shl k x y = some (.int k (wrapF k (x * (Nat.pow 2 (min y.toNat (kbits k)) : Nat)))) := by
  unfold shiftBin
  have : decide (y < 0) = false := by simp; omega
  rw [this]
attribute [go_sem] sh_shr sh_shl
theorem elemAt_map {α : Type} {f : α → AV} {l : List α} {i z : Nat} (h : i < l.length) (hz : (f l[i]).cells.length = z) : elemAt z (i : Int) (l.map f) = some (.fptr (f l[i]).cells 0) := by
  unfold elemAt
  rw [inR_of (by simpa using h)]
  have : nth (l.map f) i = some (f l[i]) := by rw [nth_eq]; simp [h]
  simp only [this, hz, Nat.beq_refl]
theorem okZ_map {α : Type} {f : α → AV} {z : Nat} (hz : ∀ a, (f a).cells.length = z) : ∀ l : List α, okZ z (l.map f) = true
  | [] => rfl
  | a :: r => by simp only [List.map_cons, okZ, hz a, Nat.beq_refl]; exact okZ_map hz r
theorem flats_map {α : Type} {f : α → AV} (hf : ∀ a, (f a).flat = true) : ∀ l : List α, flats (l.map f) = true
  | [] => rfl
  | a :: r => by simp only [List.map_cons, flats, hf a]; exact flats_map hf r
def ownV (b : Nm) (l : List AV) : AV := match l with | [] => .nils | _ :: _ => .own b l
def ownH (b : Nm) (z : Nat) (l : List AV) (H : Heap) : Heap := match l with | [] => H | _ :: _ => (b, .tok l.length z) :: H
@[go_sem] theorem ownV_nil (b : Nm) : ownV b [] = .nils := rfl
@[go_sem] theorem ownH_nil (b : Nm) (z : Nat) (H : Heap) : ownH b z [] H = H := rfl
@[go_sem] theorem shut_ownV (b : Nm) (l : List AV) : (ownV b l).shut = .lst l := by cases l <;> rfl
@[go_sem] theorem len_ownV (b : Nm) (l : List AV) (s : St) : lenA (ownV b l) s = .ret (.int .i64 l.length, s) := by cases l <;> rfl
@[go_sem] theorem has_ownV (e : TypeId) (b : Nm) (l : List AV) : hasLen (.slice e) (ownV b l) = true := by cases l <;> rfl
@[go_sem] theorem freeze_ownV (row : List AV → Option (List AV)) (H : Heap) (b : Nm) (l : List AV) : freezeG row H (ownV b l) = some (.lst l) := by cases l <;> rfl
@[go_sem] theorem okc_ownV (b : Nm) (l : List AV) : (ownV b l).okc = true := by cases l <;> rfl
@[go_sem] theorem cells_ownV (b : Nm) (l : List AV) : (ownV b l).cells = [ownV b l] := by cases l <;> rfl
@[go_sem] theorem open_ownV (b : Nm) (l : List AV) : openRow (ownV b l) = true := by cases l <;> rfl
@[go_sem] theorem hget_cons (i b : Nm) (x : Blk) (H : Heap) : hget ((i, x) :: H) b = if i = b then some x else hget H b := by
  by_cases h : i = b
  · subst h; rw [hget_cons_same, if_pos rfl]
  · rw [hget_cons_ne _ _ h, if_neg h]
@[go_sem] theorem hset_cons (i b : Nm) (x y : Blk) (H : Heap) : hset ((i, x) :: H) b y = if i = b then (i, y) :: H else (i, x) :: hset H b y := by
  show (match eqb i b with | true => (i, y) :: H | false => (i, x) :: hset H b y) = _
  by_cases h : i = b
  · subst h; rw [eqb_self, if_pos rfl]
  · rw [eqb_ne h, if_neg h]
@[go_sem] theorem hdel_cons (i b : Nm) (x : Blk) (H : Heap) : hdel ((i, x) :: H) b = if i = b then hdel H b else (i, x) :: hdel H b := by
  show (match eqb i b with | true => hdel H b | false => (i, x) :: hdel H b) = _
  by_cases h : i = b
  · subst h; rw [eqb_self, if_pos rfl]
  · rw [eqb_ne h, if_neg h]
@[go_sem] theorem hset_nil (b : Nm) (y : Blk) : hset [] b y = [] := rfl
@[go_sem] theorem hdel_nil (b : Nm) : hdel [] b = [] := rfl
attribute [go_sem] hget_nil List.cons.injEq reduceIte reduceCtorEq and_true and_false false_and
@[go_sem] theorem note_false (H : Heap) (n : Nat) (p : Nm) (j : Delta) (i : Nm) (x : Option Blk) : St.note ⟨H, n, p, false, j⟩ i x = j := rfl
@[go_sem] theorem note_true' (H : Heap) (n : Nat) (p : Nm) (j : Delta) (i : Nm) (x : Option Blk) : St.note ⟨H, n, p, true, j⟩ i x = (i, x) :: j := rfl
attribute [go_sem] binM iceRow
section
variable (H : Heap) (n : Nat) (p : Nm) (jr : Bool) (j : Delta)
@[go_sem] theorem name_mk : St.name ⟨H, n, p, jr, j⟩ = p ++ [n] := rfl
@[go_sem] theorem new_mk (x : Blk) : St.new ⟨H, n, p, jr, j⟩ x = ⟨(p ++ [n], x) :: H, n + 1, p, jr, St.note ⟨H, n, p, jr, j⟩ (p ++ [n]) (some x)⟩ := rfl
@[go_sem] theorem put_mk (b : Nm) (x : Blk) : St.put ⟨H, n, p, jr, j⟩ b x = ⟨hset H b x, n, p, jr, St.note ⟨H, n, p, jr, j⟩ b (some x)⟩ := rfl
@[go_sem] theorem del_mk (b : Nm) : St.del ⟨H, n, p, jr, j⟩ b = ⟨hdel H b, n, p, jr, St.note ⟨H, n, p, jr, j⟩ b none⟩ := rfl
@[go_sem] theorem opSt_mk (i : Nat) (H' : Heap) : opSt ⟨H, n, p, jr, j⟩ i H' = ⟨H', 0, p ++ [n, i], true, []⟩ := rfl
@[go_sem] theorem drawEnd_mk (D : Delta) : drawEnd ⟨H, n, p, false, j⟩ D = ⟨redoH H D, n + 1, p, false, j⟩ := rfl
@[go_sem] theorem drawEnd_mk' (D : Delta) : drawEnd ⟨H, n, p, true, j⟩ D = ⟨redoH H D, n + 1, p, true, D ++ j⟩ := rfl
end
@[go_sem] theorem s0_mk : s0 = ⟨[], 0, [], false, []⟩ := rfl
attribute [go_sem] builtinA lenA hasLen indexAddrA loadA partA storeA fieldAddrA fieldA convA readN writeN AV.cells AV.okc callA allocA buildA makeSliceA madeOf fillA fieldsPlace nth_zero nth_succ setNth_zero setNth_succ eqSame bounds2 boundA inB eqTop binRest repeatN rowsA rowA srcF srcA elemsA isSeq openRow
attribute [go_sem] ne_eq not_false_eq_true decide_true decide_false Nat.add_zero Nat.zero_add Nat.beq_refl List.length_cons List.length_nil List.nil_append List.cons_append List.take_succ_cons List.take_zero List.drop_succ_cons List.drop_zero List.map_nil List.append_nil
end Go.Am
namespace Go.Am
open Go
noncomputable section
def beforeOk (B : List (List Nat)) (i : Nat) : List Nat → Bool
  | [] => true
  | g :: r => match Nat.blt g i, memN g ((nth B i).getD []) with
    | true, false => false
    | _, _ => beforeOk B i r
def beforeAll (B : List (List Nat)) (G : List Nat) : Nat → Bool
  | 0 => true
  | i + 1 => match beforeOk B i G with | true => beforeAll B G i | false => false
def drawOk (ops : List Oper) (G WS : List Nat) : Bool :=
  match beforeAll (predsAll [] ops) G ops.length with
  | true => ordEach (predsAll [] ops) ops.length WS
  | false => false
section
variable (C : Cfg) (call : FuncId → List AV → M AV) (rnd : Nm → List AV → M AV)
def drawW (ops : List Oper) (s : St) (G WS : List Nat) : Nat → List Oper → List AV → Heap → Delta → Tr (List AV × Heap × Delta)
  | _, [], T, Hc, D => .ret (T, Hc, D)
  | i, o :: r, T, Hc, D => match wantedA ops T o with
    | true => (opA C call rnd T o (opSt s i Hc)).bind fun x => match memN i G with
      | false => (match x.2.j with
        | [] => drawW ops s G WS (i + 1) r (putT T o.dst x.1) Hc D
        | _ :: _ => .fail)
      | true => (match memN i WS with
        | true => drawW ops s G WS (i + 1) r (putT T o.dst x.1) x.2.H (x.2.j ++ D)
        | false => (match oldIds (s.pre ++ [s.n, i]) x.2.j with
          | [] => drawW ops s G WS (i + 1) r (putT T o.dst x.1) x.2.H (x.2.j ++ D)
          | _ :: _ => .fail))
    | false => drawW ops s G WS (i + 1) r (putT T o.dst .undef) Hc D
end
theorem beforeOk_spec {B : List (List Nat)} {i : Nat} : ∀ G, beforeOk B i G = true → ∀ g ∈ G, g < i → memN g ((nth B i).getD []) = true
  | [], _, g, h, _ => by simp at h
  | a :: r, h, g, hg, hlt => by
    unfold beforeOk at h
    cases h1 : Nat.blt a i with
    | false =>
      rw [h1] at h
      rcases List.mem_cons.1 hg with rfl | hg
      · have : Nat.blt g i = true := by simp [Nat.blt]; omega
        rw [this] at h1; cases h1
      · exact beforeOk_spec r h g hg hlt
    | true =>
      cases h2 : memN a ((nth B i).getD []) with
      | false => rw [h1, h2] at h; cases h
      | true =>
        rw [h1, h2] at h
        rcases List.mem_cons.1 hg with rfl | hg
        · exact h2
        · exact beforeOk_spec r h g hg hlt
theorem beforeAll_spec {B : List (List Nat)} {G : List Nat} : ∀ n, beforeAll B G n = true → ∀ i, i < n → ∀ g ∈ G, g < i → memN g ((nth B i).getD []) = true
  | 0, _, i, hi => by omega
  | n + 1, h, i, hi => by
    unfold beforeAll at h
    cases h1 : beforeOk B n G with
    | false => rw [h1] at h; cases h
    | true =>
      rw [h1] at h
      by_cases e : i = n
      · subst e; exact beforeOk_spec G h1
      · exact beforeAll_spec n h i (by omega)
theorem subN_of : ∀ (a b : List Nat), (∀ n ∈ a, memN n b = true) → subN a b = true
  | [], b, _ => rfl
  | n :: r, b, h => by
    unfold subN
    rw [h n List.mem_cons_self]
    exact subN_of r b fun m hm => h m (List.mem_cons_of_mem _ hm)
section
variable {C : Cfg} {call : FuncId → List AV → M AV} {rnd : Nm → List AV → M AV}
theorem drawW_spec (hc : ∀ f args, Nice (call f args)) (hr : ∀ l args, Nice (rnd l args)) {ops : List Oper} {s : St} {G WS : List Nat} (hB : beforeAll (predsAll [] ops) G ops.length = true) {Q : List AV × Heap × Delta → Prop} :
    ∀ (l : List Oper) (i : Nat) (T : List AV) (Hc Hd : Heap) (nz : List Nat) (D : Delta) (W : List Nat), i + l.length = ops.length → (∀ b, hget Hc b = hget Hd b) → (∀ k ∈ nz, k ∈ G ∧ k < i) → (∀ k ∈ W, k ∈ WS) → (∀ b, hget Hd b = hget (redoH s.H D) b) →
      (drawW C call rnd ops s G WS i l T Hc D).Does Q →
      ∃ x Hf, drawFP C call rnd ops s (predsAll [] ops) i l T Hd nz D W = some x ∧ (∀ k ∈ x.2.2, k ∈ WS) ∧ Q (x.1, Hf, x.2.1) ∧ ∀ b, hget Hf b = hget (redoH s.H x.2.1) b
  | [], i, T, Hc, Hd, nz, D, W, _, he, _, hW, hD, h => by
    obtain ⟨a, ha, hq⟩ := h
    injection ha with ha; subst ha
    exact ⟨_, Hc, rfl, hW, hq, fun b => (he b).trans (hD b)⟩
  | o :: r, i, T, Hc, Hd, nz, D, W, hi, he, hnz, hW, hD, h => by
    unfold drawW at h
    unfold drawFP
    have hnz' : ∀ k ∈ nz, k ∈ G ∧ k < i + 1 := fun k hk => ⟨(hnz k hk).1, by have := (hnz k hk).2; omega⟩
    cases hw : wantedA ops T o with
    | false =>
      rw [hw] at h
      exact drawW_spec hc hr hB r (i + 1) _ Hc Hd nz D W (by simp at hi ⊢; omega) he hnz' hW hD h
    | true =>
      rw [hw] at h; simp only at h ⊢
      have hs : subN nz ((nth (predsAll [] ops) i).getD []) = true := subN_of _ _ fun k hk => beforeAll_spec _ hB i (by simp at hi; omega) k (hnz k hk).1 (hnz k hk).2
      rw [hs]; simp only
      rw [does_bind] at h
      obtain ⟨x, hx, h⟩ := h
      have hone : one (opA C call rnd T o (opSt s i Hc)) = some (x.1, x.2.j) := by rw [hx]; rfl
      rw [one_congr hc hr he hone]
      simp only
      have hjr := (Nice.opA (C := C) hc hr T o).jr (opSt s i Hc)
      rw [hx] at hjr
      obtain ⟨d', d1, d2, _⟩ := JrR.j (hjr : JrR _ x.2) rfl
      have hd' : d' = x.2.j := by rw [d1]; exact (List.append_nil d').symm
      have hH : ∀ b, hget x.2.H b = hget (redoH Hd x.2.j) b := fun b => by
        rw [d2 b, hget_redoH, hget_redoH, hd']
        show (lkD x.2.j b).getD (hget Hc b) = _
        rw [he b]
      have hDD : ∀ b, hget (redoH Hd x.2.j) b = hget (redoH s.H (x.2.j ++ D)) b := fun b => by
        rw [hget_redoH, hget_redoH, hD b, hget_redoH, lkD_append]
        cases lkD x.2.j b <;> rfl
      cases hg : memN i G with
      | false =>
        rw [hg] at h; simp only at h
        cases hj : x.2.j with
        | cons a b => rw [hj] at h; obtain ⟨_, h, _⟩ := h; cases h
        | nil =>
          rw [hj] at h
          exact drawW_spec hc hr hB r (i + 1) _ Hc Hd nz D W (by simp at hi ⊢; omega) he hnz' hW hD h
      | true =>
        rw [hg] at h; simp only at h
        have hiG := (memN_iff _ _).1 hg
        have go : ∀ (h : (drawW C call rnd ops s G WS (i + 1) r (putT T o.dst x.1) x.2.H (x.2.j ++ D)).Does Q) (hw : memN i WS = true ∨ oldIds (s.pre ++ [s.n, i]) x.2.j = []),
            ∃ y Hf, (match x.2.j with
              | [] => drawFP C call rnd ops s (predsAll [] ops) (i + 1) r (putT T o.dst x.1) Hd nz D W
              | d => drawFP C call rnd ops s (predsAll [] ops) (i + 1) r (putT T o.dst x.1) (redoH Hd d) (i :: nz) (d ++ D) (match oldIds (s.pre ++ [s.n, i]) d with | [] => W | _ => i :: W)) = some y ∧ (∀ k ∈ y.2.2, k ∈ WS) ∧ Q (y.1, Hf, y.2.1) ∧ ∀ b, hget Hf b = hget (redoH s.H y.2.1) b := by
          intro h hwr
          cases hj : x.2.j with
          | nil =>
            rw [hj] at h
            exact drawW_spec hc hr hB r (i + 1) _ x.2.H Hd nz D W (by simp at hi ⊢; omega) (fun b => by rw [hH b, hj]; rfl) hnz' hW hD h
          | cons e d =>
            rw [hj] at h hH hDD hwr
            simp only
            have h2 : ∀ k ∈ i :: nz, k ∈ G ∧ k < i + 1 := fun k hk => by
              rcases List.mem_cons.1 hk with rfl | hk
              · exact ⟨hiG, by omega⟩
              · exact hnz' k hk
            cases ho : oldIds (s.pre ++ [s.n, i]) (e :: d) with
            | nil => exact drawW_spec hc hr hB r (i + 1) _ x.2.H (redoH Hd (e :: d)) (i :: nz) ((e :: d) ++ D) W (by simp at hi ⊢; omega) hH h2 hW hDD h
            | cons a b =>
              have hwi : memN i WS = true := hwr.resolve_right (by rw [ho]; simp)
              exact drawW_spec hc hr hB r (i + 1) _ x.2.H (redoH Hd (e :: d)) (i :: nz) ((e :: d) ++ D) (i :: W) (by simp at hi ⊢; omega) hH h2 (fun k hk => by
                rcases List.mem_cons.1 hk with rfl | hk
                · exact (memN_iff _ _).1 hwi
                · exact hW k hk) hDD h
        cases hws : memN i WS with
        | true => rw [hws] at h; exact go h (.inl hws)
        | false =>
          rw [hws] at h; simp only at h
          cases ho : oldIds (s.pre ++ [s.n, i]) x.2.j with
          | cons a b => rw [ho] at h; obtain ⟨_, h, _⟩ := h; cases h
          | nil => rw [ho] at h; exact go h (.inr ho)
theorem draw_seq (hc : ∀ f args, Nice (call f args)) (hr : ∀ l args, Nice (rnd l args)) {ops : List Oper} {s : St} {T : List AV} (G WS : List Nat) (hok : drawOk ops G WS = true) {Q : List AV × St → Prop}
    (h : (drawW C call rnd ops s G WS 0 ops T s.H []).Does fun x => Q (x.1, drawEnd s x.2.2)) : (drawF C call rnd ops T s).Does Q := by
  unfold drawOk at hok
  cases hB : beforeAll (predsAll [] ops) G ops.length with
  | false => rw [hB] at hok; cases hok
  | true =>
    rw [hB] at hok; simp only at hok
    obtain ⟨x, Hf, h1, h2, h3, h4⟩ := drawW_spec hc hr hB ops 0 T s.H s.H [] [] [] (by simp) (fun _ => rfl) (by simp) (by simp) (fun _ => rfl) h
    unfold drawF
    rw [h1]; simp only
    have hall : ∀ W : List Nat, (∀ k ∈ W, k ∈ WS) → ordEach (predsAll [] ops) ops.length W = true := by
      have hsp : ∀ k ∈ WS, ordAll (predsAll [] ops) k ops.length = true := by
        clear h2 h3 h4 h1 h
        revert hok
        induction WS with
        | nil => intro _ k hk; simp at hk
        | cons a r ih =>
          intro hok k hk
          unfold ordEach at hok
          cases ha : ordAll (predsAll [] ops) a ops.length with
          | false => rw [ha] at hok; cases hok
          | true =>
            rw [ha] at hok
            rcases List.mem_cons.1 hk with rfl | hk
            · exact ha
            · exact ih hok k hk
      intro W
      induction W with
      | nil => intro _; rfl
      | cons a r ih =>
        intro hW
        unfold ordEach
        rw [hsp a (hW a List.mem_cons_self)]
        exact ih fun k hk => hW k (List.mem_cons_of_mem _ hk)
    rw [hall _ h2]
    exact ⟨_, rfl, h3⟩
theorem draw_mach {C0 : Cfg} {K : Nat} {ops : List Oper} {s : St} {T : List AV} (G WS : List Nat) (hok : drawOk ops G WS = true) {Q : List AV × St → Prop}
    (h : (drawW C (acall C0 K) (around C0 K) ops s G WS 0 ops T s.H []).Does fun x => Q (x.1, drawEnd s x.2.2)) : (drawF C (acall C0 K) (around C0 K) ops T s).Does Q :=
  draw_seq (Nice.mach C0 K).1 (Nice.mach C0 K).2 G WS hok h
@[go_sem] theorem dw_nil (ops : List Oper) (s : St) (G WS : List Nat) (i : Nat) (T : List AV) (Hc : Heap) (D : Delta) : drawW C call rnd ops s G WS i [] T Hc D = .ret (T, Hc, D) := rfl
def dwK (C : Cfg) (call : FuncId → List AV → M AV) (rnd : Nm → List AV → M AV) (ops : List Oper) (s : St) (G WS : List Nat) (i : Nat) (d : Option Tmp) (r : List Oper) (T : List AV) (Hc : Heap) (D : Delta) (x : AV × St) : Tr (List AV × Heap × Delta) := match memN i G with
      | false => (match x.2.j with
        | [] => drawW C call rnd ops s G WS (i + 1) r (putT T d x.1) Hc D
        | _ :: _ => .fail)
      | true => (match memN i WS with
        | true => drawW C call rnd ops s G WS (i + 1) r (putT T d x.1) x.2.H (x.2.j ++ D)
        | false => (match oldIds (s.pre ++ [s.n, i]) x.2.j with
          | [] => drawW C call rnd ops s G WS (i + 1) r (putT T d x.1) x.2.H (x.2.j ++ D)
          | _ :: _ => .fail))
@[go_sem] theorem dwK_app (ops : List Oper) (s : St) (G WS : List Nat) (i : Nat) (d : Option Tmp) (r : List Oper) (T : List AV) (Hc : Heap) (D : Delta) (v : AV) (s1 : St) : dwK C call rnd ops s G WS i d r T Hc D (v, s1) = match memN i G with
      | false => (match s1.j with
        | [] => drawW C call rnd ops s G WS (i + 1) r (putT T d v) Hc D
        | _ :: _ => .fail)
      | true => (match memN i WS with
        | true => drawW C call rnd ops s G WS (i + 1) r (putT T d v) s1.H (s1.j ++ D)
        | false => (match oldIds (s.pre ++ [s.n, i]) s1.j with
          | [] => drawW C call rnd ops s G WS (i + 1) r (putT T d v) s1.H (s1.j ++ D)
          | _ :: _ => .fail)) := rfl
@[go_sem] theorem dw_cons (ops : List Oper) (s : St) (G WS : List Nat) (i : Nat) (o : Oper) (r : List Oper) (T : List AV) (Hc : Heap) (D : Delta) : drawW C call rnd ops s G WS i (o :: r) T Hc D = match wantedA ops T o with
    | true => (opA C call rnd T o (opSt s i Hc)).bind (dwK C call rnd ops s G WS i o.dst r T Hc D)
    | false => drawW C call rnd ops s G WS (i + 1) r (putT T o.dst .undef) Hc D := rfl
end
end
@[go_sem] theorem op_j (s : St) (i : Nat) (H : Heap) : (opSt s i H).j = [] := rfl
@[go_sem] theorem op_H (s : St) (i : Nat) (H : Heap) : (opSt s i H).H = H := rfl
end Go.Am
namespace Go.Am
open Go
section
variable {C : Cfg} {K : Nat}
theorem reachL_nil (H : Heap) (k : Nat) (bs : List Nm) (xs : List Blk) : reachL H (k + 1) [] bs xs = some (bs, xs) := rfl
theorem reachL_cons (H : Heap) (k : Nat) (b : Nm) (r bs : List Nm) (xs : List Blk) : reachL H (k + 1) (b :: r) bs xs = (match memNm b bs with
      | true => reachL H k r bs xs
      | false => (match hget H b with
        | some x => reachL H k (namesB true x r) (bs ++ [b]) (xs ++ [x])
        | none => reachL H k r bs xs)) := rfl
theorem lendM_nil (k : Nat) (bs : List Nm) (xs : List Blk) (s : St) : lendM (k + 1) [] bs xs s = .ret ((bs, xs), s) := rfl
theorem lendM_cons (k : Nat) (b : Nm) (r bs : List Nm) (xs : List Blk) : lendM (k + 1) (b :: r) bs xs = (match memNm b bs with
      | true => lendM k r bs xs
      | false => (getM b).bind fun x => lendM k (namesB false x r) (bs ++ [b]) (xs ++ [x])) := rfl
theorem call3_ptr {f : FuncId} {fn : Func} {args cs : List AV} {u : Nat} {s : St} (hm : C.mode.get f = some 3) (hf : C.fn.get f = some fn) (hn : namesVs false args [] = []) (hr : renVs [] args = some args)
    (hc : namesVs true cs [] = []) (hcr : ∀ mp, renVs mp cs = some cs)
    (hd : (bodyA (C.at f) (acall C K) (around C K) (K + 1) fn args s0).Does fun x => ∃ b, x.1 = .ptr b 0 ∧ hget x.2.H b = some (.cells cs true u)) :
    acall C (K + 1) f args s = .ret (.ptr s.name 0, s.new (.cells cs true u)) := by
  rw [acall_succ]
  unfold enterA
  rw [hf]; simp only
  rw [hm]; simp only
  obtain ⟨⟨v1, s1⟩, e1, b, rfl, e2⟩ := hd
  simp only at e2
  unfold handA
  have hl : lendM 200 (namesVs false args []) [] [] s = .ret (([], []), s) := by rw [hn]; exact lendM_nil 199 _ _ _
  rw [bind_app, hl]
  have hnd : nodupN [] = true := rfl
  have hz : zipN [] (namesFrom [] 0 ([] : List Nm).length) = [] := rfl
  have hrb : renBs [] [] = some [] := rfl
  have hcalm : calm [] = true := rfl
  simp only [Tr.bind_ret, hnd, hz, hr, hrb, hcalm]
  have hst : (⟨zipB (namesFrom [] 0 ([] : List Nm).length) [], ([] : List Nm).length, [], false, []⟩ : St) = s0 := rfl
  rw [hst, e1]
  have ho : oneR false (.ret (.ptr b 0, s1)) = some (.ptr b 0, s1.H) := rfl
  have hy : getAll s1.H (namesFrom [] 0 ([] : List Nm).length) = some [] := rfl
  rw [ho]; simp only
  rw [hy]; simp only
  have hnv : namesV true (.ptr b 0) (namesBs true [] []) = [b] := rfl
  rw [hnv]
  have hre0 : ∀ k, reachL s1.H (k + 2) [b] [] [] = some ([b], [.cells cs true u]) := fun k => by
    rw [reachL_cons]
    have : memNm b [] = false := rfl
    rw [this]; simp only
    rw [e2]; simp only
    show reachL s1.H (k + 1) (namesVs true cs []) [b] [_] = _
    rw [hc, reachL_nil]
  have hre : reachL s1.H 200 [b] (namesFrom [] 0 ([] : List Nm).length) [] = some ([b], [.cells cs true u]) := hre0 198
  rw [hre]; simp only
  have hn0 : nodupN [b] = true := rfl
  rw [hn0]; simp only
  rw [bind_app]
  show (Tr.ret ((s.pre, s.n), s)).bind _ = _
  rw [Tr.bind_ret]
  have hz2 : zipN [b] ([] ++ namesFrom s.pre s.n ([Blk.cells cs true u] : List Blk).length) = [(b, s.pre ++ [s.n])] := rfl
  simp only
  rw [hz2]
  have hv2 : renV [(b, s.pre ++ [s.n])] (.ptr b 0) = some (.ptr (s.pre ++ [s.n]) 0) := by simp only [renV, lookN, eqb_self]
  have hb2 : renB [(b, s.pre ++ [s.n])] (.cells cs true u) = some (.cells cs true u) := by simp only [renB, hcr]
  simp only [hv2, renBs, hb2, putAll, newAll, bind_app, newM_app, Tr.bind_ret, ret_app]
  rfl
end
end Go.Am
namespace Go.Am
open Go
section
variable {C : Cfg} {K : Nat}
end
end Go.Am
namespace Go.Am
open Go
noncomputable section
section
variable (C : Cfg) (call : FuncId → List AV → M AV) (rnd : Nm → List AV → M AV)
def drawH (ops : List Oper) (s : St) (B : List (List Nat)) (WS : List Nat) : Nat → List Oper → List AV → List Delta → Tr (List AV × List Delta)
  | _, [], T, ds => .ret (T, ds)
  | i, o :: r, T, ds => match wantedA ops T o with
    | true => (opA C call rnd T o (opSt s i (overlay s.H ((nth B i).getD []) 0 ds))).bind fun x => match memN i WS with
      | true => drawH ops s B WS (i + 1) r (putT T o.dst x.1) (ds ++ [x.2.j])
      | false => (match oldIds (s.pre ++ [s.n, i]) x.2.j with
        | [] => drawH ops s B WS (i + 1) r (putT T o.dst x.1) (ds ++ [x.2.j])
        | _ :: _ => .fail)
    | false => drawH ops s B WS (i + 1) r (putT T o.dst .undef) (ds ++ [[]])
end
section
variable {C : Cfg} {call : FuncId → List AV → M AV} {rnd : Nm → List AV → M AV}
theorem olds_snoc (s : St) : ∀ (ds : List Delta) (d : Delta) (i : Nat), olds s i (ds ++ [d]) = olds s i ds ++ [oldIds (s.pre ++ [s.n, i + ds.length]) d]
  | [], d, i => rfl
  | e :: r, d, i => by
    simp only [List.cons_append, olds, olds_snoc s r d (i + 1), List.length_cons]
    rw [show i + 1 + r.length = i + (r.length + 1) by omega]
theorem nth_snoc_W {WS : List Nat} : ∀ (l : List (List Nm)) (x : List Nm) (j : Nat), (∀ k, (nth l k).getD [] ≠ [] → memN (j + k) WS = true) → (x ≠ [] → memN (j + l.length) WS = true) → ∀ k, (nth (l ++ [x]) k).getD [] ≠ [] → memN (j + k) WS = true
  | [], x, j, _, h, k, hk => by
    cases k with
    | zero => exact h hk
    | succ k => exact absurd rfl hk
  | a :: l, x, j, h0, h, k, hk => by
    cases k with
    | zero => exact h0 0 hk
    | succ k =>
      have := nth_snoc_W l x (j + 1) (fun k hk => by rw [show j + 1 + k = j + (k + 1) by omega]; exact h0 (k + 1) hk) (fun hx => by rw [show j + 1 + l.length = j + (l.length + 1) by omega]; exact h hx) k hk
      rw [show j + (k + 1) = j + 1 + k by omega]; exact this
theorem olds_length (s : St) : ∀ (ds : List Delta) (i : Nat), (olds s i ds).length = ds.length
  | [], _ => rfl
  | d :: r, i => by simp only [olds, List.length_cons, olds_length s r (i + 1)]
theorem drawH_spec {ops : List Oper} {s : St} {B : List (List Nat)} {WS : List Nat} {Q : List AV × List Delta → Prop} {T0 : List AV} :
    ∀ (l : List Oper) (i : Nat) (done : List Oper) (vs : List AV) (ds : List Delta), done ++ l = ops → vs.length = i → ds.length = i → done.length = i →
      (∀ k, (nth (olds s 0 ds) k).getD [] ≠ [] → memN k WS = true) →
      (drawH C call rnd ops s B WS i l (putsT done vs T0) ds).Does Q →
      ∃ vs' ds', drawPass C call rnd ops s B i l (putsT done vs T0) vs ds = some (vs', ds') ∧ vs'.length = ops.length ∧ Q (putsT ops vs' T0, ds') ∧ (∀ k, (nth (olds s 0 ds') k).getD [] ≠ [] → memN k WS = true)
  | [], i, done, vs, ds, ho, hv, hd, hn, hW, h => by
    obtain ⟨a, ha, hq⟩ := h
    injection ha with ha; subst ha
    rw [List.append_nil] at ho; subst ho
    exact ⟨vs, ds, rfl, by omega, hq, hW⟩
  | o :: r, i, done, vs, ds, ho, hv, hd, hn, hW, h => by
    have hi : done.length = vs.length := by omega
    have hW' : ∀ d : Delta, (oldIds (s.pre ++ [s.n, i]) d ≠ [] → memN i WS = true) → ∀ k, (nth (olds s 0 (ds ++ [d])) k).getD [] ≠ [] → memN k WS = true := by
      intro d hd' k hk
      rw [olds_snoc] at hk
      have := nth_snoc_W (WS := WS) (olds s 0 ds) (oldIds (s.pre ++ [s.n, 0 + ds.length]) d) 0 (fun k hk => by rw [Nat.zero_add]; exact hW k hk) (fun hx => by
        rw [olds_length, Nat.zero_add, hd]; rw [Nat.zero_add, hd] at hx; exact hd' hx) k hk
      rw [Nat.zero_add] at this; exact this
    unfold drawH at h
    unfold drawPass
    cases hw : wantedA ops (putsT done vs T0) o with
    | false =>
      rw [hw] at h; simp only at h ⊢
      rw [← putsT_snoc done vs T0 o .undef hi.symm] at h ⊢
      exact drawH_spec r (i + 1) (done ++ [o]) (vs ++ [.undef]) (ds ++ [[]]) (by simp [ho]) (by simp [hv]) (by simp [hd]) (by simp [hn]) (hW' [] (fun hx => absurd rfl hx)) h
    | true =>
      rw [hw] at h; simp only at h ⊢
      rw [does_bind] at h
      obtain ⟨x, hx, h⟩ := h
      have hone : one (opA C call rnd (putsT done vs T0) o (opSt s i (overlay s.H ((nth B i).getD []) 0 ds))) = some (x.1, x.2.j) := by rw [hx]; rfl
      rw [hone]; simp only
      have go : (oldIds (s.pre ++ [s.n, i]) x.2.j ≠ [] → memN i WS = true) → (drawH C call rnd ops s B WS (i + 1) r (putT (putsT done vs T0) o.dst x.1) (ds ++ [x.2.j])).Does Q → ∃ vs' ds', drawPass C call rnd ops s B (i + 1) r (putT (putsT done vs T0) o.dst x.1) (vs ++ [x.1]) (ds ++ [x.2.j]) = some (vs', ds') ∧ vs'.length = ops.length ∧ Q (putsT ops vs' T0, ds') ∧ (∀ k, (nth (olds s 0 ds') k).getD [] ≠ [] → memN k WS = true) := by
        intro hd' h
        rw [← putsT_snoc done vs T0 o x.1 hi.symm] at h ⊢
        exact drawH_spec r (i + 1) (done ++ [o]) (vs ++ [x.1]) (ds ++ [x.2.j]) (by simp [ho]) (by simp [hv]) (by simp [hd]) (by simp [hn]) (hW' x.2.j hd') h
      cases hws : memN i WS with
      | true => rw [hws] at h; exact go (fun _ => hws) h
      | false =>
        rw [hws] at h; simp only at h
        cases hoo : oldIds (s.pre ++ [s.n, i]) x.2.j with
        | nil => rw [hoo] at h; exact go (fun hx => absurd hoo hx) h
        | cons a b => rw [hoo] at h; obtain ⟨_, h, _⟩ := h; cases h
theorem rivals_nil {B : List (List Nat)} {n i : Nat} (hi : i < n) : ∀ (ws : List (List Nm)) (k0 : Nat), (∀ k, (nth ws k).getD [] ≠ [] → ∀ j, j < n → j = k0 + k ∨ j ∈ pre B (k0 + k) ∨ (k0 + k) ∈ pre B j) → rivals B i k0 ws = []
  | [], _, _ => rfl
  | w :: r, k0, h => by
    have ih := rivals_nil hi r (k0 + 1) fun k hk j hj => by
      rw [show k0 + 1 + k = k0 + (k + 1) by omega]; exact h (k + 1) hk j hj
    cases w with
    | nil => unfold rivals; exact ih
    | cons a b =>
      unfold rivals
      simp only
      rw [ih]
      have := h 0 (by show a :: b ≠ []; simp) i hi
      rw [Nat.add_zero] at this
      rcases this with rfl | h1 | h1
      · have : Nat.beq i i = true := Nat.beq_refl i
        rw [this]; rfl
      · have : memN i ((nth B k0).getD []) = true := (memN_iff _ _).2 h1
        rw [this]; cases Nat.beq i k0 <;> cases memN k0 ((nth B i).getD []) <;> rfl
      · have : memN k0 ((nth B i).getD []) = true := (memN_iff _ _).2 h1
        rw [this]; cases Nat.beq i k0 <;> cases memN i ((nth B k0).getD []) <;> rfl
theorem draw_hid (hc : ∀ f args, Nice (call f args)) (hr : ∀ l args, Nice (rnd l args)) {ops : List Oper} {s : St} {T : List AV} (B : List (List Nat)) (WS : List Nat) (hB : predsAll [] ops = B) (hok : ordEach B ops.length WS = true) {Q : List AV × St → Prop}
    (h : (drawH C call rnd ops s B WS 0 ops T []).Does fun x => Q (x.1, drawEnd s (allD x.2))) : (drawF C call rnd ops T s).Does Q := by
  rw [drawF_eq hc hr]
  subst hB
  obtain ⟨vs, ds, h1, h2, h3, h4⟩ := drawH_spec (C := C) (call := call) (rnd := rnd) (T0 := T) ops 0 [] [] [] rfl rfl rfl rfl (fun k hk => absurd rfl hk) h
  unfold drawA
  have h1' : drawPass C call rnd ops s (predsAll [] ops) 0 ops T [] [] = some (vs, ds) := h1
  rw [h1']; simp only
  have hck : drawCheck C call rnd ops s (predsAll [] ops) ds (olds s 0 ds) T 0 ops vs = true := check_quiet ops vs T 0 h2 fun k hk => rivals_nil (n := ops.length) (by omega) _ 0 fun j hj i hi => by
    rw [Nat.zero_add]
    exact ordEach_spec WS hok j ((memN_iff _ _).1 (h4 j hj)) i hi
  cases allNil (olds s 0 ds) with
  | true => exact ⟨_, rfl, h3⟩
  | false =>
    simp only
    rw [hck]
    exact ⟨_, rfl, h3⟩
theorem draw_machH {C0 : Cfg} {K : Nat} {ops : List Oper} {s : St} {T : List AV} (B : List (List Nat)) (WS : List Nat) (hB : predsAll [] ops = B) (hok : ordEach B ops.length WS = true) {Q : List AV × St → Prop}
    (h : (drawH C (acall C0 K) (around C0 K) ops s B WS 0 ops T []).Does fun x => Q (x.1, drawEnd s (allD x.2))) : (drawF C (acall C0 K) (around C0 K) ops T s).Does Q :=
  draw_hid (Nice.mach C0 K).1 (Nice.mach C0 K).2 B WS hB hok h
@[go_sem] theorem dh_nil (ops : List Oper) (s : St) (B : List (List Nat)) (WS : List Nat) (i : Nat) (T : List AV) (ds : List Delta) : drawH C call rnd ops s B WS i [] T ds = .ret (T, ds) := rfl
end
def dhK (C : Cfg) (call : FuncId → List AV → M AV) (rnd : Nm → List AV → M AV) (ops : List Oper) (s : St) (B : List (List Nat)) (WS : List Nat) (i : Nat) (d : Option Tmp) (r : List Oper) (T : List AV) (ds : List Delta) (x : AV × St) : Tr (List AV × List Delta) := match memN i WS with
  | true => drawH C call rnd ops s B WS (i + 1) r (putT T d x.1) (ds ++ [x.2.j])
  | false => (match oldIds (s.pre ++ [s.n, i]) x.2.j with
    | [] => drawH C call rnd ops s B WS (i + 1) r (putT T d x.1) (ds ++ [x.2.j])
    | _ :: _ => .fail)
section
variable {C : Cfg} {call : FuncId → List AV → M AV} {rnd : Nm → List AV → M AV}
@[go_sem] theorem dhK_app (ops : List Oper) (s : St) (B : List (List Nat)) (WS : List Nat) (i : Nat) (d : Option Tmp) (r : List Oper) (T : List AV) (ds : List Delta) (v : AV) (s1 : St) : dhK C call rnd ops s B WS i d r T ds (v, s1) = match memN i WS with
  | true => drawH C call rnd ops s B WS (i + 1) r (putT T d v) (ds ++ [s1.j])
  | false => (match oldIds (s.pre ++ [s.n, i]) s1.j with
    | [] => drawH C call rnd ops s B WS (i + 1) r (putT T d v) (ds ++ [s1.j])
    | _ :: _ => .fail) := rfl
@[go_sem] theorem dh_cons (ops : List Oper) (s : St) (B : List (List Nat)) (WS : List Nat) (i : Nat) (o : Oper) (r : List Oper) (T : List AV) (ds : List Delta) : drawH C call rnd ops s B WS i (o :: r) T ds = match wantedA ops T o with
    | true => (opA C call rnd T o (opSt s i (overlay s.H ((nth B i).getD []) 0 ds))).bind (dhK C call rnd ops s B WS i o.dst r T ds)
    | false => drawH C call rnd ops s B WS (i + 1) r (putT T o.dst .undef) (ds ++ [[]]) := rfl
@[go_sem] theorem oldIds_nil (p : Nm) : oldIds p [] = [] := rfl
attribute [go_sem] overlay allD Option.getD_some
end
end
end Go.Am
namespace Go.Am
open Go
section
variable {C : Cfg} {K : Nat}
end
end Go.Am
namespace Go.Am
open Go
theorem nth_append_right {α : Type} (p l : List α) (i : Nat) : nth (p ++ l) (p.length + i) = nth l i := by
  rw [nth_eq, nth_eq, List.getElem?_append_right (by omega)]; congr 1; omega
theorem nth_append_left {α : Type} (p l : List α) {i : Nat} (h : i < p.length) : nth (p ++ l) i = nth p i := by
  rw [nth_eq, nth_eq, List.getElem?_append_left h]
theorem setNth_append {α : Type} : ∀ (p l : List α) (i : Nat) (v : α), setNth (p ++ l) (p.length + i) v = p ++ setNth l i v
  | [], l, i, v => by simp
  | a :: p, l, i, v => by
    have : (a :: p).length + i = (p.length + i) + 1 := by simp; omega
    rw [this]
    show a :: setNth (p ++ l) (p.length + i) v = _
    rw [setNth_append p l i v]; rfl
theorem readN_at (post : List AV) : ∀ (r pre : List AV), readN (pre ++ r ++ post) pre.length r.length = some r
  | [], pre => rfl
  | a :: r, pre => by
    have h1 : nth (pre ++ (a :: r) ++ post) pre.length = some a := by
      rw [List.append_assoc]
      have := nth_append_right pre ((a :: r) ++ post) 0
      rw [Nat.add_zero] at this
      rw [this]; rfl
    have h2 := readN_at post r (pre ++ [a])
    have e1 : pre ++ [a] ++ r ++ post = pre ++ (a :: r) ++ post := by simp
    have e2 : (pre ++ [a]).length = pre.length + 1 := by simp
    rw [e1, e2] at h2
    show readN _ _ (r.length + 1) = _
    unfold readN
    rw [h1]; simp only
    rw [h2]
theorem writeN_at (post : List AV) : ∀ (r r' pre : List AV), r'.length = r.length → writeN (pre ++ r ++ post) pre.length r' = some (pre ++ r' ++ post)
  | [], [], pre, _ => rfl
  | [], b :: r', pre, h => by simp at h
  | a :: r, [], pre, h => by simp at h
  | a :: r, b :: r', pre, h => by
    have h1 : nth (pre ++ (a :: r) ++ post) pre.length = some a := by
      rw [List.append_assoc]
      have := nth_append_right pre ((a :: r) ++ post) 0
      rw [Nat.add_zero] at this
      rw [this]; rfl
    have h3 : setNth (pre ++ (a :: r) ++ post) pre.length b = pre ++ (b :: r) ++ post := by
      rw [List.append_assoc]
      have := setNth_append pre ((a :: r) ++ post) 0 b
      rw [Nat.add_zero] at this
      rw [this, List.append_assoc]; rfl
    have h2 := writeN_at post r r' (pre ++ [b]) (by simpa using h)
    have e1 : pre ++ [b] ++ r ++ post = pre ++ (b :: r) ++ post := by simp
    have e2 : (pre ++ [b]).length = pre.length + 1 := by simp
    have e3 : pre ++ [b] ++ r' ++ post = pre ++ (b :: r') ++ post := by simp
    rw [e1, e2, e3] at h2
    unfold writeN
    rw [h1]; simp only
    rw [h3, h2]
section
variable {α : Type} {g : α → List AV} {z : Nat}
theorem cells_len (hz : ∀ a, (g a).length = z) : ∀ l : List α, (l.flatMap g).length = l.length * z
  | [] => by simp
  | a :: r => by simp only [List.flatMap_cons, List.length_append, hz, cells_len hz r, List.length_cons, Nat.succ_mul]; omega
theorem cells_split (l : List α) {i : Nat} (h : i < l.length) : l.flatMap g = (l.take i).flatMap g ++ g l[i] ++ (l.drop (i + 1)).flatMap g := by
  conv => lhs; rw [← List.take_append_drop i l, List.drop_eq_getElem_cons h]
  rw [List.flatMap_append, List.flatMap_cons, List.append_assoc]
theorem nth_cells (hz : ∀ a, (g a).length = z) (l : List α) {i k : Nat} (h : i < l.length) (hk : k < z) : nth (l.flatMap g) (i * z + k) = nth (g l[i]) k := by
  rw [cells_split l h, List.append_assoc]
  have e : i * z = ((l.take i).flatMap g).length := by rw [cells_len hz, List.length_take, Nat.min_eq_left (by omega)]
  rw [e, nth_append_right, nth_append_left _ _ (by rw [hz]; exact hk)]
theorem set_split (l : List α) {i : Nat} (h : i < l.length) (a : α) : (l.set i a).flatMap g = (l.take i).flatMap g ++ g a ++ (l.drop (i + 1)).flatMap g := by
  rw [cells_split (l.set i a) (i := i) (by simpa using h), List.getElem_set_self]
  congr 2
  · rw [List.take_set_of_le (Nat.le_refl i)]
  · rw [List.drop_set_of_lt (by omega)]
theorem wr_cells (hz : ∀ a, (g a).length = z) (l : List α) {i : Nat} (h : i < l.length) (a : α) : writeN (l.flatMap g) (i * z) (g a) = some ((l.set i a).flatMap g) := by
  have e := writeN_at ((l.drop (i + 1)).flatMap g) (g l[i]) (g a) ((l.take i).flatMap g) (by rw [hz, hz])
  rw [← cells_split l h, cells_len hz, List.length_take, Nat.min_eq_left (by omega), ← set_split l h] at e
  exact e
theorem rowsA_cells (hz : ∀ a, (g a).length = z) {f : α → AV} (hf : ∀ a, rowA z (g a) = f a) : ∀ (l : List α), rowsA z l.length (l.flatMap g) = l.map f
  | [] => rfl
  | a :: r => by
    show rowA z (((a :: r).flatMap g).take z) :: rowsA z r.length (((a :: r).flatMap g).drop z) = _
    have h1 : ((a :: r).flatMap g).take z = g a := by rw [List.flatMap_cons, ← hz a, List.take_left]
    have h2 : ((a :: r).flatMap g).drop z = r.flatMap g := by rw [List.flatMap_cons, ← hz a, List.drop_left]
    rw [h1, h2, rowsA_cells hz hf r, hf]; rfl
theorem freezeGs_cells {row : List AV → Option (List AV)} {H : Heap} (hg : ∀ a, ∀ r t, freezeGs row H r = some t → freezeGs row H (g a ++ r) = some (g a ++ t)) : ∀ (l : List α), freezeGs row H (l.flatMap g) = some (l.flatMap g)
  | [] => rfl
  | a :: r => by rw [List.flatMap_cons]; exact hg a _ _ (freezeGs_cells hg r)
theorem freeze_row (hz : ∀ a, (g a).length = z) (h1 : 1 ≤ z) {f : α → AV} (hf : ∀ a, rowA z (g a) = f a) {row : List AV → Option (List AV)} {H : Heap} (l : List α) (hrow : row (l.flatMap g) = some (l.flatMap g)) {b : Nm} (hb : hget H b = some (.cells (l.flatMap g) true z)) (c : Nat) (ex : Bool) :
    freezeG row H (.slice b 0 l.length c ex) = some (.lst (l.map f)) := by
  cases l with
  | nil => rfl
  | cons a r =>
    have hr : readN ((a :: r).flatMap g) 0 ((r.length + 1) * z) = some ((a :: r).flatMap g) := by
      have e := readN_at [] ((a :: r).flatMap g) []
      rw [cells_len hz] at e
      simpa using e
    have hw := rowsA_cells hz hf (a :: r)
    show (match hget H b with
      | some (.cells cs true u) => (match Nat.ble 1 u, readN cs 0 ((r.length + 1) * u) with
        | true, some l => (match row l with | some l => some (AV.lst (rowsA u (r.length + 1) l)) | none => none)
        | _, _ => none)
      | _ => none) = _
    rw [hb]; simp only
    rw [Nat.ble_eq_true_of_le h1, hr]; simp only
    rw [hrow]; simp only
    exact congrArg (fun x => some (AV.lst x)) hw
end
end Go.Am
namespace Go.Am
open Go
noncomputable section
def ltAll (i : Nat) : List Nat → Bool
  | [] => true
  | n :: r => match Nat.blt n i with | true => ltAll i r | false => false
def allBack : Nat → List (List Nat) → Bool
  | _, [] => true
  | i, l :: r => match ltAll i l with | true => allBack (i + 1) r | false => false
theorem ltAll_spec {i : Nat} : ∀ {l : List Nat}, ltAll i l = true → ∀ n ∈ l, n < i
  | [], _, n, h => by simp at h
  | a :: r, h, n, hn => by
    unfold ltAll at h
    cases h1 : Nat.blt a i with
    | false => rw [h1] at h; cases h
    | true =>
      rw [h1] at h
      rcases List.mem_cons.1 hn with rfl | hn
      · rw [Nat.blt_eq] at h1; exact h1
      · exact ltAll_spec h n hn
theorem allBack_spec : ∀ (B : List (List Nat)) (j : Nat), allBack j B = true → ∀ i, ∀ n ∈ (nth B i).getD [], n < j + i
  | [], j, _, i, n, h => by cases h
  | l :: r, j, h, i, n, hn => by
    unfold allBack at h
    cases h1 : ltAll j l with
    | false => rw [h1] at h; cases h
    | true =>
      rw [h1] at h
      cases i with
      | zero => exact ltAll_spec h1 n hn
      | succ i =>
        have := allBack_spec r (j + 1) h i n hn
        omega
def sameW : List Nm → List Nm → Bool
  | [], [] => true
  | a :: x, b :: y => match eqb a b with | true => sameW x y | false => false
  | _, _ => false
theorem sameW_eq : ∀ {x y : List Nm}, sameW x y = true → x = y
  | [], [], _ => rfl
  | [], _ :: _, h => by cases h
  | _ :: _, [], h => by cases h
  | a :: x, b :: y, h => by
    unfold sameW at h
    cases h1 : eqb a b with
    | false => rw [h1] at h; cases h
    | true => rw [h1] at h; rw [(eqb_iff a b).1 h1, sameW_eq h]
@[go_sem] theorem sameW_self : ∀ x : List Nm, sameW x x = true
  | [] => rfl
  | a :: x => by unfold sameW; rw [eqb_self]; exact sameW_self x
def hidB : List Nm → (List Nm → Bool) → Bool
  | [], _ => true
  | y, f => f y
def wAt (W : List (List Nm)) (i : Nat) : List Nm := (nth W i).getD []
section
variable (C : Cfg) (call : FuncId → List AV → M AV) (rnd : Nm → List AV → M AV)
def drawX (ops : List Oper) (s : St) (B : List (List Nat)) (W : List (List Nm)) : Nat → List Oper → List AV → List Delta → Tr (List AV × List Delta)
  | _, [], T, ds => .ret (T, ds)
  | i, o :: r, T, ds => match wantedA ops T o with
    | true => (opA C call rnd T o (opSt s i (overlay s.H ((nth B i).getD []) 0 ds))).bind fun x => match sameW (oldIds (s.pre ++ [s.n, i]) x.2.j) (wAt W i), hidB (rivals B i 0 W) fun y => isRet (opA C call rnd T o (opSt s i (hide (overlay s.H ((nth B i).getD []) 0 ds) y))) with
      | true, true => drawX ops s B W (i + 1) r (putT T o.dst x.1) (ds ++ [x.2.j])
      | _, _ => .fail
    | false => (match wAt W i with
      | [] => drawX ops s B W (i + 1) r (putT T o.dst .undef) (ds ++ [[]])
      | _ :: _ => .fail)
end
section
variable {C : Cfg} {call : FuncId → List AV → M AV} {rnd : Nm → List AV → M AV}
theorem take_wAt {W : List (List Nm)} {i : Nat} (h : i < W.length) : W.take (i + 1) = W.take i ++ [wAt W i] := by
  rw [List.take_add_one, ← nth_eq]
  unfold wAt
  rw [nth_eq, List.getElem?_eq_getElem h]; rfl
theorem isRet_some {t : Tr (AV × St)} (h : isRet t = true) : ∃ x, one t = some x := by
  cases t with
  | ret x => exact ⟨_, rfl⟩
  | _ => cases h
theorem one_isRet {t : Tr (AV × St)} {x : AV × Delta} (h : one t = some x) : isRet t = true := by
  cases t with
  | ret x => rfl
  | _ => cases h
theorem drawX_spec (hc : ∀ f args, Nice (call f args)) (hr : ∀ l args, Nice (rnd l args)) {ops : List Oper} {s : St} {B : List (List Nat)} {W : List (List Nm)} {Q : List AV × List Delta → Prop} {T0 : List AV} (hB : allBack 0 B = true) (hW : W.length = ops.length) :
    ∀ (l : List Oper) (i : Nat) (done : List Oper) (vs : List AV) (ds : List Delta), done ++ l = ops → vs.length = i → ds.length = i → done.length = i → olds s 0 ds = W.take i →
      (drawX C call rnd ops s B W i l (putsT done vs T0) ds).Does Q →
      ∃ vs2 ds2, drawPass C call rnd ops s B i l (putsT done vs T0) vs ds = some (vs ++ vs2, ds ++ ds2) ∧ vs2.length = l.length ∧ ds2.length = l.length ∧ Q (putsT ops (vs ++ vs2) T0, ds ++ ds2) ∧ olds s 0 (ds ++ ds2) = W ∧ drawCheck C call rnd ops s B (ds ++ ds2) W (putsT done vs T0) i l vs2 = true
  | [], i, done, vs, ds, ho, hv, hd, hn, hw, h => by
    obtain ⟨a, ha, hq⟩ := h
    injection ha with ha; subst ha
    rw [List.append_nil] at ho; subst ho
    refine ⟨[], [], by simp [drawPass], rfl, rfl, by simpa using hq, ?_, rfl⟩
    rw [List.append_nil, hw, ← hn, ← hW, List.take_length]
  | o :: r, i, done, vs, ds, ho, hv, hd, hn, hw, h => by
    have hi : done.length = vs.length := by omega
    have hlt : i < W.length := by rw [hW, ← ho]; simp; omega
    have hpre : ∀ (q : List Delta) b, hget (overlay s.H ((nth B i).getD []) 0 (ds ++ q)) b = hget (overlay s.H ((nth B i).getD []) 0 ds) b := by
      intro q b
      rw [hget_overlay s.H, hget_overlay s.H, mg_append]
      refine mg_off _ b _ _ _ fun j hj => ?_
      cases hm : memN j ((nth B i).getD []) with
      | false => rfl
      | true => have := allBack_spec B 0 hB i j ((memN_iff _ _).1 hm); omega
    unfold drawX at h
    unfold drawPass
    cases hwa : wantedA ops (putsT done vs T0) o with
    | false =>
      rw [hwa] at h; simp only at h ⊢
      cases hwi : wAt W i with
      | cons a b => rw [hwi] at h; obtain ⟨_, h, _⟩ := h; cases h
      | nil =>
        rw [hwi] at h; simp only at h
        rw [← putsT_snoc done vs T0 o .undef hi.symm] at h ⊢
        obtain ⟨vs2, ds2, g1, g2, g3, g4, g5, g6⟩ := drawX_spec hc hr hB hW r (i + 1) (done ++ [o]) (vs ++ [.undef]) (ds ++ [[]]) (by simp [ho]) (by simp [hv]) (by simp [hd]) (by simp [hn]) (by
          rw [olds_snoc, hw, take_wAt hlt, hwi]; rfl) h
        refine ⟨.undef :: vs2, [] :: ds2, by rw [g1]; simp, by simp [g2], by simp [g3], by simpa using g4, by simpa using g5, ?_⟩
        unfold drawCheck
        rw [putsT_snoc done vs T0 o .undef hi.symm] at g6
        simp only [List.append_assoc, List.singleton_append] at g6
        cases hri : rivals B i 0 W with
        | nil => exact g6
        | cons a b => simp only; rw [hwa]; exact g6
    | true =>
      rw [hwa] at h; simp only at h ⊢
      rw [does_bind] at h
      obtain ⟨x, hx, h⟩ := h
      have hone : one (opA C call rnd (putsT done vs T0) o (opSt s i (overlay s.H ((nth B i).getD []) 0 ds))) = some (x.1, x.2.j) := by rw [hx]; rfl
      rw [hone]; simp only
      cases hsa : sameW (oldIds (s.pre ++ [s.n, i]) x.2.j) (wAt W i) with
      | false => rw [hsa] at h; obtain ⟨_, h, _⟩ := h; cases h
      | true =>
        rw [hsa] at h
        cases hhi : hidB (rivals B i 0 W) fun y => isRet (opA C call rnd (putsT done vs T0) o (opSt s i (hide (overlay s.H ((nth B i).getD []) 0 ds) y))) with
        | false => rw [hhi] at h; obtain ⟨_, h, _⟩ := h; cases h
        | true =>
          rw [hhi] at h; simp only at h
          rw [← putsT_snoc done vs T0 o x.1 hi.symm] at h ⊢
          obtain ⟨vs2, ds2, g1, g2, g3, g4, g5, g6⟩ := drawX_spec hc hr hB hW r (i + 1) (done ++ [o]) (vs ++ [x.1]) (ds ++ [x.2.j]) (by simp [ho]) (by simp [hv]) (by simp [hd]) (by simp [hn]) (by
            rw [olds_snoc, hw, take_wAt hlt, Nat.zero_add, hd, sameW_eq hsa]) h
          refine ⟨x.1 :: vs2, x.2.j :: ds2, by rw [g1]; simp, by simp [g2], by simp [g3], by simpa using g4, by simpa using g5, ?_⟩
          unfold drawCheck
          rw [putsT_snoc done vs T0 o x.1 hi.symm] at g6
          simp only [List.append_assoc, List.singleton_append] at g6
          cases hri : rivals B i 0 W with
          | nil => exact g6
          | cons a b =>
            simp only
            rw [hwa]; simp only
            rw [hri] at hhi
            obtain ⟨y, hy⟩ := isRet_some (hhi : isRet _ = true)
            have h2 := one_congr hc hr (H' := hide (overlay s.H ((nth B i).getD []) 0 (ds ++ x.2.j :: ds2)) (a :: b)) (fun b => by rw [hget_hide, hget_hide, hpre]) hy
            rw [one_isRet h2]
            exact g6
theorem draw_riv (hc : ∀ f args, Nice (call f args)) (hr : ∀ l args, Nice (rnd l args)) {ops : List Oper} {s : St} {T : List AV} (B : List (List Nat)) (W : List (List Nm)) (hB : predsAll [] ops = B) (hb : allBack 0 B = true) (hW : W.length = ops.length) {Q : List AV × St → Prop}
    (h : (drawX C call rnd ops s B W 0 ops T []).Does fun x => Q (x.1, drawEnd s (allD x.2))) : (drawF C call rnd ops T s).Does Q := by
  rw [drawF_eq hc hr]
  subst hB
  obtain ⟨vs, ds, h1, h2, h3, h4, h5, h6⟩ := drawX_spec (C := C) (call := call) (rnd := rnd) (T0 := T) hc hr hb hW ops 0 [] [] [] rfl rfl rfl rfl (by simp [olds]) h
  unfold drawA
  have h1' : drawPass C call rnd ops s (predsAll [] ops) 0 ops T [] [] = some (vs, ds) := h1
  rw [h1']; simp only
  have h5' : olds s 0 ds = W := h5
  rw [h5']
  have h6' : drawCheck C call rnd ops s (predsAll [] ops) ds W T 0 ops vs = true := h6
  rw [h6']
  cases allNil W with
  | true => exact ⟨_, rfl, h4⟩
  | false => exact ⟨_, rfl, h4⟩
theorem draw_machX {C0 : Cfg} {K : Nat} {ops : List Oper} {s : St} {T : List AV} (B : List (List Nat)) (W : List (List Nm)) (hB : predsAll [] ops = B) (hb : allBack 0 B = true) (hW : W.length = ops.length) {Q : List AV × St → Prop}
    (h : (drawX C (acall C0 K) (around C0 K) ops s B W 0 ops T []).Does fun x => Q (x.1, drawEnd s (allD x.2))) : (drawF C (acall C0 K) (around C0 K) ops T s).Does Q :=
  draw_riv (Nice.mach C0 K).1 (Nice.mach C0 K).2 B W hB hb hW h
@[go_sem] theorem dx_nil (ops : List Oper) (s : St) (B : List (List Nat)) (W : List (List Nm)) (i : Nat) (T : List AV) (ds : List Delta) : drawX C call rnd ops s B W i [] T ds = .ret (T, ds) := rfl
end
def dxK (C : Cfg) (call : FuncId → List AV → M AV) (rnd : Nm → List AV → M AV) (ops : List Oper) (s : St) (B : List (List Nat)) (W : List (List Nm)) (i : Nat) (o : Oper) (r : List Oper) (T : List AV) (ds : List Delta) (x : AV × St) : Tr (List AV × List Delta) := match sameW (oldIds (s.pre ++ [s.n, i]) x.2.j) (wAt W i), hidB (rivals B i 0 W) fun y => isRet (opA C call rnd T o (opSt s i (hide (overlay s.H ((nth B i).getD []) 0 ds) y))) with
      | true, true => drawX C call rnd ops s B W (i + 1) r (putT T o.dst x.1) (ds ++ [x.2.j])
      | _, _ => .fail
section
variable {C : Cfg} {call : FuncId → List AV → M AV} {rnd : Nm → List AV → M AV}
@[go_sem] theorem dxK_app (ops : List Oper) (s : St) (B : List (List Nat)) (W : List (List Nm)) (i : Nat) (o : Oper) (r : List Oper) (T : List AV) (ds : List Delta) (v : AV) (s1 : St) : dxK C call rnd ops s B W i o r T ds (v, s1) = match sameW (oldIds (s.pre ++ [s.n, i]) s1.j) (wAt W i) with
      | true => (match hidB (rivals B i 0 W) fun y => isRet (opA C call rnd T o (opSt s i (hide (overlay s.H ((nth B i).getD []) 0 ds) y))) with
        | true => drawX C call rnd ops s B W (i + 1) r (putT T o.dst v) (ds ++ [s1.j])
        | false => .fail)
      | false => .fail := by
  unfold dxK
  simp only
  cases sameW (oldIds (s.pre ++ [s.n, i]) s1.j) (wAt W i) with
  | false => rfl
  | true => cases hidB (rivals B i 0 W) fun y => isRet (opA C call rnd T o (opSt s i (hide (overlay s.H ((nth B i).getD []) 0 ds) y))) <;> rfl
@[go_sem] theorem dx_cons (ops : List Oper) (s : St) (B : List (List Nat)) (W : List (List Nm)) (i : Nat) (o : Oper) (r : List Oper) (T : List AV) (ds : List Delta) : drawX C call rnd ops s B W i (o :: r) T ds = match wantedA ops T o with
    | true => (opA C call rnd T o (opSt s i (overlay s.H ((nth B i).getD []) 0 ds))).bind (dxK C call rnd ops s B W i o r T ds)
    | false => (match wAt W i with
      | [] => drawX C call rnd ops s B W (i + 1) r (putT T o.dst .undef) (ds ++ [[]])
      | _ :: _ => .fail) := rfl
@[go_sem] theorem hidB_nil (f : List Nm → Bool) : hidB [] f = true := rfl
@[go_sem] theorem hidB_cons (a : Nm) (l : List Nm) (f : List Nm → Bool) : hidB (a :: l) f = f (a :: l) := rfl
@[go_sem] theorem isRet_ret {α : Type} (a : α) : isRet (.ret a) = true := rfl
@[go_sem] theorem oldIds_cons (p i : Nm) (x : Option Blk) (r : Delta) : oldIds p ((i, x) :: r) = match isPre p i with | true => oldIds p r | false => i :: oldIds p r := rfl
@[go_sem] theorem isPre_nil (y : Nm) : isPre [] y = true := rfl
@[go_sem] theorem isPre_same (a : Nat) (x y : Nm) : isPre (a :: x) (a :: y) = isPre x y := by show (match Nat.beq a a with | true => isPre x y | false => false) = _; rw [Nat.beq_refl]
@[go_sem] theorem isPre_ne {a b : Nat} (x y : Nm) (h : ¬ a = b) : isPre (a :: x) (b :: y) = false := by
  show (match Nat.beq a b with | true => isPre x y | false => false) = _
  cases h2 : Nat.beq a b with
  | false => rfl
  | true => exact absurd (Nat.eq_of_beq_eq_true h2) h
attribute [go_sem] wAt rivals hide
end
end
end Go.Am
namespace Go.Am
open Go
section
variable {C : Cfg} {K : Nat}
end
noncomputable def dropTok (l : List AV) (b : Nm) (H : Heap) : Heap := match l with | [] => H | _ :: _ => hdel H b
def tokJ (l : List AV) (b : Nm) (j : Delta) : Delta := match l with | [] => j | _ :: _ => (b, none) :: j
theorem hget_dropTok (l : List AV) {b c : Nm} (H : Heap) (h : b ≠ c) : hget (dropTok l b H) c = hget H c := by
  cases l with
  | nil => rfl
  | cons a r => exact hget_hdel_ne H h
section
variable {C : Cfg} {sT e : TypeId} {i : TI} {zv : AV}
theorem append_abs (hd : C.desc sT = some (.slice e)) (hi : C.ty.get e = some i) (hz : i.zero = some zv) (hzl : Nat.beq zv.cells.length i.size = true) (h1 : Nat.ble 1 i.size = true) (hb : Nat.ble 1 i.bytes = true)
    {b : Nm} {l : List AV} {x : AV} {H : Heap} {n z : Nat} {p : Nm} {jr : Bool} {j : Delta} (hzz : i.size = z) (hx : Nat.beq x.cells.length i.size = true) (hroom : (l.length + 1) * i.bytes ≤ 140737488355328) (ht : l ≠ [] → hget H b = some (.tok l.length z)) :
    appendA C true sT sT (ownV b l) (.lst [x]) ⟨H, n, p, jr, j⟩ = .ret (ownV (p ++ [n]) (l ++ [x]), ⟨(p ++ [n], .tok (l.length + 1) z) :: dropTok l b H, n + 1, p, jr, match jr with | true => (p ++ [n], some (.tok (l.length + 1) z)) :: tokJ l b j | false => j⟩) := by
  subst hzz
  unfold appendA
  have hsrc : srcF i zv (.slice e) (.lst [x]) = M.ret (1, [x]) := by
    show (match okZ i.size [x] with | true => M.ret (([x] : List AV).length, [x]) | false => M.fail) = _
    simp only [okZ, hx]; rfl
  rw [hd]; simp only
  rw [hi]; simp only
  rw [hz]; simp only
  rw [hzl]; simp only
  rw [open_ownV]; simp only
  rw [hsrc, bind_app, ret_app, Tr.bind_ret]
  have hr : roomy l.length 1 i.bytes = true := by
    unfold roomy
    rw [Nat.ble_eq_true_of_le hroom, hb]
  unfold appendF
  cases l with
  | nil =>
    have hr0 : roomy 0 1 i.bytes = true := hr
    simp only [h1, ownV, hr0]
    cases jr <;> rfl
  | cons a r =>
    have hg := ht (by simp)
    simp only [h1, ownV, bind_app, getM_app, hg, Tr.bind_ret, Nat.beq_refl, hr, delM_app]
    unfold growF
    simp only [bind_app, newM_app, Tr.bind_ret, ret_app, St.del, St.new, St.name]
    have e1 : ((a :: r) ++ [x]).length = (a :: r).length + 1 := by simp
    rw [e1]
    cases jr <;> simp only [ownV, dropTok, tokJ, St.note, List.cons_append, List.length_cons, List.length_append, List.length_nil]
end
end Go.Am
