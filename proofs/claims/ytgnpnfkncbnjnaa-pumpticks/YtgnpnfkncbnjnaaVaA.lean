/- More rules for calls that are handed blocks, for maps, rows that are appended to, and heaps. -/
import Derived.Test.YtgnpnfkncbnjnaaAmD
set_option linter.unusedSimpArgs false
set_option linter.unusedVariables false
namespace Go.Am
open Go
section
variable {C : Cfg} {K : Nat}
theorem call4_shut {f : FuncId} {fn : Func} {b : Nm} {o u : Nat} {rest cs cs' : List AV} {s : St} {v : AV} (hm : C.mode.get f = some 4) (hf : C.fn.get f = some fn) (hb : hget s.H b = some (.cells cs true u)) (hn : namesVs false rest [] = []) (hr : renVs [(b, [0])] rest = some rest)
    (hc : namesVs false cs [] = []) (hcr : renVs [(b, [0])] cs = some cs) (hc' : namesVs true cs' [] = []) (hcr' : renVs [([0], b)] cs' = some cs') (hv : namesV true v [] = []) (hvr : renV [([0], b)] v = some v)
    (hd : (bodyA (C.at f) (acall C K) (around C K) (K + 1) fn (.ptr [0] o :: rest) ⟨[([0], .cells cs true u)], 1, [], false, []⟩).Does fun x => x.1.shut = v ∧ hget x.2.H [0] = some (.cells cs' true u)) :
    acall C (K + 1) f (.ptr b o :: rest) s = .ret (v, s.put b (.cells cs' true u)) := by
  rw [acall_succ]
  unfold enterA
  rw [hf]; simp only
  rw [hm]; simp only
  obtain ⟨⟨v1, s1⟩, e1, e2v, e2⟩ := hd
  simp only at e2 e2v
  unfold handA
  have hl : lendM 200 (namesVs false (.ptr b o :: rest) []) [] [] s = .ret (([b], [.cells cs true u]), s) := by
    show lendM 200 (b :: namesVs false rest []) [] [] s = _
    rw [hn]
    show (getM b).bind (fun x => lendM 199 (namesB false x []) ([] ++ [b]) ([] ++ [x])) s = _
    rw [bind_app, getM_app, hb]
    show lendM 199 (namesVs false cs []) _ _ s = _
    rw [hc]; rfl
  rw [bind_app, hl]
  have hnd : nodupN [b] = true := rfl
  have hz : zipN [b] (namesFrom [] 0 [b].length) = [(b, [0])] := rfl
  have hra : renVs [(b, [0])] (.ptr b o :: rest) = some (.ptr [0] o :: rest) := by simp only [renVs, renV, lookN, eqb_self, hr]
  have hrb : renBs [(b, [0])] [.cells cs true u] = some [.cells cs true u] := by simp only [renBs, renB, hcr]
  have hcalm : calm [.cells cs true u] = true := rfl
  simp only [Tr.bind_ret, hnd, hz, hra, hrb, hcalm]
  have hst : (⟨zipB (namesFrom [] 0 [b].length) [.cells cs true u], [b].length, [], false, []⟩ : St) = ⟨[([0], .cells cs true u)], 1, [], false, []⟩ := rfl
  rw [hst, e1]
  have ho : oneR true (.ret (v1, s1)) = some (v, s1.H) := by rw [← e2v]; rfl
  have hy : getAll s1.H (namesFrom [] 0 [b].length) = some [.cells cs' true u] := by
    show getAll s1.H [[0]] = _
    simp only [getAll, e2]
  rw [ho]; simp only
  rw [hy]; simp only
  have hb' : namesBs true [.cells cs' true u] [] = [] := by show namesVs true cs' [] = []; exact hc'
  rw [hb', hv]
  have hre : reachL s1.H 200 [] (namesFrom [] 0 [b].length) [] = some ([[0]], []) := rfl
  rw [hre]; simp only
  have hn0 : nodupN [[0]] = true := rfl
  rw [hn0]; simp only
  have hz2 : zipN [[0]] ([b] ++ namesFrom s.pre s.n ([] : List Blk).length) = [([0], b)] := rfl
  rw [bind_app]
  show (Tr.ret ((s.pre, s.n), s)).bind _ = _
  rw [Tr.bind_ret]
  rw [hz2]
  have hrb' : renB [([0], b)] (.cells cs' true u) = some (.cells cs' true u) := by simp only [renB, hcr']
  simp only [hvr, hrb', renBs, putAll, newAll, bind_app, putM_app, hb, Tr.bind_ret, ret_app]
end
end Go.Am
namespace Go.Am
open Go
attribute [go_sem] indexA
theorem hset_self {H : Heap} {b : Nm} {x : Blk} (h : hget H b = some x) : hset H b x = H := by
  induction H with
  | nil => rfl
  | cons e t ih =>
    by_cases he : e.1 = b
    · obtain ⟨i, y⟩ := e
      simp only at he
      subst he
      rw [hget_cons_same] at h
      injection h with h; subst h
      show (match eqb i i with | true => (i, y) :: t | false => (i, y) :: hset t i y) = _
      rw [eqb_self]
    · obtain ⟨i, y⟩ := e
      simp only at he
      rw [hget_cons_ne _ _ he] at h
      show (match eqb i b with | true => (i, x) :: t | false => (i, y) :: hset t b x) = _
      rw [eqb_ne he]
      rw [ih h]
def backJ (jr : Bool) : List Nm → List Blk → Delta → Delta
  | b :: r, x :: q, j => backJ jr r q (match jr with | true => (b, some x) :: j | false => j)
  | _, _, j => j
theorem backJ_false : ∀ (bs : List Nm) (xs : List Blk) (j : Delta), backJ false bs xs j = j
  | [], _, _ => rfl
  | _ :: _, [], _ => rfl
  | _ :: r, _ :: q, j => backJ_false r q j
theorem putAll_same : ∀ (bs : List Nm) (xs : List Blk) (H : Heap) (n : Nat) (p : Nm) (jr : Bool) (j : Delta), getAll H bs = some xs → putAll bs xs ⟨H, n, p, jr, j⟩ = .ret ((), ⟨H, n, p, jr, backJ jr bs xs j⟩)
  | [], xs, H, n, p, jr, j, h => by
    simp only [getAll, Option.some.injEq] at h; subst h; rfl
  | b :: r, xs, H, n, p, jr, j, h => by
    unfold getAll at h
    cases hb : hget H b with
    | none => rw [hb] at h; cases h
    | some x =>
      rw [hb] at h
      simp only at h
      cases hr : getAll H r with
      | none => rw [hr] at h; cases h
      | some l =>
        rw [hr] at h
        simp only [Option.some.injEq] at h
        subst h
        unfold putAll
        rw [bind_app, putM_app]
        simp only [hb, Tr.bind_ret]
        rw [show (St.put ⟨H, n, p, jr, j⟩ b x) = ⟨hset H b x, n, p, jr, St.note ⟨H, n, p, jr, j⟩ b (some x)⟩ from rfl, hset_self hb]
        rw [putAll_same r l H n p jr _ hr]
        rfl
theorem reach_known (H : Heap) : ∀ (l bs : List Nm) (k : Nat), (∀ b ∈ l, memNm b bs = true) → l.length < k → reachL H k l bs [] = some (bs, [])
  | [], bs, k + 1, _, _ => rfl
  | b :: r, bs, k + 1, h, hk => by
    rw [reachL_cons, h b List.mem_cons_self]
    exact reach_known H r bs k (fun c hc => h c (List.mem_cons_of_mem _ hc)) (by simp at hk; omega)
  | _, _, 0, _, hk => by simp at hk
section
variable {C : Cfg} {K : Nat}
theorem call3_ro {f : FuncId} {fn : Func} {args args' : List AV} {bs : List Nm} {xs xs' : List Blk} {v : AV} {H : Heap} {n : Nat} {p : Nm} {jr : Bool} {j : Delta}
    (hm : C.mode.get f = some 3) (hf : C.fn.get f = some fn)
    (hl : lendM 200 (namesVs false args []) [] [] ⟨H, n, p, jr, j⟩ = .ret ((bs, xs), ⟨H, n, p, jr, j⟩)) (hg : getAll H bs = some xs) (hnd : nodupN bs = true) (hcalm : calm xs = true)
    (hra : renVs (zipN bs (namesFrom [] 0 bs.length)) args = some args') (hrx : renBs (zipN bs (namesFrom [] 0 bs.length)) xs = some xs')
    (hvn : namesV true v (namesBs true xs' []) = namesBs true xs' []) (hvr : ∀ mp, renV mp v = some v)
    (hmem : ∀ b ∈ namesBs true xs' [], memNm b (namesFrom [] 0 bs.length) = true) (hmk : (namesBs true xs' []).length < 200) (hnd2 : nodupN (namesFrom [] 0 bs.length) = true)
    (hback : renBs (zipN (namesFrom [] 0 bs.length) bs) xs' = some xs)
    (hd : (bodyA (C.at f) (acall C K) (around C K) (K + 1) fn args' ⟨zipB (namesFrom [] 0 bs.length) xs', bs.length, [], false, []⟩).Does fun x => x.1 = v ∧ getAll x.2.H (namesFrom [] 0 bs.length) = some xs') :
    acall C (K + 1) f args ⟨H, n, p, jr, j⟩ = .ret (v, ⟨H, n, p, jr, backJ jr bs xs j⟩) := by
  obtain ⟨⟨v1, s1⟩, e1, rfl, e2⟩ := hd
  simp only at e2
  rw [acall_succ]
  unfold enterA
  rw [hf]; simp only
  rw [hm]; simp only
  unfold handA
  rw [bind_app, hl]
  simp only [Tr.bind_ret, hnd, hcalm, hra, hrx]
  rw [e1]
  have ho : oneR false (.ret (v1, s1)) = some (v1, s1.H) := rfl
  rw [ho]; simp only
  rw [e2]; simp only
  rw [hvn, reach_known s1.H _ _ 200 hmem hmk]
  simp only
  rw [hnd2]; simp only
  rw [bind_app]
  show (Tr.ret ((p, n), (⟨H, n, p, jr, j⟩ : St))).bind _ = _
  rw [Tr.bind_ret]
  have hz0 : ∀ mp, renBs mp [] = some [] := fun _ => rfl
  have hap : bs ++ namesFrom p n ([] : List Blk).length = bs := by show bs ++ [] = bs; rw [List.append_nil]
  simp only [hap, hvr, hback, hz0]
  rw [bind_app, putAll_same bs xs H n p jr j hg, Tr.bind_ret]
  rfl
end
end Go.Am
namespace Go.Am
open Go
section
variable {C : Cfg} {K : Nat}
theorem call3_newmap {f : FuncId} {fn : Func} {args : List AV} {s : St} {es : List (AV × AV)} (hm : C.mode.get f = some 3) (hf : C.fn.get f = some fn) (hn : namesVs false args [] = []) (hr : renVs [] args = some args)
    (hes : flatE es = true)
    (hd : (bodyA (C.at f) (acall C K) (around C K) (K + 1) fn args s0).Does fun x => ∃ mm, x.1 = .map mm ∧ hget x.2.H mm = some (.map es false)) :
    acall C (K + 1) f args s = .ret (.map (s.pre ++ [s.n]), s.new (.map es false)) := by
  rw [acall_succ]
  unfold enterA
  rw [hf]; simp only
  rw [hm]; simp only
  obtain ⟨⟨v1, s1⟩, e1, mm, rfl, e2⟩ := hd
  simp only at e2
  unfold handA
  have hl : lendM 200 (namesVs false args []) [] [] s = .ret (([], []), s) := by rw [hn]; exact lendM_nil 199 _ _ _
  rw [bind_app, hl]
  have hnd : nodupN [] = true := rfl
  have hz : zipN [] (namesFrom [] 0 ([] : List Nm).length) = [] := rfl
  have hrb : renBs [] [] = some [] := rfl
  have hcalm : calm [] = true := rfl
  simp only [Tr.bind_ret, hnd, hz, hr, hrb, hcalm]
  have hst : (⟨zipB (namesFrom [] 0 ([] : List Nm).length) [], ([] : List Nm).length, [], false, []⟩ : St) = s0 := rfl
  rw [hst, e1]
  have ho : oneR false (.ret (.map mm, s1)) = some (.map mm, s1.H) := rfl
  have hy : getAll s1.H (namesFrom [] 0 ([] : List Nm).length) = some [] := rfl
  rw [ho]; simp only
  rw [hy]; simp only
  have hnv : namesV true (.map mm) (namesBs true [] []) = [mm] := rfl
  rw [hnv]
  have hre0 : ∀ k, reachL s1.H (k + 2) [mm] [] [] = some ([mm], [.map es false]) := fun k => by
    rw [reachL_cons]
    have m0 : memNm mm [] = false := rfl
    rw [m0]; simp only
    rw [e2]; simp only
    show reachL s1.H (k + 1) [] [mm] [_] = _
    rw [reachL_nil]
  have hre : reachL s1.H 200 [mm] (namesFrom [] 0 ([] : List Nm).length) [] = some ([mm], [.map es false]) := hre0 198
  rw [hre]; simp only
  have hn0 : nodupN [mm] = true := rfl
  rw [hn0]; simp only
  rw [bind_app]
  show (Tr.ret ((s.pre, s.n), s)).bind _ = _
  rw [Tr.bind_ret]
  have hz2 : zipN [mm] ([] ++ namesFrom s.pre s.n ([.map es false] : List Blk).length) = [(mm, s.pre ++ [s.n])] := rfl
  simp only
  rw [hz2]
  have hz0 : ∀ mp, renBs mp [] = some [] := fun _ => rfl
  have hv2 : renV [(mm, s.pre ++ [s.n])] (.map mm) = some (.map (s.pre ++ [s.n])) := by simp only [renV, lookN, eqb_self]
  have hb2 : renBs [(mm, s.pre ++ [s.n])] [.map es false] = some [.map es false] := by simp only [renBs, renB, hes]
  simp only [hv2, hz0, hb2, putAll, newAll, bind_app, newM_app, Tr.bind_ret, ret_app]
end
end Go.Am
namespace Go.Am
open Go
theorem lend1 {b : Nm} {r bs : List Nm} {xs : List Blk} {H : Heap} {n : Nat} {p : Nm} {jr : Bool} {j : Delta} {x : Blk} (k : Nat) (hm : memNm b bs = false) (hb : hget H b = some x) : lendM (k + 1) (b :: r) bs xs ⟨H, n, p, jr, j⟩ = lendM k (namesB false x r) (bs ++ [b]) (xs ++ [x]) ⟨H, n, p, jr, j⟩ := by
  rw [lendM_cons, hm]
  simp only
  rw [bind_app, getM_app, hb]
  rfl
end Go.Am
namespace Go.Am
open Go
theorem range_map {C : Cfg} {t kt vt : TypeId} (hd : C.desc t = some (.map kt vt)) {m : Nm} {es : List (AV × AV)} {fz : Bool} {s : St} (hm : hget s.H m = some (.map es fz)) :
    rangeA C t (.map m) s = .ret (.ptr (s.put m (.map es true)).name 0, (s.put m (.map es true)).new (.mapIter m es none)) := by
  unfold rangeA
  rw [hd]
  simp only [bind_app, getM_app, hm, Tr.bind_ret, putM_app, newM_app, ret_app]
theorem next_all {r m : Nm} {es left : List (AV × AV)} {cur : Option (AV × AV)} {s : St} {Q : AV × St → Prop} (hr : hget s.H r = some (.mapIter m left cur)) (hm : hget s.H m = some (.map es true))
    (h0 : left = [] → Q (.tuple [.bool false], s)) (h1 : ∀ (i : Nat) (h : i < left.length), Q (.tuple [.bool true, left[i].1, left[i].2], s.put r (.mapIter m (dropAt left i) (some left[i])))) :
    (nextA (.ptr r 0) false s).All Q := by
  unfold nextA
  simp only [bind_app, getM_app, hr, hm, Tr.bind_ret]
  match left, h0, h1, hr with
  | [], h0, _, _ => exact h0 rfl
  | [e], _, h1, hr =>
    simp only [bind_app, putM_app, hr, Tr.bind_ret, ret_app]
    exact h1 0 (by simp)
  | x :: y :: l, _, h1, hr =>
    show ((askM (x :: y :: l).length s).bind _).All Q
    intro i hi
    show Tr.All Q ((match nth (x :: y :: l) i with
        | some e => (putM r (.mapIter m (dropAt (x :: y :: l) i) (some e))).bind fun _ => M.ret (AV.tuple [.bool true, e.1, e.2])
        | none => M.fail) s)
    rw [nth_eq, List.getElem?_eq_getElem hi]
    simp only [bind_app, putM_app, hr, Tr.bind_ret, ret_app]
    exact h1 i hi
theorem entry_s {r m : Nm} {es left : List (AV × AV)} {e : AV × AV} {s : St} (hr : hget s.H r = some (.mapIter m left (some e))) (hm : hget s.H m = some (.map es true)) :
    entryA (.ptr r 0) s = .ret (.tuple [e.1, e.2], s) := by
  unfold entryA
  simp only [bind_app, getM_app, hr, hm, Tr.bind_ret, ret_app]
theorem drop_mem {α : Type} : ∀ (l : List α) (i : Nat) (h : i < l.length) (x : α), x ∈ l ↔ x = l[i] ∨ x ∈ dropAt l i
  | a :: r, 0, h, x => by simp [dropAt]
  | a :: r, i + 1, h, x => by
    simp only [dropAt, List.mem_cons, List.getElem_cons_succ]
    rw [drop_mem r i (by simpa using h) x]
    constructor
    · rintro (h | h | h)
      · exact .inr (.inl h)
      · exact .inl h
      · exact .inr (.inr h)
    · rintro (h | h | h)
      · exact .inr (.inl h)
      · exact .inl h
      · exact .inr (.inr h)
theorem drop_len {α : Type} : ∀ (l : List α) (i : Nat), i < l.length → (dropAt l i).length = l.length - 1
  | a :: r, 0, h => by simp [dropAt]
  | a :: r, i + 1, h => by
    simp only [dropAt, List.length_cons]
    rw [drop_len r i (by simpa using h)]
    simp at h; omega
theorem drop_map {α β : Type} (f : α → β) : ∀ (l : List α) (i : Nat), dropAt (l.map f) i = (dropAt l i).map f
  | [], 0 => rfl
  | [], _ + 1 => rfl
  | a :: r, 0 => rfl
  | a :: r, i + 1 => by simp only [List.map_cons, dropAt, drop_map f r i]
end Go.Am
namespace Go.Am
open Go
section
variable {H : Heap} {X Y : Blk} {a b k c k' c' : Nat}
theorem n11 (h : a ≠ b) : ([a] : Nm) ≠ [b] := fun e => h (by injection e)
theorem n13 : ([a] : Nm) ≠ [b, k, c] := fun e => by injection e with _ e; cases e
theorem n31 : ([a, k, c] : Nm) ≠ [b] := fun e => by injection e with _ e; cases e
theorem n33 (h : a ≠ b) : ([a, k, c] : Nm) ≠ [b, k', c'] := fun e => h (by injection e)
theorem hc11 (h : a ≠ b) : hget (([a], X) :: H) [b] = hget H [b] := hget_cons_ne X H (n11 h)
theorem hc13 : hget (([a], X) :: H) [b, k, c] = hget H [b, k, c] := hget_cons_ne X H n13
theorem hs11 (h : a ≠ b) : hget (hset H [a] X) [b] = hget H [b] := hget_hset_ne H X (n11 h)
theorem hs13 : hget (hset H [a] X) [b, k, c] = hget H [b, k, c] := hget_hset_ne H X n13
theorem hs31 : hget (hset H [a, k, c] X) [b] = hget H [b] := hget_hset_ne H X n31
theorem hd11 (h : a ≠ b) : hget (hdel H [a]) [b] = hget H [b] := hget_hdel_ne H (n11 h)
theorem hd31 : hget (hdel H [a, k, c]) [b] = hget H [b] := hget_hdel_ne H n31
theorem hset_ne {i j : Nm} (h : i ≠ j) : hset ((i, Y) :: H) j X = (i, Y) :: hset H j X := by
  show (match eqb i j with | true => (i, X) :: H | false => (i, Y) :: hset H j X) = _
  rw [eqb_ne h]
theorem hset_hset (b : Nm) : hset (hset H b X) b Y = hset H b Y := by
  induction H with
  | nil => rfl
  | cons e t ih =>
    obtain ⟨i, y⟩ := e
    by_cases he : i = b
    · subst he
      show hset (match eqb i i with | true => (i, X) :: t | false => (i, y) :: hset t i X) i Y = (match eqb i i with | true => (i, Y) :: t | false => (i, y) :: hset t i Y)
      rw [eqb_self]; simp only
      show (match eqb i i with | true => (i, Y) :: t | false => (i, X) :: hset t i Y) = _
      rw [eqb_self]
    · rw [hset_ne he, hset_ne he, hset_ne he, ih]
end
theorem hss {H : Heap} {b : Nm} {X Y : Blk} (h : hget H b = some Y) : hget (hset H b X) b = some X := hget_hset_same X h
section
variable {x : Option Blk} {r : Delta} {a b k c k' c' : Nat}
theorem lkn (q : Nm) : lkD [] q = none := rfl
theorem lk_ne {i q : Nm} (h : i ≠ q) : lkD ((i, x) :: r) q = lkD r q := by show (if i = q then some x else lkD r q) = _; rw [if_neg h]
theorem lk_same (i : Nm) : lkD ((i, x) :: r) i = some x := by show (if i = i then some x else lkD r i) = _; rw [if_pos rfl]
theorem lk11 (h : a ≠ b) : lkD (([a], x) :: r) [b] = lkD r [b] := lk_ne (n11 h)
theorem lk13 : lkD (([a], x) :: r) [b, k, c] = lkD r [b, k, c] := lk_ne n13
theorem lk31 : lkD (([a, k, c], x) :: r) [b] = lkD r [b] := lk_ne n31
theorem lk33 (h : a ≠ b) : lkD (([a, k, c], x) :: r) [b, k', c'] = lkD r [b, k', c'] := lk_ne (n33 h)
theorem lk33k (h : k ≠ k') : lkD (([a, k, c], x) :: r) [b, k', c'] = lkD r [b, k', c'] := lk_ne fun e => h (by injection e with _ e; injection e)
end
def mutV (b : Nm) : Nat → AV
  | 0 => .nils
  | n + 1 => .slice b 0 (n + 1) (n + 1) false
noncomputable def dropRow (n : Nat) (b : Nm) (H : Heap) : Heap := match n with | 0 => H | _ + 1 => hdel H b
def rowJ (n : Nat) (b : Nm) (j : Delta) : Delta := match n with | 0 => j | _ + 1 => (b, none) :: j
theorem hget_dropRow (n : Nat) {b c : Nm} (H : Heap) (h : b ≠ c) : hget (dropRow n b H) c = hget H c := by
  cases n with
  | zero => rfl
  | succ n => exact hget_hdel_ne H h
section
variable {C : Cfg} {sT e : TypeId} {i : TI} {zv : AV}
theorem readN_all' (l : List AV) (n : Nat) (h : l.length = n) : readN l 0 n = some l := by
  subst h
  have e := readN_at [] l []
  simpa using e
theorem append_mut (hd : C.desc sT = some (.slice e)) (hi : C.ty.get e = some i) (hz : i.zero = some zv) (hzl : Nat.beq zv.cells.length i.size = true) (h1 : Nat.ble 1 i.size = true) (hb : Nat.ble 1 i.bytes = true)
    {b : Nm} {cs : List AV} {x : AV} {H : Heap} {m n z : Nat} {p : Nm} {jr : Bool} {j : Delta} (hzz : i.size = z) (hx : Nat.beq x.cells.length i.size = true) (hroom : (m + 1) * i.bytes ≤ 140737488355328) (hcs : cs.length = m * z) (ht : m ≠ 0 → hget H b = some (.cells cs true z)) :
    appendA C false sT sT (mutV b m) (.lst [x]) ⟨H, n, p, jr, j⟩ = .ret (mutV (p ++ [n]) (m + 1), ⟨(p ++ [n], .cells (cs ++ x.cells) true z) :: dropRow m b H, n + 1, p, jr, match jr with | true => (p ++ [n], some (.cells (cs ++ x.cells) true z)) :: rowJ m b j | false => j⟩) := by
  subst hzz
  unfold appendA
  have hsrc : srcA i zv (.slice e) (.lst [x]) = M.ret (1, x.cells) := by
    show (match okZ i.size [x] with | true => M.ret (([x] : List AV).length, flatA [x]) | false => M.fail) = _
    simp only [okZ, hx, flatA, List.append_nil]; rfl
  rw [hd]; simp only
  rw [hi]; simp only
  rw [hz]; simp only
  rw [hzl]; simp only
  rw [hsrc, bind_app, ret_app, Tr.bind_ret]
  have hr : roomy m 1 i.bytes = true := by
    unfold roomy
    rw [hb, Nat.ble_eq_true_of_le hroom]
  cases m with
  | zero =>
    have hc0 : cs = [] := by cases cs with | nil => rfl | cons a r => simp at hcs
    subst hc0
    show appendTo i .nils 1 x.cells _ = _
    unfold appendTo
    simp only [hr]
    unfold grow
    rw [bind_app, newM_app, Tr.bind_ret]
    cases jr <;> rfl
  | succ m =>
    have hg := ht (by omega)
    show appendTo i (.slice b 0 (m + 1) (m + 1) false) 1 x.cells _ = _
    unfold appendTo
    have ho : oldA cs 0 (m + 1) i.size = some cs := readN_all' cs _ hcs
    simp only [bind_app, getM_app, hg, hr, Tr.bind_ret, ho, Nat.beq_refl, h1, delM_app]
    unfold grow
    rw [bind_app, newM_app, Tr.bind_ret]
    cases jr <;> rfl
end
end Go.Am
namespace Go.Am
open Go
structure Bare (cs : List AV) : Prop where
  nm : ∀ op r, namesVs op cs r = r
  rn : ∀ mp, renVs mp cs = some cs
theorem bare_nil : Bare [] := ⟨fun _ _ => rfl, fun _ => rfl⟩
theorem namesVs_append (op : Bool) : ∀ (a b : List AV) (r : List Nm), namesVs op (a ++ b) r = namesVs op a (namesVs op b r)
  | [], b, r => rfl
  | x :: a, b, r => by
    show namesV op x (namesVs op (a ++ b) r) = namesV op x (namesVs op a (namesVs op b r))
    rw [namesVs_append op a b r]
theorem renVs_append (mp : List (Nm × Nm)) : ∀ (a b a' b' : List AV), renVs mp a = some a' → renVs mp b = some b' → renVs mp (a ++ b) = some (a' ++ b')
  | [], b, a', b', h1, h2 => by injection h1 with h1; subst h1; exact h2
  | x :: a, b, a', b', h1, h2 => by
    unfold renVs at h1
    cases hx : renV mp x with
    | none => rw [hx] at h1; cases h1
    | some y =>
      rw [hx] at h1; simp only at h1
      cases ha : renVs mp a with
      | none => rw [ha] at h1; cases h1
      | some a1 =>
        rw [ha] at h1
        injection h1 with h1; subst h1
        show renVs mp (x :: (a ++ b)) = _
        unfold renVs
        rw [hx]; simp only
        rw [renVs_append mp a b a1 b' ha h2]; rfl
theorem Bare.append {a b : List AV} (ha : Bare a) (hb : Bare b) : Bare (a ++ b) :=
  ⟨fun op r => by rw [namesVs_append, hb.nm, ha.nm], fun mp => renVs_append mp a b a b (ha.rn mp) (hb.rn mp)⟩
theorem bare_flatMap {α : Type} {g : α → List AV} (h : ∀ a, Bare (g a)) : ∀ l : List α, Bare (l.flatMap g)
  | [] => bare_nil
  | a :: l => by rw [List.flatMap_cons]; exact (h a).append (bare_flatMap h l)
section
variable {C : Cfg} {K : Nat}
theorem call3_gen {f : FuncId} {fn : Func} {args args' : List AV} {bs : List Nm} {xs xs0 ys' zs' : List Blk} {v' : AV} {H : Heap} {n : Nat} {p : Nm} {jr : Bool} {j : Delta} {s2 s3 : St}
    (hm : C.mode.get f = some 3) (hf : C.fn.get f = some fn)
    (hl : lendM 200 (namesVs false args []) [] [] ⟨H, n, p, jr, j⟩ = .ret ((bs, xs), ⟨H, n, p, jr, j⟩)) (hnd : nodupN bs = true) (hcalm : calm xs = true)
    (hra : renVs (zipN bs (namesFrom [] 0 bs.length)) args = some args') (hrx : renBs (zipN bs (namesFrom [] 0 bs.length)) xs = some xs0)
    (hd : (bodyA (C.at f) (acall C K) (around C K) (K + 1) fn args' ⟨zipB (namesFrom [] 0 bs.length) xs0, bs.length, [], false, []⟩).Does fun x => ∃ ys ns zs, getAll x.2.H (namesFrom [] 0 bs.length) = some ys ∧
      reachL x.2.H 200 (namesV true x.1 (namesBs true ys [])) (namesFrom [] 0 bs.length) [] = some (ns, zs) ∧ nodupN ns = true ∧ renV (zipN ns (bs ++ namesFrom p n zs.length)) x.1 = some v' ∧ renBs (zipN ns (bs ++ namesFrom p n zs.length)) ys = some ys' ∧ renBs (zipN ns (bs ++ namesFrom p n zs.length)) zs = some zs')
    (hput : putAll bs ys' ⟨H, n, p, jr, j⟩ = .ret ((), s2)) (hnew : newAll zs' s2 = .ret ((), s3)) :
    acall C (K + 1) f args ⟨H, n, p, jr, j⟩ = .ret (v', s3) := by
  obtain ⟨⟨v1, s1⟩, e1, ys, ns, zs, e2, e3, e4, e5, e6, e7⟩ := hd
  simp only at e2 e3 e5
  rw [acall_succ]
  unfold enterA
  rw [hf]; simp only
  rw [hm]; simp only
  unfold handA
  rw [bind_app, hl]
  simp only [Tr.bind_ret, hnd, hcalm, hra, hrx]
  rw [e1]
  have ho : oneR false (.ret (v1, s1)) = some (v1, s1.H) := rfl
  rw [ho]; simp only
  rw [e2]; simp only
  rw [e3]; simp only
  rw [e4]; simp only
  rw [bind_app]
  show (Tr.ret ((p, n), (⟨H, n, p, jr, j⟩ : St))).bind _ = _
  rw [Tr.bind_ret]
  simp only [e5, e6, e7]
  rw [bind_app, hput, Tr.bind_ret, bind_app, hnew, Tr.bind_ret]
  rfl
theorem reach_new {H : Heap} {k : Nat} {b : Nm} {r bs : List Nm} {xs : List Blk} {cs : List AV} {w : Bool} {u : Nat} (hm : memNm b bs = false) (hg : hget H b = some (.cells cs w u)) (hb : Bare cs) : reachL H (k + 1) (b :: r) bs xs = reachL H k r (bs ++ [b]) (xs ++ [.cells cs w u]) := by
  rw [reachL_cons, hm]
  simp only [hg]
  show reachL H k (namesVs true cs r) _ _ = _
  rw [hb.nm]
theorem ren_cells {mp : List (Nm × Nm)} {cs : List AV} {u : Nat} (hb : Bare cs) : renB mp (.cells cs true u) = some (.cells cs true u) := by
  unfold renB; simp only [hb.rn]
theorem call3_rows3 {f : FuncId} {fn : Func} {args : List AV} {n1 n2 n3 : Nat} {c1 c2 c3 tl : List AV} {H : Heap} {n : Nat} {p : Nm} {jr : Bool} {j : Delta}
    (hm : C.mode.get f = some 3) (hf : C.fn.get f = some fn) (hn : namesVs false args [] = []) (hr : renVs [] args = some args) (h1 : Bare c1) (h2 : Bare c2) (h3 : Bare c3) (ht : Bare tl)
    (hd : (bodyA (C.at f) (acall C K) (around C K) (K + 1) fn args s0).Does fun x => ∃ b1 b2 b3, x.1 = .agg (.slice b1 0 n1 n1 false :: .slice b2 0 n2 n2 false :: .slice b3 0 n3 n3 false :: tl) ∧ eqb b1 b2 = false ∧ eqb b1 b3 = false ∧ eqb b2 b1 = false ∧ eqb b2 b3 = false ∧ eqb b3 b1 = false ∧ eqb b3 b2 = false ∧
      hget x.2.H b1 = some (.cells c1 true 2) ∧ hget x.2.H b2 = some (.cells c2 true 2) ∧ hget x.2.H b3 = some (.cells c3 true 2)) :
    acall C (K + 1) f args ⟨H, n, p, jr, j⟩ = .ret (.agg (.slice (p ++ [n]) 0 n1 n1 false :: .slice (p ++ [n + 1]) 0 n2 n2 false :: .slice (p ++ [n + 2]) 0 n3 n3 false :: tl),
      ((St.new ⟨H, n, p, jr, j⟩ (.cells c1 true 2)).new (.cells c2 true 2)).new (.cells c3 true 2)) := by
  refine call3_gen (bs := []) (xs := []) (xs0 := []) (ys' := []) (zs' := [.cells c1 true 2, .cells c2 true 2, .cells c3 true 2]) hm hf (by rw [hn]; rfl) rfl rfl hr rfl ?_ rfl rfl
  refine hd.mono ?_
  rintro ⟨v, s⟩ ⟨b1, b2, b3, rfl, n12, n13, n21, n23, n31, n32, g1, g2, g3⟩
  refine ⟨[], [b1, b2, b3], [.cells c1 true 2, .cells c2 true 2, .cells c3 true 2], rfl, ?_, by simp only [nodupN, memNm, n12, n13, n23], ?_, rfl, by simp only [renBs, ren_cells h1, ren_cells h2, ren_cells h3]⟩
  · show reachL s.H (199 + 1) (b1 :: b2 :: b3 :: namesVs true tl []) [] [] = _
    rw [ht.nm, reach_new rfl g1 h1]
    show reachL s.H (198 + 1) [b2, b3] [b1] _ = _
    rw [reach_new (by simp only [memNm, n21]) g2 h2]
    show reachL s.H (197 + 1) [b3] [b1, b2] _ = _
    rw [reach_new (by simp only [memNm, n31, n32]) g3 h3]
    rfl
  · show renV [(b1, p ++ [n]), (b2, p ++ [n + 1]), (b3, p ++ [n + 1 + 1])] _ = _
    simp only [renV, renVs, lookN, eqb_self, n21, n31, n32, ht.rn]
theorem call3_rows2 {f : FuncId} {fn : Func} {args : List AV} {n1 n2 : Nat} {c1 c2 tl : List AV} {H : Heap} {n : Nat} {p : Nm} {jr : Bool} {j : Delta}
    (hm : C.mode.get f = some 3) (hf : C.fn.get f = some fn) (hn : namesVs false args [] = []) (hr : renVs [] args = some args) (h1 : Bare c1) (h2 : Bare c2) (ht : Bare tl)
    (hd : (bodyA (C.at f) (acall C K) (around C K) (K + 1) fn args s0).Does fun x => ∃ b1 b2, x.1 = .agg (.slice b1 0 n1 n1 false :: .slice b2 0 n2 n2 false :: tl) ∧ eqb b1 b2 = false ∧ eqb b2 b1 = false ∧
      hget x.2.H b1 = some (.cells c1 true 2) ∧ hget x.2.H b2 = some (.cells c2 true 2)) :
    acall C (K + 1) f args ⟨H, n, p, jr, j⟩ = .ret (.agg (.slice (p ++ [n]) 0 n1 n1 false :: .slice (p ++ [n + 1]) 0 n2 n2 false :: tl),
      (St.new ⟨H, n, p, jr, j⟩ (.cells c1 true 2)).new (.cells c2 true 2)) := by
  refine call3_gen (bs := []) (xs := []) (xs0 := []) (ys' := []) (zs' := [.cells c1 true 2, .cells c2 true 2]) hm hf (by rw [hn]; rfl) rfl rfl hr rfl ?_ rfl rfl
  refine hd.mono ?_
  rintro ⟨v, s⟩ ⟨b1, b2, rfl, n12, n21, g1, g2⟩
  refine ⟨[], [b1, b2], [.cells c1 true 2, .cells c2 true 2], rfl, ?_, by simp only [nodupN, memNm, n12], ?_, rfl, by simp only [renBs, ren_cells h1, ren_cells h2]⟩
  · show reachL s.H (199 + 1) (b1 :: b2 :: namesVs true tl []) [] [] = _
    rw [ht.nm, reach_new rfl g1 h1]
    show reachL s.H (198 + 1) [b2] [b1] _ = _
    rw [reach_new (by simp only [memNm, n21]) g2 h2]
    rfl
  · show renV [(b1, p ++ [n]), (b2, p ++ [n + 1])] _ = _
    simp only [renV, renVs, lookN, eqb_self, n21, ht.rn]
end
end Go.Am
namespace Go.Am
open Go
def isD (u : Nat) (H : Heap) : Prop := ∃ w, hget H [0] = some (.cells [.int .u64 w] true u)
def wordB : Option Blk → Int
  | some (.cells [.int _ w] _ _) => w
  | _ => 0
noncomputable def dW (H : Heap) : Int := wordB (hget H [0])
section
variable {u a k c : Nat} {w : Int} {H H' : Heap} {X : Blk} {x : Option Blk} {d : Delta}
theorem isD_get (h : isD u H) : hget H [0] = some (.cells [.int .u64 (dW H)] true u) := by
  obtain ⟨w, h⟩ := h
  have e : dW H = w := by unfold dW; rw [h]; rfl
  rw [e, h]
theorem dW_of (h : hget H [0] = some (.cells [.int .u64 w] true u)) : dW H = w := by unfold dW; rw [h]; rfl
theorem isD_cg (e : hget H [0] = hget H' [0]) : isD u H = isD u H' := by unfold isD; rw [e]
theorem dW_cg (e : hget H [0] = hget H' [0]) : dW H = dW H' := by unfold dW; rw [e]
theorem g0_set0 (h : isD u H) : hget (hset H [0] X) [0] = some X := hss (isD_get h)
theorem isD_set0 (h : isD u H) : isD u (hset H [0] (.cells [.int .u64 w] true u)) := ⟨w, g0_set0 h⟩
theorem dW_set0 (h : isD u H) : dW (hset H [0] (.cells [.int .u64 w] true u)) = w := dW_of (u := u) (g0_set0 h)
theorem isD_cons0 : isD u (([0], .cells [.int .u64 w] true u) :: H) = True := eq_true ⟨w, hget_cons_same ..⟩
theorem dW_cons0 : dW (([0], .cells [.int .u64 w] true u) :: H) = w := dW_of (u := u) (hget_cons_same ..)
theorem isD_cons1 : isD u (([a + 1], X) :: H) = isD u H := isD_cg (hc11 (by omega))
theorem dW_cons1 : dW (([a + 1], X) :: H) = dW H := dW_cg (hc11 (by omega))
theorem isD_set1 : isD u (hset H [a + 1] X) = isD u H := isD_cg (hs11 (by omega))
theorem isD_redo0 : isD u (redoH H (([0], some (.cells [.int .u64 w] true u)) :: d)) = True := eq_true ⟨w, by rw [hget_redoH, lk_same]; rfl⟩
theorem dW_redo0 : dW (redoH H (([0], some (.cells [.int .u64 w] true u)) :: d)) = w := dW_of (u := u) (by rw [hget_redoH, lk_same]; rfl)
theorem isD_redo1 : isD u (redoH H (([a + 1], x) :: d)) = isD u (redoH H d) := isD_cg (by rw [hget_redoH, hget_redoH, lk11 (by omega)])
theorem isD_redo3 : isD u (redoH H (([a, k, c], x) :: d)) = isD u (redoH H d) := isD_cg (by rw [hget_redoH, hget_redoH, lk31])
theorem dW_redo3 : dW (redoH H (([a, k, c], x) :: d)) = dW (redoH H d) := dW_cg (by rw [hget_redoH, hget_redoH, lk31])
theorem isD_nil : isD u (redoH H []) = isD u H := rfl
theorem dW_nil : dW (redoH H []) = dW H := rfl
end
end Go.Am
namespace Go.Am
open Go
section
variable {C : Cfg} {sT e : TypeId} {i : TI} {zv : AV}
theorem append_own (hd : C.desc sT = some (.slice e)) (hi : C.ty.get e = some i) (hz : i.zero = some zv) (hzl : Nat.beq zv.cells.length i.size = true) (h1 : Nat.ble 1 i.size = true) (hb : Nat.ble 1 i.bytes = true)
    {b : Nm} {l l2 : List AV} {H : Heap} {n z : Nat} {p : Nm} {jr : Bool} {j : Delta} (hzz : i.size = z) (hx : okZ i.size l2 = true) (hroom : (l.length + l2.length) * i.bytes ≤ 140737488355328) (hne : l2 ≠ []) (ht : hget H b = some (.tok l.length z)) :
    appendA C true sT sT (.own b l) (.lst l2) ⟨H, n, p, jr, j⟩ = .ret (.own (p ++ [n]) (l ++ l2), ⟨(p ++ [n], .tok (l ++ l2).length z) :: hdel H b, n + 1, p, jr, match jr with | true => (p ++ [n], some (.tok (l ++ l2).length z)) :: (b, none) :: j | false => j⟩) := by
  subst hzz
  unfold appendA
  have hsrc : srcF i zv (.slice e) (.lst l2) = M.ret (l2.length, l2) := by
    show (match okZ i.size l2 with | true => M.ret (l2.length, l2) | false => M.fail) = _
    rw [hx]
  rw [hd]; simp only
  rw [hi]; simp only
  rw [hz]; simp only
  rw [hzl]; simp only
  have ho : openRow (.own b l) = true := rfl
  rw [ho]; simp only
  rw [hsrc, bind_app, ret_app, Tr.bind_ret]
  have hr : roomy l.length l2.length i.bytes = true := by
    unfold roomy
    rw [Nat.ble_eq_true_of_le hroom, hb]
  have hm : Nat.beq l2.length 0 = false := by cases l2 with | nil => exact absurd rfl hne | cons a r => rfl
  unfold appendF
  simp only [hm, h1, bind_app, getM_app, ht, Tr.bind_ret, Nat.beq_refl, hr, delM_app]
  unfold growF
  rw [bind_app, newM_app, Tr.bind_ret]
  cases jr <;> rfl
theorem append_empty (hd : C.desc sT = some (.slice e)) (hi : C.ty.get e = some i) (hz : i.zero = some zv) (hzl : Nat.beq zv.cells.length i.size = true) (h1 : Nat.ble 1 i.size = true) (hb : Nat.ble 1 i.bytes = true)
    {l2 : List AV} {H : Heap} {n z : Nat} {p : Nm} {jr : Bool} {j : Delta} (hzz : i.size = z) (hx : okZ i.size l2 = true) (hroom : (0 + l2.length) * i.bytes ≤ 140737488355328) (hne : l2 ≠ []) :
    appendA C true sT sT .empty (.lst l2) ⟨H, n, p, jr, j⟩ = .ret (.own (p ++ [n]) l2, ⟨(p ++ [n], .tok l2.length z) :: H, n + 1, p, jr, match jr with | true => (p ++ [n], some (.tok l2.length z)) :: j | false => j⟩) := by
  subst hzz
  unfold appendA
  have hsrc : srcF i zv (.slice e) (.lst l2) = M.ret (l2.length, l2) := by
    show (match okZ i.size l2 with | true => M.ret (l2.length, l2) | false => M.fail) = _
    rw [hx]
  rw [hd]; simp only
  rw [hi]; simp only
  rw [hz]; simp only
  rw [hzl]; simp only
  have ho : openRow .empty = true := rfl
  rw [ho]; simp only
  rw [hsrc, bind_app, ret_app, Tr.bind_ret]
  have hr : roomy 0 l2.length i.bytes = true := by
    unfold roomy
    rw [Nat.ble_eq_true_of_le hroom, hb]
  have hm : Nat.beq l2.length 0 = false := by cases l2 with | nil => exact absurd rfl hne | cons a r => rfl
  unfold appendF
  simp only [hm, h1, hr]
  unfold growF
  rw [bind_app, newM_app, Tr.bind_ret]
  cases jr <;> rfl
theorem append_none (hd : C.desc sT = some (.slice e)) (hi : C.ty.get e = some i) (hz : i.zero = some zv) (hzl : Nat.beq zv.cells.length i.size = true) {b : Nm} {l : List AV} {s : St} :
    appendA C true sT sT (.own b l) (.lst []) s = .ret (.own b l, s) := by
  unfold appendA
  rw [hd]; simp only
  rw [hi]; simp only
  rw [hz]; simp only
  rw [hzl]; rfl
end
end Go.Am
namespace Go.Am
open Go
noncomputable def putsH : List Nm → List Blk → Heap → Heap
  | b :: r, x :: q, H => putsH r q (hset H b x)
  | _, _, H => H
theorem hset_some {H : Heap} {b c : Nm} {x : Blk} (h : ∃ y, hget H c = some y) (hb : ∃ y, hget H b = some y) : ∃ y, hget (hset H b x) c = some y := by
  by_cases e : b = c
  · subst e; obtain ⟨y, h⟩ := h; exact ⟨_, hget_hset_same _ h⟩
  · rw [hget_hset_ne _ _ e]; exact h
theorem putAll_hset : ∀ (bs : List Nm) (ys : List Blk) (H : Heap) (n : Nat) (p : Nm) (j : Delta), bs.length = ys.length → (∀ b ∈ bs, ∃ x, hget H b = some x) → putAll bs ys ⟨H, n, p, false, j⟩ = .ret ((), ⟨putsH bs ys H, n, p, false, j⟩)
  | [], [], H, n, p, j, _, _ => rfl
  | b :: r, x :: q, H, n, p, j, hl, h => by
    obtain ⟨y, hy⟩ := h b List.mem_cons_self
    unfold putAll
    rw [bind_app, putM_app]
    simp only [hy, Tr.bind_ret]
    show putAll r q ⟨hset H b x, n, p, false, j⟩ = _
    rw [putAll_hset r q (hset H b x) n p j (by simpa using hl) (fun c hc => hset_some (h c (List.mem_cons_of_mem _ hc)) ⟨y, hy⟩)]
    rfl
  | [], _ :: _, _, _, _, _, hl, _ => by simp at hl
  | _ :: _, [], _, _, _, _, hl, _ => by simp at hl
section
variable {C : Cfg} {K : Nat}
theorem call3_keep {f : FuncId} {fn : Func} {args args' : List AV} {bs : List Nm} {xs xs0 ys ys' : List Blk} {v : AV} {H : Heap} {n : Nat} {p : Nm} {j : Delta}
    (hm : C.mode.get f = some 3) (hf : C.fn.get f = some fn)
    (hl : lendM 200 (namesVs false args []) [] [] ⟨H, n, p, false, j⟩ = .ret ((bs, xs), ⟨H, n, p, false, j⟩)) (hnd : nodupN bs = true) (hcalm : calm xs = true)
    (hra : renVs (zipN bs (namesFrom [] 0 bs.length)) args = some args') (hrx : renBs (zipN bs (namesFrom [] 0 bs.length)) xs = some xs0)
    (hvn : namesV true v (namesBs true ys []) = namesBs true ys []) (hvr : ∀ mp, renV mp v = some v)
    (hmem : ∀ b ∈ namesBs true ys [], memNm b (namesFrom [] 0 bs.length) = true) (hmk : (namesBs true ys []).length < 200) (hnd2 : nodupN (namesFrom [] 0 bs.length) = true)
    (hback : renBs (zipN (namesFrom [] 0 bs.length) bs) ys = some ys') (hlen : bs.length = ys'.length) (hex : ∀ b ∈ bs, ∃ x, hget H b = some x)
    (hd : (bodyA (C.at f) (acall C K) (around C K) (K + 1) fn args' ⟨zipB (namesFrom [] 0 bs.length) xs0, bs.length, [], false, []⟩).Does fun x => x.1 = v ∧ getAll x.2.H (namesFrom [] 0 bs.length) = some ys) :
    acall C (K + 1) f args ⟨H, n, p, false, j⟩ = .ret (v, ⟨putsH bs ys' H, n, p, false, j⟩) := by
  refine call3_gen (bs := bs) (xs := xs) (xs0 := xs0) (ys' := ys') (zs' := []) hm hf hl hnd hcalm hra hrx ?_ (putAll_hset bs ys' H n p j hlen hex) rfl
  refine hd.mono ?_
  rintro ⟨v1, s1⟩ ⟨rfl, e2⟩
  simp only at e2
  refine ⟨ys, namesFrom [] 0 bs.length, [], e2, ?_, hnd2, hvr _, ?_, rfl⟩
  · rw [hvn]; exact reach_known s1.H _ _ 200 hmem hmk
  · have hap : bs ++ namesFrom p n ([] : List Blk).length = bs := by show bs ++ [] = bs; rw [List.append_nil]
    rw [hap]; exact hback
end
end Go.Am
namespace Go.Am
open Go
end Go.Am
