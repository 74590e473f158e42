/- The operations of the abstract machine, second part: each is simulated by the model; the machine is monotone and keeps a journal. -/
import Derived.Test.YtgnpnfkncbnjnaaAmA
import Derived.Laws.MakeOwn
import Derived.Maps.RangeRun
import Derived.MapKept
import Derived.OwnWalkIn
import Derived.RangeFuncRecord
set_option linter.unusedSimpArgs false
set_option linter.unusedVariables false
namespace Go.Am
open Go
section
variable {P : Program} {C : Cfg} {ρ : Rho} {s : St} {w : World}
theorem run_places {w : World} : ∀ (l : List Field), (∀ f ∈ l, ∃ j, P.info? f.type = some j) →
    ∃ ps : List (Nat × Nat), (l.mapM (m := Sem) fun (f : Field) => do pure (f.offset, ← sizeOf f.type)).run P w = .ok ps w ∧ ∀ (i : Nat) (f : Field) (j : TypeInfo), l[i]? = some f → P.info? f.type = some j → ps[i]? = some (f.offset, j.size)
  | [], _ => ⟨[], by simp, by simp⟩
  | f :: r, h => by
    obtain ⟨j, hj⟩ := h f List.mem_cons_self
    obtain ⟨ps, e, h2⟩ := run_places (w := w) r (fun g hg => h g (List.mem_cons_of_mem _ hg))
    refine ⟨(f.offset, j.size) :: ps, ?_, ?_⟩
    · have h1 : (sizeOf f.type).run P w = .ok j.size w := by simp [sizeOf, typeInfo, hj]
      simp only [List.mapM_cons, Sem.run_bind, h1, Result.andThen_ok, Sem.run_pure, e]
    · intro i g k hg hk
      cases i with
      | zero => simp at hg; subst hg; rw [hj] at hk; cases hk; rfl
      | succ i => simp at hg ⊢; exact h2 i g k hg hk
theorem build_sim (hC : CfgOk P C) {t : TypeId} {l : List (Nat × AV)} {parts : Array (Nat × Value)} (hp : PartsR ρ l parts.toList) {v : AV} (h : buildA C t l = some v) :
    ∃ cv, (Instr.build t parts).run P w = .ok cv w ∧ VR ρ v cv := by
  unfold buildA at h
  cases hi : C.ty.get t with
  | none => rw [hi] at h; cases h
  | some i =>
    rw [hi] at h; simp only at h
    cases hz : i.zero with
    | none => simp [hz] at h
    | some z =>
      obtain ⟨zv, hzv, hzc⟩ := run_zeroValue hC hi hz w
      obtain ⟨hzr, hzo⟩ := ofConst_VR ρ zv z hzc
      obtain ⟨zs, hzcells, hzs, hzsc, _⟩ := cells_VR hzo hzr
      have hu := fun w => run_underlying hC hi w
      cases hd : i.desc <;> simp only [hz, hd] at h hu <;> try (cases h; done)
      case struct fs =>
        cases hf : fillA (fieldsPlace C fs.toList) z.cells l with
        | none => simp [hf] at h
        | some cs =>
          simp only [hf, Option.some.injEq] at h; subst h
          obtain ⟨ps, e1, e2⟩ := run_places (P := P) (w := w) fs.toList (fun f hf => (hC.ty t i hi).fields fs hd f (by simpa using hf))
          have hplace : ∀ k y, fieldsPlace C fs.toList k = some y → ps[k]? = some y := by
            intro k y hk
            unfold fieldsPlace at hk
            cases hn : nth fs.toList k with
            | none => rw [hn] at hk; cases hk
            | some f =>
              rw [hn] at hk; simp only at hk
              cases hj : C.ty.get f.type with
              | none => rw [hj] at hk; cases hk
              | some j =>
                rw [hj] at hk; simp only [Option.some.injEq] at hk; subst hk
                obtain ⟨j', g1, g2, _⟩ := (hC.ty f.type j hj).info
                rw [← g2]; rw [nth_eq] at hn; exact e2 k f j' hn g1
          obtain ⟨us, f1, f2, f3, f4⟩ := fill_VR hplace l parts.toList hp z.cells cs zs hzs hzsc hf
          refine ⟨.agg ⟨us⟩, ?_, by simp only [VR]; exact ⟨us, rfl, f2, f3⟩⟩
          unfold Instr.build
          simp only [Sem.run_bind, hzv, Result.andThen_ok, hu, hzcells]
          have e3 : (fs.mapM (m := Sem) fun (f : Field) => do pure (f.offset, ← sizeOf f.type)).run P w = .ok ⟨ps⟩ w := by
            rw [Array.mapM_eq_mapM_toList]
            show Sem.run P ((List.mapM _ fs.toList) >>= (fun x => pure x.toArray)) w = _
            simp only [Sem.run_bind, Sem.run_pure] at e1 ⊢
            rw [e1]; rfl
          simp only [e3, Result.andThen_ok]
          have e4 : (fun (x : Nat) => (⟨ps⟩ : Array (Nat × Nat))[x]?) = fun (x : Nat) => ps[x]? := by funext x; simp
          simp only [e4, f1, Sem.run_pure]
      case array n e =>
        cases hq : C.ty.get e with
        | none => simp [hq] at h
        | some q =>
          simp only [hq] at h
          cases hf : fillA (fun i => some (i * q.size, q.size)) z.cells l with
          | none => simp [hf] at h
          | some cs =>
            simp only [hf, Option.some.injEq] at h; subst h
            obtain ⟨us, f1, f2, f3, f4⟩ := fill_VR (fun _ _ h => h) l parts.toList hp z.cells cs zs hzs hzsc hf
            refine ⟨.agg ⟨us⟩, ?_, by simp only [VR]; exact ⟨us, rfl, f2, f3⟩⟩
            unfold Instr.build
            simp only [Sem.run_bind, hzv, Result.andThen_ok, hu, hzcells, run_sizeOf' hC hq, f1, Sem.run_pure]
def repeatV (z : List Value) : Nat → List Value
  | 0 => []
  | n + 1 => z ++ repeatV z n
theorem repeat_VR {zc : List AV} {zs : List Value} (h : VRs ρ zc zs) (hs : ∀ c ∈ zc, c.sc = true) : ∀ n, VRs ρ (repeatN zc n) (repeatV zs n) ∧ (∀ c ∈ repeatN zc n, c.sc = true)
  | 0 => ⟨by simp [repeatN, repeatV, VRs], by simp [repeatN]⟩
  | n + 1 => by
    obtain ⟨h1, h2⟩ := repeat_VR h hs n
    refine ⟨VRs.append _ _ _ _ h h1, ?_⟩
    intro c hc
    rcases List.mem_append.1 hc with hc | hc
    · exact hs c hc
    · exact h2 c hc
theorem repeatV_length (zs : List Value) : ∀ n, (repeatV zs n).length = n * zs.length
  | 0 => by simp [repeatV]
  | n + 1 => by simp [repeatV, repeatV_length zs n, Nat.succ_mul]; omega
theorem made_list (zs : List Value) (hz : 0 < zs.length) : ∀ n, (List.range (n * zs.length)).map (fun i => zs.toArray[i % zs.toArray.size]!) = repeatV zs n
  | 0 => by simp [repeatV]
  | n + 1 => by
    have : (n + 1) * zs.length = zs.length + n * zs.length := by rw [Nat.succ_mul]; omega
    rw [this, List.range_add, List.map_append, repeatV, List.map_map, ← made_list zs hz n]
    congr 1
    · apply List.ext_getElem?
      intro j
      by_cases hj : j < zs.length
      · simp [hj, Nat.mod_eq_of_lt hj]
      · simp [hj]
    · apply List.map_congr_left
      intro j _
      simp [Nat.add_mod_left]
theorem made_cells (zs : List Value) (n : Nat) : madeCells ⟨zs⟩ (n * zs.length) = ⟨repeatV zs n⟩ := by
  by_cases hz : zs.length = 0
  · apply Array.ext'
    have h0 : zs = [] := List.eq_nil_of_length_eq_zero hz
    subst h0
    have : repeatV [] n = [] := List.eq_nil_of_length_eq_zero (by rw [repeatV_length]; simp)
    simp [madeCells, this]
  · apply Array.ext'
    rw [← made_list zs (by omega) n]
    simp [madeCells, Array.toList_range]
theorem madeOf_spec {q : TI} {z : AV} (hz : q.zero = some z) (h : madeOf q = true) : z.cells.length = q.size := by
  unfold madeOf at h; rw [hz] at h; exact Nat.eq_of_beq_eq_true h
theorem VRs.take {ρ : Rho} : ∀ (k : Nat) (l : List AV) (vs : List Value), VRs ρ l vs → VRs ρ (l.take k) (vs.take k) ∧ VRs ρ (l.drop k) (vs.drop k)
  | 0, l, vs, h => ⟨by simp [VRs], by simpa using h⟩
  | k + 1, [], vs, h => by simp only [VRs] at h; subst h; simp [VRs]
  | k + 1, a :: r, vs, h => by
    simp only [VRs] at h
    obtain ⟨v, t, rfl, h1, h2⟩ := h
    obtain ⟨g1, g2⟩ := VRs.take k r t h2
    refine ⟨?_, by simpa using g2⟩
    simp only [List.take_succ_cons, VRs]; exact ⟨v, _, rfl, h1, g1⟩
theorem rowA_VR {ρ : Rho} {z : Nat} {cs : List AV} {us : List Value} (h : VRs ρ cs us) (hs : ∀ c ∈ cs, c.sc = true) : ∃ v, VR ρ (rowA z cs) v ∧ (rowA z cs).okc = true ∧ vcells v = us := by
  have hagg : ∃ v, VR ρ (.agg (shuts cs)) v ∧ (AV.agg (shuts cs)).okc = true ∧ vcells v = us := ⟨.agg ⟨us⟩, by simp only [VR]; exact ⟨us, rfl, VRs.shut _ _ h, shuts_sc _ hs⟩, rfl, rfl⟩
  unfold rowA
  split
  · rename_i c
    simp only [VRs] at h
    obtain ⟨v, t, rfl, h1, rfl⟩ := h
    have hc := hs c List.mem_cons_self
    exact ⟨v, VR.shut _ _ h1, sc_okc (shut_sc _ hc), vcells_sc h1 hc⟩
  · exact hagg
theorem rowsA_VR {ρ : Rho} {z : Nat} : ∀ (n : Nat) {cs : List AV} {us : List Value}, VRs ρ cs us → (∀ c ∈ cs, c.sc = true) → us.length = n * z →
    ∃ vs, VRs ρ (rowsA z n cs) vs ∧ (∀ a ∈ rowsA z n cs, a.okc = true) ∧ (∀ v ∈ vs, (vcells v).length = z) ∧ vs.flatMap vcells = us ∧ (rowsA z n cs).length = n
  | 0, cs, us, h, hs, hl => by
    have : us = [] := List.eq_nil_of_length_eq_zero (by simpa using hl)
    subst this
    exact ⟨[], by simp [rowsA, VRs], by simp [rowsA], by simp, by simp, rfl⟩
  | n + 1, cs, us, h, hs, hl => by
    obtain ⟨g1, g2⟩ := VRs.take z cs us h
    obtain ⟨v, k1, k2, k3⟩ := rowA_VR (z := z) g1 fun c hc => hs c (List.mem_of_mem_take hc)
    rw [Nat.succ_mul] at hl
    obtain ⟨vs, j1, j2, j3, j4, j5⟩ := rowsA_VR n (z := z) g2 (fun c hc => hs c (List.mem_of_mem_drop hc)) (by rw [List.length_drop]; omega)
    refine ⟨v :: vs, ?_, ?_, ?_, ?_, by simp [rowsA, j5]⟩
    · simp only [rowsA, VRs]; exact ⟨v, vs, rfl, k1, j1⟩
    · intro a ha
      simp only [rowsA, List.mem_cons] at ha
      rcases ha with rfl | ha
      · exact k2
      · exact j2 a ha
    · intro u hu
      rcases List.mem_cons.1 hu with rfl | hu
      · rw [k3, List.length_take]; omega
      · exact j3 u hu
    · rw [List.flatMap_cons, k3, j4, List.take_append_drop]
theorem ice_rows {ρ : Rho} {s : St} {w : World} (hr : HR ρ s.H w) {l : List AV} {vs : List Value} {z : Nat} (h1 : VRs ρ l vs) (h2 : ∀ a ∈ l, a.okc = true) (h3 : ∀ v ∈ vs, (vcells v).length = z) (extra : List Value) (e : TypeId) (fr : Nat × Nat) :
    Stp ρ s w (ρ.ice w.heap.size 0 (vs.flatMap vcells).length ⟨vs.flatMap vcells ++ extra⟩) s (w.alloc (.cells ⟨vs.flatMap vcells ++ extra⟩ e fr)) ∧
    HR (ρ.ice w.heap.size 0 (vs.flatMap vcells).length ⟨vs.flatMap vcells ++ extra⟩) s.H (w.alloc (.cells ⟨vs.flatMap vcells ++ extra⟩ e fr)) ∧ FR (ρ.ice w.heap.size 0 (vs.flatMap vcells).length ⟨vs.flatMap vcells ++ extra⟩) w.heap.size 0 z l := by
  obtain ⟨g1, g2⟩ := step_ice_new hr (vs.flatMap vcells).length ⟨vs.flatMap vcells ++ extra⟩ e fr
  refine ⟨g1, g2, FR.intro (VRs.mono g1.ext _ _ h1) h2 h3 fun k x hk => ?_⟩
  have hlt := (List.getElem?_eq_some_iff.1 hk).1
  rw [Nat.zero_add, Rho.ice_in ρ (Nat.zero_le _) hlt]
  simpa [List.getElem?_append_left hlt] using hk
theorem buildSlice_sim (hC : CfgOk P C) (hr : HR ρ s.H w) (hfr : Fr ρ s) {fz : Bool} {t : TypeId} {n : Nat} {l : List (Nat × AV)} {parts : Array (Nat × Value)} (hp : PartsR ρ l parts.toList) :
    ValSim P ρ s w (buildSliceA C fz t n l) (Instr.buildSlice t n parts) := by
  intro Q hQ
  unfold buildSliceA at hQ
  cases hd : C.desc t with
  | none => rw [hd] at hQ; exact hQ.elim
  | some d =>
    have hu := fun w => run_desc hC hd w
    rw [hd] at hQ
    cases d <;> (try simp only at hQ) <;> try exact hQ.elim
    rename_i e
    cases hq : C.ty.get e with
    | none => rw [hq] at hQ; exact hQ.elim
    | some q =>
      rw [hq] at hQ; simp only at hQ
      cases hz : q.zero with
      | none => rw [hz] at hQ; exact hQ.elim
      | some z =>
        cases hb : Nat.ble (n * q.size) 16777216 with
        | false => rw [hz, hb] at hQ; exact hQ.elim
        | true =>
          cases hm : madeOf q with
          | false => rw [hz, hb, hm] at hQ; exact hQ.elim
          | true =>
            rw [hz, hb, hm] at hQ; simp only at hQ
            cases hf : fillA (fun i => some (i * q.size, q.size)) (repeatN z.cells n) l with
            | none => rw [hf] at hQ; exact hQ.elim
            | some cs =>
              rw [hf] at hQ; simp only at hQ
              obtain ⟨zv, hzv, hzc⟩ := run_zeroValue hC hq hz w
              obtain ⟨hzr, hzo⟩ := ofConst_VR ρ zv z hzc
              obtain ⟨zs, hzcells, hzs, hzsc, _⟩ := cells_VR hzo hzr
              have hzl : zs.length = q.size := by rw [← VRs.length _ _ hzs]; exact madeOf_spec hz hm
              obtain ⟨g1, g2⟩ := repeat_VR hzs hzsc n
              obtain ⟨us, f1, f2, f3, f4⟩ := fill_VR (fun _ _ h => h) l parts.toList hp _ cs _ g1 g2 hf
              have hble := Nat.le_of_ble_eq_true hb
              have hlen : us.length = n * q.size := by
                rw [f4, repeatV_length, hzl]
              have hrun : (Instr.buildSlice t n parts).run P w = .ok (.slice (some ⟨w.heap.size, 0, none⟩) n n) (w.alloc (.cells ⟨us⟩ e)) := by
                unfold Instr.buildSlice
                simp only [Sem.run_bind, hu, Result.andThen_ok, run_sizeOf' hC hq]
                rw [if_neg (by omega)]
                (try simp only [Sem.run_bind, Sem.run_pure, Result.andThen_ok])
                have hmade := made_cells zs n
                rw [hzl] at hmade
                unfold madeCells at hmade
                by_cases h0 : n * q.size = 0
                · have hnil : repeatV zs n = [] := List.eq_nil_of_length_eq_zero (by rw [repeatV_length, hzl]; exact h0)
                  rw [hnil] at f1
                  have e0 : (Array.range 0).map (fun x => (#[] : Array Value)[x % (#[] : Array Value).size]!) = (⟨[]⟩ : Array Value) := by apply Array.ext'; simp
                  simp only [h0, if_true, Sem.run_pure, Result.andThen_ok, e0, f1, Sem.run_bind]
                  simp [newRow]
                · simp only [if_neg h0, Sem.run_bind, hzv, Result.andThen_ok, Sem.run_pure, hzcells, hmade, f1]
                  simp [newRow]
              cases fz with
              | false =>
                simp only at hQ
                obtain ⟨k1, k2⟩ := new_cells' hr hfr f2 f3 e q.size
                refine ⟨_, _, _, _, .slice (some ⟨w.heap.size, 0, none⟩) n n, hQ, hrun, k1, k2, ?_⟩
                simp only [VR]
                refine ⟨_, 0, n, Rho.upd_same .., _, rfl, fun _ => rfl, fun _ => rfl, fun _ => rfl, Nat.le_refl _, Nat.le_refl _, ?_⟩
                intro _
                simp only [hlen]; omega
              | true =>
                obtain ⟨vs, j1, j2, j3, j4, j5⟩ := rowsA_VR n f2 f3 hlen
                obtain ⟨i1, i2, i3⟩ := ice_rows hr j1 j2 j3 [] e (0, 0)
                rw [j4, List.append_nil] at i1 i2 i3
                cases n with
                | zero =>
                  simp only at hQ
                  exact ⟨_, _, _, _, _, hQ, hrun, i1, i2, by simp only [VR]; exact ⟨_, rfl⟩⟩
                | succ n =>
                  simp only at hQ
                  cases hq1 : Nat.ble 1 q.size with
                  | false => rw [hq1] at hQ; exact hQ.elim
                  | true =>
                    rw [hq1] at hQ
                    refine ⟨_, _, _, _, _, hQ, hrun, i1, i2, ?_⟩
                    simp only [VR]
                    exact ⟨_, n + 1, by rw [j5], by rw [j5]; exact Nat.le_refl _, fun _ => ⟨_, 0, q.size, rfl, Nat.le_of_ble_eq_true hq1, i3⟩⟩
theorem makeSlice_sim (hC : CfgOk P C) (hr : HR ρ s.H w) (hfr : Fr ρ s) {t : TypeId} {l c : AV} {cl cc : Value} (hl : VR ρ l cl) (hc : VR ρ c cc) :
    ValSim P ρ s w (makeSliceA C t l c) (Instr.makeSlice t cl cc) := by
  intro Q hQ
  unfold makeSliceA at hQ
  cases hd : C.desc t with
  | none => rw [hd] at hQ; exact hQ.elim
  | some d =>
    have hu := fun w => run_desc hC hd w
    rw [hd] at hQ
    cases d <;> (try simp only at hQ) <;> try exact hQ.elim
    rename_i e
    have hli : ∃ n, l = .int .i64 n := by
      cases l <;> (try exact hQ.elim)
      rename_i k n; cases k <;> (try exact hQ.elim); exact ⟨n, rfl⟩
    obtain ⟨ln, rfl⟩ := hli
    have hci : ∃ n, c = .int .i64 n := by
      cases c <;> (try exact hQ.elim)
      rename_i k n; cases k <;> (try exact hQ.elim); exact ⟨n, rfl⟩
    obtain ⟨cn, rfl⟩ := hci
    simp only [VR] at hl hc; subst hl; subst hc
    simp only at hQ
    cases hq : C.ty.get e with
    | none => rw [hq] at hQ; exact hQ.elim
    | some q =>
      rw [hq] at hQ; simp only at hQ
      cases hz : q.zero with
      | none => rw [hz] at hQ; exact hQ.elim
      | some z =>
        rw [hz] at hQ
        cases h1 : decide (0 ≤ ln) with
        | false => rw [h1] at hQ; exact hQ.elim
        | true =>
          cases h2 : decide (ln ≤ cn) with
          | false => rw [h1, h2] at hQ; exact hQ.elim
          | true =>
            cases h3 : Nat.ble (cn.toNat * q.bytes) 281474976710656 with
            | false => rw [h1, h2, h3] at hQ; exact hQ.elim
            | true =>
              cases h4 : Nat.ble cn.toNat 9223372036854775807 with
              | false => rw [h1, h2, h3, h4] at hQ; exact hQ.elim
              | true =>
                cases hm : madeOf q with
                | false => rw [h1, h2, h3, h4] at hQ; simp only [hm] at hQ; exact hQ.elim
                | true =>
                  rw [h1, h2, h3, h4] at hQ; simp only [hm] at hQ
                  simp only [decide_eq_true_eq] at h1 h2
                  have h3' := Nat.le_of_ble_eq_true h3
                  have h4' := Nat.le_of_ble_eq_true h4
                  obtain ⟨j, hj, hjs, hjb, hjz⟩ := (hC.ty e q hq).info
                  obtain ⟨zv, hzv, hzc⟩ := hjz z hz
                  obtain ⟨hzr, hzo⟩ := ofConst_VR ρ zv z hzc
                  obtain ⟨zs, hzcells, hzs, hzsc, _⟩ := cells_VR hzo hzr
                  have hzl : zs.length = q.size := by rw [← VRs.length _ _ hzs]; exact madeOf_spec hz hm
                  obtain ⟨g1, g2⟩ := repeat_VR hzs hzsc cn.toNat
                  obtain ⟨k1, k2⟩ := new_cells' hr hfr g1 g2 e q.size
                  have hut : P.underlying t = some (.slice e) := by
                    obtain ⟨i, hi, hid⟩ := desc_some hC hd
                    rw [(hC.ty t i hi).under, hid]
                  have hby : (j.bytes : Int) * cn ≤ 281474976710656 := by
                    rw [hjb]
                    have : (cn.toNat : Int) = cn := by omega
                    have h5 : ((cn.toNat * q.bytes : Nat) : Int) ≤ 281474976710656 := by omega
                    rw [Int.natCast_mul, this, Int.mul_comm] at h5
                    exact h5
                  have hrun := run_make (P := P) w t e j zv hut hj hzv .i64 .i64 ln cn h1 h2 hby (by omega)
                  have hmade := made_cells zs cn.toNat
                  rw [hzl] at hmade
                  refine ⟨_, _, _, _, .slice (some ⟨w.heap.size, 0, none⟩) ln.toNat cn.toNat, hQ, ?_, k1, k2, ?_⟩
                  · rw [hrun, hzcells, hjs, hmade]
                  · simp only [VR]
                    refine ⟨_, 0, cn.toNat, Rho.upd_same .., _, rfl, fun _ => rfl, fun _ => rfl, fun _ => rfl, by omega, Nat.le_refl _, ?_⟩
                    intro _
                    simp only [repeatV_length, hzl]; omega
end
end Go.Am
namespace Go.Am
open Go
section
variable {P : Program} {C : Cfg} {ρ : Rho} {s : St} {w : World}
theorem run_row {b : Nm} {cs l : List AV} {rw_ : Bool} {u : Nat} (hr : HR ρ s.H w) (hx : hget s.H b = some (.cells cs rw_ u)) {o n : Nat} (h : readN cs o n = some l) {p : Place} (hp : ρ b = some p) :
    ∃ vs, VRs ρ l vs ∧ vs.length = n ∧ (∀ c ∈ l, c.sc = true) ∧ ∀ w' : World, w'.heap = w.heap → (loadCells ⟨p.blk, p.off + o, none⟩ n).run P w' = .ok ⟨vs⟩ w' := by
  obtain ⟨q, hq, hbo⟩ := hr.blocks _ _ hx
  rw [hp] at hq; obtain rfl := Option.some.inj hq
  obtain ⟨_, ccs, e, fr, ho, _, _, hc⟩ := hbo
  obtain ⟨vs, h1, h2, h3, h4⟩ := readN_cells hc h
  refine ⟨vs, h1, h2, h4, fun w' hw => ?_⟩
  have := run_loadCells_list (P := P) w' ⟨p.blk, p.off + o, none⟩ vs (fun j v hv => by rw [add_at]; simp [World.cell?, hw, ho, h3 j v hv])
  rw [h2] at this; exact this
theorem ones_of {l : List AV} {vs : List Value} (hv : VRs ρ l vs) (hs : ∀ c ∈ l, c.sc = true) : ∀ v ∈ vs, v.oneCell' = true := by
  intro v hm
  obtain ⟨i, hi⟩ := List.mem_iff_getElem?.1 hm
  have hlt : i < l.length := by rw [VRs.length _ _ hv]; exact (List.getElem?_eq_some_iff.1 hi).1
  obtain ⟨c, hc⟩ := nth_some hlt
  obtain ⟨u, hu, hr⟩ := VRs.nth _ _ hv i c hc
  rw [hi] at hu; obtain rfl := Option.some.inj hu
  exact sc_one (hs c (nth_mem hc)) hr
theorem bytes_VR (ρ : Rho) : ∀ l : List UInt8, VRs ρ (bytesAV l) (l.map fun b => Value.int .u8 b.toNat) ∧ (∀ c ∈ bytesAV l, c.sc = true)
  | [] => ⟨by simp [bytesAV, VRs], by simp [bytesAV]⟩
  | b :: r => by
    obtain ⟨h1, h2⟩ := bytes_VR ρ r
    refine ⟨by simp only [bytesAV, List.map_cons, VRs]; exact ⟨_, _, rfl, by simp [VR], h1⟩, ?_⟩
    intro c hc
    rcases List.mem_cons.1 hc with rfl | hc
    · rfl
    · exact h2 c hc
theorem okZ_spec {z : Nat} : ∀ {l : List AV}, okZ z l = true → ∀ e ∈ l, e.cells.length = z
  | [], _, e, he => by simp at he
  | a :: r, h, e, he => by
    unfold okZ at h
    cases hb : Nat.beq a.cells.length z with
    | false => rw [hb] at h; cases h
    | true =>
      rw [hb] at h
      rcases List.mem_cons.1 he with rfl | he
      · exact Nat.eq_of_beq_eq_true hb
      · exact okZ_spec h e he
theorem flatA_VR {ρ : Rho} : ∀ {l : List AV} {vs : List Value}, VRs ρ l vs → (∀ a ∈ l, a.okc = true) → VRs ρ (flatA l) (vs.flatMap vcells) ∧ ∀ c ∈ flatA l, c.sc = true
  | [], vs, h, _ => by simp only [VRs] at h; subst h; simp [flatA, VRs]
  | a :: r, vs, h, h2 => by
    simp only [VRs] at h
    obtain ⟨v, t, rfl, h1, h3⟩ := h
    obtain ⟨g1, g2⟩ := vcells_VR h1 (h2 a List.mem_cons_self)
    obtain ⟨k1, k2⟩ := flatA_VR h3 fun a ha => h2 a (List.mem_cons_of_mem _ ha)
    rw [List.flatMap_cons]
    refine ⟨VRs.append _ _ _ _ g1 k1, fun c hc => ?_⟩
    rcases List.mem_append.1 hc with hc | hc
    · exact g2 c hc
    · exact k2 c hc
theorem flatMap_len {z : Nat} : ∀ {vs : List Value}, (∀ v ∈ vs, (vcells v).length = z) → (vs.flatMap vcells).length = vs.length * z
  | [], _ => by simp
  | v :: r, h => by
    rw [List.flatMap_cons, List.length_append, h v List.mem_cons_self, flatMap_len fun u hu => h u (List.mem_cons_of_mem _ hu), List.length_cons, Nat.succ_mul, Nat.add_comm]
theorem lst_sim (hr : HR ρ s.H w) {z : Nat} {l : List AV} {a : Option Addr} {c : Nat} (hl : l ≠ [] → ∃ blk off z, a = some ⟨blk, off, none⟩ ∧ 1 ≤ z ∧ FR ρ blk off z l) (hz : okZ z l = true) :
    ∃ vs, VRs ρ l vs ∧ (∀ a ∈ l, a.okc = true) ∧ (∀ v ∈ vs, (vcells v).length = z) ∧ vs.length = l.length ∧ ∀ w' : World, w'.heap = w.heap → (Builtin.firstCells z l.length (.slice a l.length c)).run P w' = .ok ⟨vs.flatMap vcells⟩ w' := by
  by_cases hne : l = []
  · subst hne
    refine ⟨[], by simp [VRs], by simp, by simp, rfl, fun w' _ => ?_⟩
    cases a with
    | none => simp [Builtin.firstCells]
    | some a =>
      have := run_loadCells_list (P := P) w' a [] (by simp)
      simp only [Builtin.firstCells, List.length_nil, Nat.zero_mul]; exact this
  · obtain ⟨blk, off, z', rfl, hz1, hf⟩ := hl hne
    obtain ⟨vs, g1, g2, g3, g4⟩ := hf.elim
    have hzz : z' = z := by
      cases l with
      | nil => exact absurd rfl hne
      | cons b r => rw [← (g2 b List.mem_cons_self).2]; exact okZ_spec hz b List.mem_cons_self
    subst hzz
    have hvl : vs.length = l.length := (VRs.length _ _ g1).symm
    refine ⟨vs, g1, fun a ha => (g2 a ha).1, g3, hvl, fun w' hw => ?_⟩
    have := run_loadCells_list (P := P) w' ⟨blk, off, none⟩ (vs.flatMap vcells) (fun j v hv => by
      obtain ⟨ccs, e, fr, ho, hc⟩ := hr.frz _ _ _ (g4 j v hv)
      rw [add_at]; simp [World.cell?, hw, ho, hc])
    rw [flatMap_len g3, hvl] at this
    simp only [Builtin.firstCells]; exact this
theorem elems_sim (hr : HR ρ s.H w) {z : Nat} {x : AV} {cx : Value} (hx : VR ρ x cx) {Q : (Nat × List AV) × St → Prop} (h : (elemsA z x s).All Q) :
    ∃ m l vs, Q ((m, l), s) ∧ (Builtin.lenOf cx).run P w = .ok m w ∧ (∀ w' : World, w'.heap = w.heap → (Builtin.firstCells z m cx).run P w' = .ok ⟨vs⟩ w') ∧ VRs ρ l vs ∧ (∀ c ∈ l, c.sc = true) ∧ vs.length = m * z := by
  unfold elemsA at h
  cases x <;> (try simp only at h) <;> try exact h.elim
  case nils =>
    simp only [VR] at hx; subst hx
    exact ⟨0, [], [], h, by simp [Builtin.lenOf], fun w' _ => by simp [Builtin.firstCells], by simp [VRs], by simp, by simp⟩
  case empty =>
    simp only [VR] at hx; obtain ⟨a, rfl⟩ := hx
    refine ⟨0, [], [], h, by simp [Builtin.lenOf], fun w' _ => ?_, by simp [VRs], by simp, by simp⟩
    cases a with
    | none => simp [Builtin.firstCells]
    | some a =>
      have := run_loadCells_list (P := P) w' a [] (by simp)
      simp only [Builtin.firstCells, Nat.zero_mul]; exact this
  case lst l =>
    simp only [VR] at hx; obtain ⟨a, c, rfl, h1, h2⟩ := hx
    cases hz : okZ z l with
    | false => rw [hz] at h; exact h.elim
    | true =>
      rw [hz] at h
      obtain ⟨vs, g1, g2, g3, g4, g5⟩ := lst_sim (P := P) (c := c) hr h2 hz
      obtain ⟨k1, k2⟩ := flatA_VR g1 g2
      exact ⟨_, _, _, h, by simp [Builtin.lenOf], g5, k1, k2, by rw [flatMap_len g3, g4]⟩
  case own b l =>
    simp only [VR] at hx; obtain ⟨p, c, hp, rfl, h1, h2, h3, h4, h5⟩ := hx
    cases hz : okZ z l with
    | false => rw [hz] at h; exact h.elim
    | true =>
      rw [hz] at h
      obtain ⟨vs, g1, g2, g3, g4, g5⟩ := lst_sim (P := P) (c := c) hr (fun _ => ⟨_, _, _, rfl, h2, h5⟩) hz
      obtain ⟨k1, k2⟩ := flatA_VR g1 g2
      exact ⟨_, _, _, h, by simp [Builtin.lenOf], g5, k1, k2, by rw [flatMap_len g3, g4]⟩
  case str t =>
    simp only [VR] at hx; subst hx
    cases hz : Nat.beq z 1 with
    | false => rw [hz] at h; exact h.elim
    | true =>
      rw [hz] at h
      have hz1 := Nat.eq_of_beq_eq_true hz; subst hz1
      obtain ⟨h1, h2⟩ := bytes_VR ρ t.data.toList
      refine ⟨_, _, _, h, by simp [Builtin.lenOf], fun w' _ => ?_, h1, h2, ?_⟩
      · have : t.extract 0 t.size = t := by simp
        simp only [Builtin.firstCells, this, Sem.run_pure]
        congr 1
        apply Array.ext'; simp
      · simp
  case slice b o n c ex =>
    simp only [VR] at hx
    obtain ⟨p, o', c', hp, aa, rfl, ha, h1, h2, h3, h4, h5⟩ := hx
    cases n with
    | zero =>
      simp only at h
      exact ⟨0, [], [], h, by simp [Builtin.lenOf], fun w' _ => by
        have := run_loadCells_list (P := P) w' aa [] (by simp)
        simp only [Builtin.firstCells, Nat.zero_mul]; exact this, by simp [VRs], by simp, by simp⟩
    | succ n =>
      obtain rfl := ha (by omega)
      simp only at h
      obtain ⟨y, hy, hq⟩ := (getM_all _ _ _).1 ((M.all_bind _ _ _ _).1 h)
      cases y with
      | cells cs rw_ u =>
        simp only at hq
        cases hn : readN cs o ((n + 1) * z) with
        | none => rw [hn] at hq; exact hq.elim
        | some l =>
          rw [hn] at hq
          obtain ⟨vs, g1, g2, g3, g4⟩ := run_row (P := P) hr hy hn hp
          refine ⟨_, _, vs, hq, by simp [Builtin.lenOf], fun w' hw => ?_, g1, g3, g2⟩
          simp only [Builtin.firstCells, h1 (by omega)]
          exact g4 w' hw
      | _ => exact hq.elim
inductive Src (P : Program) (w : World) (u : TypeId) (i : TypeInfo) (cx : Value) (m : Nat) (news : List Value) : Prop
  | seq (d : TypeDesc) (hut : P.underlying u = some d) (hd : isSeq d = true) (hlen : (Builtin.lenOf cx).run P w = .ok m w) (hnew : ∀ w' : World, w'.heap = w.heap → (Builtin.firstCells i.size m cx).run P w' = .ok ⟨news⟩ w')
  | zero (k k' : IntKind) (l : Int) (z : Value) (hut : P.underlying u = some (.int k)) (hx : cx = .int k' l) (h0 : 0 ≤ IntKind.i64.wrap l) (hm : m = (IntKind.i64.wrap l).toNat) (hb : m * i.bytes ≤ 140737488355328) (hz : i.zero = some z) (hs : z.cells.size = i.size) (hn : news = (Builtin.zeroCells z.cells m).toList)
theorem run_append_grows' (t u ty e : TypeId) (i : TypeInfo) (z : Value) (ht : P.underlying t = some (.slice e)) (hi : P.info? e = some i) (hz : i.zero = some z)
    (base : Option Addr) (n c m : Nat) (cx : Value) (news olds : List Value) (hsrc : Src P w u i cx m news) (hold : (Builtin.firstCells i.size n (.slice base n c)).run P w.drew = .ok ⟨olds⟩ w.drew)
    (hg : c < n + m) (hroom : (n + m) * i.bytes ≤ 140737488355328) (hb : 1 ≤ i.bytes) :
    (Builtin.append_ #[t, u] ty #[.slice base n c, cx]).run P w = .ok (.slice (some ⟨w.heap.size, 0, none⟩) (n + m) (grownCap w (n + m) c e))
        (w.drew.alloc (.cells ⟨(olds ++ news) ++ (Builtin.zeroCells z.cells (grownCap w (n + m) c e - (n + m))).toList⟩ e)) := by
  have hn : ¬ (n + m ≤ c) := by omega
  have hsm : n + m ≤ 140737488355328 := by have := Nat.mul_le_mul_left (n + m) hb; omega
  have h63' : ¬ (9223372036854775807 < ((n : Int) + (m : Int))) := by omega
  have h48' : ¬ (281474976710656 < Builtin.nextslicecap (n + m) c * i.bytes) := by have := growslice_fits (bytes := i.bytes) hg hroom; omega
  cases hsrc with
  | seq d hut hd hlen hnew =>
    have hnew := hnew w.drew rfl
    unfold Builtin.append_
    cases d <;> first | (simp [isSeq] at hd; done) | (simp [Go.run_underlying ht, Go.run_underlying hut, sizeOf, typeInfo, zeroValue, hi, hz, hlen, hn, h63', h48', Question.forced, hnew, hold, newRow, grownCap]; congr 2; apply Array.ext'; simp)
  | zero k k' l z' hut hx h0 hm hbb hz' hs hnn =>
    rw [hz] at hz'; obtain rfl := Option.some.inj hz'
    subst hx
    obtain ⟨q, hq⟩ : ∃ q, q = IntKind.i64.wrap l := ⟨_, rfl⟩
    rw [← hq] at h0 hm
    have hqm : (q.toNat : Int) = q := Int.toNat_of_nonneg h0
    have h1 : ¬ q < 0 := by omega
    have h2 : ¬ (281474976710656 < q * (i.bytes : Int)) := by
      rw [← hqm, ← hm]
      have : ((m * i.bytes : Nat) : Int) ≤ 140737488355328 := by omega
      rw [Int.natCast_mul] at this; omega
    have hap : ∀ w' : World, (if m * i.size = 0 then (pure #[] : Sem (Array Value)) else pure (Builtin.zeroCells z.cells m)).run P w' = .ok ⟨news⟩ w' := by
      intro w'
      have hl : news.length = m * i.size := by rw [hnn, Array.length_toList, size_zeroCells, hs]
      by_cases hc : m * i.size = 0
      · rw [if_pos hc]; have := List.eq_nil_of_length_eq_zero (hl.trans hc); subst this; rfl
      · rw [if_neg hc, hnn]; rfl
    have hq' : IntKind.i64.wrap l = q := hq.symm
    have hmm : q.toNat = m := hm.symm
    have h63'' : ¬ (IntKind.i64.max < ((n + m : Nat) : Int)) := by simp [IntKind.max, IntKind.signed, IntKind.bits]; omega
    have hap' := hap w.drew
    have hmx : ¬ (9223372036854775807 < (n : Int) + max q 0) := by omega
    unfold Builtin.append_
    by_cases hc : m * i.size = 0
    · rw [if_pos hc] at hap'
      simp at hap'
      have hc' : m = 0 ∨ i.size = 0 := Nat.mul_eq_zero.1 hc
      simp [Go.run_underlying ht, Go.run_underlying hut, sizeOf, typeInfo, zeroValue, hi, hz, asInt, asIntOf, hq', h1, h2, hmm, hn, h63', hmx, h48', Question.forced, hold, newRow, grownCap, hc, hap']
      try (congr 2; apply Array.ext'; simp)
    · rw [if_neg hc] at hap'
      simp at hap'
      have hc' : ¬ (m = 0 ∨ i.size = 0) := fun h => hc (Nat.mul_eq_zero.2 h)
      simp [Go.run_underlying ht, Go.run_underlying hut, sizeOf, typeInfo, zeroValue, hi, hz, asInt, asIntOf, hq', h1, h2, hmm, hn, h63', hmx, h48', Question.forced, hold, newRow, grownCap, hc, hap']
      try (congr 2; apply Array.ext'; simp)
theorem run_append_fits' (t u ty e : TypeId) (i : TypeInfo) (ht : P.underlying t = some (.slice e)) (hi : P.info? e = some i)
    (base : Option Addr) (n c m : Nat) (cx : Value) (news : List Value) (hsrc : Src P w u i cx m news) (hg : n + m ≤ c) {w' : World} (hst : ∀ a, base = some a → (storeCells (a.add (n * i.size)) news).run P w = .ok () w') (h0 : base = none → w' = w) :
    (Builtin.append_ #[t, u] ty #[.slice base n c, cx]).run P w = .ok (.slice base (n + m) c) w' := by
  cases hsrc with
  | seq d hut hd hlen hnew =>
    have hnew := hnew w rfl
    unfold Builtin.append_
    cases base with
    | none =>
      obtain rfl := h0 rfl
      cases d <;> first | (simp [isSeq] at hd; done) | simp [Go.run_underlying ht, Go.run_underlying hut, sizeOf, typeInfo, hi, hlen, hg, hnew]
    | some a =>
      have := hst a rfl
      cases d <;> first | (simp [isSeq] at hd; done) | simp [Go.run_underlying ht, Go.run_underlying hut, sizeOf, typeInfo, hi, hlen, hg, hnew, this]
  | zero k k' l z' hut hx hge hm hbb hz hs hnn =>
    subst hx
    obtain ⟨q, hq⟩ : ∃ q, q = IntKind.i64.wrap l := ⟨_, rfl⟩
    rw [← hq] at hge hm
    have hqm : (q.toNat : Int) = q := Int.toNat_of_nonneg hge
    have h1 : ¬ q < 0 := by omega
    have h2 : ¬ (281474976710656 < q * (i.bytes : Int)) := by
      rw [← hqm, ← hm]
      have : ((m * i.bytes : Nat) : Int) ≤ 140737488355328 := by omega
      rw [Int.natCast_mul] at this; omega
    have hq' : IntKind.i64.wrap l = q := hq.symm
    have hmm : q.toNat = m := hm.symm
    have hl : news.length = m * i.size := by rw [hnn, Array.length_toList, size_zeroCells, hs]
    unfold Builtin.append_
    by_cases hc : m * i.size = 0
    · have hnil := List.eq_nil_of_length_eq_zero (hl.trans hc)
      subst hnil
      have hc' : m = 0 ∨ i.size = 0 := Nat.mul_eq_zero.1 hc
      cases base with
      | none =>
        obtain rfl := h0 rfl
        simp [Go.run_underlying ht, Go.run_underlying hut, sizeOf, typeInfo, zeroValue, hi, hz, asInt, asIntOf, hq', h1, h2, hmm, hg, hc]
      | some a =>
        have := hst a rfl
        simp [Go.run_underlying ht, Go.run_underlying hut, sizeOf, typeInfo, zeroValue, hi, hz, asInt, asIntOf, hq', h1, h2, hmm, hg, hc, this]
    · have hc' : ¬ (m = 0 ∨ i.size = 0) := fun h => hc (Nat.mul_eq_zero.2 h)
      cases base with
      | none =>
        obtain rfl := h0 rfl
        simp [Go.run_underlying ht, Go.run_underlying hut, sizeOf, typeInfo, zeroValue, hi, hz, asInt, asIntOf, hq', h1, h2, hmm, hg, hc]
      | some a =>
        have := hst a rfl
        rw [hnn] at this
        simp [Go.run_underlying ht, Go.run_underlying hut, sizeOf, typeInfo, zeroValue, hi, hz, asInt, asIntOf, hq', h1, h2, hmm, hg, hc, this]
theorem grow_step (hr : HR ρ s.H w) (hf : Fr ρ s) {k cap z : Nat} {l : List AV} {vs rest : List Value} (hv : VRs ρ l vs) (hs : ∀ c ∈ l, c.sc = true) (hcap : k ≤ cap) (hl : vs.length = k * z) (hrest : rest.length = (cap - k) * z) (e : TypeId) {Q : AV × St → Prop} (h : (newM (.cells l true z) |>.bind (fun i => M.ret (.slice i 0 k k false)) <| s).All Q) :
    ∃ v s' ρ' cv, Q (v, s') ∧ cv = .slice (some ⟨w.heap.size, 0, none⟩) k cap ∧ Stp ρ s w ρ' s' (w.drew.alloc (.cells ⟨vs ++ rest⟩ e)) ∧ HR ρ' s'.H (w.drew.alloc (.cells ⟨vs ++ rest⟩ e)) ∧ VR ρ' v cv := by
  have hr' : HR ρ s.H w.drew := hr.world rfl
  obtain ⟨k1, k2⟩ := new_cells hr' hf hv hs e z rest
  have hst : Stp ρ s w ρ s w.drew := (Stp.refl ρ s w).world rfl ⟨rfl, rfl, rfl⟩
  refine ⟨_, _, _, _, h, rfl, hst.trans k1, k2, ?_⟩
  simp only [VR]
  refine ⟨_, 0, cap, Rho.upd_same .., _, rfl, fun _ => rfl, fun _ => rfl, fun h => (by cases h), Nat.le_refl _, hcap, ?_⟩
  intro _
  have h1 : (cap - k) * z + k * z = cap * z := by rw [← Nat.add_mul]; congr 1; omega
  simp only [List.length_append, hl, hrest]
  omega
theorem grow_cells {old new : List AV} {o' nz : Nat} {ccs : Array Value} {ovs nvs : List Value} (ho : VRs ρ old ovs) (hos : ∀ c ∈ old, c.sc = true) (hol : ovs.length = nz) (hov : ∀ j v, ovs[j]? = some v → ccs[o' + j]? = some v)
    (hnv : VRs ρ new nvs) (hns : ∀ c ∈ new, c.sc = true) (hfit : o' + nz + nvs.length ≤ ccs.size) :
    CellsR ρ (old ++ new) o' (ccs.toList.take (o' + nz) ++ nvs ++ ccs.toList.drop (o' + nz + nvs.length)).toArray := by
  intro i c hi
  obtain ⟨v, h1, h2⟩ := VRs.nth _ _ (VRs.append _ _ _ _ ho hnv) i c hi
  refine ⟨(List.mem_append.1 (nth_mem hi)).elim (hos c) (hns c), v, ?_, h2⟩
  have e1 : (ccs.toList.take (o' + nz)).length = o' + nz := by simp; omega
  rw [List.getElem?_toArray, List.append_assoc]
  by_cases hlt : i < nz
  · rw [List.getElem?_append_left (by omega)] at h1 ⊢
    rw [List.getElem?_take, if_pos (by omega)]
    simpa using hov i v h1
  · rw [List.getElem?_append_right (by omega)] at h1 ⊢
    have hn := (List.getElem?_eq_some_iff.1 h1).1
    rw [e1, List.getElem?_append_left (by omega)]
    rw [← h1]; congr 1; omega
theorem zeroCells_repeat (zs : List Value) (n : Nat) : (Builtin.zeroCells ⟨zs⟩ n).toList = repeatV zs n := by
  unfold Builtin.zeroCells
  by_cases hz : 0 < zs.length
  · rw [← made_list zs hz n]
    simp [Array.toList_range]
  · have h0 : zs.length = 0 := by omega
    have := List.eq_nil_of_length_eq_zero h0
    subst this
    rw [List.eq_nil_of_length_eq_zero (l := repeatV [] n) (by rw [repeatV_length]; simp)]
    simp
theorem src_sim (hr : HR ρ s.H w) {u : TypeId} {i : TI} {j : TypeInfo} {z : AV} {zv : Value} {zs : List Value} {d : TypeDesc} {x : AV} {cx : Value} (hx : VR ρ x cx) (huu : P.underlying u = some d) (hjs : j.size = i.size) (hjb : j.bytes = i.bytes)
    (hzv : j.zero = some zv) (hzcells : zv.cells = ⟨zs⟩) (hzs : VRs ρ z.cells zs) (hzsc : ∀ c ∈ z.cells, c.sc = true) (hzl : zs.length = i.size) {Q : (Nat × List AV) × St → Prop} (h : (srcA i z d x s).All Q) :
    ∃ m l vs, Q ((m, l), s) ∧ Src P w u j cx m vs ∧ VRs ρ l vs ∧ (∀ c ∈ l, c.sc = true) ∧ vs.length = m * i.size := by
  unfold srcA at h
  cases hd : isSeq d with
  | true =>
    rw [hd] at h
    obtain ⟨m, l, vs, h1, h2, h3, h4, h5, h6⟩ := elems_sim (P := P) (w := w) hr hx h
    exact ⟨m, l, vs, h1, .seq d huu hd h2 (by rw [hjs]; exact h3), h4, h5, h6⟩
  | false =>
    rw [hd] at h
    cases d <;> (try simp only at h) <;> try exact h.elim
    rename_i k
    cases x <;> (try simp only at h) <;> try exact h.elim
    rename_i k' l
    simp only [VR] at hx; subst hx
    cases h0 : decide (0 ≤ wrapF .i64 l) with
    | false => rw [h0] at h; exact h.elim
    | true =>
      cases hb : Nat.ble ((wrapF .i64 l).toNat * i.bytes) 140737488355328 with
      | false => rw [h0, hb] at h; exact h.elim
      | true =>
        rw [h0, hb] at h
        rw [wrapF_eq] at h h0 hb
        obtain ⟨g1, g2⟩ := repeat_VR hzs hzsc (IntKind.i64.wrap l).toNat
        have e : (Builtin.zeroCells zv.cells (IntKind.i64.wrap l).toNat).toList = repeatV zs (IntKind.i64.wrap l).toNat := by rw [hzcells]; exact zeroCells_repeat _ _
        refine ⟨_, _, _, h, .zero k k' l zv huu rfl (of_decide_eq_true h0) rfl (by rw [hjb]; exact Nat.le_of_ble_eq_true hb) hzv (by rw [hzcells, hjs]; simpa using hzl) rfl, ?_, g2, ?_⟩
        · rw [e]; exact g1
        · rw [Array.length_toList, size_zeroCells, hzcells]; simp [hzl]
theorem srcF_sim (hr : HR ρ s.H w) {u : TypeId} {i : TI} {j : TypeInfo} {z : AV} {zv : Value} {zs : List Value} {d : TypeDesc} {x : AV} {cx : Value} (hx : VR ρ x cx) (huu : P.underlying u = some d) (hjs : j.size = i.size) (hjb : j.bytes = i.bytes)
    (hzv : j.zero = some zv) (hzcells : zv.cells = ⟨zs⟩) (hzs : VRs ρ z.cells zs) (hzsc : ∀ c ∈ z.cells, c.sc = true) (hzl : zs.length = i.size) {Q : (Nat × List AV) × St → Prop} (h : (srcF i z d x s).All Q) :
    ∃ m l vs, Q ((m, l), s) ∧ Src P w u j cx m (vs.flatMap vcells) ∧ VRs ρ l vs ∧ (∀ a ∈ l, a.okc = true) ∧ (∀ v ∈ vs, (vcells v).length = i.size) ∧ l.length = m := by
  have hrest : ((srcA i z d x).bind (fun y => M.ret (y.1, rowsA i.size y.1 y.2)) s).All Q → ∃ m l vs, Q ((m, l), s) ∧ Src P w u j cx m (vs.flatMap vcells) ∧ VRs ρ l vs ∧ (∀ a ∈ l, a.okc = true) ∧ (∀ v ∈ vs, (vcells v).length = i.size) ∧ l.length = m := by
    intro h
    obtain ⟨m, l, us, h1, h2, h3, h4, h5⟩ := src_sim (P := P) (w := w) hr hx huu hjs hjb hzv hzcells hzs hzsc hzl ((M.all_bind _ _ _ _).1 h)
    obtain ⟨vs, g1, g2, g3, g4, g5⟩ := rowsA_VR m h3 h4 h5
    exact ⟨m, _, vs, h1, by rw [g4]; exact h2, g1, g2, g3, g5⟩
  unfold srcF at h
  cases hd : isSeq d with
  | false => rw [hd] at h; cases x <;> exact hrest h
  | true =>
    rw [hd] at h
    cases x <;> (try (exact hrest h))
    case lst l =>
      simp only at h
      simp only [VR] at hx; obtain ⟨a, c, rfl, h1, h2⟩ := hx
      cases hz : okZ i.size l with
      | false => rw [hz] at h; exact h.elim
      | true =>
        rw [hz] at h
        obtain ⟨vs, g1, g2, g3, g4, g5⟩ := lst_sim (P := P) (c := c) hr h2 hz
        exact ⟨_, _, vs, h, .seq d huu hd (by simp [Builtin.lenOf]) (by rw [hjs]; exact g5), g1, g2, g3, rfl⟩
    case own b l =>
      simp only at h
      simp only [VR] at hx; obtain ⟨p, c, hp, rfl, h1, h2, h3, h4, h5⟩ := hx
      cases hz : okZ i.size l with
      | false => rw [hz] at h; exact h.elim
      | true =>
        rw [hz] at h
        obtain ⟨vs, g1, g2, g3, g4, g5⟩ := lst_sim (P := P) (c := c) hr (fun _ => ⟨_, _, _, rfl, h2, h5⟩) hz
        exact ⟨_, _, vs, h, .seq d huu hd (by simp [Builtin.lenOf]) (by rw [hjs]; exact g5), g1, g2, g3, rfl⟩
theorem growF_step (hr : HR ρ s.H w) (hf : Fr ρ s) {cap z : Nat} {l : List AV} {vs rest : List Value} (hv : VRs ρ l vs) (ho : ∀ a ∈ l, a.okc = true) (hlen : ∀ v ∈ vs, (vcells v).length = z) (hne : l ≠ []) (hz : 1 ≤ z) (hcap : l.length ≤ cap) (hrest : rest.length = (cap - l.length) * z) (e : TypeId) {Q : AV × St → Prop} (h : (growF l z s).All Q) :
    ∃ v s' ρ' cv, Q (v, s') ∧ cv = .slice (some ⟨w.heap.size, 0, none⟩) l.length cap ∧ Stp ρ s w ρ' s' (w.drew.alloc (.cells ⟨vs.flatMap vcells ++ rest⟩ e)) ∧ HR ρ' s'.H (w.drew.alloc (.cells ⟨vs.flatMap vcells ++ rest⟩ e)) ∧ VR ρ' v cv := by
  have hr' : HR ρ s.H w.drew := hr.world rfl
  have hst : Stp ρ s w ρ s w.drew := (Stp.refl ρ s w).world rfl ⟨rfl, rfl, rfl⟩
  obtain ⟨ccs, hccs⟩ : ∃ ccs : Array Value, ccs = ⟨vs.flatMap vcells ++ rest⟩ := ⟨_, rfl⟩
  have hvl : vs.length = l.length := (VRs.length _ _ hv).symm
  have hfl := flatMap_len hlen
  have h1 : (cap - l.length) * z + l.length * z = cap * z := by rw [← Nat.add_mul]; congr 1; omega
  have hsz : ccs.size = cap * z := by
    rw [hccs]
    show (vs.flatMap vcells ++ rest).length = _
    rw [List.length_append, hfl, hrest, hvl]; omega
  rw [← hccs]
  obtain ⟨k1, k2⟩ := step_new hr' hf (.tok l.length z) (.cells ccs e) ⟨w.heap.size, 0, ccs.size, z⟩ rfl ⟨rfl, hz, ccs, e, rfl, rfl⟩ (fun m l e h => by cases h)
  have hnm : (ρ.upd s.name ⟨w.heap.size, 0, ccs.size, z⟩) s.name = some ⟨w.heap.size, 0, ccs.size, z⟩ := Rho.upd_same ..
  have hgt : hget (s.new (.tok l.length z)).H s.name = some (.tok l.length z) := hget_cons_same ..
  have hob : (w.drew.alloc (.cells ccs e)).heap[w.heap.size]? = some (.cells ccs e (0, 0)) := by show (w.heap.push _)[w.heap.size]? = some _; simp
  obtain ⟨j1, j2⟩ := step_ice k2 hgt hnm 0 (l.length * z) (by simp) hob
  refine ⟨_, _, _, _, h, rfl, (hst.trans k1).trans j1, j2, ?_⟩
  simp only [VR]
  refine ⟨_, cap, hnm, rfl, hne, hz, hcap, by simp [hsz], ?_⟩
  refine FR.intro (VRs.mono (k1.ext.trans j1.ext) _ _ hv) ho hlen fun k x hk => ?_
  have hlt := (List.getElem?_eq_some_iff.1 hk).1
  rw [hfl, hvl] at hlt
  rw [Nat.zero_add, Rho.ice_in _ (Nat.zero_le _) hlt, hccs]
  simpa [List.getElem?_append_left (List.getElem?_eq_some_iff.1 hk).1] using hk
theorem appendF_sim (hr : HR ρ s.H w) (hfr : Fr ρ s) {t u ty e : TypeId} {i : TI} {j : TypeInfo} {zv : Value} {v : AV} {cv cx : Value} (hv : VR ρ v cv) (hut : P.underlying t = some (.slice e)) (hj : P.info? e = some j) (hjs : j.size = i.size) (hjb : j.bytes = i.bytes) (hzv : j.zero = some zv) (hzl : ∀ k, (Builtin.zeroCells zv.cells k).toList.length = k * i.size)
    {m : Nat} {es : List AV} {vs : List Value} (hsrc : Src P w u j cx m (vs.flatMap vcells)) (hes : VRs ρ es vs) (heo : ∀ a ∈ es, a.okc = true) (hel : ∀ v ∈ vs, (vcells v).length = i.size) (hm : es.length = m) {Q : AV × St → Prop} (hQ : (appendF i v m es s).All Q) :
    ∃ v' s' ρ' w' cv', Q (v', s') ∧ (Builtin.append_ #[t, u] ty #[cv, cx]).run P w = .ok cv' w' ∧ Stp ρ s w ρ' s' w' ∧ HR ρ' s'.H w' ∧ VR ρ' v' cv' := by
  have hvl : vs.length = m := by rw [← hm]; exact (VRs.length _ _ hes).symm
  unfold appendF at hQ
  cases hm0 : Nat.beq m 0 with
  | true =>
    rw [hm0] at hQ; simp only at hQ
    have hm' := Nat.eq_of_beq_eq_true hm0
    subst hm'
    have hnil : vs = [] := List.eq_nil_of_length_eq_zero hvl
    subst hnil
    have hsame : ∀ (a : Option Addr) (n c : Nat), n ≤ c → (Builtin.append_ #[t, u] ty #[.slice a n c, cx]).run P w = .ok (.slice a n c) w := fun a n c h =>
      run_append_fits' (P := P) (w := w) t u ty e j hut hj a n c 0 cx _ hsrc (by omega) (w' := w) (fun a _ => by simp [storeCells]) (fun _ => rfl)
    cases v <;> (try simp only at hQ) <;> try exact hQ.elim
    case nils => simp only [VR] at hv; subst hv; exact ⟨_, _, ρ, w, _, hQ, hsame _ _ _ (Nat.le_refl _), Stp.refl _ _ _, hr, by simp [VR]⟩
    case empty => simp only [VR] at hv; obtain ⟨a, rfl⟩ := hv; exact ⟨_, _, ρ, w, _, hQ, hsame _ _ _ (Nat.le_refl _), Stp.refl _ _ _, hr, by simp only [VR]; exact ⟨a, rfl⟩⟩
    case lst l => simp only [VR] at hv; obtain ⟨a, c, rfl, h1, h2⟩ := hv; exact ⟨_, _, ρ, w, _, hQ, hsame _ _ _ h1, Stp.refl _ _ _, hr, by simp only [VR]; exact ⟨a, c, rfl, h1, h2⟩⟩
    case own b l => simp only [VR] at hv; obtain ⟨p, c, hp, rfl, h1, h2, h3, h4⟩ := hv; exact ⟨_, _, ρ, w, _, hQ, hsame _ _ _ h3, Stp.refl _ _ _, hr, by simp only [VR]; exact ⟨p, c, hp, rfl, h1, h2, h3, h4⟩⟩
  | false =>
    rw [hm0] at hQ; simp only at hQ
    have hmpos : 1 ≤ m := by
      rcases Nat.eq_zero_or_pos m with h | h
      · subst h; simp at hm0
      · exact h
    cases hz : Nat.ble 1 i.size with
    | false => rw [hz] at hQ; exact hQ.elim
    | true =>
      rw [hz] at hQ; simp only at hQ
      have hz1 := Nat.le_of_ble_eq_true hz
      have hgrow : ∀ (base : Option Addr) (n c : Nat) (old : List AV) (ovs : List Value) (s1 : St), HR ρ s1.H w → Fr ρ s1 → Stp ρ s w ρ s1 w → VRs ρ old ovs → (∀ a ∈ old, a.okc = true) → (∀ v ∈ ovs, (vcells v).length = i.size) → old.length = n →
          (Builtin.firstCells j.size n (.slice base n c)).run P w.drew = .ok ⟨ovs.flatMap vcells⟩ w.drew → c < n + m → roomy n m i.bytes = true → (growF (old ++ es) i.size s1).All Q →
          ∃ v' s' ρ' w' cv', Q (v', s') ∧ (Builtin.append_ #[t, u] ty #[.slice base n c, cx]).run P w = .ok cv' w' ∧ Stp ρ s w ρ' s' w' ∧ HR ρ' s'.H w' ∧ VR ρ' v' cv' := by
        intro base n c old ovs s1 hr1 hf1 hst ho hos hol hon hold hg hroom hq
        have hr1' : (n + m) * i.bytes ≤ 140737488355328 ∧ 1 ≤ i.bytes := by
          unfold roomy at hroom
          cases h1 : Nat.ble ((n + m) * i.bytes) 140737488355328 <;> cases h2 : Nat.ble 1 i.bytes <;> simp only [h1, h2] at hroom <;> try (cases hroom; done)
          exact ⟨Nat.le_of_ble_eq_true h1, Nat.le_of_ble_eq_true h2⟩
        have hrun := run_append_grows' (P := P) (w := w) t u ty e j zv hut hj hzv base n c m cx (vs.flatMap vcells) (ovs.flatMap vcells) hsrc hold hg (by rw [hjb]; exact hr1'.1) (by rw [hjb]; exact hr1'.2)
        have hlen : (old ++ es).length = n + m := by rw [List.length_append, hon, hm]
        obtain ⟨v', s', ρ', cv', g1, rfl, g3, g4, g5⟩ := growF_step (rest := (Builtin.zeroCells zv.cells (grownCap w (n + m) c e - (n + m))).toList) hr1 hf1 (VRs.append _ _ _ _ ho hes) (fun a ha => (List.mem_append.1 ha).elim (hos a) (heo a)) (z := i.size) (fun v hv => (List.mem_append.1 hv).elim (hol v) (hel v)) (fun h => by rw [h] at hlen; simp at hlen; omega) hz1 (cap := grownCap w (n + m) c e) (by rw [hlen]; exact grownCap_ge _ _ _ _) (by rw [hlen]; exact hzl _) e hq
        rw [List.flatMap_append] at g3 g4
        rw [hlen] at g5
        exact ⟨v', s', ρ', _, _, g1, hrun, hst.trans g3, g4, g5⟩
      cases v <;> (try simp only at hQ) <;> try exact hQ.elim
      case nils =>
        simp only [VR] at hv; subst hv
        cases hroom : roomy 0 m i.bytes with
        | false => rw [hroom] at hQ; exact hQ.elim
        | true =>
          rw [hroom] at hQ
          exact hgrow none 0 0 [] [] s hr hfr (Stp.refl _ _ _) (by simp [VRs]) (by simp) (by simp) rfl (by simp [Builtin.firstCells]) (by omega) hroom hQ
      case empty =>
        simp only [VR] at hv; obtain ⟨a, rfl⟩ := hv
        cases hroom : roomy 0 m i.bytes with
        | false => rw [hroom] at hQ; exact hQ.elim
        | true =>
          rw [hroom] at hQ
          refine hgrow a 0 0 [] [] s hr hfr (Stp.refl _ _ _) (by simp [VRs]) (by simp) (by simp) rfl ?_ (by omega) hroom hQ
          cases a with
          | none => simp [Builtin.firstCells]
          | some a =>
            have := run_loadCells_list (P := P) w.drew a [] (by simp)
            simp only [Builtin.firstCells, Nat.zero_mul]; exact this
      case own b l =>
        simp only [VR] at hv; obtain ⟨p, c, hp, rfl, h1, h2, h3, h4, h5⟩ := hv
        obtain ⟨y, hy, hQ⟩ := (getM_all _ _ _).1 ((M.all_bind _ _ _ _).1 hQ)
        cases y with
        | tok n z =>
          simp only at hQ
          cases hb1 : Nat.beq n l.length with
          | false => rw [hb1] at hQ; exact hQ.elim
          | true =>
            cases hb2 : Nat.beq z i.size with
            | false => rw [hb1, hb2] at hQ; exact hQ.elim
            | true =>
              cases hroom : roomy l.length m i.bytes with
              | false => rw [hb1, hb2, hroom] at hQ; exact hQ.elim
              | true =>
                rw [hb1, hb2, hroom] at hQ; simp only at hQ
                obtain rfl := Nat.eq_of_beq_eq_true hb1
                obtain rfl := Nat.eq_of_beq_eq_true hb2
                obtain ⟨_, hQ⟩ := (delM_all _ _ _).1 ((M.all_bind _ _ _ _).1 hQ)
                obtain ⟨q, hq', hbo⟩ := hr.blocks _ _ hy
                rw [hp] at hq'; obtain rfl := Option.some.inj hq'
                obtain ⟨hpu, _, ccs, ce, hob, htot⟩ := hbo
                rw [hpu] at h5 h4
                obtain ⟨ovs, g1, g2, g3, g4⟩ := h5.elim
                have hol : ovs.length = l.length := (VRs.length _ _ g1).symm
                by_cases hlt : c < l.length + m
                · refine hgrow _ l.length c l ovs (s.del b) (hr.delT hy) hfr (step_del b) g1 (fun a ha => (g2 a ha).1) g3 rfl ?_ hlt hroom hQ
                  have := run_loadCells_list (P := P) w.drew ⟨p.blk, p.off, none⟩ (ovs.flatMap vcells) (fun k v hv => by
                    obtain ⟨ccs', e', fr', ho', hc'⟩ := hr.frz _ _ _ (g4 k v hv)
                    rw [add_at]
                    show World.cell? w.drew _ = some v
                    have : w.drew.heap = w.heap := rfl
                    simp [World.cell?, this, ho', hc'])
                  rw [flatMap_len g3, hol] at this
                  rw [hjs]; simp only [Builtin.firstCells]; exact this
                ·
                  have hfl : (vs.flatMap vcells).length = m * i.size := by rw [flatMap_len hel, hvl]
                  have hmul : (l.length + m) * i.size ≤ c * i.size := Nat.mul_le_mul_right _ (by omega)
                  rw [Nat.add_mul] at hmul
                  have hfit : p.off + l.length * i.size + (vs.flatMap vcells).length ≤ ccs.size := by rw [hfl, ← htot]; omega
                  have hones : ∀ x ∈ vs.flatMap vcells, x.oneCell' = true := by
                    obtain ⟨f1, f2⟩ := flatA_VR hes heo
                    exact ones_of f1 f2
                  have hst := run_storeCells_at P p.blk (p.off + l.length * i.size) ce (vs.flatMap vcells) 0 ccs w hob (by omega) hones
                  simp only [Nat.add_zero] at hst
                  have hrun := run_append_fits' (P := P) (w := w) t u ty e j hut hj (some ⟨p.blk, p.off, none⟩) l.length c m cx _ hsrc (by omega) (w' := _) (fun a ha => by
                    obtain rfl := Option.some.inj ha
                    rw [add_at, hjs]; exact hst) (fun h => by cases h)
                  obtain ⟨ccs', hccs'⟩ : ∃ ccs' : Array Value, ccs' = (ccs.toList.take (p.off + l.length * i.size) ++ vs.flatMap vcells ++ ccs.toList.drop (p.off + l.length * i.size + (vs.flatMap vcells).length)).toArray := ⟨_, rfl⟩
                  rw [← hccs'] at hrun
                  have e1 : (ccs.toList.take (p.off + l.length * i.size)).length = p.off + l.length * i.size := by simp; omega
                  have hsz' : ccs'.size = ccs.size := by rw [hccs']; simp only [List.size_toArray, List.length_append, e1, List.length_drop, Array.length_toList]; omega
                  have hlow : ∀ k, k < p.off + l.length * i.size → ccs'[k]? = ccs[k]? := by
                    intro k hk
                    rw [hccs', List.getElem?_toArray, List.append_assoc, List.getElem?_append_left (by omega), List.getElem?_take, if_pos hk]
                    simp
                  have hmid : ∀ k x, (vs.flatMap vcells)[k]? = some x → ccs'[p.off + l.length * i.size + k]? = some x := by
                    intro k x hk
                    have := (List.getElem?_eq_some_iff.1 hk).1
                    rw [hccs', List.getElem?_toArray, List.append_assoc, List.getElem?_append_right (by omega), e1, List.getElem?_append_left (by omega), ← hk]
                    congr 1; omega
                  have hob' : (w.setRow p.blk ccs').heap[p.blk]? = some (.cells ccs' ce (0, 0)) := setRow_heap' hob
                  obtain ⟨k1, k2⟩ := step_tok (m := l.length + m) hr hfr hy hp hob hob' hlow hsz' (by omega) (fun c hcn => setRow_other w _ c _ hcn) (by simp) (setRow_same _ _ _)
                  have hnm : (ρ.upd s.name p) s.name = some p := Rho.upd_same ..
                  have hgt : hget ((s.del b).new (.tok (l.length + m) i.size)).H s.name = some (.tok (l.length + m) i.size) := hget_cons_same ..
                  obtain ⟨j1, j2⟩ := step_ice k2 hgt hnm (p.off + l.length * i.size) (p.off + (l.length + m) * i.size) (Nat.le_refl _) hob'
                  have hlen : (l ++ es).length = l.length + m := by rw [List.length_append, hm]
                  have hQ' : Q (.own s.name (l ++ es), (s.del b).new (.tok (l.length + m) i.size)) := by
                    rw [← hlen]; exact hQ
                  refine ⟨_, _, _, _, _, hQ', hrun, k1.trans j1, j2, ?_⟩
                  have hx := k1.ext.trans j1.ext
                  simp only [VR]
                  refine ⟨p, c, hnm, by rw [hlen], by simp [h1], by omega, by omega, by rw [hpu]; exact h4, ?_⟩
                  rw [hpu]
                  refine FR.append (FR.mono hx _ _ _ _ h5) (FR.intro (VRs.mono hx _ _ hes) heo hel fun k x hk => ?_)
                  have hk' := (List.getElem?_eq_some_iff.1 hk).1
                  rw [Rho.ice_in _ (by omega) (by rw [Nat.add_mul]; omega)]
                  exact hmid k x hk
        | _ => exact hQ.elim
set_option maxHeartbeats 2000000 in
theorem append_sim (hC : CfgOk P C) (hr : HR ρ s.H w) (hfr : Fr ρ s) {fz : Bool} {t u ty : TypeId} {v x : AV} {cv cx : Value} (hv : VR ρ v cv) (hx : VR ρ x cx) :
    ValSim P ρ s w (appendA C fz t u v x) (Builtin.append_ #[t, u] ty #[cv, cx]) := by
  intro Q hQ
  unfold appendA at hQ
  cases hdt : C.desc t with
  | none => rw [hdt] at hQ; exact hQ.elim
  | some dt =>
    cases hdu : C.desc u with
    | none => rw [hdt, hdu] at hQ; cases dt <;> exact hQ.elim
    | some d =>
      rw [hdt, hdu] at hQ
      cases dt <;> (try simp only at hQ) <;> try exact hQ.elim
      rename_i e
      cases hi : C.ty.get e with
      | none => rw [hi] at hQ; exact hQ.elim
      | some i =>
          rw [hi] at hQ; simp only at hQ
          cases hz : i.zero with
          | none => rw [hz] at hQ; exact hQ.elim
          | some z =>
            rw [hz] at hQ; simp only at hQ
            cases hzl : Nat.beq z.cells.length i.size with
            | false => rw [hzl] at hQ; exact hQ.elim
            | true =>
              rw [hzl] at hQ; simp only at hQ
              have hut : P.underlying t = some (.slice e) := by obtain ⟨j, hj, hjd⟩ := desc_some hC hdt; rw [(hC.ty t j hj).under, hjd]
              have huu : P.underlying u = some d := by obtain ⟨j, hj, hjd⟩ := desc_some hC hdu; rw [(hC.ty u j hj).under, hjd]
              obtain ⟨j, hj, hjs, hjb, hjz⟩ := (hC.ty e i hi).info
              obtain ⟨zv, hzv, hzc⟩ := hjz z hz
              obtain ⟨hzr, hzo⟩ := ofConst_VR ρ zv z hzc
              obtain ⟨zs, hzcells, hzs, hzsc, _⟩ := cells_VR hzo hzr
              have hzl' : zs.length = i.size := by rw [← VRs.length _ _ hzs]; exact Nat.eq_of_beq_eq_true hzl
              have hgl : ∀ k, (Builtin.zeroCells zv.cells k).toList.length = k * i.size := by
                intro k; rw [Array.length_toList, size_zeroCells, hzcells]; simp [hzl']
              have hfz : (fz = true ∧ openRow v = true → False) ∨ ((srcF i z d x).bind (fun y => appendF i v y.1 y.2) s).All Q := by
                cases fz <;> cases hov : openRow v <;> simp only [hov] at hQ
                · exact .inl fun h => by cases h.1
                · exact .inl fun h => by cases h.1
                · exact .inl fun h => by cases h.2
                · exact .inr hQ
              rcases hfz with hfz | hQF
              rotate_left
              · obtain ⟨m, es, vs, hQ', hsrc, g1, g2, g3, g4⟩ := srcF_sim (P := P) (w := w) hr hx huu hjs hjb hzv hzcells hzs hzsc hzl' ((M.all_bind _ _ _ _).1 hQF)
                exact appendF_sim hr hfr hv hut hj hjs hjb hzv hgl hsrc g1 g2 g3 g4 hQ'
              replace hQ : ((srcA i z d x).bind (fun y => appendTo i v y.1 y.2) s).All Q := by
                cases fz with
                | false => exact hQ
                | true =>
                  cases hov : openRow v with
                  | true => exact (hfz ⟨rfl, hov⟩).elim
                  | false => rw [hov] at hQ; exact hQ
              clear hfz hgl
              obtain ⟨m, new, nvs, hQ', hsrc, hnv, hns, hnl⟩ := src_sim (P := P) (w := w) hr hx huu hjs hjb hzv hzcells hzs hzsc hzl' ((M.all_bind _ _ _ _).1 hQ)
              clear hQ
              have hQ := hQ'
              clear hQ'
              have hgl : ∀ k, (Builtin.zeroCells zv.cells k).toList.length = k * i.size := by
                intro k; rw [Array.length_toList, size_zeroCells, hzcells]; simp [hzl']
              have hgrow : ∀ (base : Option Addr) (n c : Nat) (old : List AV) (ovs : List Value) (s1 : St), HR ρ s1.H w → Fr ρ s1 → Stp ρ s w ρ s1 w → VRs ρ old ovs → (∀ c ∈ old, c.sc = true) → ovs.length = n * i.size →
                  (Builtin.firstCells j.size n (.slice base n c)).run P w.drew = .ok ⟨ovs⟩ w.drew → c < n + m → roomy n m i.bytes = true → (grow old new (n + m) i.size s1).All Q →
                  ∃ v' s' ρ' w' cv', Q (v', s') ∧ (Builtin.append_ #[t, u] ty #[.slice base n c, cx]).run P w = .ok cv' w' ∧ Stp ρ s w ρ' s' w' ∧ HR ρ' s'.H w' ∧ VR ρ' v' cv' := by
                intro base n c old ovs s1 hr1 hf1 hst ho hos hol hold hg hroom hq
                have hr1' : (n + m) * i.bytes ≤ 140737488355328 ∧ 1 ≤ i.bytes := by
                  unfold roomy at hroom
                  cases h1 : Nat.ble ((n + m) * i.bytes) 140737488355328 <;> cases h2 : Nat.ble 1 i.bytes <;> simp only [h1, h2] at hroom <;> try (cases hroom; done)
                  exact ⟨Nat.le_of_ble_eq_true h1, Nat.le_of_ble_eq_true h2⟩
                have hrun := run_append_grows' (P := P) (w := w) t u ty e j zv hut hj hzv base n c m cx nvs ovs hsrc hold hg (by rw [hjb]; exact hr1'.1) (by rw [hjb]; exact hr1'.2)
                obtain ⟨v', s', ρ', cv', g1, rfl, g3, g4, g5⟩ := grow_step hr1 hf1 (VRs.append _ _ _ _ ho hnv) (fun c hc => (List.mem_append.1 hc).elim (hos c) (hns c)) (k := n + m) (cap := grownCap w (n + m) c e) (z := i.size) (grownCap_ge _ _ _ _) (by rw [List.length_append, hol, hnl, Nat.add_mul]) (hgl _) e hq
                exact ⟨v', s', ρ', _, _, g1, hrun, hst.trans g3, g4, g5⟩
              unfold appendTo at hQ
              cases v <;> (try simp only at hQ) <;> try exact hQ.elim
              case nils =>
                simp only [VR] at hv; subst hv
                cases m with
                | zero =>
                  simp only at hQ
                  have hrun := run_append_fits' (P := P) (w := w) t u ty e j hut hj none 0 0 0 cx nvs hsrc (Nat.le_refl _) (w' := w) (fun _ h => by cases h) (fun _ => rfl)
                  exact ⟨_, _, ρ, w, _, hQ, hrun, Stp.refl _ _ _, hr, by simp [VR]⟩
                | succ m =>
                  simp only at hQ
                  cases hroom : roomy 0 (m + 1) i.bytes with
                  | false => rw [hroom] at hQ; exact hQ.elim
                  | true =>
                    rw [hroom] at hQ; simp only at hQ
                    refine hgrow none 0 0 [] [] s hr hfr (Stp.refl _ _ _) (by simp [VRs]) (by simp) (by simp) (by simp [Builtin.firstCells]) (by omega) hroom ?_
                    rw [Nat.zero_add]; exact hQ
              case empty =>
                simp only [VR] at hv; obtain ⟨a, rfl⟩ := hv
                cases m with
                | zero =>
                  simp only at hQ
                  have hnn : nvs = [] := List.eq_nil_of_length_eq_zero (by simpa using hnl)
                  subst hnn
                  have hrun := run_append_fits' (P := P) (w := w) t u ty e j hut hj a 0 0 0 cx [] hsrc (Nat.le_refl _) (w' := w) (fun _ h => by simp [storeCells]) (fun _ => rfl)
                  exact ⟨_, _, ρ, w, _, hQ, hrun, Stp.refl _ _ _, hr, by simp only [VR]; exact ⟨a, rfl⟩⟩
                | succ m =>
                  simp only at hQ
                  cases hroom : roomy 0 (m + 1) i.bytes with
                  | false => rw [hroom] at hQ; exact hQ.elim
                  | true =>
                    rw [hroom] at hQ; simp only at hQ
                    refine hgrow a 0 0 [] [] s hr hfr (Stp.refl _ _ _) (by simp [VRs]) (by simp) (by simp) ?_ (by omega) hroom ?_
                    · cases a with
                      | none => simp [Builtin.firstCells]
                      | some a =>
                        have := run_loadCells_list (P := P) w.drew a [] (by simp)
                        simp only [Builtin.firstCells, Nat.zero_mul]; exact this
                    · rw [Nat.zero_add]; exact hQ
              case slice b o n c ex =>
                simp only [VR] at hv
                obtain ⟨p, o', c', hp, aa, rfl, ha, h1, h2, h3, h4, h5⟩ := hv
                cases m with
                | zero =>
                  simp only at hQ
                  have hnn : nvs = [] := List.eq_nil_of_length_eq_zero (by simpa using hnl)
                  subst hnn
                  have hrun := run_append_fits' (P := P) (w := w) t u ty e j hut hj (some aa) n c' 0 cx [] hsrc (by omega) (w' := w) (fun a _ => by simp [storeCells]) (fun h => by cases h)
                  exact ⟨_, _, ρ, w, _, hQ, hrun, Stp.refl _ _ _, hr, by simp only [VR]; exact ⟨p, o', c', hp, aa, rfl, ha, h1, h2, h3, h4, h5⟩⟩
                | succ m =>
                  simp only at hQ
                  obtain ⟨y, hy, hQ⟩ := (getM_all _ _ _).1 ((M.all_bind _ _ _ _).1 hQ)
                  cases y with
                  | cells cs rw_ uu =>
                    cases hroom : roomy n (m + 1) i.bytes with
                    | false => rw [hroom] at hQ; exact hQ.elim
                    | true =>
                      rw [hroom] at hQ; simp only at hQ
                      have hold : ∀ old, oldA cs o n i.size = some old → ∃ ovs, VRs ρ old ovs ∧ (∀ c ∈ old, c.sc = true) ∧ ovs.length = n * i.size ∧ ∀ w' : World, w'.heap = w.heap → (Builtin.firstCells j.size n (.slice (some aa) n c')).run P w' = .ok ⟨ovs⟩ w' := by
                        intro old ho
                        unfold oldA at ho
                        cases n with
                        | zero =>
                          simp only [Option.some.injEq] at ho; subst ho
                          exact ⟨[], by simp [VRs], by simp, by simp, fun w' _ => by
                            have := run_loadCells_list (P := P) w' aa [] (by simp)
                            simp only [Builtin.firstCells, Nat.zero_mul]; exact this⟩
                        | succ n =>
                          simp only at ho
                          rw [ha (by omega)]
                          obtain ⟨vs, g1, g2, g3, g4⟩ := run_row (P := P) hr hy ho hp
                          exact ⟨vs, g1, g3, g2, fun w' hw => by simp only [Builtin.firstCells, h1 (by omega), hjs]; exact g4 w' hw⟩
                      cases ho : oldA cs o n i.size with
                      | none => rw [ho] at hQ; exact hQ.elim
                      | some old =>
                        rw [ho] at hQ; simp only at hQ
                        obtain ⟨ovs, o1, o2, o3, o4⟩ := hold old ho
                        cases ex with
                        | true =>
                          simp only at hQ
                          have hc' : c' = c := h2 rfl
                          subst hc'
                          cases hle : Nat.ble (n + (m + 1)) c' with
                          | false =>
                            rw [hle] at hQ; simp only at hQ
                            have hlt : c' < n + (m + 1) := by
                              rcases Nat.lt_or_ge c' (n + (m + 1)) with h | h
                              · exact h
                              · rw [Nat.ble_eq_true_of_le h] at hle; cases hle
                            exact hgrow _ n c' old ovs s hr hfr (Stp.refl _ _ _) o1 o2 o3 (o4 w.drew rfl) hlt hroom hQ
                          | true =>
                            have hle' := Nat.le_of_ble_eq_true hle
                            obtain rfl := ha (by omega)
                            rw [hle] at hQ; simp only at hQ
                            cases rw_ with
                            | false => exact hQ.elim
                            | true =>
                              cases hw : writeN cs (o + n * i.size) new with
                              | none => rw [hw] at hQ; exact hQ.elim
                              | some cs' =>
                                rw [hw] at hQ; simp only at hQ
                                obtain ⟨_, hq⟩ := (putM_all _ _ _ _).1 ((M.all_bind _ _ _ _).1 hQ)
                                obtain ⟨w', g1, g2, g3⟩ := store_cells (P := P) hr hy hp hw hnv hns (ones_of hnv hns)
                                have hoo : o' = p.off + o := h1 (by omega)
                                have hrun := run_append_fits' (P := P) (w := w) t u ty e j hut hj (some ⟨p.blk, o', none⟩) n c' (m + 1) cx nvs hsrc hle' (w' := w') (fun a ha => by
                                  obtain rfl := Option.some.inj ha
                                  rw [add_at, hoo, hjs, Nat.add_assoc]; exact g1) (fun h => by cases h)
                                exact ⟨_, _, ρ, w', _, hq, hrun, g2, g3, by simp only [VR]; exact ⟨p, o', c', hp, _, rfl, fun _ => rfl, h1, fun _ => rfl, hle', Nat.le_refl _, h5⟩⟩
                        | false =>
                          simp only at hQ
                          cases rw_ with
                          | false => exact hQ.elim
                          | true =>
                            cases hu1 : Nat.beq uu i.size with
                            | false => rw [hu1] at hQ; exact hQ.elim
                            | true =>
                              cases hu2 : Nat.ble 1 uu with
                              | false => rw [hu1, hu2] at hQ; exact hQ.elim
                              | true =>
                                rw [hu1, hu2] at hQ; simp only at hQ
                                obtain ⟨_, hq⟩ := (delM_all _ _ _).1 ((M.all_bind _ _ _ _).1 hQ)
                                have hus : uu = i.size := Nat.eq_of_beq_eq_true hu1
                                have hu0 : 1 ≤ uu := Nat.le_of_ble_eq_true hu2
                                subst hus
                                by_cases hlt : c' < n + (m + 1)
                                · have hfr' : Fr ρ (s.del b) := hfr
                                  exact hgrow _ n c' old ovs (s.del b) (hr.del hy) hfr' (step_del b) o1 o2 o3 (o4 w.drew rfl) hlt hroom hq
                                ·
                                  obtain rfl := ha (by omega)
                                  obtain ⟨q, hq', hbo⟩ := hr.blocks _ _ hy
                                  rw [hp] at hq'; obtain rfl := Option.some.inj hq'
                                  obtain ⟨hpu, ccs, ce, fr, hob, htot, hfz, hcc⟩ := hbo
                                  obtain rfl := hfz rfl
                                  have h6 := h5 (by omega)
                                  have hmul : (n + (m + 1)) * p.unit ≤ c' * p.unit := Nat.mul_le_mul_right _ (by omega)
                                  have hfit : o' + n * i.size + nvs.length ≤ ccs.size := by
                                    rw [hnl, ← htot]
                                    rw [hpu, Nat.add_mul] at hmul
                                    rw [hpu] at h6
                                    omega
                                  have hst := run_storeCells_at P p.blk (o' + n * i.size) ce nvs 0 ccs w hob (by omega) (ones_of hnv hns)
                                  simp only [Nat.add_zero] at hst
                                  have hrun := run_append_fits' (P := P) (w := w) t u ty e j hut hj (some ⟨p.blk, o', none⟩) n c' (m + 1) cx nvs hsrc (by omega) (w' := _) (fun a ha => by
                                    obtain rfl := Option.some.inj ha
                                    rw [add_at, hjs]; exact hst) (fun h => by cases h)
                                  have hst2 := step_grow (w' := w.setRow p.blk (ccs.toList.take (o' + n * i.size) ++ nvs ++ ccs.toList.drop (o' + n * i.size + nvs.length)).toArray) hr hfr (q := ⟨p.blk, o', p.total, p.unit⟩) (cs' := old ++ new) (u' := i.size) hy hp rfl (setRow_heap' hob) (fun c hcn => setRow_other w _ c _ hcn) (by simp) (setRow_same _ _ _) (by
                                    have hcr : CellsR ρ (old ++ new) o' (ccs.toList.take (o' + n * i.size) ++ nvs ++ ccs.toList.drop (o' + n * i.size + nvs.length)).toArray := by
                                      unfold oldA at ho
                                      cases n with
                                      | zero =>
                                        simp only [Option.some.injEq] at ho; subst ho
                                        exact grow_cells (old := []) (ovs := []) (by simp [VRs]) (by simp) (by simp) (by simp) hnv hns hfit
                                      | succ n =>
                                        simp only at ho
                                        obtain ⟨us, f1, f2, f3, f4⟩ := readN_cells hcc ho
                                        have hoo := h1 (by omega)
                                        exact grow_cells f1 f4 f2 (fun j v hj => by rw [hoo]; exact f3 j v hj) hnv hns hfit
                                    have hext := Rho.upd_ext (ρ := ρ) ⟨p.blk, o', p.total, p.unit⟩ (name_free hfr)
                                    refine ⟨hpu, _, ce, (0, 0), rfl, ?_, fun _ => rfl, ?_⟩
                                    rotate_left
                                    · exact hcr.mono hext
                                    · simp [htot]; omega)
                                  refine ⟨_, _, _, _, _, hq, hrun, hst2.1, ?_, ?_⟩
                                  · exact hst2.2
                                  · simp only [VR]
                                    refine ⟨_, o', c', Rho.upd_same .., _, rfl, fun _ => rfl, fun _ => by simp, fun h => (by cases h), Nat.le_refl _, by omega, fun _ => h6⟩
                  | _ => exact hQ.elim
end
end Go.Am
namespace Go.Am
open Go
open Go.ChangeMaps (setBlock)
open Go.MapKept
section
variable {P : Program} {C : Cfg} {ρ : Rho} {s : St} {w : World}
theorem keyKind_IsKey {d : TypeDesc} {k : AV} {ck : Value} (h : keyKind d k = true) (hk : VR ρ k ck) : IsKey d ck := by
  cases d <;> cases k <;> simp only [keyKind] at h <;> (try (cases h; done)) <;> (simp only [VR] at hk; subst hk; first | trivial | simpa [IsKey] using h)
theorem eqSame_spec {a b : AV} {ca cb : Value} {r : Bool} (h : eqSame a b = some r) (ha : VR ρ a ca) (hb : VR ρ b cb) {d : TypeDesc} (hd : keyKind d a = true) : Instr.sameNow d ca cb = some r ∧ (r = true → cb = ca) := by
  cases a <;> cases b <;> simp only [eqSame] at h <;> try (cases h; done)
  case int.int k n k' n' =>
    simp only [VR] at ha hb; subst ha; subst hb
    cases hk : decide (k = k') with
    | false => rw [hk] at h; cases h
    | true =>
      rw [hk] at h; simp only [Option.some.injEq] at h; subst h
      simp only [decide_eq_true_eq] at hk; subst hk
      cases d <;> simp only [keyKind] at hd <;> try (cases hd; done)
      exact ⟨by simp only [Instr.sameNow, if_true]; rfl, fun h => by simp at h; rw [h]⟩
  case bool.bool x y =>
    simp only [VR] at ha hb; subst ha; subst hb
    cases d <;> simp only [keyKind] at hd <;> try (cases hd; done)
    simp only [Option.some.injEq] at h; subst h
    cases x <;> cases y <;> simp [Instr.sameNow]
  case str.str x y =>
    simp only [VR] at ha hb; subst ha; subst hb
    cases d <;> simp only [keyKind] at hd <;> try (cases hd; done)
    simp only [Option.some.injEq] at h; subst h
    exact ⟨by simp [Instr.sameNow], fun h => by rw [(bytes_beq x y).1 h]⟩
theorem find_sim {k : AV} {ck : Value} (hk : VR ρ k ck) {d : TypeDesc} (hd : keyKind d k = true) : ∀ (es : List (AV × AV)) (l : List MapEntry), EntsR ρ es l → ∀ (i : Nat) (r : Option (Nat × AV)), findA k es i = some r →
    (r = none → Instr.findNow d ck l i = some none) ∧ ∀ j v, r = some (j, v) → ∃ x, i ≤ j ∧ Instr.findNow d ck l i = some (some (j, x.val)) ∧ l[j - i]? = some x ∧ x.key = ck ∧ VR ρ v x.val
  | [], l, he, i, r, h => by
    simp only [EntsR] at he; subst he
    simp only [findA, Option.some.injEq] at h; subst h
    exact ⟨fun _ => rfl, fun j v h => by cases h⟩
  | e :: es, l, he, i, r, h => by
    simp only [EntsR] at he
    obtain ⟨x, t, rfl, h1, h2, h3⟩ := he
    unfold findA at h
    cases hs : eqSame k e.1 with
    | none => rw [hs] at h; cases h
    | some b =>
      obtain ⟨g1, g2⟩ := eqSame_spec hs hk h1 hd
      rw [hs] at h
      cases b with
      | true =>
        simp only [Option.some.injEq] at h; subst h
        refine ⟨fun h => by (cases h), fun j v h => ?_⟩
        simp only [Option.some.injEq, Prod.mk.injEq] at h
        obtain ⟨rfl, rfl⟩ := h
        exact ⟨x, Nat.le_refl _, by simp [Instr.findNow, g1], by simp, g2 rfl, h2⟩
      | false =>
        simp only at h
        obtain ⟨k1, k2⟩ := find_sim hk hd es t h3 (i + 1) r h
        refine ⟨fun h => by simp [Instr.findNow, g1, k1 h], fun j v h => ?_⟩
        obtain ⟨y, y1, y2, y3, y4, y5⟩ := k2 j v h
        refine ⟨y, by omega, by simp [Instr.findNow, g1, y2], ?_, y4, y5⟩
        rw [show j - i = (j - (i + 1)) + 1 by omega, List.getElem?_cons_succ]; exact y3
theorem EntsR.length {ρ : Rho} : ∀ {es : List (AV × AV)} {l : List MapEntry}, EntsR ρ es l → es.length = l.length
  | [], l, h => by simp only [EntsR] at h; subst h; rfl
  | e :: r, l, h => by simp only [EntsR] at h; obtain ⟨x, t, rfl, _, _, h3⟩ := h; simp [EntsR.length h3]
theorem EntsR.nth {ρ : Rho} : ∀ {es : List (AV × AV)} {l : List MapEntry}, EntsR ρ es l → ∀ (i : Nat) x, l[i]? = some x → ∃ e, Am.nth es i = some e ∧ VR ρ e.1 x.key ∧ VR ρ e.2 x.val
  | [], l, h, i, x, hx => by simp only [EntsR] at h; subst h; simp at hx
  | e :: r, l, h, i, x, hx => by
    simp only [EntsR] at h; obtain ⟨y, t, rfl, h1, h2, h3⟩ := h
    cases i with
    | zero => simp at hx; subst hx; exact ⟨e, by simp, h1, h2⟩
    | succ i => simp only [List.getElem?_cons_succ] at hx; rw [nth_succ]; exact EntsR.nth h3 i x hx
theorem EntsR.append {ρ : Rho} : ∀ {es es' : List (AV × AV)} {l l' : List MapEntry}, EntsR ρ es l → EntsR ρ es' l' → EntsR ρ (es ++ es') (l ++ l')
  | [], es', l, l', h, h' => by simp only [EntsR] at h; subst h; exact h'
  | e :: r, es', l, l', h, h' => by
    simp only [EntsR] at h; obtain ⟨y, t, rfl, h1, h2, h3⟩ := h
    simp only [List.cons_append, EntsR]; exact ⟨y, _, rfl, h1, h2, EntsR.append h3 h'⟩
theorem EntsR.set {ρ : Rho} : ∀ {es : List (AV × AV)} {l : List MapEntry}, EntsR ρ es l → ∀ (i : Nat) (e : AV × AV) (x : MapEntry), VR ρ e.1 x.key → VR ρ e.2 x.val → EntsR ρ (setNth es i e) (l.set i x)
  | [], l, h, i, e, x, _, _ => by simp only [EntsR] at h; subst h; simp [EntsR]
  | a :: r, l, h, i, e, x, he1, he2 => by
    simp only [EntsR] at h; obtain ⟨y, t, rfl, h1, h2, h3⟩ := h
    cases i with
    | zero => simp only [setNth_zero, List.set_cons_zero, EntsR]; exact ⟨x, t, rfl, he1, he2, h3⟩
    | succ i => simp only [setNth_succ, List.set_cons_succ, EntsR]; exact ⟨y, _, rfl, h1, h2, EntsR.set h3 i e x he1 he2⟩
theorem EntsR.dropAt {ρ : Rho} : ∀ {es : List (AV × AV)} {l : List MapEntry}, EntsR ρ es l → ∀ i : Nat, EntsR ρ (Am.dropAt es i) (l.eraseIdx i)
  | [], l, h, i => by simp only [EntsR] at h; subst h; simp [Am.dropAt, EntsR]
  | a :: r, l, h, i => by
    simp only [EntsR] at h; obtain ⟨y, t, rfl, h1, h2, h3⟩ := h
    cases i with
    | zero => simpa [Am.dropAt] using h3
    | succ i => simp only [Am.dropAt, List.eraseIdx_cons_succ, EntsR]; exact ⟨y, _, rfl, h1, h2, EntsR.dropAt h3 i⟩
theorem undc (hC : CfgOk P C) {t : TypeId} {d : TypeDesc} (h : C.desc t = some d) : P.underlying t = some d := by
  obtain ⟨i, hi, hid⟩ := desc_some hC h
  rw [(hC.ty t i hi).under, hid]
theorem run_lookup' {t kt et : TypeId} {kd : TypeDesc} {cx ck : Value} {l : Array MapEntry} (hu : P.underlying t = some (.map kt et)) (hkd : P.underlying kt = some kd) (hik : IsKey kd ck)
    (hl : (cx = .map none ∧ l = #[]) ∨ ∃ r clock, cx = .map (some r) ∧ w.heap[r]? = some (.map l clock)) {a : Option (Nat × Value)} (ha : Instr.findNow kd ck l.toList 0 = some a)
    {v : Value} {b : Bool} (hz : (a = none ∧ (zeroValue et).run P w = .ok v w ∧ b = false) ∨ (∃ j, a = some (j, v)) ∧ b = true) (ok : Bool) :
    (Instr.lookup t cx ck ok).run P w = .ok (if ok then .tuple #[v, .bool b] else v) w := by
  have hck := MapKept.run_checkKey (w := w) hkd hik l.isEmpty 9999
  have hfk := MapKept.run_findKey (w := w) hkd ha
  rcases hl with ⟨rfl, rfl⟩ | ⟨r, clock, rfl, ho⟩
  · rcases hz with ⟨rfl, hz, rfl⟩ | ⟨⟨j, rfl⟩, rfl⟩
    · simp [Instr.lookup, Go.run_underlying hu, hz] at hck hfk ⊢
      simp [hck, hfk, hz]
    · simp [Instr.lookup, Go.run_underlying hu] at hck hfk ⊢
      simp [hck, hfk]
  · have hg := MapKept.run_getObj_map (P := P) ho
    rcases hz with ⟨rfl, hz, rfl⟩ | ⟨⟨j, rfl⟩, rfl⟩
    · simp only [Instr.lookup, Sem.run_bind, Go.run_underlying hu, Result.andThen_ok, hg, Sem.run_pure, hck, hfk, hz]
    · simp only [Instr.lookup, Sem.run_bind, Go.run_underlying hu, Result.andThen_ok, hg, Sem.run_pure, hck, hfk]
theorem lookup_sim (hC : CfgOk P C) (hr : HR ρ s.H w) {t : TypeId} {x k : AV} {cx ck : Value} (hx : VR ρ x cx) (hk : VR ρ k ck) (ok : Bool) : ValSim P ρ s w (lookupA C t x k ok) (Instr.lookup t cx ck ok) := by
  intro Q hQ
  unfold lookupA at hQ
  cases hd : C.desc t with
  | none => rw [hd] at hQ; exact hQ.elim
  | some d =>
    rw [hd] at hQ
    cases d <;> (try simp only at hQ) <;> try exact hQ.elim
    rename_i kt et
    have hes : ∃ es l, ((cx = .map none ∧ l = #[]) ∨ ∃ r clock, cx = .map (some r) ∧ w.heap[r]? = some (.map l clock)) ∧ EntsR ρ es l.toList ∧
        ((match C.desc kt, C.ty.get et with
      | some kd, some i => (match keyKind kd k, findA k es 0 with
        | true, some (some (_, v)) => M.ret (okd ok v true)
        | true, some none => (match i.zero with | some z => M.ret (okd ok z false) | none => M.fail)
        | _, _ => M.fail)
      | _, _ => M.fail : M AV) s).All Q := by
      have hQ' := (M.all_bind _ _ _ _).1 hQ
      clear hQ
      unfold entriesA at hQ'
      cases x <;> (try simp only at hQ') <;> try exact hQ'.elim
      · simp only [VR] at hx; subst hx
        exact ⟨[], #[], .inl ⟨rfl, rfl⟩, by simp [EntsR], hQ'⟩
      · rename_i b
        simp only [VR] at hx
        obtain ⟨p, hp, rfl⟩ := hx
        obtain ⟨y, hy, hq⟩ := (getM_all _ _ _).1 ((M.all_bind _ _ _ _).1 hQ')
        obtain ⟨q, hq', hbo⟩ := hr.blocks _ _ hy
        rw [hp] at hq'; obtain rfl := Option.some.inj hq'
        cases y with
        | map es fz =>
          obtain ⟨ents, clock, ho, he, _⟩ := hbo
          exact ⟨es, ents, .inr ⟨_, clock, rfl, ho⟩, he, hq⟩
        | _ => exact hq.elim
    obtain ⟨es, l, hl, he, hQ'⟩ := hes
    cases hkd : C.desc kt with
    | none => rw [hkd] at hQ'; exact hQ'.elim
    | some kd =>
      cases hie : C.ty.get et with
      | none => rw [hkd, hie] at hQ'; exact hQ'.elim
      | some i =>
        rw [hkd, hie] at hQ'; simp only at hQ'
        cases hkk : keyKind kd k with
        | false => rw [hkk] at hQ'; exact hQ'.elim
        | true =>
          cases hf : findA k es 0 with
          | none => rw [hkk, hf] at hQ'; exact hQ'.elim
          | some r =>
            rw [hkk, hf] at hQ'
            obtain ⟨f1, f2⟩ := find_sim hk hkk es l.toList he 0 r hf
            have hik := keyKind_IsKey hkk hk
            cases r with
            | none =>
              cases hz : i.zero with
              | none => simp only [hz] at hQ'; exact hQ'.elim
              | some z =>
                simp only [hz] at hQ'
                obtain ⟨zv, hzv, hzc⟩ := run_zeroValue hC hie hz w
                obtain ⟨hzr, hzo⟩ := ofConst_VR ρ zv z hzc
                refine ⟨_, s, ρ, w, _, hQ', run_lookup' (undc hC hd) (undc hC hkd) hik hl (f1 rfl) (.inl ⟨rfl, hzv, rfl⟩) ok, Stp.refl _ _ _, hr, ?_⟩
                cases ok
                · simpa [okd] using hzr
                · simp only [okd, if_true, VR]; exact ⟨[zv, .bool false], rfl, by simp only [VRs]; exact ⟨_, _, rfl, hzr, _, _, rfl, by simp [VR], rfl⟩⟩
            | some jv =>
              obtain ⟨j, v⟩ := jv
              simp only at hQ'
              obtain ⟨y, y1, y2, y3, y4, y5⟩ := f2 j v rfl
              refine ⟨_, s, ρ, w, _, hQ', run_lookup' (undc hC hd) (undc hC hkd) hik hl y2 (.inr ⟨⟨j, rfl⟩, rfl⟩) ok, Stp.refl _ _ _, hr, ?_⟩
              cases ok
              · simpa [okd] using y5
              · simp only [okd, if_true, VR]; exact ⟨[y.val, .bool true], rfl, by simp only [VRs]; exact ⟨_, _, rfl, y5, _, _, rfl, by simp [VR], rfl⟩⟩
theorem Borns.push {clock : Nat} {l : List MapEntry} {x : MapEntry} (h : Borns clock l) (hx : x.born = clock) : Borns (clock + 1) (l ++ [x]) := by
  obtain ⟨h1, h2⟩ := h
  refine ⟨?_, ?_⟩
  · simp only [List.map_append, List.map_cons, List.map_nil, List.pairwise_append]
    refine ⟨h1, by simp, ?_⟩
    intro a ha b hb
    obtain ⟨y, hy, rfl⟩ := List.mem_map.1 ha
    simp at hb; subst hb
    rw [hx]; exact h2 y hy
  · intro y hy
    rcases List.mem_append.1 hy with hy | hy
    · exact Nat.lt_succ_of_lt (h2 y hy)
    · simp at hy; subst hy; omega
theorem Borns.set {clock : Nat} {l : List MapEntry} {i : Nat} {x y : MapEntry} (h : Borns clock l) (hx : l[i]? = some x) (hy : y.born = x.born) : Borns clock (l.set i y) := by
  obtain ⟨h1, h2⟩ := h
  have hm : (l.set i y).map (·.born) = l.map (·.born) := by
    apply List.ext_getElem?
    intro j
    rw [List.getElem?_map, List.getElem?_map, List.getElem?_set]
    by_cases e : i = j
    · subst e; obtain ⟨hlt, hxx⟩ := List.getElem?_eq_some_iff.1 hx; simp [hlt, hy, hxx]
    · simp [e]
  refine ⟨by rw [hm]; exact h1, ?_⟩
  intro z hz
  rcases List.mem_or_eq_of_mem_set hz with h | rfl
  · exact h2 z h
  · rw [hy]; exact h2 x (List.mem_of_getElem? hx)
theorem update_sim (hC : CfgOk P C) (hr : HR ρ s.H w) {t : TypeId} {x k v : AV} {cx ck cv : Value} (hx : VR ρ x cx) (hk : VR ρ k ck) (hv : VR ρ v cv) : UnitSim P ρ s w (done (updateA C t x k v)) (Instr.mapUpdate t cx ck cv) := by
  intro Q hQ
  unfold done updateA at hQ
  have hQ2 := (M.all_bind _ _ _ _).1 hQ
  clear hQ
  have hQ := hQ2
  clear hQ2
  cases hd : C.desc t with
  | none => rw [hd] at hQ; exact hQ.elim
  | some d =>
    rw [hd] at hQ
    cases d <;> (try simp only at hQ) <;> try exact hQ.elim
    rename_i kt et
    cases x <;> (try simp only at hQ) <;> try exact hQ.elim
    rename_i b
    simp only [VR] at hx
    obtain ⟨p, hp, rfl⟩ := hx
    obtain ⟨y, hy, hq⟩ := (getM_all _ _ _).1 ((M.all_bind _ _ _ _).1 hQ)
    clear hQ
    obtain ⟨q, hq', hbo⟩ := hr.blocks _ _ hy
    rw [hp] at hq'; obtain rfl := Option.some.inj hq'
    cases y with
    | map es fz =>
      obtain ⟨ents, clock, ho, he, hb⟩ := hbo
      cases fz with
      | true => exact hq.elim
      | false =>
        cases hkd : C.desc kt with
        | none => rw [hkd] at hq; exact hq.elim
        | some kd =>
          rw [hkd] at hq; simp only at hq
          cases hkk : keyKind kd k with
          | false => rw [hkk] at hq; exact hq.elim
          | true =>
            cases hok : v.okc with
            | false => rw [hkk, hok] at hq; exact hq.elim
            | true =>
              cases hf : findA k es 0 with
              | none => rw [hkk, hok, hf] at hq; exact hq.elim
              | some r =>
                rw [hkk, hok, hf] at hq
                obtain ⟨f1, f2⟩ := find_sim hk hkk es ents.toList he 0 r hf
                have hik := keyKind_IsKey hkk hk
                have hck := MapKept.run_checkKey (P := P) (w := w) (undc hC hkd) hik false 9999
                have hput : ∀ (es' : List (AV × AV)) (ents' : Array MapEntry) (clock' : Nat), EntsR ρ es' ents'.toList → Borns clock' ents'.toList →
                    Stp ρ s w ρ (s.put b (.map es' false)) (setBlock w p.blk (.map ents' clock')) ∧ HR ρ (s.put b (.map es' false)).H (setBlock w p.blk (.map ents' clock')) := by
                  intro es' ents' clock' h1 h2
                  have hh := MapKept.heap_set (o' := Obj.map ents' clock') ho
                  exact step_put hr hy rfl rfl hp hh.1 hh.2 (by simp [setBlock]) ⟨rfl, rfl, rfl⟩ ⟨ents', clock', rfl, h1, h2⟩ (fun m l e h => by cases h) (fun es h => by cases h)
                cases r with
                | none =>
                  simp only at hq
                  obtain ⟨_, hq⟩ := (putM_all _ _ _ _).1 hq
                  have hfk := MapKept.run_findKey (P := P) (w := w) (undc hC hkd) (f1 rfl)
                  obtain ⟨k1, k2⟩ := hput (es ++ [(k, v)]) (ents.push { key := ck, val := cv, born := clock }) (clock + 1) (by
                    rw [Array.toList_push]; exact EntsR.append he (by simp only [EntsR]; exact ⟨_, _, rfl, hk, hv, rfl⟩)) (by rw [Array.toList_push]; exact hb.push rfl)
                  refine ⟨_, _, ρ, _, (), hq, ?_, k1, k2, rfl⟩
                  simp [Instr.mapUpdate, Go.run_underlying (undc hC hd), MapKept.run_getObj_map ho, hck, hfk, MapKept.run_setObj_map _ ho, setBlock]
                | some jv =>
                  obtain ⟨j, v0⟩ := jv
                  simp only at hq
                  obtain ⟨_, hq⟩ := (putM_all _ _ _ _).1 hq
                  obtain ⟨y, y1, y2, y3, y4, y5⟩ := f2 j v0 rfl
                  have hfk := MapKept.run_findKey (P := P) (w := w) (undc hC hkd) y2
                  rw [Nat.sub_zero] at y3
                  obtain ⟨k1, k2⟩ := hput (setNth es j (k, v)) (ents.modify j fun e => { e with key := ck, val := cv }) clock (by
                    have : (ents.modify j fun e => { e with key := ck, val := cv }).toList = ents.toList.set j { y with key := ck, val := cv } := by
                      apply List.ext_getElem?
                      intro i
                      rw [Array.toList_modify, List.getElem?_modify, List.getElem?_set]
                      by_cases e : j = i
                      · subst e
                        have hlt := (List.getElem?_eq_some_iff.1 y3).1
                        simp [y3]
                        simpa using hlt
                      · simp [e]
                    rw [this]
                    exact EntsR.set he j (k, v) _ hk hv) (by
                    have : (ents.modify j fun e => { e with key := ck, val := cv }).toList = ents.toList.set j { y with key := ck, val := cv } := by
                      apply List.ext_getElem?
                      intro i
                      rw [Array.toList_modify, List.getElem?_modify, List.getElem?_set]
                      by_cases e : j = i
                      · subst e
                        have hlt := (List.getElem?_eq_some_iff.1 y3).1
                        simp [y3]
                        simpa using hlt
                      · simp [e]
                    rw [this]
                    exact hb.set y3 rfl)
                  refine ⟨_, _, ρ, _, (), hq, ?_, k1, k2, rfl⟩
                  have hkey : ((ents[j]?).map (·.key)).getD ck = ck := by
                    have : ents[j]? = some y := by simpa using y3
                    rw [this]; exact y4
                  simp [Instr.mapUpdate, Go.run_underlying (undc hC hd), MapKept.run_getObj_map ho, hck, hfk, hkey, MapKept.run_keyThatStays hik, MapKept.run_setObj_map _ ho, setBlock]
    | _ => exact hq.elim
end
end Go.Am
namespace Go.Am
open Go
open Go.ChangeMaps (setBlock)
open Go.MapKept
section
variable {P : Program} {C : Cfg} {ρ : Rho} {s : St} {w : World}
theorem len_sim (hC : CfgOk P C) (hr : HR ρ s.H w) {t ty : TypeId} {ts : List TypeId} {d : TypeDesc} (hd : C.desc t = some d) {x : AV} {cx : Value} (hx : VR ρ x cx) (hl : hasLen d x = true) : ValSim P ρ s w (lenA x) (Builtin.len_ ⟨t :: ts⟩ ty #[cx]) := by
  have hu := Go.run_underlying (w := w) (undc hC hd)
  intro Q hQ
  unfold lenA at hQ
  cases d <;> cases x <;> simp only [hasLen] at hl <;> (try (cases hl; done)) <;> simp only at hQ
  case string.str t' =>
    simp only [VR] at hx; subst hx
    exact ⟨_, s, ρ, w, .int .i64 t'.size, hQ, by simp [Builtin.len_, hu, goInt], Stp.refl _ _ _, hr, by simp [VR]⟩
  case slice.nils =>
    simp only [VR] at hx; subst hx
    exact ⟨_, s, ρ, w, .int .i64 0, hQ, by simp [Builtin.len_, hu, goInt], Stp.refl _ _ _, hr, by simp [VR]⟩
  case slice.slice b o n c ex =>
    simp only [VR] at hx
    obtain ⟨p, o', c', hp, a, rfl, _⟩ := hx
    exact ⟨_, s, ρ, w, .int .i64 n, hQ, by simp [Builtin.len_, hu, goInt], Stp.refl _ _ _, hr, by simp [VR]⟩
  case slice.empty =>
    simp only [VR] at hx; obtain ⟨a, rfl⟩ := hx
    exact ⟨_, s, ρ, w, .int .i64 0, hQ, by simp [Builtin.len_, hu, goInt], Stp.refl _ _ _, hr, by simp [VR]⟩
  case slice.lst l =>
    simp only [VR] at hx
    obtain ⟨a, c, rfl, _⟩ := hx
    exact ⟨_, s, ρ, w, .int .i64 l.length, hQ, by simp [Builtin.len_, hu, goInt], Stp.refl _ _ _, hr, by simp [VR]⟩
  case slice.own b l =>
    simp only [VR] at hx
    obtain ⟨p, c, _, rfl, _⟩ := hx
    exact ⟨_, s, ρ, w, .int .i64 l.length, hQ, by simp [Builtin.len_, hu, goInt], Stp.refl _ _ _, hr, by simp [VR]⟩
  case map.nilm =>
    simp only [VR] at hx; subst hx
    exact ⟨_, s, ρ, w, .int .i64 0, hQ, by simp [Builtin.len_, hu, goInt], Stp.refl _ _ _, hr, by simp [VR]⟩
  case map.map b =>
    simp only [VR] at hx
    obtain ⟨p, hp, rfl⟩ := hx
    obtain ⟨y, hy, hq⟩ := (getM_all _ _ _).1 ((M.all_bind _ _ _ _).1 hQ)
    obtain ⟨q, hq', hbo⟩ := hr.blocks _ _ hy
    rw [hp] at hq'; obtain rfl := Option.some.inj hq'
    cases y with
    | map es fz =>
      obtain ⟨ents, clock, ho, he, _⟩ := hbo
      have hn : es.length = ents.size := by rw [he.length]; simp
      exact ⟨_, s, ρ, w, .int .i64 ents.size, hq, by simp [Builtin.len_, hu, MapKept.run_getObj_map ho, goInt], Stp.refl _ _ _, hr, by simp [VR, hn]⟩
    | _ => exact hq.elim
theorem max_sim {k : IntKind} : ∀ (r : List AV) (cr : List Value) (a : Int), VRs ρ r cr → ∀ v, minmax true (.int k a) r = some v → ∃ cv, (cr.foldlM Builtin.max2 (.int k a)).run P w = .ok cv w ∧ VR ρ v cv
  | [], cr, a, h, v, hv => by simp [VRs] at h; subst h; simp [minmax] at hv; subst hv; exact ⟨.int k a, by simp, by simp [VR]⟩
  | y :: r, cr, a, h, v, hv => by
    simp only [VRs] at h
    obtain ⟨cy, t, rfl, h1, h2⟩ := h
    unfold minmax at hv
    cases y <;> (try simp only at hv) <;> try (cases hv; done)
    rename_i k' b
    simp only [VR] at h1; subst h1
    cases hk : decide (k = k') with
    | false => rw [hk] at hv; cases hv
    | true =>
      rw [hk] at hv; simp only at hv
      have : (Builtin.max2 (.int k a) (.int k' b)).run P w = .ok (.int k (match decide (a < b) with | true => b | false => a)) w := by
        simp only [Builtin.max2, Sem.run_pure]
        congr 2
        by_cases hlt : a < b <;> simp [hlt]
      obtain ⟨cv, g1, g2⟩ := max_sim (k := k) r t _ h2 v hv
      exact ⟨cv, by simp only [List.foldlM_cons, Sem.run_bind, this, Result.andThen_ok]; exact g1, g2⟩
theorem min_sim {k : IntKind} : ∀ (r : List AV) (cr : List Value) (a : Int), VRs ρ r cr → ∀ v, minmax false (.int k a) r = some v → ∃ cv, (cr.foldlM Builtin.min2 (.int k a)).run P w = .ok cv w ∧ VR ρ v cv
  | [], cr, a, h, v, hv => by simp [VRs] at h; subst h; simp [minmax] at hv; subst hv; exact ⟨.int k a, by simp, by simp [VR]⟩
  | y :: r, cr, a, h, v, hv => by
    simp only [VRs] at h
    obtain ⟨cy, t, rfl, h1, h2⟩ := h
    unfold minmax at hv
    cases y <;> (try simp only at hv) <;> try (cases hv; done)
    rename_i k' b
    simp only [VR] at h1; subst h1
    cases hk : decide (k = k') with
    | false => rw [hk] at hv; cases hv
    | true =>
      rw [hk] at hv; simp only at hv
      have : (Builtin.min2 (.int k a) (.int k' b)).run P w = .ok (.int k (match decide (b < a) with | true => b | false => a)) w := by
        simp only [Builtin.min2, Sem.run_pure]
        congr 2
        by_cases hlt : b < a <;> simp [hlt]
      obtain ⟨cv, g1, g2⟩ := min_sim (k := k) r t _ h2 v hv
      exact ⟨cv, by simp only [List.foldlM_cons, Sem.run_bind, this, Result.andThen_ok]; exact g1, g2⟩
theorem newObj_sim (hr : HR ρ s.H w) (hf : Fr ρ s) (x : Blk) (o : Obj) {Q : AV × St → Prop} (hq : Q (.ptr s.name 0, s.new x))
    (hb : BO (ρ.upd s.name ⟨w.heap.size, 0, 0, 0⟩) ⟨w.heap.size, 0, 0, 0⟩ (some o) x)
    (hm : ∀ m left last, x = .mapIter m left last → (∃ es, hget s.H m = some (.map es true)) ∧ ∀ pm, ρ m = some pm → MI ρ left last (some o) w.heap[pm.blk]?)
    {r : Sem Value} (hrun : r.run P w = .ok (.pointer (some ⟨w.heap.size, 0, none⟩)) (w.alloc o)) :
    ∃ v s' ρ' w' cv, Q (v, s') ∧ r.run P w = .ok cv w' ∧ Stp ρ s w ρ' s' w' ∧ HR ρ' s'.H w' ∧ VR ρ' v cv := by
  obtain ⟨h1, h2⟩ := step_new hr hf x o ⟨w.heap.size, 0, 0, 0⟩ rfl hb hm
  exact ⟨_, _, _, _, _, hq, hrun, h1, h2, by simp only [VR]; exact ⟨_, Rho.upd_same .., rfl⟩⟩
theorem range_sim (hC : CfgOk P C) (hr : HR ρ s.H w) (hf : Fr ρ s) {t : TypeId} {x : AV} {cx : Value} (hx : VR ρ x cx) : ValSim P ρ s w (rangeA C t x) (Instr.range t cx) := by
  intro Q hQ
  unfold rangeA at hQ
  cases hd : C.desc t with
  | none => rw [hd] at hQ; exact hQ.elim
  | some d =>
    have hu := Go.run_underlying (w := w) (undc hC hd)
    rw [hd] at hQ
    cases d <;> (try simp only at hQ) <;> (try exact hQ.elim) <;> cases x <;> (try simp only at hQ) <;> try exact hQ.elim
    case string.str v =>
      simp only [VR] at hx; subst hx
      exact newObj_sim hr hf (.strIter v 0) (.stringIter v 0) hQ ⟨rfl, rfl⟩ (fun m l e h => by cases h) (by simp [Instr.range, hu])
    case map.map kt et m =>
      simp only [VR] at hx
      obtain ⟨p, hp, rfl⟩ := hx
      obtain ⟨y, hy, hq⟩ := (getM_all _ _ _).1 ((M.all_bind _ _ _ _).1 hQ)
      obtain ⟨q, hq', hbo⟩ := hr.blocks _ _ hy
      rw [hp] at hq'; obtain rfl := Option.some.inj hq'
      cases y with
      | map es fz =>
        obtain ⟨_, hq⟩ := (putM_all _ _ _ _).1 ((M.all_bind _ _ _ _).1 hq)
        obtain ⟨ents, clock, ho, he, hb⟩ := hbo
        obtain ⟨k1, k2⟩ := step_put (y := .map es true) (w' := w) (o := .map ents clock) hr hy rfl rfl hp ho (fun _ _ => rfl) rfl (Same.refl _) ⟨ents, clock, rfl, he, hb⟩ (fun m l e h => by cases h) (fun es' h => by cases h; exact ⟨rfl, ho⟩)
        have hf' : Fr ρ (s.put m (.map es true)) := hf
        have hall : ents.toList.filter (fun e => !(#[] : Array Nat).contains e.born) = ents.toList := by
          rw [List.filter_eq_self]; simp
        have hMI : MI ρ es none (some (.mapIter (some p.blk) clock #[] clock)) w.heap[p.blk]? := ⟨p.blk, ents, clock, #[], rfl, ho, by rw [hall]; exact he, fun e h => by cases h⟩
        have hpn : (ρ.upd (s.put m (.map es true)).name ⟨w.heap.size, 0, 0, 0⟩) m = some p := by
          have hfree := name_free hf'
          rw [Rho.upd_ne]
          · exact hp
          · exact fun e => by rw [← e, hp] at hfree; cases hfree
        obtain ⟨v, s', ρ', w', cv, g1, g2, g3, g4, g5⟩ := newObj_sim (P := P) (r := Instr.range t (.map (some p.blk))) k2 hf' (.mapIter m es none) (.mapIter (some p.blk) clock #[] clock) hq
          ⟨rfl, p, clock, #[], hpn, rfl⟩
          (fun m' l e h => by
            cases h
            refine ⟨⟨es, hget_hset_same _ hy⟩, fun pm hpm => ?_⟩
            rw [hp] at hpm; obtain rfl := Option.some.inj hpm
            exact hMI) (by simp [Instr.range, hu, MapKept.run_getObj_map ho])
        exact ⟨v, s', ρ', w', cv, g1, g2, k1.trans g3, g4, g5⟩
      | _ => exact hq.elim
theorem filter_ne {l : List MapEntry} (h : (l.map (·.born)).Nodup) : ∀ (i : Nat) (e : MapEntry), l[i]? = some e → l.filter (fun x => !(x.born == e.born)) = l.eraseIdx i := by
  induction l with
  | nil => intro i e h; simp at h
  | cons a r ih =>
    intro i e he
    simp only [List.map_cons, List.nodup_cons] at h
    cases i with
    | zero =>
      simp at he; subst he
      rw [List.eraseIdx_cons_zero, List.filter_cons]
      simp only [beq_self_eq_true, Bool.not_true, Bool.false_eq_true, if_false]
      rw [List.filter_eq_self]
      intro x hx
      have : x.born ≠ a.born := fun hh => h.1 (hh ▸ List.mem_map_of_mem hx)
      simp [this]
    | succ i =>
      simp only [List.getElem?_cons_succ] at he
      have hm := List.mem_of_getElem? he
      have hne : a.born ≠ e.born := fun hh => h.1 (hh ▸ List.mem_map_of_mem hm)
      rw [List.eraseIdx_cons_succ, List.filter_cons, ih h.2 i e he]
      simp [hne]
theorem Borns.nodup {c : Nat} {l : List MapEntry} (h : Borns c l) : (l.map (·.born)).Nodup := h.1.imp (fun h => Nat.ne_of_lt h)
theorem next_sim (hr : HR ρ s.H w) {x : AV} {cx : Value} (hx : VR ρ x cx) (str : Bool) (ty : TypeId) : ValSim P ρ s w (nextA x str) (Instr.next cx str ty) := by
  intro Q hQ
  unfold nextA at hQ
  cases x <;> (try simp only at hQ) <;> try exact hQ.elim
  rename_i r o
  cases o with
  | succ o => exact hQ.elim
  | zero =>
    simp only [VR] at hx
    obtain ⟨p, hp, rfl⟩ := hx
    simp only at hQ
    obtain ⟨y, hy, hq⟩ := (getM_all _ _ _).1 ((M.all_bind _ _ _ _).1 hQ)
    clear hQ
    obtain ⟨q, hq', hbo⟩ := hr.blocks _ _ hy
    rw [hp] at hq'; obtain rfl := Option.some.inj hq'
    cases y with
    | strIter t pos =>
      obtain ⟨h0, ho⟩ := hbo
      cases str with
      | false => exact hq.elim
      | true =>
        simp only at hq
        have hg : (getObj p.blk).run P w = .ok (.stringIter t pos) w := by simp [getObj, Sem.run, ho]
        cases hlt : Nat.blt pos t.size with
        | false =>
          rw [hlt] at hq
          have hn : ¬ pos < t.size := fun h => by have h1 : Nat.blt pos t.size = true := by rw [Nat.blt_eq]; exact h
                                                  rw [h1] at hlt; cases hlt
          refine ⟨_, s, ρ, w, .tuple #[.bool false], hq, ?_, Stp.refl _ _ _, hr, by simp [VR, VRs]⟩
          simp only [h0, Instr.next, Sem.run_bind, hg, Result.andThen_ok, if_neg hn, Sem.run_pure]
        | true =>
          rw [hlt] at hq
          have hn : pos < t.size := by rw [Nat.blt_eq] at hlt; exact hlt
          obtain ⟨_, hq⟩ := (putM_all _ _ _ _).1 ((M.all_bind _ _ _ _).1 hq)
          have hs : (setObj p.blk (.stringIter t (pos + (Utf8.decode t pos).2))).run P w = .ok () (setBlock w p.blk (.stringIter t (pos + (Utf8.decode t pos).2))) := by simp [setObj, Sem.run, ho, setBlock]
          have hh := MapKept.heap_set (o' := Obj.stringIter t (pos + (Utf8.decode t pos).2)) ho
          obtain ⟨k1, k2⟩ := step_put (y := .strIter t (pos + (Utf8.decode t pos).2)) (w' := setBlock w p.blk (.stringIter t (pos + (Utf8.decode t pos).2))) hr hy rfl rfl hp hh.1 hh.2 (by simp [setBlock]) ⟨rfl, rfl, rfl⟩ ⟨h0, rfl⟩ (fun m l e h => by cases h) (fun es h => by cases h)
          refine ⟨_, _, ρ, _, .tuple #[.bool true, goInt pos, .int .i32 (Utf8.decode t pos).1], hq, ?_, k1, k2, ?_⟩
          · simp only [h0, Instr.next, Sem.run_bind, hg, Result.andThen_ok, if_pos hn, hs, Sem.run_pure]
          · simp [VR, VRs, goInt]
    | mapIter m left last =>
      obtain ⟨h0, _⟩ := hbo
      cases str with
      | true => exact hq.elim
      | false =>
        simp only at hq
        obtain ⟨ym, hym, hq⟩ := (getM_all _ _ _).1 ((M.all_bind _ _ _ _).1 hq)
        obtain ⟨⟨es, hes⟩, hmi⟩ := hr.iter _ _ _ _ hy
        rw [hym] at hes; obtain rfl := Option.some.inj hes
        obtain ⟨pm, hpm, ents0, clock0, hom0, hents0, hborn⟩ := hr.blocks _ _ hym
        obtain ⟨mb, ents, clock, seen, ho, hom, hleft, hlast⟩ := hmi p pm hp hpm
        rw [hom0] at hom; obtain ⟨rfl, rfl⟩ : ents0 = ents ∧ clock0 = clock := by simpa using hom
        have hmb : mb = pm.blk := by
          obtain ⟨q, hq2, _, pm', _, _, hpm', ho'⟩ := hr.blocks _ _ hy
          rw [hp] at hq2; obtain rfl := Option.some.inj hq2
          rw [hpm] at hpm'; obtain rfl := Option.some.inj hpm'
          rw [ho] at ho'; simp at ho'; exact ho'.1
        subst hmb
        have hrun := run_next_at (P := P) w ty p.blk pm.blk clock0 clock0 seen ents0 clock0 ho hom0 hborn.2 (Nat.le_refl _)
        have hll : (leftOf ents0 seen).toList = ents0.toList.filter (fun e => !seen.contains e.born) := by simp [leftOf]
        have hone : ∀ (w1 : World) (i : Nat) (e : MapEntry), (w1 = w ∨ w1 = w.drew) → (leftOf ents0 seen).toList[i]? = some e → ∃ a, nth left i = some a ∧ VR ρ a.1 e.key ∧ VR ρ a.2 e.val ∧
            Stp ρ s w ρ (s.put r (.mapIter m (dropAt left i) (some a))) (setBlock w1 p.blk (.mapIter (some pm.blk) clock0 (seen.push e.born) clock0)) ∧
            HR ρ (s.put r (.mapIter m (dropAt left i) (some a))).H (setBlock w1 p.blk (.mapIter (some pm.blk) clock0 (seen.push e.born) clock0)) := by
          intro w1 i e hw1 he
          rw [hll] at he
          obtain ⟨a, ha, ha1, ha2⟩ := hleft.nth i e he
          refine ⟨a, ha, ha1, ha2, ?_⟩
          have hheap : w1.heap = w.heap := by rcases hw1 with rfl | rfl <;> rfl
          have hsame : Same w w1 := by rcases hw1 with rfl | rfl <;> exact ⟨rfl, rfl, rfl⟩
          have hh := MapKept.heap_set (o' := Obj.mapIter (some pm.blk) clock0 (seen.push e.born) clock0) ho
          have hnd : ((ents0.toList.filter (fun e => !seen.contains e.born)).map (·.born)).Nodup := (List.filter_sublist.map _).nodup hborn.nodup
          have hmem : e ∈ ents0.toList := (List.mem_filter.1 (List.mem_of_getElem? he)).1
          refine step_put hr hy rfl rfl hp ?_ ?_ ?_ ?_ ⟨h0, pm, clock0, seen.push e.born, hpm, rfl⟩ ?_ (fun es h => by cases h)
          · simp only [setBlock, hheap]; exact hh.1
          · intro c hc; simp only [setBlock, hheap]; exact hh.2 c hc
          · simp [setBlock, hheap]
          · exact hsame.trans ⟨rfl, rfl, rfl⟩
          · intro m' l' e' h
            cases h
            refine ⟨⟨es, hym⟩, fun pm' hpm' => ?_⟩
            rw [hpm] at hpm'; obtain rfl := Option.some.inj hpm'
            refine ⟨pm.blk, ents0, clock0, seen.push e.born, rfl, hom0, ?_, ?_⟩
            · have hf : ents0.toList.filter (fun x => !(seen.push e.born).contains x.born) = (ents0.toList.filter (fun e => !seen.contains e.born)).eraseIdx i := by
                rw [← filter_ne hnd i e he, List.filter_filter]
                apply List.filter_congr
                intro x _
                simp [Bool.and_comm]
                rfl
              rw [hf]; exact hleft.dropAt i
            · intro e' he'
              simp only [Option.some.injEq] at he'; subst he'
              exact ⟨e.born, e, by simp, find_born e ents0.toList hborn.nodup hmem, ha1, ha2⟩
        rcases hrun with ⟨hz, hrun⟩ | ⟨e, hmem, w1, hw1, hrun⟩
        ·
          have hnil : left = [] := by
            have := hleft.length
            rw [← hll] at this
            exact List.eq_nil_of_length_eq_zero (by rw [this]; simpa using hz)
          subst hnil
          simp only at hq
          refine ⟨_, s, ρ, w, .tuple #[.bool false], hq, ?_, Stp.refl _ _ _, hr, by simp [VR, VRs]⟩
          rw [h0]; exact hrun
        · obtain ⟨i, hi⟩ := List.mem_iff_getElem?.1 hmem
          obtain ⟨a, ha, ha1, ha2, k1, k2⟩ := hone w1 i e hw1 hi
          have hlt := nth_lt ha
          have hrun' : (Instr.next (.pointer (some ⟨p.blk, p.off + 0, none⟩)) false ty).run P w = .ok (.tuple #[.bool true, e.key, e.val]) (setBlock w1 p.blk (.mapIter (some pm.blk) clock0 (seen.push e.born) clock0)) := by rw [h0]; exact hrun
          have fin : Q (.tuple [.bool true, a.1, a.2], s.put r (.mapIter m (dropAt left i) (some a))) → ∃ v s' ρ' w' cv, Q (v, s') ∧ (Instr.next (.pointer (some ⟨p.blk, p.off + 0, none⟩)) false ty).run P w = .ok cv w' ∧ Stp ρ s w ρ' s' w' ∧ HR ρ' s'.H w' ∧ VR ρ' v cv := fun hq => by
            refine ⟨_, _, ρ, _, _, hq, hrun', k1, k2, ?_⟩
            simp only [VR]
            refine ⟨[.bool true, e.key, e.val], rfl, ?_⟩
            simp only [VRs]
            exact ⟨_, _, rfl, by simp [VR], _, _, rfl, ha1, _, _, rfl, ha2, rfl⟩
          cases left with
          | nil => simp at hlt
          | cons x l1 =>
            cases l1 with
            | nil =>
              have hi0 : i = 0 := by simp at hlt; omega
              subst hi0
              simp only [nth_zero, Option.some.injEq] at ha; subst ha
              simp only at hq
              obtain ⟨_, hq⟩ := (putM_all _ _ _ _).1 ((M.all_bind _ _ _ _).1 hq)
              exact fin hq
            | cons y l2 =>
              simp only at hq
              have hq := (askM_all _ _ _).1 ((M.all_bind _ _ _ _).1 hq) i hlt
              simp only [ha] at hq
              obtain ⟨_, hq⟩ := (putM_all _ _ _ _).1 ((M.all_bind _ _ _ _).1 hq)
              exact fin hq
    | _ => cases str <;> exact hq.elim
theorem entry_sim (hr : HR ρ s.H w) {x : AV} {cx : Value} (hx : VR ρ x cx) : ValSim P ρ s w (entryA x) (Instr.entry cx) := by
  intro Q hQ
  unfold entryA at hQ
  cases x <;> (try simp only at hQ) <;> try exact hQ.elim
  rename_i r o
  cases o with
  | succ o => exact hQ.elim
  | zero =>
    simp only [VR] at hx
    obtain ⟨p, hp, rfl⟩ := hx
    simp only at hQ
    obtain ⟨y, hy, hq⟩ := (getM_all _ _ _).1 ((M.all_bind _ _ _ _).1 hQ)
    clear hQ
    obtain ⟨q, hq', hbo⟩ := hr.blocks _ _ hy
    rw [hp] at hq'; obtain rfl := Option.some.inj hq'
    cases y with
    | mapIter m left last =>
      obtain ⟨h0, _⟩ := hbo
      cases last with
      | none => exact hq.elim
      | some a =>
        simp only at hq
        obtain ⟨ym, hym, hq⟩ := (getM_all _ _ _).1 ((M.all_bind _ _ _ _).1 hq)
        obtain ⟨⟨es, hes⟩, hmi⟩ := hr.iter _ _ _ _ hy
        rw [hym] at hes; obtain rfl := Option.some.inj hes
        obtain ⟨pm, hpm, ents0, clock0, hom0, hents0, hborn⟩ := hr.blocks _ _ hym
        obtain ⟨mb, ents, clock, seen, ho, hom, hleft, hlast⟩ := hmi p pm hp hpm
        rw [hom0] at hom; obtain ⟨rfl, rfl⟩ : ents0 = ents ∧ clock0 = clock := by simpa using hom
        have hmb : mb = pm.blk := by
          obtain ⟨q, hq2, _, pm', _, _, hpm', ho'⟩ := hr.blocks _ _ hy
          rw [hp] at hq2; obtain rfl := Option.some.inj hq2
          rw [hpm] at hpm'; obtain rfl := Option.some.inj hpm'
          rw [ho] at ho'; simp at ho'; exact ho'.1
        subst hmb
        obtain ⟨st, y, g1, g2, g3, g4⟩ := hlast a rfl
        refine ⟨_, s, ρ, w, .tuple #[y.key, y.val], hq, ?_, Stp.refl _ _ _, hr, ?_⟩
        · rw [h0]
          have gg1 : (getObj p.blk).run P w = .ok (.mapIter (some pm.blk) clock0 seen clock0) w := by simp [getObj, Sem.run, ho]
          have gg2 := MapKept.run_getObj_map (P := P) hom0
          have gg3 : ents0.find? (fun x => x.born == st) = some y := by rw [← Array.find?_toList]; exact g2
          simp [Instr.entry, gg1, gg2, g1, gg3]
        · simp only [VR]
          refine ⟨[y.key, y.val], rfl, ?_⟩
          simp only [VRs]
          exact ⟨_, _, rfl, g3, _, _, rfl, g4, rfl⟩
    | _ => exact hq.elim
theorem makeMap_sim (hr : HR ρ s.H w) (hf : Fr ρ s) {t : TypeId} {h : Option Value} (hh : h = none ∨ ∃ k n, h = some (.int k n) ∧ ∃ kt et, P.underlying t = some (.map kt et)) : ValSim P ρ s w ((newM (.map [] false)).bind fun i => M.ret (.map i)) (Instr.makeMap t h) := by
  intro Q hQ
  obtain ⟨k1, k2⟩ := step_new hr hf (.map [] false) (.map #[] 0) ⟨w.heap.size, 0, 0, 0⟩ rfl ⟨#[], 0, rfl, by simp [EntsR], by simp [Borns]⟩ (fun m l e h => by cases h)
  refine ⟨_, _, _, _, .map (some w.heap.size), hQ, ?_, k1, k2, by simp only [VR]; exact ⟨_, Rho.upd_same .., rfl⟩⟩
  rcases hh with rfl | ⟨k, n, rfl, kt, et, hu⟩
  · simp [Instr.makeMap]
  · simp [Instr.makeMap, Go.run_underlying hu, asInt, asIntOf]
end
end Go.Am
namespace Go.Am
open Go
open Go.MapKept
def Fw (F : Fence) : Prop := F = Fence.wide ∨ ∃ l, F = Fence.wide.inRound l
theorem Fw.fn {F : Fence} (h : Fw F) (f : FuncId) : F.fn f := by rcases h with rfl | ⟨l, rfl⟩ <;> trivial
theorem Fw.depth {F : Fence} (h : Fw F) : F.depth = none := by rcases h with rfl | ⟨l, rfl⟩ <;> rfl
theorem Fw.calls {F : Fence} (h : Fw F) {n : Nat} {P : Program} {f : FuncId} {args : Array Value} {w : World} {R : Ending → World → Prop} (hc : CallsIn Fence.wide n P f args w R) : CallsIn F n P f args w R := by
  rcases h with rfl | ⟨l, rfl⟩
  · exact hc
  · exact hc
theorem Fw.round {F : Fence} (h : Fw F) {n : Nat} {P : Program} {l : Nat} {f : FuncId} {tmps : Array Value} {a b : Code} {w : World} {R : Ending → World → Prop} (hc : RoundIn Fence.wide n P l f tmps a b w R) : RoundIn F n P l f tmps a b w R := by
  rcases h with rfl | ⟨l, rfl⟩
  · exact hc
  · exact hc
def EndR (R : AV × St → Prop) (ρ : Rho) (s : St) (w : World) (e : Ending) (w' : World) : Prop :=
  ∃ v s' ρ' cv, e = .returned cv ∧ R (v, s') ∧ Stp ρ s w ρ' s' w' ∧ HR ρ' s'.H w' ∧ VR ρ' v cv
def CallOk (P : Program) (call : FuncId → List AV → M AV) : Prop :=
  ∀ (f : FuncId) (args : List AV) (s : St) (w : World) (ρ : Rho) (cargs : List Value) (R : AV × St → Prop), HR ρ s.H w → Fr ρ s → VRs ρ args cargs → (call f args s).All R →
    (∃ fn, P.funcs[f]? = some fn ∧ (fn.name == "runtime.NumGoroutine") = false ∧ fn.body.isSome = true) ∧ ∀ n, CallsIn Fence.wide n P f ⟨cargs⟩ w (EndR R ρ s w)
def RndOk (P : Program) (rnd : Nm → List AV → M AV) : Prop :=
  ∀ (l : Nm) (args : List AV) (s : St) (w : World) (ρ : Rho) (cargs : List Value) (R : AV × St → Prop) (p : Place), HR ρ s.H w → Fr ρ s → VRs ρ args cargs → ρ l = some p → (rnd l args s).All R →
    ∃ f tmps assign body, (Instr.yield p.blk ⟨cargs⟩).run P w = .ok (.round p.blk f tmps assign body) w ∧ ∀ n, RoundIn Fence.wide n P p.blk f tmps assign body w (EndR R ρ s w)
section
variable {P : Program} {C : Cfg} {call : FuncId → List AV → M AV} {rnd : Nm → List AV → M AV} {F : Fence} {n : Nat} {ρ : Rho} {s : St} {w : World} {T : List AV} {a : Act} {o : Oper} {next : Act → World → Prop} {Q : Exit → Act → World → Prop} {R : AV × St → Prop}
abbrev NextOk (o : Oper) (a : Act) (next : Act → World → Prop) (R : AV × St → Prop) (ρ : Rho) (s : St) (w : World) : Prop :=
  ∀ v s' ρ' w' cv, R (v, s') → Stp ρ s w ρ' s' w' → HR ρ' s'.H w' → VR ρ' v cv → next (a.put o.dst cv) w'
theorem wpIn_value (hF : Fw F) (hnd : ∀ c, o.op ≠ .defer c) {r : Sem Value} {m : M AV} (he : execOp a.eval o = (do pure (.value (← r)))) (hs : ValSim P ρ s w m r) (hm : (m s).All R) (hN : NextOk o a next R ρ s w) : o.wpIn F n P a w next Q := by
  obtain ⟨v, s', ρ', w', cv, h1, h2, h3, h4, h5⟩ := hs _ hm
  refine ⟨fun f _ => hF.fn f, ?_⟩
  rw [Oper.semAt_plain F _ _ hnd, he]
  simp only [Sem.run_bind, h2, Result.andThen_ok, Sem.run_pure, Oper.uponIn]
  exact hN v s' ρ' w' cv h1 h3 h4 h5
theorem wpIn_pure (hF : Fw F) (hnd : ∀ c, o.op ≠ .defer c) (hr : HR ρ s.H w) {r : Sem Value} {v : AV} (he : execOp a.eval o = (do pure (.value (← r)))) (hs : ∃ cv, r.run P w = .ok cv w ∧ VR ρ v cv) (hm : R (v, s)) (hN : NextOk o a next R ρ s w) : o.wpIn F n P a w next Q :=
  wpIn_value hF hnd he (ValSim.of hr (o := some v) (fun v' hv => by cases hv; exact hs)) (by exact hm) hN
theorem wpIn_unit (hF : Fw F) (hnd : ∀ c, o.op ≠ .defer c) {r : Sem Unit} {m : M AV} (he : execOp a.eval o = (do r; pure .skip)) (hs : UnitSim P ρ s w m r) (hm : (m s).All R) (hN : NextOk o a next R ρ s w) : o.wpIn F n P a w next Q := by
  obtain ⟨v, s', ρ', w', cv, h1, h2, h3, h4, h5⟩ := hs _ hm
  refine ⟨fun f _ => hF.fn f, ?_⟩
  rw [Oper.semAt_plain F _ _ hnd, he]
  simp only [Sem.run_bind, h2, Result.andThen_ok, Sem.run_pure, Oper.uponIn]
  exact hN v s' ρ' w' undef h1 h3 h4 (by subst h5; simp [VR])
theorem ev1_all {x : Operand} {f : AV → M AV} (h : (ev1 T x f s).All R) : ∃ v, evA T x = some v ∧ (f v s).All R := by
  unfold ev1 at h
  cases hx : evA T x with
  | none => rw [hx] at h; exact h.elim
  | some v => rw [hx] at h; exact ⟨v, rfl, h⟩
theorem call_sim (hF : Fw F) (hcall : CallOk P call) (hrnd : RndOk P rnd) (hr : HR ρ s.H w) (hf : Fr ρ s) {c : Call} (hop : o.op = .call c) {g : Operand} (hg : c.callee = .value g) {fv : AV} {args : List AV} {cargs : List Value} (hfv : VR ρ fv (a.eval g)) (hargs : VRs ρ args cargs) (hcargs : c.args.map a.eval = ⟨cargs⟩)
    (hm : (callA call rnd fv args s).All R) (hN : NextOk o a next R ρ s w) : o.wpIn F n P a w next Q := by
  refine ⟨fun f _ => hF.fn f, ?_⟩
  rw [Oper.semAt_plain F _ _ (fun c' h => by rw [hop] at h; cases h)]
  have hex : execOp a.eval o = (do let d ← resolve a.eval c o.type; invoke d.target d.args) := by simp only [execOp, hop]
  rw [hex]
  unfold callA at hm
  cases fv <;> (try simp only at hm) <;> try exact hm.elim
  case func f caps =>
    simp only [VR] at hfv
    obtain ⟨cs, hfe, hcs⟩ := hfv
    obtain ⟨⟨fn, h1, h2, h3⟩, hc⟩ := hcall f (args ++ caps) s w ρ (cargs ++ cs) R hr hf (VRs.append _ _ _ _ hargs hcs) hm
    have h3' : fn.body.isNone = false := by cases hb : fn.body <;> simp_all
    have hrun : (do let d ← resolve a.eval c o.type; invoke d.target d.args : Sem Next).run P w = .ok (.enter f ⟨cargs ++ cs⟩) w := by
      simp only [resolve, hg, hfe, hcargs, Deferred.ofValue, Sem.run_bind, Sem.run_pure, Result.andThen_ok, invoke, callFunc, run_program, h1, h2, h3']
      simp
    rw [hrun]
    simp only [Oper.uponIn]
    refine ⟨fun h => (by rw [hF.depth] at h; cases h), hF.calls ?_⟩
    refine CallsIn.mono (hc (n - 1)) fun e w' he => ?_
    obtain ⟨v, s', ρ', cv, rfl, g1, g2, g3, g4⟩ := he
    exact hN v s' ρ' w' cv g1 g2 g3 g4
  case yield l =>
    simp only [VR] at hfv
    obtain ⟨p, hp, hfe⟩ := hfv
    obtain ⟨f, tmps, assign, body, hy, hro⟩ := hrnd l args s w ρ cargs R p hr hf hargs hp hm
    have hrun : (do let d ← resolve a.eval c o.type; invoke d.target d.args : Sem Next).run P w = .ok (.round p.blk f tmps assign body) w := by
      simp only [resolve, hg, hfe, hcargs, Deferred.ofValue, Sem.run_bind, Sem.run_pure, Result.andThen_ok, invoke]
      simpa using hy
    rw [hrun]
    simp only [Oper.uponIn]
    refine ⟨fun h => (by rw [hF.depth] at h; cases h), hF.round ?_⟩
    refine RoundIn.mono (hro (n - 1)) fun e w' he => ?_
    obtain ⟨v, s', ρ', cv, rfl, g1, g2, g3, g4⟩ := he
    exact hN v s' ρ' w' cv g1 g2 g3 g4
theorem wpIn_builtin (hF : Fw F) {c : Call} {b : Builtin} (hop : o.op = .call c) (hb : c.callee = .builtin b) {args : Array Value} (hargs : c.args.map a.eval = args) {r : Sem Value} {m : M AV}
    (he : ∀ consts, builtin b c.argTypes o.type consts args = (do pure (.value (← r)))) (hs : ValSim P ρ s w m r) (hm : (m s).All R) (hN : NextOk o a next R ρ s w) : o.wpIn F n P a w next Q := by
  obtain ⟨v, s', ρ', w', cv, h1, h2, h3, h4, h5⟩ := hs _ hm
  refine ⟨fun f _ => hF.fn f, ?_⟩
  rw [Oper.semAt_plain F _ _ (fun c' h => by rw [hop] at h; cases h)]
  have hex : execOp a.eval o = (do let d ← resolve a.eval c o.type; invoke d.target d.args) := by simp only [execOp, hop]
  rw [hex]
  simp only [resolve, hb, hargs, Sem.run_bind, Sem.run_pure, Result.andThen_ok, invoke, he, h2, Oper.uponIn]
  exact hN v s' ρ' w' cv h1 h3 h4 h5
theorem minmax_ok {mx : Bool} {x : AV} {r : List AV} {t : List TypeId} {ty : TypeId} {cx : Value} {cr : List Value} {v : AV} (h : (match x with | .int .. => minmax mx x r | _ => none) = some v) (hx : VR ρ x cx) (hr' : VRs ρ r cr) :
    ∃ cv, (if mx then Builtin.max_ ⟨t⟩ ty ⟨cx :: cr⟩ else Builtin.min_ ⟨t⟩ ty ⟨cx :: cr⟩).run P w = .ok cv w ∧ VR ρ v cv := by
  cases x <;> simp only at h <;> try (cases h; done)
  rename_i k i
  simp only [VR] at hx; subst hx
  cases mx
  · exact min_sim r cr i hr' v h
  · exact max_sim r cr i hr' v h
theorem builtin_sim {fz : Bool} (hC : CfgOk P C) (hF : Fw F) (hr : HR ρ s.H w) (hf : Fr ρ s) {c : Call} {b : Builtin} (hop : o.op = .call c) (hb : c.callee = .builtin b) {args : List AV} {cargs : List Value} (hargs : VRs ρ args cargs) (hcargs : c.args.map a.eval = ⟨cargs⟩)
    (hm : (builtinA C fz b c.argTypes.toList args s).All R) (hN : NextOk o a next R ρ s w) : o.wpIn F n P a w next Q := by
  obtain ⟨tl, htl⟩ : ∃ tl, c.argTypes = ⟨tl⟩ := ⟨c.argTypes.toList, rfl⟩
  rw [htl] at hm
  unfold builtinA at hm
  split at hm
  ·
    rename_i x
    simp only [VRs] at hargs
    obtain ⟨cx, _, rfl, hx, rfl⟩ := hargs
    cases tl with
    | nil => exact hm.elim
    | cons t ts =>
      simp only at hm
      cases hd : C.desc t with
      | none => rw [hd] at hm; exact hm.elim
      | some d =>
        rw [hd] at hm; simp only at hm
        cases hl : hasLen d x with
        | false => rw [hl] at hm; exact hm.elim
        | true =>
          rw [hl] at hm
          exact wpIn_builtin hF hop hb hcargs (fun consts => by rw [htl]; rfl) (len_sim hC hr hd hx hl) hm hN
  ·
    rename_i x
    simp only [VRs] at hargs
    obtain ⟨cx, _, rfl, hx, rfl⟩ := hargs
    cases tl with
    | nil => cases x <;> exact hm.elim
    | cons t ts =>
      cases x <;> (try simp only at hm) <;> try exact hm.elim
      case nils =>
        simp only [VR] at hx; subst hx
        cases hd : C.desc t with
        | none => rw [hd] at hm; exact hm.elim
        | some d =>
          rw [hd] at hm
          cases d <;> (try simp only at hm) <;> try exact hm.elim
          exact wpIn_builtin hF hop hb hcargs (fun consts => by rw [htl]; rfl) (ValSim.ret hr (cv := .int .i64 0) (by simp [Builtin.cap_, Go.run_underlying (undc hC hd), goInt]) (by simp [VR])) hm hN
      case slice b0 o0 n0 c0 ex =>
        cases ex with
        | false => exact hm.elim
        | true =>
          simp only [VR] at hx
          obtain ⟨p, o', c', hp, a, rfl, _, _, hcc, _⟩ := hx
          obtain rfl := hcc trivial
          simp only at hm
          cases hd : C.desc t with
          | none => rw [hd] at hm; exact hm.elim
          | some d =>
            rw [hd] at hm
            cases d <;> (try simp only at hm) <;> try exact hm.elim
            exact wpIn_builtin hF hop hb hcargs (fun consts => by rw [htl]; rfl) (ValSim.ret hr (cv := .int .i64 c') (by simp [Builtin.cap_, Go.run_underlying (undc hC hd), goInt]) (by simp [VR])) hm hN
  ·
    rename_i v x
    simp only [VRs] at hargs
    obtain ⟨cv, _, rfl, hv, cx, _, rfl, hx, rfl⟩ := hargs
    cases tl with
    | nil => exact hm.elim
    | cons t tl => cases tl with
      | nil => exact hm.elim
      | cons u tl => cases tl with
        | cons _ _ => exact hm.elim
        | nil => exact wpIn_builtin hF hop hb hcargs (fun consts => by rw [htl]; rfl) (append_sim hC hr hf hv hx) hm hN
  ·
    rename_i x r
    simp only [VRs] at hargs
    obtain ⟨cx, cr, rfl, hx, hcr⟩ := hargs
    exact wpIn_builtin (r := Builtin.max_ ⟨tl⟩ o.type ⟨cx :: cr⟩) hF hop hb hcargs (fun consts => by rw [htl]; rfl) (ValSim.of hr fun v hv => minmax_ok (t := tl) (ty := o.type) (mx := true) hv hx hcr) hm hN
  · rename_i x r
    simp only [VRs] at hargs
    obtain ⟨cx, cr, rfl, hx, hcr⟩ := hargs
    exact wpIn_builtin (r := Builtin.min_ ⟨tl⟩ o.type ⟨cx :: cr⟩) hF hop hb hcargs (fun consts => by rw [htl]; rfl) (ValSim.of hr fun v hv => minmax_ok (t := tl) (ty := o.type) (mx := false) hv hx hcr) hm hN
  · exact hm.elim
theorem nil_eq {t e : TypeId} (hut : ∀ w : World, (underlying t).run P w = .ok (.slice e) w) (av : Option Addr) (n c d : Nat) : (Op.equalIn (d + 1) t (.slice av n c) (.slice none 0 0)).run P w = .ok av.isNone w := by
  cases av <;> simp [Op.equalIn, hut]
theorem nil_run {op : BinOp} {t e : TypeId} {x y : Operand} (hut : ∀ w : World, (underlying t).run P w = .ok (.slice e) w) {av : Option Addr} {n c : Nat} (neg : Bool) (ho : op = (if neg then .neq else .eql)) :
    (do eqGuard op t x y (.slice av n c) (.slice none 0 0); binOp op t (.slice av n c) (.slice none 0 0) : Sem Value).run P w = .ok (.bool (negB neg av.isNone)) w := by
  have h : (Op.equal t (.slice av n c) (.slice none 0 0)).run P w = .ok av.isNone w := nil_eq hut av n c 9999
  cases neg with
  | false =>
    obtain rfl : op = .eql := by simpa using ho
    simp [eqGuard, binOp, h, negB]
  | true =>
    obtain rfl : op = .neq := by simpa using ho
    simp [eqGuard, binOp, h, negB, notB_eq]
theorem nil_key {v : AV} {cv : Value} (hv : VR ρ v cv) (hi : iceRow v = true) : ∃ (av : Option Addr) (len cap : Nat), cv = .slice av len cap ∧ ∀ (neg : Bool) (R : AV × St → Prop), (nilTest neg v s).All R → R (.bool (negB neg av.isNone), s) := by
  cases v <;> simp only [iceRow] at hi <;> try (cases hi; done)
  case empty =>
    simp only [VR] at hv; obtain ⟨av, rfl⟩ := hv
    refine ⟨av, 0, 0, rfl, fun neg R hn => ?_⟩
    have hn : ((askM 2).bind (fun i => M.ret (.bool (negB neg (Nat.beq i 0)))) s).All R := hn
    have hn := (askM_all _ _ _).1 ((M.all_bind _ _ _ _).1 hn)
    cases av with
    | none => exact hn 0 (by omega)
    | some _ => exact hn 1 (by omega)
  case lst l =>
    simp only [VR] at hv; obtain ⟨av, c, rfl, _, hl⟩ := hv
    refine ⟨av, l.length, c, rfl, fun neg R hn => ?_⟩
    cases l with
    | nil =>
      have hn : ((askM 2).bind (fun i => M.ret (.bool (negB neg (Nat.beq i 0)))) s).All R := hn
      have hn := (askM_all _ _ _).1 ((M.all_bind _ _ _ _).1 hn)
      cases av with
      | none => exact hn 0 (by omega)
      | some _ => exact hn 1 (by omega)
    | cons y r => obtain ⟨_, _, _, rfl, _⟩ := hl (by simp); exact hn
  case own b l =>
    simp only [VR] at hv; obtain ⟨p, c, _, rfl, _⟩ := hv
    exact ⟨_, l.length, c, rfl, fun neg R hn => hn⟩
theorem binM_cases {op : BinOp} {t : TypeId} {v u : AV} (h : (binM C op t v u s).All R) : (u = .nils ∧ iceRow v = true ∧ (∃ e, C.desc t = some (.slice e)) ∧ (nilOp op v s).All R) ∨ (M.of (binA C op t v u) s).All R := by
  unfold binM at h
  cases u <;> (try exact .inr h)
  cases hi : iceRow v with
  | false => rw [hi] at h; exact .inr h
  | true =>
    cases hd : C.desc t with
    | none => rw [hi, hd] at h; exact .inr h
    | some d => rw [hi, hd] at h; cases d <;> first | exact .inr h | exact .inl ⟨rfl, rfl, ⟨_, rfl⟩, h⟩
theorem op_sim (hC : CfgOk P C) (hF : Fw F) (hcall : CallOk P call) (hrnd : RndOk P rnd) (hr : HR ρ s.H w) (hf : Fr ρ s) (hT : VRs ρ T a.tmps.toList)
    (hm : (opA C call rnd T o s).All R) (hN : NextOk o a next R ρ s w) : o.wpIn F n P a w next Q := by
  unfold opA at hm
  have hof : ∀ {x : Option AV}, (M.of x s).All R → ∃ v, x = some v ∧ R (v, s) := fun h => (M.all_of _ _ _).1 h
  cases hop : o.op <;> rw [hop] at hm <;> (try simp only at hm) <;> try exact hm.elim
  case move x =>
    obtain ⟨v, hv, hq⟩ := hof hm
    exact wpIn_pure (r := pure (a.eval x)) hF (by rw [hop]; simp) hr (by simp only [execOp, hop]; rfl) ⟨_, by simp, evA_VR hT hv⟩ hq hN
  case assign x =>
    obtain ⟨v, hv, hq⟩ := hof hm
    exact wpIn_pure (r := pure (a.eval x)) hF (by rw [hop]; simp) hr (by simp only [execOp, hop]; rfl) ⟨_, by simp, evA_VR hT hv⟩ hq hN
  case pick c x y =>
    cases hc : evA T c with
    | none => rw [hc] at hm; exact hm.elim
    | some cv =>
      rw [hc] at hm
      cases cv <;> (try simp only at hm) <;> try exact hm.elim
      rename_i t
      obtain ⟨v, hv, hq⟩ := hof hm
      have hcv := evA_VR hT hc
      simp only [VR] at hcv
      refine wpIn_pure (r := do pure (if ← asBool (a.eval c) then a.eval x else a.eval y)) hF (by rw [hop]; simp) hr (by simp only [execOp, hop, Sem.bind_assoc']; simp) ⟨if t then a.eval x else a.eval y, by rw [hcv]; simp [asBool], ?_⟩ hq hN
      cases t
      · exact evA_VR hT hv
      · exact evA_VR hT hv
  case alloc t =>
    cases hi : C.ty.get t with
    | none => rw [hi] at hm; exact hm.elim
    | some i =>
      rw [hi] at hm; simp only at hm
      cases hz : i.zero with
      | none => rw [hz] at hm; exact hm.elim
      | some z =>
        rw [hz] at hm; simp only at hm
        obtain ⟨zv, hzv, hzc⟩ := run_zeroValue hC hi hz w
        obtain ⟨hzr, hzo⟩ := ofConst_VR ρ zv z hzc
        exact wpIn_value (r := Instr.alloc t true (.tuple #[])) hF (by rw [hop]; simp) (by simp only [execOp, hop]) (alloc_sim hr hf hzr hzo t (by simp [Instr.alloc, hzv, newVar, newRow])) hm hN
  case box t x =>
    obtain ⟨v, hv, hq⟩ := ev1_all hm
    cases hok : v.okc with
    | false => rw [hok] at hq; exact hq.elim
    | true =>
      rw [hok] at hq
      exact wpIn_value (r := Instr.box t (a.eval x)) hF (by rw [hop]; simp) (by simp only [execOp, hop]) (alloc_sim hr hf (evA_VR hT hv) hok t (by simp [Instr.box, newVar, newRow])) hq hN
  case build t ps =>
    cases hp : partsA T ps.toList with
    | none => rw [hp] at hm; exact hm.elim
    | some l =>
      rw [hp] at hm
      obtain ⟨v, hv, hq⟩ := hof hm
      have hpr := parts_VR hT ps.toList l hp
      exact wpIn_pure (r := Instr.build t (ps.map fun x => (x.1, a.eval x.2))) hF (by rw [hop]; simp) hr (by simp only [execOp, hop]) (build_sim hC (by rw [Array.toList_map]; exact hpr) hv) hq hN
  case buildSlice t k ps =>
    cases hp : partsA T ps.toList with
    | none => rw [hp] at hm; exact hm.elim
    | some l =>
      rw [hp] at hm
      have hpr := parts_VR hT ps.toList l hp
      exact wpIn_value (r := Instr.buildSlice t k (ps.map fun x => (x.1, a.eval x.2))) hF (by rw [hop]; simp) (by simp only [execOp, hop]) (buildSlice_sim hC hr hf (by rw [Array.toList_map]; exact hpr)) hm hN
  case load t x =>
    obtain ⟨v, hv, hq⟩ := ev1_all hm
    cases v <;> (try simp only at hq) <;> try exact hq.elim
    · exact wpIn_value (r := Instr.loadAt t (a.eval x)) hF (by rw [hop]; simp) (by simp only [execOp, hop]) (load_sim hC hr (evA_VR hT hv)) hq hN
    · exact wpIn_value (r := Instr.loadAt t (a.eval x)) hF (by rw [hop]; simp) (by simp only [execOp, hop]) (loadF_sim hC hr (evA_VR hT hv)) hq hN
  case store t x y =>
    obtain ⟨v, hv, hq⟩ := ev1_all hm
    obtain ⟨u, hu, hq⟩ := ev1_all hq
    cases v <;> (try simp only at hq) <;> try exact hq.elim
    exact wpIn_unit (r := Instr.storeAt t (a.eval x) (a.eval y)) hF (by rw [hop]; simp) (by simp only [execOp, hop]) (store_sim hC hr (evA_VR hT hv) (evA_VR hT hu)) hq hN
  case nilCheck x =>
    obtain ⟨v, hv, hq⟩ := ev1_all hm
    have hcv := evA_VR hT hv
    cases hok : isOk v with
    | false => rw [hok] at hq; exact hq.elim
    | true =>
      rw [hok] at hq
      refine wpIn_pure (r := pure (a.eval x)) hF (by rw [hop]; simp) hr ?_ ⟨_, by simp, hcv⟩ hq hN
      simp only [execOp, hop]
      cases v <;> simp only [isOk] at hok <;> (try (cases hok; done)) <;> simp only [VR] at hcv
      · obtain ⟨p, hp, he⟩ := hcv; rw [he]; rfl
      · obtain ⟨b, o, he, _⟩ := hcv; rw [he]; rfl
      · obtain ⟨cs, he, _⟩ := hcv; rw [he]; rfl
      · obtain ⟨p, hp, he⟩ := hcv; rw [he]; rfl
  case binOp op t x y q =>
    obtain ⟨v, hv, hq⟩ := ev1_all hm
    obtain ⟨u, hu, hq⟩ := ev1_all hq
    have plain : (M.of (binA C op t v u) s).All R → o.wpIn F n P a w next Q := by
      intro hq
      obtain ⟨r, hr', hq⟩ := hof hq
      exact wpIn_pure (r := do eqGuard op t x y (a.eval x) (a.eval y); binOp op t (a.eval x) (a.eval y)) hF (by rw [hop]; simp) hr (by simp only [execOp, hop]) (bin_sim hC hr' (evA_VR hT hv) (evA_VR hT hu) x y) hq hN
    rcases binM_cases hq with ⟨rfl, hice, ⟨e0, hd⟩, hq⟩ | hq
    · have hcu := evA_VR hT hu
      simp only [VR] at hcu
      have hut : ∀ w : World, (underlying t).run P w = .ok (.slice e0) w := fun w => run_desc hC hd w
      obtain ⟨av, len, cap, e, hk⟩ := nil_key (s := s) (evA_VR hT hv) hice
      have hrun : ∀ neg, op = (if neg then .neq else .eql) → (do eqGuard op t x y (a.eval x) (a.eval y); binOp op t (a.eval x) (a.eval y) : Sem Value).run P w = .ok (.bool (negB neg av.isNone)) w := by
        intro neg ho
        rw [e, hcu]
        exact nil_run hut neg ho
      unfold nilOp at hq
      cases op <;> (try exact hq.elim)
      · exact wpIn_pure (v := .bool (negB false av.isNone)) (r := do eqGuard .eql t x y (a.eval x) (a.eval y); binOp .eql t (a.eval x) (a.eval y)) hF (by rw [hop]; simp) hr (by simp only [execOp, hop]) ⟨_, hrun false rfl, by simp [VR]⟩ (hk false _ hq) hN
      · exact wpIn_pure (v := .bool (negB true av.isNone)) (r := do eqGuard .neq t x y (a.eval x) (a.eval y); binOp .neq t (a.eval x) (a.eval y)) hF (by rw [hop]; simp) hr (by simp only [execOp, hop]) ⟨_, hrun true rfl, by simp [VR]⟩ (hk true _ hq) hN
    · exact plain hq
  case unOp op t x =>
    obtain ⟨v, hv, hq⟩ := ev1_all hm
    obtain ⟨r, hr', hq⟩ := hof hq
    exact wpIn_pure (r := Op.unary op (a.eval x)) hF (by rw [hop]; simp) hr (by simp only [execOp, hop]) (un_sim hr' (evA_VR hT hv)) hq hN
  case convert t u x =>
    obtain ⟨v, hv, hq⟩ := ev1_all hm
    obtain ⟨r, hr', hq⟩ := hof hq
    exact wpIn_pure (r := convert t u (a.eval x)) hF (by rw [hop]; simp) hr (by simp only [execOp, hop]) (conv_sim hC hr' (evA_VR hT hv)) hq hN
  case makeFunc fn first caps =>
    cases fn <;> (try simp only at hm) <;> try exact hm.elim
    rename_i f
    obtain ⟨fl, rfl⟩ : ∃ fl, first = ⟨fl⟩ := ⟨first.toList, rfl⟩
    cases fl with
    | cons _ _ => exact hm.elim
    | nil =>
      cases hl : evs T caps.toList with
      | none => simp only [hl] at hm; exact hm.elim
      | some l =>
        simp only [hl] at hm
        have hv := evs_VR hT caps.toList l hl
        refine wpIn_pure (r := Instr.makeFunc (.func f) ((⟨[]⟩ : Array Operand).map a.eval) (caps.map a.eval)) hF (by rw [hop]; simp) hr (by simp only [execOp, hop]) ⟨.func (.func f) #[] ⟨caps.toList.map a.eval⟩, ?_, by simp only [VR]; exact ⟨_, rfl, hv⟩⟩ hm hN
        simp only [Instr.makeFunc, Sem.run_pure]
        congr 2
        all_goals (apply Array.ext'; simp)
  case makeMap t r =>
    cases r with
    | none => exact wpIn_value (r := Instr.makeMap t none) hF (by rw [hop]; simp) (by simp only [execOp, hop]; rfl) (makeMap_sim hr hf (.inl rfl)) hm hN
    | some x =>
      simp only at hm
      obtain ⟨v, hv, hq⟩ := ev1_all hm
      have hcv := evA_VR hT hv
      cases v <;> (try simp only at hq) <;> try exact hq.elim
      cases hd : C.desc t with
      | none => rw [hd] at hq; exact hq.elim
      | some d =>
        rw [hd] at hq
        cases d <;> (try simp only at hq) <;> try exact hq.elim
        simp only [VR] at hcv
        exact wpIn_value (r := Instr.makeMap t (some (a.eval x))) hF (by rw [hop]; simp) (by simp only [execOp, hop]; rfl) (makeMap_sim hr hf (.inr ⟨_, _, by rw [hcv], _, _, undc hC hd⟩)) hq hN
  case makeSlice t l c =>
    obtain ⟨v, hv, hq⟩ := ev1_all hm
    obtain ⟨u, hu, hq⟩ := ev1_all hq
    exact wpIn_value (r := Instr.makeSlice t (a.eval l) (a.eval c)) hF (by rw [hop]; simp) (by simp only [execOp, hop]) (makeSlice_sim hC hr hf (evA_VR hT hv) (evA_VR hT hu)) hq hN
  case slice t x lo hi mx =>
    obtain ⟨v, hv, hq⟩ := ev1_all hm
    cases h1 : optA T lo with
    | none => rw [h1] at hq; exact hq.elim
    | some l1 =>
      cases h2 : optA T hi with
      | none => rw [h1, h2] at hq; exact hq.elim
      | some l2 =>
        cases h3 : optA T mx with
        | none => rw [h1, h2, h3] at hq; exact hq.elim
        | some l3 =>
          rw [h1, h2, h3] at hq
          exact wpIn_value (r := Instr.sliceAt t (a.eval x) (lo.map a.eval) (hi.map a.eval) (mx.map a.eval)) hF (by rw [hop]; simp) (by simp only [execOp, hop]) (slice_sim hC hr (evA_VR hT hv) (optA_OR hT h1) (optA_OR hT h2) (optA_OR hT h3)) hq hN
  case fieldAddr t x f =>
    obtain ⟨v, hv, hq⟩ := ev1_all hm
    obtain ⟨r, hr', hq⟩ := hof hq
    exact wpIn_pure (r := Instr.fieldAt t (a.eval x) f) hF (by rw [hop]; simp) hr (by simp only [execOp, hop]) (fieldAddr_sim hC (evA_VR hT hv) hr') hq hN
  case field t x f =>
    obtain ⟨v, hv, hq⟩ := ev1_all hm
    obtain ⟨r, hr', hq⟩ := hof hq
    exact wpIn_pure (r := Instr.field t (a.eval x) f) hF (by rw [hop]; simp) hr (by simp only [execOp, hop]) (field_sim hC (evA_VR hT hv) hr') hq hN
  case indexAddr t x i =>
    obtain ⟨v, hv, hq⟩ := ev1_all hm
    obtain ⟨u, hu, hq⟩ := ev1_all hq
    obtain ⟨r, hr', hq⟩ := hof hq
    exact wpIn_pure (r := Instr.indexAt t (a.eval x) (a.eval i)) hF (by rw [hop]; simp) hr (by simp only [execOp, hop]) (indexAddr_sim hC (evA_VR hT hv) (evA_VR hT hu) hr') hq hN
  case index t x i =>
    obtain ⟨v, hv, hq⟩ := ev1_all hm
    obtain ⟨u, hu, hq⟩ := ev1_all hq
    obtain ⟨r, hr', hq⟩ := hof hq
    exact wpIn_pure (r := Instr.index t (a.eval x) (a.eval i)) hF (by rw [hop]; simp) hr (by simp only [execOp, hop]) (index_sim hC (evA_VR hT hv) (evA_VR hT hu) hr') hq hN
  case lookup t x k ok =>
    obtain ⟨v, hv, hq⟩ := ev1_all hm
    obtain ⟨u, hu, hq⟩ := ev1_all hq
    exact wpIn_value (r := Instr.lookup t (a.eval x) (a.eval k) ok) hF (by rw [hop]; simp) (by simp only [execOp, hop]) (lookup_sim hC hr (evA_VR hT hv) (evA_VR hT hu) ok) hq hN
  case mapUpdate t x k y =>
    obtain ⟨v, hv, hq⟩ := ev1_all hm
    obtain ⟨u, hu, hq⟩ := ev1_all hq
    obtain ⟨z, hz, hq⟩ := ev1_all hq
    exact wpIn_unit (r := Instr.mapUpdate t (a.eval x) (a.eval k) (a.eval y)) hF (by rw [hop]; simp) (by simp only [execOp, hop]) (update_sim hC hr (evA_VR hT hv) (evA_VR hT hu) (evA_VR hT hz)) hq hN
  case range t x =>
    obtain ⟨v, hv, hq⟩ := ev1_all hm
    exact wpIn_value (r := Instr.range t (a.eval x)) hF (by rw [hop]; simp) (by simp only [execOp, hop]) (range_sim hC hr hf (evA_VR hT hv)) hq hN
  case next it str =>
    obtain ⟨v, hv, hq⟩ := ev1_all hm
    exact wpIn_value (r := Instr.next (a.eval it) str o.type) hF (by rw [hop]; simp) (by simp only [execOp, hop]) (next_sim hr (evA_VR hT hv) str o.type) hq hN
  case entry it =>
    obtain ⟨v, hv, hq⟩ := ev1_all hm
    exact wpIn_value (r := Instr.entry (a.eval it)) hF (by rw [hop]; simp) (by simp only [execOp, hop]) (entry_sim hr (evA_VR hT hv)) hq hN
  case extract x i =>
    obtain ⟨v, hv, hq⟩ := ev1_all hm
    have hcv := evA_VR hT hv
    cases v <;> (try simp only at hq) <;> try exact hq.elim
    rename_i vs
    obtain ⟨r, hr', hq⟩ := hof hq
    simp only [VR] at hcv
    obtain ⟨cs, he, hcs⟩ := hcv
    obtain ⟨cv, h1, h2⟩ := VRs.nth _ _ hcs i r hr'
    refine wpIn_pure (r := Instr.extract (a.eval x) i) hF (by rw [hop]; simp) hr (by simp only [execOp, hop]) ⟨cv, ?_, h2⟩ hq hN
    rw [he]; simp [Instr.extract, h1]
  case call c =>
    cases hl : evs T c.args.toList with
    | none => rw [hl] at hm; exact hm.elim
    | some args =>
      rw [hl] at hm; simp only at hm
      have hv := evs_VR hT c.args.toList args hl
      have hcargs : c.args.map a.eval = ⟨c.args.toList.map a.eval⟩ := by apply Array.ext'; simp
      cases hg : c.callee with
      | builtin b => rw [hg] at hm; exact builtin_sim hC hF hr hf hop hg hv hcargs hm hN
      | value g =>
        rw [hg] at hm
        obtain ⟨fv, hfv, hq⟩ := ev1_all hm
        have hv' : VRs ρ (shutArgs C.cur args) (c.args.toList.map a.eval) := by
          unfold shutArgs
          cases C.cur with
          | none => exact hv
          | some _ => exact VRs.shut _ _ hv
        exact call_sim hF hcall hrnd hr hf hop hg (evA_VR hT hfv) hv' hcargs hq hN
      | invoke _ _ => rw [hg] at hm; exact hm.elim
end
end Go.Am
namespace Go.Am
open Go
def lkD (d : Delta) (b : Nm) : Option (Option Blk) :=
  match d with
  | [] => none
  | e :: r => if e.1 = b then some e.2 else lkD r b
theorem hget_redo1 (H : Heap) (i : Nm) (x : Option Blk) (b : Nm) : hget (redo1 H i x) b = if i = b then x else hget H b := by
  unfold redo1
  cases x with
  | none =>
    by_cases h : i = b
    · subst h; simp [hget_hdel_same]
    · simp [h, hget_hdel_ne H h]
  | some y =>
    cases hi : hget H i with
    | none =>
      by_cases h : i = b
      · subst h; simp [hget_cons_same]
      · simp [h, hget_cons_ne _ _ h]
    | some z =>
      by_cases h : i = b
      · subst h; simp [hget_hset_same y hi]
      · simp [h, hget_hset_ne H y h]
theorem hget_redoH (H : Heap) : ∀ (d : Delta) (b : Nm), hget (redoH H d) b = (lkD d b).getD (hget H b)
  | [], b => rfl
  | e :: r, b => by
    unfold redoH lkD
    rw [hget_redo1, hget_redoH H r b]
    by_cases h : e.1 = b <;> simp [h]
theorem lkD_append (d d' : Delta) (b : Nm) : lkD (d ++ d') b = (lkD d b).or (lkD d' b) := by
  induction d with
  | nil => simp [lkD]
  | cons e r ih =>
    show (if e.1 = b then some e.2 else lkD (r ++ d') b) = (if e.1 = b then some e.2 else lkD r b).or (lkD d' b)
    by_cases h : e.1 = b <;> simp [h, ih]
theorem lkD_mem {d : Delta} {b : Nm} {y : Option Blk} (h : lkD d b = some y) : ∃ e ∈ d, e.1 = b := by
  induction d with
  | nil => simp [lkD] at h
  | cons e r ih =>
    unfold lkD at h
    by_cases hb : e.1 = b
    · exact ⟨e, List.mem_cons_self, hb⟩
    · rw [if_neg hb] at h; obtain ⟨e', h1, h2⟩ := ih h; exact ⟨e', List.mem_cons_of_mem _ h1, h2⟩
theorem mem_lkD {d : Delta} {e : Nm × Option Blk} (h : e ∈ d) : ∃ y, lkD d e.1 = some y := by
  induction d with
  | nil => simp at h
  | cons a r ih =>
    unfold lkD
    by_cases hb : a.1 = e.1
    · exact ⟨a.2, by rw [if_pos hb]⟩
    · rw [if_neg hb]
      rcases List.mem_cons.1 h with rfl | h
      · exact absurd rfl hb
      · exact ih h
structure Sub (s s' : St) : Prop where
  n : s'.n = s.n
  pre : s'.pre = s.pre
  jr : s'.jr = s.jr
  j : s'.j = s.j
  le : ∀ b x, hget s.H b = some x → hget s'.H b = some x
theorem Sub.refl (s : St) : Sub s s := ⟨rfl, rfl, rfl, rfl, fun _ _ h => h⟩
inductive TrSub {α : Type} : Tr (α × St) → Tr (α × St) → Prop
  | fail (t : Tr (α × St)) : TrSub .fail t
  | ret (a : α) (s s' : St) : Sub s s' → TrSub (.ret (a, s)) (.ret (a, s'))
  | ask (n : Nat) (k k' : Nat → Tr (α × St)) : (∀ i, TrSub (k i) (k' i)) → TrSub (.ask n k) (.ask n k')
theorem TrSub.bind {α β : Type} {t t' : Tr (α × St)} (h : TrSub t t') {f g : α → St → Tr (β × St)} (hf : ∀ a s s', Sub s s' → TrSub (f a s) (g a s')) : TrSub (t.bind fun x => f x.1 x.2) (t'.bind fun x => g x.1 x.2) := by
  induction h with
  | fail t => exact .fail _
  | ret a s s' h => exact hf a s s' h
  | ask n k k' _ ih => exact .ask n _ _ ih
def Leaf {α : Type} (Q : α → Prop) : Tr α → Prop
  | .fail => True
  | .ret a => Q a
  | .ask _ k => ∀ i, Leaf Q (k i)
theorem Leaf.mono {α : Type} {Q Q' : α → Prop} (h : ∀ a, Q a → Q' a) : ∀ {t : Tr α}, Leaf Q t → Leaf Q' t
  | .fail, _ => trivial
  | .ret a, hq => h a hq
  | .ask n k, hq => fun i => Leaf.mono h (hq i)
theorem Leaf.bind {α β : Type} {Q : β → Prop} {f : α → Tr β} : ∀ {t : Tr α}, Leaf (fun a => Leaf Q (f a)) t → Leaf Q (t.bind f)
  | .fail, _ => trivial
  | .ret a, h => h
  | .ask n k, h => fun i => Leaf.bind (t := k i) (h i)
def Own (s : St) (b : Nm) : Prop := ∃ m r, b = s.pre ++ m :: r ∧ s.n ≤ m
structure JrR (s t : St) : Prop where
  pre : t.pre = s.pre
  jr : t.jr = s.jr
  n : s.n ≤ t.n
  j : s.jr = true → ∃ d, t.j = d ++ s.j ∧ (∀ b, hget t.H b = hget (redoH s.H d) b) ∧ ∀ e ∈ d, Own s e.1 ∨ ∃ x, hget s.H e.1 = some x
theorem JrR.refl (s : St) : JrR s s := ⟨rfl, rfl, Nat.le_refl _, fun _ => ⟨[], rfl, fun _ => rfl, by simp⟩⟩
theorem JrR.trans {s t u : St} (h : JrR s t) (k : JrR t u) : JrR s u := by
  refine ⟨k.pre.trans h.pre, k.jr.trans h.jr, Nat.le_trans h.n k.n, fun hj => ?_⟩
  obtain ⟨d, d1, d2, d3⟩ := h.j hj
  obtain ⟨e, e1, e2, e3⟩ := k.j (h.jr.trans hj)
  refine ⟨e ++ d, by rw [e1, d1, List.append_assoc], ?_, ?_⟩
  · intro b
    rw [e2 b, hget_redoH, hget_redoH, lkD_append, d2 b, hget_redoH]
    cases lkD e b <;> rfl
  · intro x hx
    rcases List.mem_append.1 hx with hx | hx
    · rcases e3 x hx with ⟨m, r, hb, hm⟩ | ⟨y, hy⟩
      · exact .inl ⟨m, r, by rw [hb, h.pre], Nat.le_trans h.n hm⟩
      · rw [d2, hget_redoH] at hy
        cases hl : lkD d x.1 with
        | none => rw [hl] at hy; exact .inr ⟨y, hy⟩
        | some z => obtain ⟨e', h1, h2⟩ := lkD_mem hl; rw [← h2]; exact d3 e' h1
    · exact d3 x hx
def Pos {α : Type} : Tr α → Prop
  | .fail => True
  | .ret _ => True
  | .ask n k => 0 < n ∧ ∀ i, Pos (k i)
theorem Pos.bind {α β : Type} {f : α → Tr β} (hf : ∀ a, Pos (f a)) : ∀ {t : Tr α}, Pos t → Pos (t.bind f)
  | .fail, _ => trivial
  | .ret a, _ => hf a
  | .ask n k, h => ⟨h.1, fun i => Pos.bind hf (t := k i) (h.2 i)⟩
structure Nice {α : Type} (m : M α) : Prop where
  pos : ∀ s, Pos (m s)
  mono : ∀ s s', Sub s s' → TrSub (m s) (m s')
  jr : ∀ s, Leaf (fun x => JrR s x.2) (m s)
section
variable {α β : Type}
theorem Nice.ret (a : α) : Nice (M.ret a) := ⟨fun _ => trivial, fun s s' h => .ret a s s' h, fun s => JrR.refl s⟩
theorem Nice.fail : Nice (M.fail : M α) := ⟨fun _ => trivial, fun s s' h => .fail _, fun s => trivial⟩
theorem Nice.of (o : Option α) : Nice (M.of o) := by cases o with | none => exact Nice.fail | some a => exact Nice.ret a
theorem Nice.bind {m : M α} {f : α → M β} (h : Nice m) (hf : ∀ a, Nice (f a)) : Nice (m.bind f) :=
  ⟨fun s => Pos.bind (f := fun x : α × St => f x.1 x.2) (fun x => (hf x.1).pos x.2) (h.pos s), fun s s' hs => (h.mono s s' hs).bind fun a t t' ht => (hf a).mono t t' ht,
   fun s => Leaf.bind (Leaf.mono (fun x hx => Leaf.mono (fun y hy => hx.trans hy) ((hf x.1).jr x.2)) (h.jr s))⟩
theorem Nice.getM (i : Nm) : Nice (Am.getM i) := by
  constructor
  · intro s; unfold Am.getM; cases hget s.H i <;> trivial
  · intro s s' h
    unfold Am.getM
    cases hx : hget s.H i with
    | none => exact .fail _
    | some x => rw [h.le _ _ hx]; exact .ret _ _ _ h
  · intro s
    unfold Am.getM
    cases hx : hget s.H i with
    | none => trivial
    | some x => exact JrR.refl s
theorem own_name (s : St) : Own s s.name := ⟨s.n, [], rfl, Nat.le_refl _⟩
theorem note_true {s : St} (h : s.jr = true) (i : Nm) (x : Option Blk) : s.note i x = (i, x) :: s.j := by unfold St.note; rw [h]
theorem Sub.note {s s' : St} (h : Sub s s') (i : Nm) (x : Option Blk) : s'.note i x = s.note i x := by unfold St.note; rw [h.jr, h.j]
theorem Nice.newM (x : Blk) : Nice (Am.newM x) := by
  constructor
  · intro s; trivial
  · intro s s' h
    have hn : s'.name = s.name := by unfold St.name; rw [h.pre, h.n]
    show TrSub (.ret (s.name, s.new x)) (.ret (s'.name, s'.new x))
    rw [hn]
    refine .ret _ _ _ ⟨by show s'.n + 1 = s.n + 1; rw [h.n], h.pre, h.jr, by show s'.note s'.name _ = s.note s.name _; rw [hn, h.note], ?_⟩
    intro b y hy
    show hget ((s'.name, x) :: s'.H) b = some y
    rw [hn]
    have hy' : hget ((s.name, x) :: s.H) b = some y := hy
    by_cases hb : s.name = b
    · subst hb; rw [hget_cons_same] at hy' ⊢; exact hy'
    · rw [hget_cons_ne _ _ hb] at hy' ⊢; exact h.le _ _ hy'
  · intro s
    refine ⟨rfl, rfl, Nat.le_succ _, fun hj => ⟨[(s.name, some x)], ?_, ?_, ?_⟩⟩
    · show s.note s.name (some x) = _; rw [note_true hj]; rfl
    · intro b
      show hget ((s.name, x) :: s.H) b = _
      rw [hget_redoH]
      by_cases hb : s.name = b
      · subst hb; simp [lkD, hget_cons_same]
      · simp [lkD, hb, hget_cons_ne _ _ hb]
    · intro e he; simp at he; subst he; exact .inl (own_name s)
theorem Nice.putM (i : Nm) (x : Blk) : Nice (Am.putM i x) := by
  constructor
  · intro s; unfold Am.putM; cases hget s.H i <;> trivial
  · intro s s' h
    unfold Am.putM
    cases hx : hget s.H i with
    | none => exact .fail _
    | some y =>
      have hx' := h.le _ _ hx
      rw [hx']
      refine .ret _ _ _ ⟨h.n, h.pre, h.jr, h.note i _, ?_⟩
      intro b z hz
      show hget (hset s'.H i x) b = some z
      have hz' : hget (hset s.H i x) b = some z := hz
      by_cases hb : i = b
      · subst hb; rw [hget_hset_same x hx] at hz'; rw [hget_hset_same x hx']; exact hz'
      · rw [hget_hset_ne _ x hb] at hz' ⊢; exact h.le _ _ hz'
  · intro s
    unfold Am.putM
    cases hx : hget s.H i with
    | none => trivial
    | some y =>
      refine ⟨rfl, rfl, Nat.le_refl _, fun hj => ⟨[(i, some x)], ?_, ?_, ?_⟩⟩
      · show s.note i (some x) = _; rw [note_true hj]; rfl
      · intro b
        show hget (hset s.H i x) b = _
        rw [hget_redoH]
        by_cases hb : i = b
        · subst hb; simp [lkD, hget_hset_same x hx]
        · simp [lkD, hb, hget_hset_ne _ x hb]
      · intro e he; simp at he; subst he; exact .inr ⟨y, hx⟩
theorem Nice.delM (i : Nm) : Nice (Am.delM i) := by
  constructor
  · intro s; unfold Am.delM; cases hget s.H i <;> trivial
  · intro s s' h
    unfold Am.delM
    cases hx : hget s.H i with
    | none => exact .fail _
    | some y =>
      have hx' := h.le _ _ hx
      rw [hx']
      refine .ret _ _ _ ⟨h.n, h.pre, h.jr, h.note i _, ?_⟩
      intro b z hz
      show hget (hdel s'.H i) b = some z
      have hz' : hget (hdel s.H i) b = some z := hz
      by_cases hb : i = b
      · subst hb; rw [hget_hdel_same] at hz'; cases hz'
      · rw [hget_hdel_ne _ hb] at hz' ⊢; exact h.le _ _ hz'
  · intro s
    unfold Am.delM
    cases hx : hget s.H i with
    | none => trivial
    | some y =>
      refine ⟨rfl, rfl, Nat.le_refl _, fun hj => ⟨[(i, none)], ?_, ?_, ?_⟩⟩
      · show s.note i none = _; rw [note_true hj]; rfl
      · intro b
        show hget (hdel s.H i) b = _
        rw [hget_redoH]
        by_cases hb : i = b
        · subst hb; simp [lkD, hget_hdel_same]
        · simp [lkD, hb, hget_hdel_ne _ hb]
      · intro e he; simp at he; subst he; exact .inr ⟨y, hx⟩
theorem Nice.askM (n : Nat) (hn : 0 < n) : Nice (Am.askM n) := ⟨fun s => ⟨hn, fun _ => trivial⟩, fun s s' h => .ask n _ _ fun i => .ret i s s' h, fun s i => JrR.refl s⟩
end
section
variable {C : Cfg} {call : FuncId → List AV → M AV} {rnd : Nm → List AV → M AV}
theorem Nice.allocA (v : AV) : Nice (Am.allocA v) := Nice.bind (Nice.newM _) fun _ => Nice.ret _
theorem Nice.loadA (t : TypeId) (b : Nm) (o : Nat) : Nice (Am.loadA C t b o) := by
  unfold Am.loadA; refine Nice.bind (Nice.getM _) fun x => ?_; split
  · exact Nice.of _
  · exact Nice.fail
theorem Nice.storeA (t : TypeId) (b : Nm) (o : Nat) (v : AV) : Nice (Am.storeA C t b o v) := by
  unfold Am.storeA; refine Nice.bind (Nice.getM _) fun x => ?_
  repeat' (first | exact Nice.fail | exact Nice.putM _ _ | split)
theorem Nice.done {m : M Unit} (h : Nice m) : Nice (Am.done m) := Nice.bind h fun _ => Nice.ret _
theorem Nice.unitM (b : Nm) (z : Nat) (v : AV) : Nice (Am.unitM b z v) := by
  unfold Am.unitM; refine Nice.bind (Nice.getM _) fun x => ?_
  repeat' (first | exact Nice.fail | exact Nice.ret _ | split)
theorem Nice.cutA (i : Option TI) (l : List AV) (lo hi mx : Option AV) : Nice (Am.cutA i l lo hi mx) := by
  unfold Am.cutA
  repeat' (first | exact Nice.fail | exact Nice.ret _ | split)
theorem Nice.sliceOp (t : TypeId) (x : AV) (lo hi mx : Option AV) : Nice (Am.sliceOp C t x lo hi mx) := by
  unfold Am.sliceOp
  repeat' (first | exact Nice.fail | exact Nice.ret _ | exact Nice.unitM _ _ _ | exact Nice.cutA _ _ _ _ _ | split)
theorem Nice.buildSliceA (fz : Bool) (t : TypeId) (n : Nat) (l : List (Nat × AV)) : Nice (Am.buildSliceA C fz t n l) := by
  unfold Am.buildSliceA
  repeat' (first | exact Nice.fail | exact Nice.ret _ | exact Nice.newM _ | (refine Nice.bind ?_ fun _ => ?_) | split)
theorem Nice.makeSliceA (t : TypeId) (l c : AV) : Nice (Am.makeSliceA C t l c) := by
  unfold Am.makeSliceA
  repeat' (first | exact Nice.fail | exact Nice.ret _ | exact Nice.newM _ | (refine Nice.bind ?_ fun _ => ?_) | split)
theorem Nice.elemsA (z : Nat) (x : AV) : Nice (Am.elemsA z x) := by
  unfold Am.elemsA
  repeat' (first | exact Nice.fail | exact Nice.ret _ | exact Nice.getM _ | (refine Nice.bind ?_ fun _ => ?_) | split)
theorem Nice.grow (old new : List AV) (k z : Nat) : Nice (Am.grow old new k z) := Nice.bind (Nice.newM _) fun _ => Nice.ret _
theorem Nice.appendTo (i : TI) (v : AV) (m : Nat) (new : List AV) : Nice (Am.appendTo i v m new) := by
  unfold Am.appendTo
  repeat' (first | exact Nice.fail | exact Nice.ret _ | exact Nice.getM _ | exact Nice.putM _ _ | exact Nice.delM _ | exact Nice.grow _ _ _ _ | (refine Nice.bind ?_ fun _ => ?_) | split)
theorem Nice.srcA (i : TI) (z : AV) (d : TypeDesc) (x : AV) : Nice (Am.srcA i z d x) := by
  unfold Am.srcA
  repeat' (first | exact Nice.fail | exact Nice.ret _ | exact Nice.elemsA _ _ | split)
theorem Nice.growF (l : List AV) (z : Nat) : Nice (Am.growF l z) := Nice.bind (Nice.newM _) fun _ => Nice.ret _
theorem Nice.appendF (i : TI) (v : AV) (m : Nat) (new : List AV) : Nice (Am.appendF i v m new) := by
  unfold Am.appendF
  repeat' (first | exact Nice.fail | exact Nice.ret _ | exact Nice.getM _ | exact Nice.delM _ | exact Nice.growF _ _ | (refine Nice.bind ?_ fun _ => ?_) | split)
theorem Nice.srcF (i : TI) (z : AV) (d : TypeDesc) (x : AV) : Nice (Am.srcF i z d x) := by
  unfold Am.srcF
  repeat' (first | exact Nice.fail | exact Nice.ret _ | exact Nice.srcA _ _ _ _ | (refine Nice.bind ?_ fun _ => ?_) | split)
theorem Nice.appendA (fz : Bool) (t u : TypeId) (v x : AV) : Nice (Am.appendA C fz t u v x) := by
  unfold Am.appendA
  repeat' (first | exact Nice.fail | exact Nice.srcA _ _ _ _ | exact Nice.appendTo _ _ _ _ | exact Nice.srcF _ _ _ _ | exact Nice.appendF _ _ _ _ | (refine Nice.bind ?_ fun _ => ?_) | split)
theorem Nice.entriesA (x : AV) : Nice (Am.entriesA x) := by
  unfold Am.entriesA
  repeat' (first | exact Nice.fail | exact Nice.ret _ | exact Nice.getM _ | (refine Nice.bind ?_ fun _ => ?_) | split)
theorem Nice.lookupA (t : TypeId) (x k : AV) (ok : Bool) : Nice (Am.lookupA C t x k ok) := by
  unfold Am.lookupA
  repeat' (first | exact Nice.fail | exact Nice.ret _ | exact Nice.entriesA _ | (refine Nice.bind ?_ fun _ => ?_) | split)
theorem Nice.updateA (t : TypeId) (x k v : AV) : Nice (Am.updateA C t x k v) := by
  unfold Am.updateA
  repeat' (first | exact Nice.fail | exact Nice.getM _ | exact Nice.putM _ _ | (refine Nice.bind ?_ fun _ => ?_) | split)
theorem Nice.nextA (it : AV) (b : Bool) : Nice (Am.nextA it b) := by
  unfold Am.nextA
  repeat' (first | exact Nice.fail | exact Nice.ret _ | exact Nice.getM _ | exact Nice.putM _ _ | exact Nice.askM _ (Nat.succ_pos _) | (refine Nice.bind ?_ fun _ => ?_) | split)
theorem Nice.entryA (it : AV) : Nice (Am.entryA it) := by
  unfold Am.entryA
  repeat' (first | exact Nice.fail | exact Nice.ret _ | exact Nice.getM _ | (refine Nice.bind ?_ fun _ => ?_) | split)
theorem Nice.rangeA (t : TypeId) (x : AV) : Nice (Am.rangeA C t x) := by
  unfold Am.rangeA
  repeat' (first | exact Nice.fail | exact Nice.ret _ | exact Nice.getM _ | exact Nice.putM _ _ | exact Nice.newM _ | (refine Nice.bind ?_ fun _ => ?_) | split)
theorem Nice.lenA (x : AV) : Nice (Am.lenA x) := by
  unfold Am.lenA
  repeat' (first | exact Nice.fail | exact Nice.ret _ | exact Nice.getM _ | (refine Nice.bind ?_ fun _ => ?_) | split)
theorem Nice.builtinA (fz : Bool) (b : Builtin) (ts : List TypeId) (args : List AV) : Nice (Am.builtinA C fz b ts args) := by
  unfold Am.builtinA
  repeat' (first | exact Nice.fail | exact Nice.ret _ | exact Nice.of _ | exact Nice.lenA _ | exact Nice.appendA _ _ _ _ _ | split)
theorem Nice.callA (hc : ∀ f args, Nice (call f args)) (hr : ∀ l args, Nice (rnd l args)) (f : AV) (args : List AV) : Nice (Am.callA call rnd f args) := by
  unfold Am.callA
  repeat' (first | exact Nice.fail | exact hc _ _ | exact hr _ _ | split)
theorem Nice.ev1 {T : List AV} {x : Operand} {f : AV → M AV} (hf : ∀ v, Nice (f v)) : Nice (Am.ev1 T x f) := by
  unfold Am.ev1
  repeat' (first | exact Nice.fail | exact hf _ | split)
theorem Nice.binM (op : BinOp) (t : TypeId) (x y : AV) : Nice (Am.binM C op t x y) := by
  unfold Am.binM Am.nilOp Am.nilTest
  repeat' (first | exact Nice.fail | exact Nice.ret _ | exact Nice.of _ | exact Nice.askM _ (Nat.succ_pos _) | (refine Nice.bind ?_ fun _ => ?_) | split)
theorem Nice.opA (hc : ∀ f args, Nice (call f args)) (hr : ∀ l args, Nice (rnd l args)) (T : List AV) (o : Oper) : Nice (Am.opA C call rnd T o) := by
  unfold Am.opA
  repeat' (first | exact Nice.fail | exact Nice.ret _ | exact Nice.of _ | exact Nice.newM _ | exact Nice.allocA _ | exact Nice.loadA _ _ _ | exact Nice.storeA _ _ _ _ | exact Nice.sliceOp _ _ _ _ _ | exact Nice.buildSliceA _ _ _ _ | exact Nice.makeSliceA _ _ _ |
    exact Nice.binM _ _ _ _ | exact Nice.lookupA _ _ _ _ | exact Nice.updateA _ _ _ _ | exact Nice.nextA _ _ | exact Nice.entryA _ | exact Nice.rangeA _ _ | exact Nice.builtinA _ _ _ _ | exact Nice.callA hc hr _ _ | (refine Nice.ev1 fun _ => ?_) | (refine Nice.done ?_) | (refine Nice.bind ?_ fun _ => ?_) | split)
end
end Go.Am
namespace Go.Am
open Go
def mg (p : Nat → Bool) (b : Nm) : Nat → List Delta → Option Blk → Option Blk
  | _, [], h => h
  | k, d :: r, h => mg p b (k + 1) r (if p k = true then (lkD d b).getD h else h)
theorem hget_overlay (H : Heap) (ps : List Nat) (b : Nm) : ∀ (ds : List Delta) (k : Nat) (H : Heap), hget (overlay H ps k ds) b = mg (fun i => memN i ps) b k ds (hget H b)
  | [], k, H => rfl
  | d :: r, k, H => by
    unfold overlay mg
    cases d with
    | nil =>
      simp only [lkD]
      rw [hget_overlay H ps b r (k + 1) H]
      cases memN k ps <;> rfl
    | cons e d =>
      simp only
      rw [hget_overlay H ps b r (k + 1)]
      cases memN k ps
      · rfl
      · simp only [if_true]; rw [hget_redoH]
theorem hget_allD (b : Nm) : ∀ (ds : List Delta) (k : Nat) (H : Heap), hget (redoH H (allD ds)) b = mg (fun _ => true) b k ds (hget H b)
  | [], k, H => rfl
  | d :: r, k, H => by
    unfold allD mg
    have h := hget_allD b r (k + 1) (redoH H d)
    rw [hget_redoH] at h
    rw [hget_redoH, lkD_append, if_pos rfl, ← hget_redoH H d b, ← h, hget_redoH]
    cases lkD (allD r) b <;> rfl
theorem mg_mono (p : Nat → Bool) (b : Nm) : ∀ (ds : List Delta) (k : Nat) (h h' : Option Blk), (∀ x, h = some x → h' = some x) → ∀ x, mg p b k ds h = some x → mg p b k ds h' = some x
  | [], k, h, h', hh, x, hx => hh x hx
  | d :: r, k, h, h', hh, x, hx => by
    unfold mg at hx ⊢
    refine mg_mono p b r (k + 1) _ _ ?_ x hx
    intro y hy
    cases hp : p k <;> simp only [hp] at hy ⊢
    · exact hh y hy
    · cases hl : lkD d b <;> simp only [hl, Option.getD, if_true] at hy ⊢
      · exact hh y hy
      · exact hy
theorem mg_some (p : Nat → Bool) (b : Nm) : ∀ (ds : List Delta) (k : Nat) (h : Option Blk) (x : Blk), mg p b k ds h = some x → (∃ i d, ds[i]? = some d ∧ p (k + i) = true ∧ ∃ e ∈ d, e.1 = b) ∨ h = some x
  | [], k, h, x, hx => .inr hx
  | d :: r, k, h, x, hx => by
    unfold mg at hx
    rcases mg_some p b r (k + 1) _ x hx with ⟨i, d', h1, h2, h3⟩ | hx
    · exact .inl ⟨i + 1, d', by simpa using h1, by rw [← h2]; congr 1; omega, h3⟩
    · cases hp : p k <;> simp only [hp] at hx
      · exact .inr (by simpa using hx)
      · cases hl : lkD d b with
        | none => simp only [hl, Option.getD, if_true] at hx; exact .inr hx
        | some y => exact .inl ⟨0, d, rfl, hp, lkD_mem hl⟩
theorem hget_hide (b : Nm) : ∀ (l : List Nm) (H : Heap), hget (hide H l) b = if b ∈ l then none else hget H b
  | [], H => by simp [hide]
  | i :: r, H => by
    unfold hide
    rw [hget_hide b r (hdel H i)]
    by_cases hb : i = b
    · subst hb; simp [hget_hdel_same]
    · by_cases hr : b ∈ r
      · simp [hr]
      · simp [hr, hget_hdel_ne _ hb, Ne.symm hb]
theorem one_some {t : Tr (AV × St)} {x : AV × Delta} (h : one t = some x) : ∃ s, t = .ret (x.1, s) ∧ s.j = x.2 := by
  cases t with
  | fail => cases h
  | ret y => simp only [one, Option.some.injEq] at h; subst h; exact ⟨y.2, rfl, rfl⟩
  | ask n k => cases h
theorem TrSub.ret_inv {α : Type} {a : α} {s : St} {t : Tr (α × St)} (h : TrSub (.ret (a, s)) t) : ∃ s', t = .ret (a, s') ∧ Sub s s' := by
  cases h with
  | ret _ _ s' h => exact ⟨s', rfl, h⟩
theorem TrSub.one {t t' : Tr (AV × St)} (h : TrSub t t') {x : AV × Delta} (hx : Am.one t = some x) : Am.one t' = some x := by
  obtain ⟨s, rfl, hj⟩ := one_some hx
  obtain ⟨s', rfl, hs⟩ := h.ret_inv
  simp only [Am.one, Option.some.injEq]
  rw [hs.j, hj]
theorem opSt_sub {s s' : St} (h : Sub s s') (i : Nat) {H H' : Heap} (hH : ∀ b x, hget H b = some x → hget H' b = some x) : Sub (opSt s i H) (opSt s' i H') :=
  ⟨rfl, by show s'.pre ++ [s'.n, i] = s.pre ++ [s.n, i]; rw [h.pre, h.n], rfl, rfl, hH⟩
theorem overlay_le {H H' : Heap} (h : ∀ b x, hget H b = some x → hget H' b = some x) (ps : List Nat) (k : Nat) (ds : List Delta) : ∀ b x, hget (overlay H ps k ds) b = some x → hget (overlay H' ps k ds) b = some x := by
  intro b x hx
  rw [hget_overlay H] at hx
  rw [hget_overlay H']
  exact mg_mono _ b ds k _ _ (h b) x hx
theorem hide_le {H H' : Heap} (h : ∀ b x, hget H b = some x → hget H' b = some x) (l : List Nm) : ∀ b x, hget (hide H l) b = some x → hget (hide H' l) b = some x := by
  intro b x hx
  rw [hget_hide] at hx ⊢
  by_cases hb : b ∈ l
  · simp [hb] at hx
  · simp only [hb, if_false] at hx ⊢; exact h b x hx
theorem redoH_le {H H' : Heap} (h : ∀ b x, hget H b = some x → hget H' b = some x) (d : Delta) : ∀ b x, hget (redoH H d) b = some x → hget (redoH H' d) b = some x := by
  intro b x hx
  rw [hget_redoH] at hx ⊢
  cases hl : lkD d b with
  | none => rw [hl] at hx; exact h b x hx
  | some y => rw [hl] at hx; exact hx
section
variable {C : Cfg} {call : FuncId → List AV → M AV} {rnd : Nm → List AV → M AV}
theorem drawPass_mono (hc : ∀ f args, Nice (call f args)) (hr : ∀ l args, Nice (rnd l args)) {s s' : St} (hs : Sub s s') (ops : List Oper) (before : List (List Nat)) : ∀ (l : List Oper) (i : Nat) (T vs : List AV) (ds : List Delta) (x : List AV × List Delta),
    drawPass C call rnd ops s before i l T vs ds = some x → drawPass C call rnd ops s' before i l T vs ds = some x
  | [], i, T, vs, ds, x, h => h
  | o :: r, i, T, vs, ds, x, h => by
    unfold drawPass at h ⊢
    cases hw : wantedA ops T o with
    | false => rw [hw] at h; exact drawPass_mono hc hr hs ops before r (i + 1) _ _ _ x h
    | true =>
      rw [hw] at h
      simp only at h ⊢
      cases ho : one (opA C call rnd T o (opSt s i (overlay s.H ((nth before i).getD []) 0 ds))) with
      | none => rw [ho] at h; cases h
      | some y =>
        rw [ho] at h
        rw [TrSub.one ((Nice.opA hc hr T o).mono _ _ (opSt_sub hs i (overlay_le hs.le _ 0 ds))) ho]
        exact drawPass_mono hc hr hs ops before r (i + 1) _ _ _ x h
theorem drawCheck_mono (hc : ∀ f args, Nice (call f args)) (hr : ∀ l args, Nice (rnd l args)) {s s' : St} (hs : Sub s s') (ops : List Oper) (before : List (List Nat)) (ds : List Delta) (ws : List (List Nm)) : ∀ (l : List Oper) (vs : List AV) (T : List AV) (i : Nat),
    drawCheck C call rnd ops s before ds ws T i l vs = true → drawCheck C call rnd ops s' before ds ws T i l vs = true
  | [], vs, T, i, h => by cases vs <;> rfl
  | o :: r, [], T, i, h => by cases h
  | o :: r, v :: vs, T, i, h => by
    unfold drawCheck at h ⊢
    cases hv : rivals before i 0 ws with
    | nil => rw [hv] at h; exact drawCheck_mono hc hr hs ops before ds ws r vs _ (i + 1) h
    | cons b bs =>
      rw [hv] at h
      simp only at h ⊢
      cases hw : wantedA ops T o with
      | false => rw [hw] at h; exact drawCheck_mono hc hr hs ops before ds ws r vs _ (i + 1) h
      | true =>
        rw [hw] at h
        simp only at h ⊢
        cases hi : opA C call rnd T o (opSt s i (hide (overlay s.H ((nth before i).getD []) 0 ds) (b :: bs))) with
        | ret y =>
          rw [hi] at h
          have := (Nice.opA (C := C) hc hr T o).mono _ _ (opSt_sub hs i (hide_le (overlay_le hs.le ((nth before i).getD []) 0 ds) (b :: bs)))
          rw [hi] at this
          obtain ⟨s2, h2, _⟩ := TrSub.ret_inv (a := y.1) (s := y.2) this
          rw [h2]
          exact drawCheck_mono hc hr hs ops before ds ws r vs _ (i + 1) h
        | fail => rw [hi] at h; cases h
        | ask _ _ => rw [hi] at h; cases h
theorem drawPass_ids (hc : ∀ f args, Nice (call f args)) (hr : ∀ l args, Nice (rnd l args)) {s : St} (ops : List Oper) (before : List (List Nat)) : ∀ (l : List Oper) (i : Nat) (T vs : List AV) (ds : List Delta) (x : List AV × List Delta),
    (∀ d ∈ ds, ∀ e ∈ d, Own s e.1 ∨ ∃ x, hget s.H e.1 = some x) → drawPass C call rnd ops s before i l T vs ds = some x → ∀ d ∈ x.2, ∀ e ∈ d, Own s e.1 ∨ ∃ x, hget s.H e.1 = some x
  | [], i, T, vs, ds, x, hd, h => by
    simp only [drawPass, Option.some.injEq] at h; subst h; exact hd
  | o :: r, i, T, vs, ds, x, hd, h => by
    unfold drawPass at h
    cases hw : wantedA ops T o with
    | false =>
      rw [hw] at h
      refine drawPass_ids hc hr ops before r (i + 1) _ _ _ x ?_ h
      intro d hdm
      rcases List.mem_append.1 hdm with hdm | hdm
      · exact hd d hdm
      · simp at hdm; subst hdm; intro e he; cases he
    | true =>
      rw [hw] at h
      simp only at h
      cases ho : one (opA C call rnd T o (opSt s i (overlay s.H ((nth before i).getD []) 0 ds))) with
      | none => rw [ho] at h; cases h
      | some y =>
        rw [ho] at h
        refine drawPass_ids hc hr ops before r (i + 1) _ _ _ x ?_ h
        intro d hdm
        rcases List.mem_append.1 hdm with hdm | hdm
        · exact hd d hdm
        · simp at hdm; subst hdm
          obtain ⟨t, ht, hj⟩ := one_some ho
          have hjr := (Nice.opA (C := C) hc hr T o).jr (opSt s i (overlay s.H ((nth before i).getD []) 0 ds))
          rw [ht] at hjr
          obtain ⟨d', d1, _, d3⟩ := JrR.j (hjr : JrR _ t) rfl
          intro e he
          have hd' : d' = y.2 := by rw [← hj, d1]; exact (List.append_nil d').symm
          rw [← hd'] at he
          rcases d3 e he with ⟨m, q, hb, hm⟩ | ⟨z, hz⟩
          · refine .inl ⟨s.n, i :: m :: q, ?_, Nat.le_refl _⟩
            rw [hb]; show (s.pre ++ [s.n, i]) ++ m :: q = _; simp
          · have hz' : hget (overlay s.H ((nth before i).getD []) 0 ds) e.1 = some z := hz
            rw [hget_overlay s.H] at hz'
            rcases mg_some _ _ _ _ _ _ hz' with ⟨k, d2, h1, h2, e2, h3, h4⟩ | hz'
            · rw [← h4]; exact hd d2 (List.mem_of_getElem? h1) e2 h3
            · exact .inr ⟨z, hz'⟩
theorem olds_congr {s s' : St} (h : Sub s s') : ∀ (ds : List Delta) (i : Nat), olds s' i ds = olds s i ds
  | [], i => rfl
  | d :: r, i => by unfold olds; rw [h.pre, h.n, olds_congr h r (i + 1)]
theorem allD_mem {ds : List Delta} {e : Nm × Option Blk} (h : e ∈ allD ds) : ∃ d ∈ ds, e ∈ d := by
  induction ds with
  | nil => cases h
  | cons d r ih =>
    rcases List.mem_append.1 h with h | h
    · obtain ⟨d', h1, h2⟩ := ih h; exact ⟨d', List.mem_cons_of_mem _ h1, h2⟩
    · exact ⟨d, List.mem_cons_self, h⟩
theorem Nice.drawA (hc : ∀ f args, Nice (call f args)) (hr : ∀ l args, Nice (rnd l args)) (ops : List Oper) (T : List AV) : Nice (Am.drawA C call rnd ops T) := by
  constructor
  · intro s
    unfold Am.drawA
    cases drawPass C call rnd ops s (predsAll [] ops) 0 ops T [] [] with
    | none => trivial
    | some x =>
      simp only
      cases allNil (olds s 0 x.2) with
      | true => trivial
      | false =>
        simp only
        cases drawCheck C call rnd ops s (predsAll [] ops) x.2 (olds s 0 x.2) T 0 ops x.1 <;> trivial
  · intro s s' hs
    unfold Am.drawA
    cases hp : drawPass C call rnd ops s (predsAll [] ops) 0 ops T [] [] with
    | none => exact .fail _
    | some x =>
      rw [drawPass_mono hc hr hs ops _ ops 0 T [] [] x hp]
      simp only
      rw [olds_congr hs]
      have hend : TrSub (.ret (putsT ops x.1 T, drawEnd s (allD x.2))) (.ret (putsT ops x.1 T, drawEnd s' (allD x.2))) := by
        refine .ret _ _ _ ⟨by show s'.n + 1 = s.n + 1; rw [hs.n], hs.pre, hs.jr, by show (match s'.jr with | true => _ | false => s'.j) = (match s.jr with | true => _ | false => s.j); rw [hs.jr, hs.j], redoH_le hs.le _⟩
      cases allNil (olds s 0 x.2) with
      | true => exact hend
      | false =>
        simp only
        cases hk : drawCheck C call rnd ops s (predsAll [] ops) x.2 (olds s 0 x.2) T 0 ops x.1 with
        | false => exact .fail _
        | true => rw [drawCheck_mono hc hr hs ops _ _ _ ops _ _ 0 hk]; exact hend
  · intro s
    unfold Am.drawA
    cases hp : drawPass C call rnd ops s (predsAll [] ops) 0 ops T [] [] with
    | none => trivial
    | some x =>
      have hids := drawPass_ids hc hr ops _ ops 0 T [] [] x (by intro d hd; cases hd) hp
      have hend : JrR s (drawEnd s (allD x.2)) := by
        refine ⟨rfl, rfl, Nat.le_succ _, fun hj => ⟨allD x.2, ?_, fun _ => rfl, ?_⟩⟩
        · show (match s.jr with | true => _ | false => s.j) = _; rw [hj]
        · intro e he; obtain ⟨d, h1, h2⟩ := allD_mem he; exact hids d h1 e h2
      simp only
      cases allNil (olds s 0 x.2) with
      | true => exact hend
      | false =>
        simp only
        cases drawCheck C call rnd ops s (predsAll [] ops) x.2 (olds s 0 x.2) T 0 ops x.1 with
        | false => trivial
        | true => exact hend
theorem Nice.runOps (hc : ∀ f args, Nice (call f args)) (hr : ∀ l args, Nice (rnd l args)) (ops l : List Oper) : ∀ T, Nice (Am.runOps C call rnd ops l T) := by
  induction l with
  | nil => intro T; exact Nice.ret T
  | cons o r ih =>
    intro T
    show Nice (match wantedA ops T o with
      | true => (Am.opA C call rnd T o).bind fun v => Am.runOps C call rnd ops r (putT T o.dst v)
      | false => Am.runOps C call rnd ops r (putT T o.dst .undef))
    split
    · exact Nice.bind (Nice.opA hc hr T o) fun v => ih _
    · exact ih _
end
end Go.Am
